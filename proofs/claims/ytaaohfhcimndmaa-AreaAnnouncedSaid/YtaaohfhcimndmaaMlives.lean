/- Own lemmas: shortLives, node; ways turned. -/
import Derived.Test.YtaaohfhcimndmaaMfit
import Derived.LoopTactic
import Derived.BigQuiet
import Derived.RegionTactic
import Derived.BigRegion
namespace Go.Proofs.Ytaaohfhcimndmaa.M
open Go.RowKit Go.Proofs.YtaaohfhcimndmaaW.PrintWords Go.Proofs.YtaaohfhcimndmaaW.PrintLast Go.Proofs.YtaaohfhcimndmaaW.PrintMore 
set_option linter.unusedVariables false
set_option linter.unusedSimpArgs false

open Go.Proofs.Ytaaohfhcimndmaa.PAreaAnnounced
def tri : List S46 := [⟨0, 1, 2⟩, ⟨1, 2, 3⟩]
theorem tri_ok : GOk 3 tri := by
  refine ⟨by omega, by omega, by decide, fun e he => ?_⟩
  unfold tri at he
  rcases List.mem_cons.1 he with rfl | he
  · decide
  · rcases List.mem_cons.1 he with rfl | he
    · decide
    · exact absurd he List.not_mem_nil
theorem tri_rch {v d : Int} (h : Rch tri 0 v d) : (v = 0 ∧ d = 0) ∨ (v = 1 ∧ d = 2) ∨ (v = 2 ∧ d = 5) := by
  induction h with
  | start => exact .inl ⟨rfl, rfl⟩
  | step hr he hu ih =>
    subst hu
    unfold tri at he
    rcases List.mem_cons.1 he with rfl | he
    · simp at ih ⊢; omega
    · rcases List.mem_cons.1 he with rfl | he
      · simp at ih ⊢; omega
      · exact absurd he List.not_mem_nil
theorem tri_cost {cost : List Int} (h : Dist 3 tri 0 cost) : cost = [0, 2, 5] := by
  have hl := h.cl
  have hl2 : cost.length = 3 := hl
  match cost, hl2 with
  | [a, b, c], _ =>
    have h0 : a = 0 := h.c0
    have h1 : 0 ≤ b ∧ b ≤ a + 2 := h.le ⟨0, 1, 2⟩ (by simp [tri]) (show 0 ≤ a by omega)
    have h2 : 0 ≤ c ∧ c ≤ b + 3 := h.le ⟨1, 2, 3⟩ (by simp [tri]) h1.1
    have r1 := tri_rch (h.cr 1 (by omega) (by omega) h1.1)
    have r2 := tri_rch (h.cr 2 (by omega) (by omega) h2.1)
    have e1 : rd [a, b, c] 1 = b := rfl
    have e2 : rd [a, b, c] 2 = c := rfl
    rw [e1] at r1
    rw [e2] at r2
    have : b = 2 := by omega
    have : c = 5 := by omega
    subst h0
    simp_all
theorem C46_tri {W : World} {g : Nat} (h : W.heap[g]? = some (.cells #[.int .i64 0, .int .i64 1, .int .i64 2, .int .i64 1, .int .i64 2, .int .i64 3] 46 (0, 0))) : Kd.C k46 W (some ⟨g, 0, none⟩) tri.length tri := by
  refine ⟨rfl, by decide, fun _ => ⟨_, rfl, fun j q hj => ?_⟩⟩
  rcases j with _ | _ | j
  · obtain rfl : (⟨0, 1, 2⟩ : S46) = q := by simpa [tri] using hj
    refine ⟨[.int .i64 0, .int .i64 1, .int .i64 2], rfl, k46_mk W ⟨0, 1, 2⟩, fun i u hu => ?_⟩
    rw [add_plain, Nat.zero_mul, Nat.zero_add, blk_cell h i]
    rcases i with _ | _ | _ | i <;> first | exact hu | simp at hu
  · obtain rfl : (⟨1, 2, 3⟩ : S46) = q := by simpa [tri] using hj
    refine ⟨[.int .i64 1, .int .i64 2, .int .i64 3], rfl, k46_mk W ⟨1, 2, 3⟩, fun i u hu => ?_⟩
    rw [add_plain, blk_cell h]
    rcases i with _ | _ | _ | i <;> first | exact hu | simp at hu
  · simp [tri] at hj
set_option maxHeartbeats 1000000 in
set_option maxRecDepth 100000 in
theorem lives18 (w : World) : Calls Try.prog 18 #[] w fun e w' => e = .returned (.bool true) ∧ Below w.heap.size w w' := by
  have hu25 := Try.underlying25
  have hu40 := Try.underlying40
  have hu42 := Try.underlying42
  have hu46 := Try.underlying46
  go_enter Try.func18, Try.ntmps18
  go_wp2_with fail
  have HT := Lib.hid (blk_keep (below_alloc (Below.refl _ _) (.cells #[.int .i64 3, .slice (some ⟨w.heap.size, 0, none⟩) 2 2] 42)) (blk_alloc w (.cells #[.int .i64 0, .int .i64 1, .int .i64 2, .int .i64 1, .int .i64 2, .int .i64 3] 46)))
  have HB := Lib.hid (below_self (below_alloc (Below.refl w.heap.size w) (.cells #[.int .i64 0, .int .i64 1, .int .i64 2, .int .i64 1, .int .i64 2, .int .i64 3] 46)) (below_alloc (Below.refl _ _) (.cells #[.int .i64 3, .slice (some ⟨w.heap.size, 0, none⟩) 2 2] 42)))
  refine (Costs21 3 0 tri (some ⟨w.heap.size, 0, none⟩) 2 _ tri_ok (by omega) (by decide) (Lib.hid (C46_tri HT.out))).mono ?_
  rintro e w1 ⟨G, cost, rfl, hD, hGl, hGc, hb⟩
  have hcs := tri_cost hD
  rw [hcs] at hGc
  have HB1 := Lib.hid (below_self HB.out hb)
  have HG := Lib.hid hGc
  have HR := Lib.hid (row_C (xs := [0, 2, 5]) hGc (by decide))
  clear hcs hD hGl hb hGc HT HB
  go_wp2_with fail
  have hb2 := below_alloc (Below.refl w1.heap.size w1) (.cells #[.int .i64 0, .int .i64 2, .int .i64 5] 3)
  have HR2 := Lib.hid (row_C (xs := [0, 2, 5]) (blk_alloc w1 (.cells #[.int .i64 0, .int .i64 2, .int .i64 5] 3)) (by decide))
  refine (Equal29 (some ⟨G, 0, none⟩) (some ⟨w1.heap.size, 0, none⟩) 3 3 [0, 2, 5] [0, 2, 5] _ (by decide) (by decide) (by decide) (Kd.C_below HR.out hb2) HR2.out).mono ?_
  rw [decide_eq_true rfl]
  rintro e w2 ⟨rfl, hd⟩
  have HB2 := Lib.hid (below_self HB1.out (below_self hb2 hd.below))
  clear hd hb2
  go_wp2_with fail
  go_ret
  exact ⟨rfl, HB2.out⟩
set_option maxRecDepth 100000 in
theorem node20 (N : Nat) (v : Int) (A : Option Addr) (m c : Nat) (w : World) (h1 : 1 ≤ N) (h2 : N ≤ 8) :
    Calls Try.prog 20 #[.agg #[.int .i64 N, .slice A m c], .int .i64 v] w fun e w' => e = .returned (.int .i64 (fitV N v)) ∧ Below w.heap.size w w' := by
  have hu42 := Try.underlying42
  have he := Lib.hid (fitV_eq h1 h2 v)
  go_enter Try.func20, Try.ntmps20
  go_wp2
  go_ret
  exact ⟨by rw [← he.out]; rfl, below_alloc (Below.refl _ _) _⟩
/-! ways turned -/
def turn (e : S46) : S46 := ⟨e.f1, e.f0, e.f2⟩
theorem rch_turn {es : List S46} {s v d : Int} (h : Rch es s v d) : ∀ {t d' : Int}, Rch (es.map turn) t v d' → Rch (es.map turn) t s (d + d') := by
  induction h with
  | start => intro t d' h; rwa [Int.zero_add]
  | step hr he hu ih =>
    rename_i u d0 e
    intro t d' h
    have h2 : Rch (es.map turn) t e.f0 (d' + e.f2) := Rch.step (e := turn e) h (List.mem_map_of_mem he) rfl
    rw [hu] at h2
    have := ih h2
    rwa [show d0 + e.f2 + d' = d0 + (d' + e.f2) by omega]
theorem turn_turn (es : List S46) : (es.map turn).map turn = es := by
  rw [List.map_map]
  have : (turn ∘ turn) = id := by funext e; rfl
  rw [this, List.map_id]
theorem rch_turned {es : List S46} {s v d : Int} (h : Rch es s v d) : Rch (es.map turn) v s d := by
  have := rch_turn h (t := v) (d' := 0) Rch.start
  rwa [Int.add_zero] at this
theorem dist_turn {n : Nat} {es : List S46} {s t : Int} {a b : List Int} (ha : Dist n es s a) (hb : Dist n (es.map turn) t b) (hs0 : 0 ≤ s) (hs : s < n) (ht0 : 0 ≤ t) (ht : t < n) : rd a t = rd b s := by
  have back : ∀ {d}, Rch (es.map turn) t s d → Rch es s t d := fun h => by have := rch_turned h; rwa [turn_turn] at this
  rcases ha.eq ht0 ht with ⟨h1, h2⟩ | ⟨h1, h2, h3⟩
  · rcases hb.eq hs0 hs with ⟨h4, _⟩ | ⟨_, h5, _⟩
    · omega
    · exact absurd (back h5) (h2 _)
  · rcases hb.eq hs0 hs with ⟨_, h5⟩ | ⟨_, h5, h6⟩
    · exact absurd (rch_turned h2) (h5 _)
    · have := h3 _ (back h5)
      have := h6 _ (rch_turned h2)
      omega
theorem rch_mono {es fs : List S46} {s v d : Int} (hsub : ∀ e ∈ es, e ∈ fs) (h : Rch es s v d) : Rch fs s v d := by
  induction h with
  | start => exact .start
  | step hr he hu ih => exact .step ih (hsub _ he) hu
theorem dist_more {n m : Nat} {es fs : List S46} {s : Int} {a b : List Int} (hsub : ∀ e ∈ es, e ∈ fs) (ha : Dist n es s a) (hb : Dist m fs s b) {v : Int} (h0 : 0 ≤ v) (h1 : v < n) (h : 0 ≤ rd a v) : 0 ≤ rd b v ∧ rd b v ≤ rd a v :=
  hb.min (rch_mono hsub (ha.cr v h0 h1 h))

end Go.Proofs.Ytaaohfhcimndmaa.M
