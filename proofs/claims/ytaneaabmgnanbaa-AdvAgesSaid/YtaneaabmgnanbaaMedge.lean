/- Own lemmas: IndexFunc, ContainsFunc over edges; some; plain laws of the graph. -/
import Derived.Test.YtaneaabmgnanbaaMgraph
import Derived.LoopTactic
namespace Go.Proofs.Ytaneaabmgnanbaa.M
open Go.RowKit Go.Proofs.YtaneaabmgnanbaaW.PrintWords Go.Proofs.YtaneaabmgnanbaaW.PrintLast Go.Proofs.YtaneaabmgnanbaaW.PrintMore Go.Proofs.Ytaneaabmgnanbaa.PAdvBack
set_option linter.unusedVariables false
set_option linter.unusedSimpArgs false

instance : Inhabited S52 := ⟨z52⟩
theorem C52_cell {w : World} {A : Option Addr} {xs : List S52} (h : Kd.C k52 w A xs.length xs) (hp : 0 < xs.length) : ∃ ad, A = some ad ∧ ∀ j, j < xs.length → w.cell? (ad.add (j * 3)) = some (.int .i64 (xs.getD j z52).f0) ∧ w.cell? ⟨(ad.add (j * 3)).block, (ad.add (j * 3)).off + 1, none⟩ = some (.int .i64 (xs.getD j z52).f1) ∧ w.cell? ⟨(ad.add (j * 3)).block, (ad.add (j * 3)).off + 2, none⟩ = some (.int .i64 (xs.getD j z52).f2) := by
  obtain ⟨ad, _, rfl, _⟩ := Kd.C_get h z52 0 (by omega) (by omega)
  refine ⟨ad, rfl, fun j hj => ?_⟩
  obtain ⟨ad', c, e, hl, hK, hc⟩ := Kd.C_get h z52 j (by omega) (by omega)
  cases e
  have hcs := k52_open hK
  subst hcs
  exact ⟨hc 0 _ rfl, by rw [← add_field _ _ 1 (by omega)]; exact hc 1 _ rfl, by rw [← add_field _ _ 2 (by omega)]; exact hc 2 _ rfl⟩
def back (x y : S52) : Bool := y.f0 == x.f1 && y.f1 == x.f0
set_option maxHeartbeats 1000000 in
set_option maxRecDepth 100000 in
theorem back_any (x y : S52) (g : Nat) (w : World) (hg : w.heap[g]? = some (.cells #[.int .i64 x.f0, .int .i64 x.f1, .int .i64 x.f2] 52 (0, 0))) :
    Calls Try.prog 25 #[.agg #[.int .i64 y.f0, .int .i64 y.f1, .int .i64 y.f2], .pointer (some ⟨g, 0, none⟩)] w fun e w' => e = .returned (.bool (back x y)) ∧ Below w.heap.size w w' := by
  have hu := Try.underlying52
  have hl := blk_lt hg
  have h0 := blk_cell hg 0
  have h1 := blk_cell hg 1
  have HG := Lib.hid hg
  clear hg
  unfold back
  cases b : (y.f0 == x.f1) with
  | false =>
    rw [Bool.false_and]
    go_enter Try.func25, Try.ntmps25
    go_wp2_with fail
    go_ret
    exact ⟨rfl, (Below.refl _ _).alloc (Nat.le_refl _) _⟩
  | true =>
    rw [Bool.true_and]
    go_enter Try.func25, Try.ntmps25
    go_wp2_with fail
    go_ret
    exact ⟨rfl, (Below.refl _ _).alloc (Nat.le_refl _) _⟩

set_option maxHeartbeats 1000000 in
set_option maxRecDepth 100000 in
theorem IndexFunc52 (A : Option Addr) (c g : Nat) (x0 : S52) (xs : List S52) (w : World) (hn : xs.length ≤ 9223372036854775807) (hK : Hid (Kd.C k52 w A xs.length xs)) (HG : Hid (w.heap[g]? = some (.cells #[.int .i64 x0.f0, .int .i64 x0.f1, .int .i64 x0.f2] 52 (0, 0)))) :
    Calls Try.prog 52 #[.slice A xs.length c, .func (.func 25) #[] #[.pointer (some ⟨g, 0, none⟩)]] w fun e w' => e = .returned (.int .i64 (idxq (back x0) xs)) ∧ Below w.heap.size w w' := by
  have hu := Try.underlying44
  have hu2 := Try.underlying52
  obtain ⟨q, Hq⟩ : ∃ q : S52 → Bool, Hid (q = (back x0)) := ⟨_, Lib.hid rfl⟩
  rw [← Hq.out]
  have Hcl : Hid (∀ (x : S52) (W : World), W.heap[g]? = some (.cells #[.int .i64 x0.f0, .int .i64 x0.f1, .int .i64 x0.f2] 52 (0, 0)) → Calls Try.prog 25 #[.agg #[.int .i64 x.f0, .int .i64 x.f1, .int .i64 x.f2], .pointer (some ⟨g, 0, none⟩)] W fun e w' => e = .returned (.bool (q x)) ∧ Below W.heap.size W w') := Lib.hid (fun x W h => by rw [Hq.out]; exact back_any x0 x g W h)
  rcases Nat.eq_zero_or_pos xs.length with h0 | h0
  · have hx : xs = [] := List.eq_nil_of_length_eq_zero h0
    subst hx
    rw [show idxq q [] = -1 from rfl]
    clear hK
    go_enter Try.func52, Try.ntmps52
    go_wp2
    refine wp_loop_rounds 1 ?_
    rw [rounds_succ]
    go_wp2
    go_ret
    exact ⟨rfl, Below.refl _ _⟩
  · go_enter Try.func52, Try.ntmps52
    go_wp2
    go_loopw [8] (fun i wr => ∃ k : Nat, k ≤ xs.length ∧ i = .int .i64 k ∧ Hid (∀ j, j < k → q (xs.getD j z52) = false) ∧ Hid (Below w.heap.size w wr)) (fun i _ => xs.length - (intOf i).toNat)
    case atStart => exact ⟨0, Nat.zero_le _, rfl, Lib.hid (fun j hj => absurd hj (by omega)), Lib.hid (Below.refl _ _)⟩
    case round =>
      obtain ⟨k, hk, rfl, HN, HBr⟩ := hrel
      by_cases hlt : k < xs.length
      · obtain ⟨ad, rfl, hcell⟩ := C52_cell (Kd.C_below hK.out HBr.out) h0
        have HC := Lib.hid hcell
        clear hcell
        obtain ⟨v, Hv⟩ : ∃ v, Hid (v = xs.getD k z52) := ⟨_, Lib.hid rfl⟩
        obtain ⟨hc0, hc1, hc2⟩ := HC.out k hlt
        rw [← Hv.out] at hc0 hc1 hc2
        have HG1 := Lib.hid (blk_keep HBr.out HG.out)
        cases hb : q v with
        | true =>
          have HB := Lib.hid hb
          have HI := Lib.hid (idxq_some z52 hlt HN.out (by rw [← Hv.out]; exact hb))
          clear hb
          go_wp2_with fail
          refine (Hcl.out v _ HG1.out).mono ?_
          rw [HB.out]
          rintro e w' ⟨rfl, hb2⟩
          have HB2 := Lib.hid (HBr.out.trans (hb2.mono HBr.out.size))
          clear hb2
          go_wp2_with fail
          go_ret
          exact ⟨by rw [HI.out]; rfl, HB2.out⟩
        | false =>
          have HB := Lib.hid hb
          clear hb
          go_wp2_with fail
          refine (Hcl.out v _ HG1.out).mono ?_
          rw [HB.out]
          rintro e w' ⟨rfl, hb2⟩
          have HB2 := Lib.hid (HBr.out.trans (hb2.mono HBr.out.size))
          clear hb2
          go_wp2_with fail
          go_round
          case rel => exact ⟨k + 1, by omega, by go_num, Lib.hid (fun j hj => by
            by_cases e : j = k
            · subst e; rw [← Hv.out]; exact HB.out
            · exact HN.out j (by omega)), HB2⟩
          case measure => simp [intOf]; omega
      · have HI := Lib.hid (idxq_none (q := q) (xs := xs) z52 (fun j hj => HN.out j (by omega)))
        go_wp2_with fail
        go_ret
        exact ⟨by rw [HI.out]; rfl, HBr.out⟩

theorem Contains24 (A : Option Addr) (c g : Nat) (x0 : S52) (xs : List S52) (w : World) (hn : xs.length ≤ 9223372036854775807) (hK : Hid (Kd.C k52 w A xs.length xs)) (HG : Hid (w.heap[g]? = some (.cells #[.int .i64 x0.f0, .int .i64 x0.f1, .int .i64 x0.f2] 52 (0, 0)))) :
    Calls Try.prog 24 #[.slice A xs.length c, .func (.func 25) #[] #[.pointer (some ⟨g, 0, none⟩)]] w fun e w' => e = .returned (.bool (xs.any (back x0))) ∧ Below w.heap.size w w' := by
  rw [← idxq_geq]
  obtain ⟨r, Hr⟩ : ∃ r, Hid (r = idxq (back x0) xs) := ⟨_, Lib.hid rfl⟩
  rw [← Hr.out]
  go_enter Try.func24, Try.ntmps24
  go_wp2_with fail
  refine (IndexFunc52 A c g x0 xs _ hn hK HG).mono ?_
  rw [← Hr.out]
  rintro e w' ⟨rfl, hb⟩
  have HB := Lib.hid hb
  clear hb
  go_wp2_with fail
  go_ret
  exact ⟨rfl, HB.out⟩

theorem nm_link {d : Db} {i j : Nat} (h : nm d.1 d.2 i j = true) : ∃ x ∈ (d.1 i).f3, x.f0 = j := by
  unfold nm at h
  simp only [Bool.and_eq_true, List.any_eq_true, beq_iff_eq] at h
  exact h.2
theorem edges_mem {d : Db} {n : Nat} {y : S52} (h : y ∈ edgesOf d n) : ∃ i, i < n ∧ ∃ x ∈ (d.1 i).f3, y ∈ lnk d i x := by
  unfold edgesOf at h
  simp only [List.mem_flatMap, List.mem_range] at h
  exact h
theorem mem_edges {d : Db} {n i : Nat} (hi : i < n) {x : S28} (hx : x ∈ (d.1 i).f3) {y : S52} (hy : y ∈ lnk d i x) : y ∈ edgesOf d n := by
  unfold edgesOf
  simp only [List.mem_flatMap, List.mem_range]
  exact ⟨i, hi, x, hx, hy⟩
theorem edges_back {d : Db} (hd : DbOk d) {x : S52} (h : x ∈ edgesOf d 16) : (edgesOf d 16).any (back x) = true := by
  obtain ⟨i, hi, l, hl, hx⟩ := edges_mem h
  have hv := (hd.valid i).2 l hl
  unfold lnk at hx
  split at hx
  · rename_i hc
    rw [List.mem_singleton] at hx
    subst hx
    simp only [Bool.and_eq_true] at hc
    obtain ⟨h1, h2⟩ := hc
    obtain ⟨z, hz, hzi⟩ := nm_link h2
    rw [List.any_eq_true]
    have hj : ((l.f0.toNat : Nat) : Int) = l.f0 := by omega
    refine ⟨⟨l.f0.toNat, i, z.f1⟩, mem_edges (i := l.f0.toNat) (by omega) hz ?_, ?_⟩
    · unfold lnk
      rw [hzi, h2, Int.toNat_natCast, hj, h1]
      simp [hj]
    · simp [back, hj]
  · cases hx

end Go.Proofs.Ytaneaabmgnanbaa.M
