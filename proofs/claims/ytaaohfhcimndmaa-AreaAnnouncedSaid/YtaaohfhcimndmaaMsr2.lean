/- Own lemmas: the memory of the search. -/
import Derived.Test.YtaaohfhcimndmaaMsrch
namespace Go.Proofs.Ytaaohfhcimndmaa.M
open Go.RowKit Go.Proofs.YtaaohfhcimndmaaW.PrintWords Go.Proofs.YtaaohfhcimndmaaW.PrintLast Go.Proofs.YtaaohfhcimndmaaW.PrintMore 
set_option linter.unusedVariables false
set_option linter.unusedSimpArgs false

open Go.Proofs.Ytaaohfhcimndmaa.PAreaAnnounced
/-! the search's memory -/
theorem blk_cells2 {w : World} {g : Nat} {a b : Value} {t : Nat} (h : w.heap[g]? = some (.cells #[a, b] t (0, 0))) :
    w.cell? ⟨g, 0, none⟩ = some a ∧ w.cell? ⟨g, 1, none⟩ = some b ∧ ∀ i, w.frozen? ⟨g, i, none⟩ = false :=
  ⟨blk_cell h 0, blk_cell h 1, blk_free h⟩
def okq (B : Nat) (wr : World) (X : Nat → Prop) (k : Nat) : Prop := B ≤ k ∧ ¬ X k ∧ ∀ cells t, wr.heap[k]? = some (.cells cells t (0, 0)) → t = 99
theorem okq_fresh {B : Nat} {wr : World} {X : Nat → Prop} (hX : ∀ k, X k → k < wr.heap.size) (hB : B ≤ wr.heap.size) : ∀ k, wr.heap.size ≤ k → okq B wr X k := fun k hk =>
  ⟨by omega, fun h => by have := hX k h; omega, fun cells t h => by rw [Array.getElem?_eq_none hk] at h; cases h⟩
theorem QAt.strong {B qb : Nat} {wr : World} {X : Nat → Prop} {q : List S99} (h : QAt wr B qb (fun k => B ≤ k ∧ ¬ X k) q) : QAt wr B qb (okq B wr X) q := by
  obtain ⟨A, c, hb, hle, hR⟩ := h
  refine ⟨A, c, hb, hle, Kd.R_mono (Kd.R_bound hR) (fun k hk => ?_)⟩
  obtain ⟨⟨h1, h2⟩, _, _, t, ht, cells, hc⟩ := hk
  refine ⟨h1, h2, fun cells' t' h' => ?_⟩
  rw [hc] at h'
  injection h' with h'
  injection h' with _ h'
  have : t = 99 := by
    rcases List.mem_cons.1 ht with h | h
    · exact h
    · exact absurd h List.not_mem_nil
  exact h'.symm.trans this
theorem QAt.mono {B qb : Nat} {wr : World} {ok ok' : Nat → Prop} {q : List S99} (h : QAt wr B qb ok q) (hok : ∀ k, ok k → ok' k) : QAt wr B qb ok' q := by
  obtain ⟨A, c, hb, hle, hR⟩ := h
  exact ⟨A, c, hb, hle, Kd.R_mono hR hok⟩
structure Ids where
  bg : Nat
  b4 : Nat
  bf : Nat
  qb : Nat
  G : Nat
structure SR (w wr : World) (n : Nat) (A : Option Addr) (m c : Nat) (I : Ids) (X : Nat → Prop) (cost order : List Int) (q : List S99) : Prop where
  below : Below w.heap.size w wr
  g : wr.heap[I.bg]? = some (.cells #[.int .i64 n, .slice A m c] 42 (0, 0))
  r : wr.heap[I.b4]? = some (.cells #[.slice none 0 0, .slice none 0 0] 84 (0, 0))
  f : ∃ Ao co, wr.heap[I.bf]? = some (.cells #[.slice (some ⟨I.G, 0, none⟩) n n, .slice Ao order.length co] 84 (0, 0)) ∧ order.length ≤ co ∧ Kd.R (Kd.int .i64) 3 wr w.heap.size (fun k => w.heap.size ≤ k ∧ k ≠ I.G) (.slice Ao order.length co) order
  cs : wr.heap[I.G]? = some (.cells (nums .i64 cost).toArray 3 (0, 0))
  q : QAt wr w.heap.size I.qb (fun k => w.heap.size ≤ k ∧ ¬ X k) q
  ne : I.b4 ≠ I.bf
  le : w.heap.size ≤ I.bg ∧ w.heap.size ≤ I.b4 ∧ w.heap.size ≤ I.bf ∧ w.heap.size ≤ I.qb ∧ w.heap.size ≤ I.G
namespace SR
variable {w wr w' : World} {n m c : Nat} {A : Option Addr} {I : Ids} {X : Nat → Prop} {cost order : List Int} {q q' : List S99}
theorem step (h : SR w wr n A m c I X cost order q) (hb : Below wr.heap.size wr w') : SR w w' n A m c I X cost order q := by
  obtain ⟨Ao, co, hf, hle, hR⟩ := h.f
  exact ⟨h.below.trans (hb.mono h.below.size), blk_keep hb h.g, blk_keep hb h.r, ⟨Ao, co, blk_keep hb hf, hle, Kd.R_below hR hb⟩, blk_keep hb h.cs, h.q.below hb, h.ne, h.le⟩
theorem blk_ne {g k : Nat} {cs1 cs2 : Array Value} {t1 t2 : Nat} (h1 : wr.heap[g]? = some (.cells cs1 t1 (0, 0))) (h2 : wr.heap[k]? = some (.cells cs2 t2 (0, 0))) (hne : t1 ≠ t2) : g ≠ k := by
  rintro rfl
  rw [h1] at h2
  injection h2 with h2
  injection h2 with _ h2
  exact hne h2
theorem not_okq {B g : Nat} {cs1 : Array Value} {t1 : Nat} (h1 : wr.heap[g]? = some (.cells cs1 t1 (0, 0))) (hne : t1 ≠ 99) : ¬ okq B wr X g := fun h => hne (h.2.2 _ _ h1)
/-- Behind a call on the heap. -/
theorem heap (h : SR w wr n A m c I X cost order q) (hq : QAt w' w.heap.size I.qb (okq w.heap.size wr X) q') (hf : Fr wr w' (fun k => k = I.qb ∨ okq w.heap.size wr X k)) : SR w w' n A m c I X cost order q' := by
  obtain ⟨Ao, co, hff, hle, hR⟩ := h.f
  obtain ⟨_, _, hqb, _, _⟩ := h.q
  have key : ∀ {g : Nat} {cs1 : Array Value} {t1 : Nat}, wr.heap[g]? = some (.cells cs1 t1 (0, 0)) → t1 ≠ 99 → t1 ≠ 101 → w'.heap[g]? = some (.cells cs1 t1 (0, 0)) := fun h1 h99 h101 =>
    hf.blk h1 (fun hk => hk.elim (fun e => blk_ne h1 hqb h101 e) (not_okq h1 h99))
  refine ⟨fr_below h.below h.below.size hf (fun k hk => hk.elim (fun e => by rw [e]; exact h.le.2.2.2.1) (fun e => e.1)), key h.g (by decide) (by decide), key h.r (by decide) (by decide), ⟨Ao, co, key hff (by decide) (by decide), hle, ?_⟩, key h.cs (by decide) (by decide), hq.mono (fun k hk => ⟨hk.1, hk.2.1⟩), h.ne, h.le⟩
  refine Kd.R_mono (hf.R (Kd.R_bound hR) (fun k hk hlt => ?_)) (fun k hk => hk.1)
  obtain ⟨_, _, _, t, ht, cells, hc⟩ := hk
  have : t = 3 := by
    rcases List.mem_cons.1 ht with h | h
    · exact h
    · exact absurd h List.not_mem_nil
  subst this
  exact fun hk => hk.elim (fun e => blk_ne hc hqb (by decide) e) (not_okq hc (by decide))
theorem box (h : SR w wr n A m c I (fun _ => False) cost order q) (o : Obj) : SR w (wr.alloc o) n A m c I (· = wr.heap.size) cost order q := by
  have h1 := h.step (below_alloc (Below.refl _ _) o)
  obtain ⟨Aq, cq, hb, hle, hR⟩ := h.q
  refine ⟨h1.below, h1.g, h1.r, h1.f, h1.cs, ?_, h1.ne, h1.le⟩
  have h2 := Kd.R_below (Kd.R_mono (Kd.R_bound hR) (ok' := fun k => w.heap.size ≤ k ∧ ¬ k = wr.heap.size) (fun k hk => ⟨hk.1.1, by have := hk.2.2.1; omega⟩)) (below_alloc (Below.refl _ _) o)
  exact ⟨Aq, cq, blk_keep (below_alloc (Below.refl _ _) o) hb, hle, h2⟩
theorem unbox (h : SR w wr n A m c I X cost order q) : SR w wr n A m c I (fun _ => False) cost order q :=
  ⟨h.below, h.g, h.r, h.f, h.cs, h.q.mono (fun k hk => ⟨hk.1, fun h => h⟩), h.ne, h.le⟩
theorem setCost (h : SR w wr n A m c I X cost order q) (i : Nat) (v : Int) (hi : i < cost.length) : SR w (wr.setCell ⟨I.G, i, none⟩ (.int .i64 v)) n A m c I X (cost.set i v) order q := by
  obtain ⟨Ao, co, hf, hle, hR⟩ := h.f
  obtain ⟨Aq, cq, hqb, hql, hqR⟩ := h.q
  have far : ∀ {g : Nat} {cs1 : Array Value} {t1 : Nat}, wr.heap[g]? = some (.cells cs1 t1 (0, 0)) → t1 ≠ 3 → (wr.setCell ⟨I.G, i, none⟩ (.int .i64 v)).heap[g]? = some (.cells cs1 t1 (0, 0)) := fun h1 hne =>
    (Below.heap_setCell wr ⟨I.G, i, none⟩ _ _ (blk_ne h1 h.cs hne)).trans h1
  refine ⟨h.below.setCell h.le.2.2.2.2 _, far h.g (by decide), far h.r (by decide), ⟨Ao, co, far hf (by decide), hle, Kd.R_far (p := ⟨I.G, i, none⟩) hR (fun k hk => hk.2) _⟩, ?_, ⟨Aq, cq, far hqb (by decide), hql, Kd.R_set hqR h.cs (by decide) i _⟩, h.ne, h.le⟩
  rw [blk_set h.cs i _]
  congr 2
  apply Array.toList_inj.1
  simp [nums, List.map_set]
theorem cell (h : SR w wr n A m c I X cost order q) {i : Nat} (hi : i < cost.length) : wr.cell? ⟨I.G, i, none⟩ = some (.int .i64 (cost.getD i 0)) := by
  rw [blk_cell h.cs]
  simp [nums, List.getD_eq_getElem?_getD, hi]
end SR
theorem has_index : ∀ (d k : Nat) (l : List Int) (a : Int) (i : Nat), l.length - i = d → d < k → i ≤ l.length → l.length ≤ 1000000 → ∃ r, slices_Index_int_int.l0 k l a (l.length : Int) (i : Int) = some r ∧ decide (r ≥ 0) = decide (a ∈ l.drop i) := by
  intro d
  induction d with
  | zero =>
    intro k l a i hd hk hi hl
    obtain ⟨k, rfl⟩ : ∃ k', k = k' + 1 := ⟨k - 1, by omega⟩
    refine ⟨-1, ?_, ?_⟩
    · simp only [slices_Index_int_int.l0]; rw [if_neg (by omega)]
    · rw [List.drop_of_length_le (by omega)]; simp
  | succ d ih =>
    intro k l a i hd hk hi hl
    obtain ⟨k, rfl⟩ : ∃ k', k = k' + 1 := ⟨k - 1, by omega⟩
    have hlt : i < l.length := by omega
    have hrd : rd l (i : Int) = l[i] := by simp [rd, List.getD_eq_getElem?_getD, hlt]
    simp only [slices_Index_int_int.l0]
    rw [if_pos (by omega), if_pos (by omega), if_pos (by omega), hrd, wrap_in _ (by omega) (by omega)]
    by_cases h : a = l[i]
    · rw [if_pos h]
      have hm : a ∈ l.drop i := by rw [List.drop_eq_getElem_cons hlt, h]; exact List.mem_cons_self
      exact ⟨i, rfl, by rw [decide_eq_true hm, decide_eq_true (by omega)]⟩
    · rw [if_neg h]
      obtain ⟨r, hr, he⟩ := ih k l a (i + 1) (by omega) (by omega) (by omega) hl
      have hm : a ∈ l.drop i ↔ a ∈ l.drop (i + 1) := by rw [List.drop_eq_getElem_cons hlt, List.mem_cons]; exact ⟨fun x => x.resolve_left h, .inr⟩
      exact ⟨r, hr, he.trans (decide_eq_decide.mpr hm.symm)⟩
theorem has_ends (l : List Int) (a : Int) (hl : l.length ≤ 1000000) : ∃ k, slices_Contains_int_int.f k l a = some (decide (a ∈ l)) := by
  obtain ⟨r, hr, he⟩ := has_index l.length (l.length + 1) l a 0 rfl (by omega) (by omega) hl
  refine ⟨l.length + 1, ?_⟩
  unfold slices_Contains_int_int.f slices_Index_int_int.f
  rw [show ((0 : Nat) : Int) = 0 from rfl] at hr
  rw [hr]
  simp only [Option.bind_some, he, List.drop_zero]
theorem Contains57 (A : Option Addr) (c : Nat) (l : List Int) (a : Int) (w : World) (hl : l.length ≤ 1000000) (hc : l.length ≤ c) (hK : Kd.C (Kd.int .i64) w A l.length l) :
    Calls Try.prog 57 #[.slice A l.length c, .int .i64 a] w fun e w' => e = .returned (.bool (decide (a ∈ l))) ∧ Drawn0 w w' := by
  obtain ⟨k, hk⟩ := has_ends l a hl
  exact slices_Contains_int_int.calls k A c l a _ w hK hc hk

end Go.Proofs.Ytaaohfhcimndmaa.M
