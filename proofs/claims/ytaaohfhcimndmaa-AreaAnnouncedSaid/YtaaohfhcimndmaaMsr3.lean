/- Own lemmas: the memory of the search, its steps. -/
import Derived.Test.YtaaohfhcimndmaaMsr2
import Derived.Test.YtaaohfhcimndmaaWRepsOne
namespace Go.Proofs.Ytaaohfhcimndmaa.M
open Go.RowKit Go.Proofs.YtaaohfhcimndmaaW.PrintWords Go.Proofs.YtaaohfhcimndmaaW.PrintLast Go.Proofs.YtaaohfhcimndmaaW.PrintMore 
set_option linter.unusedVariables false
set_option linter.unusedSimpArgs false

open Go.Proofs.Ytaaohfhcimndmaa.PAreaAnnounced
theorem nums_set_rep (n s : Nat) : ((List.replicate n (Value.int .i64 (-1))).toArray.setIfInBounds s (.int .i64 0)) = (nums .i64 ((List.replicate n (-1)).set s 0)).toArray := by
  apply Array.toList_inj.1
  simp [nums, List.map_set]
theorem SR.start {w w1 : World} {n s m c G : Nat} {A : Option Addr} (hb : Below w.heap.size w w1) (h0 : w1.heap[w.heap.size]? = some (.cells #[.int .i64 n, .slice A m c] 42 (0, 0)))
    (h1 : w1.heap[w.heap.size + 1]? = some (.cells #[.slice none 0 0, .slice none 0 0] 84 (0, 0))) (hG : w1.heap[G]? = some (.cells (List.replicate n (Value.int .i64 (-1))).toArray 3 (0, 0))) (hGl : w.heap.size + 3 ≤ G) :
    SR w ((((w1.setCell ⟨G, s, none⟩ (.int .i64 0)).alloc (.cells #[.slice (some ⟨G, 0, none⟩) n n, .slice none 0 0] 84)).alloc (.cells #[.int .i64 s, .int .i64 0] 99)).alloc (.cells #[.slice (some ⟨w1.heap.size + 1, 0, none⟩) 1 1] 101))
      n A m c ⟨w.heap.size, w.heap.size + 1, w1.heap.size, w1.heap.size + 1 + 1, G⟩ (fun _ => False) ((List.replicate n (-1)).set s 0) [] [⟨s, 0⟩] := by
  have hs1 : (w1.setCell ⟨G, s, none⟩ (.int .i64 0)).heap.size = w1.heap.size := by simp [World.setCell]
  have hbl : Below w.heap.size w (w1.setCell ⟨G, s, none⟩ (.int .i64 0)) := hb.setCell (by show _ ≤ G; omega) _
  have hGs := blk_set hG s (.int .i64 0)
  rw [nums_set_rep] at hGs
  have k0 : (w1.setCell ⟨G, s, none⟩ (.int .i64 0)).heap[w.heap.size]? = _ := (Below.heap_setCell w1 ⟨G, s, none⟩ _ _ (by show _ ≠ G; omega)).trans h0
  have k1 : (w1.setCell ⟨G, s, none⟩ (.int .i64 0)).heap[w.heap.size + 1]? = _ := (Below.heap_setCell w1 ⟨G, s, none⟩ _ _ (by show _ ≠ G; omega)).trans h1
  have hlt := blk_lt h1
  generalize w1.setCell ⟨G, s, none⟩ (.int .i64 0) = Wa at *
  rw [← hs1]
  rw [← hs1] at hlt
  clear h0 h1 hG
  have b1 := below_alloc (Below.refl Wa.heap.size Wa) (.cells #[.slice (some ⟨G, 0, none⟩) n n, .slice none 0 0] 84)
  have e1 : (Wa.alloc (.cells #[.slice (some ⟨G, 0, none⟩) n n, .slice none 0 0] 84)).heap.size = Wa.heap.size + 1 := by simp
  have f1 := blk_alloc Wa (.cells #[.slice (some ⟨G, 0, none⟩) n n, .slice none 0 0] 84)
  generalize Wa.alloc (.cells #[.slice (some ⟨G, 0, none⟩) n n, .slice none 0 0] 84) = Wb at *
  have hrow : Kd.R k99 99 (Wb.alloc (.cells #[.int .i64 s, .int .i64 0] 99)) w.heap.size (fun k => w.heap.size ≤ k ∧ ¬ False) (.slice (some ⟨Wb.heap.size, 0, none⟩) 1 1) [⟨s, 0⟩] :=
    ⟨fun k hk => by simp [Value.ownBlock] at hk; have := hbl.size; have := b1.size; exact ⟨by omega, fun h => h⟩, OwnRow.lit Wb w.heap.size (inner := [.int .i64 s, .int .i64 0]) (Reps.c2 (k99_mkM _ _ _ ⟨s, 0⟩) (Reps.none _ _)) (Nat.le_trans hbl.size b1.size) (by simp)⟩
  have b2 := below_alloc (Below.refl Wb.heap.size Wb) (.cells #[.int .i64 s, .int .i64 0] 99)
  have e2 : (Wb.alloc (.cells #[.int .i64 s, .int .i64 0] 99)).heap.size = Wb.heap.size + 1 := by simp
  rw [e1] at hrow
  generalize Wb.alloc (.cells #[.int .i64 s, .int .i64 0] 99) = Wc at *
  have b3 := below_alloc (Below.refl Wc.heap.size Wc) (.cells #[.slice (some ⟨Wa.heap.size + 1, 0, none⟩) 1 1] 101)
  have f3 := blk_alloc Wc (.cells #[.slice (some ⟨Wa.heap.size + 1, 0, none⟩) 1 1] 101)
  rw [e2, e1] at f3
  generalize Wc.alloc (.cells #[.slice (some ⟨Wa.heap.size + 1, 0, none⟩) 1 1] 101) = Wd at *
  have bt : Below Wa.heap.size Wa Wd := b1.trans ((b2.mono b1.size).trans (b3.mono (Nat.le_trans b1.size b2.size)))
  refine ⟨below_self hbl bt, blk_keep bt k0, blk_keep bt k1, ⟨none, 0, blk_keep b3 (blk_keep b2 f1), Nat.le_refl _, Kd.R_nil _ _ _ _ _⟩, blk_keep bt hGs, ⟨some ⟨Wa.heap.size + 1, 0, none⟩, 1, f3, Nat.le_refl _, Kd.R_below hrow b3⟩, ?_, ?_⟩
  · show w.heap.size + 1 ≠ Wa.heap.size
    omega
  · have := hbl.size
    exact ⟨Nat.le_refl _, Nat.le_succ _, this, by show _ ≤ Wa.heap.size + 1 + 1; omega, by show _ ≤ G; omega⟩
/-- What the walk reads. -/
theorem SR.look {w wr : World} {n m c : Nat} {A : Option Addr} {I : Ids} {X : Nat → Prop} {cost order : List Int} {q : List S99} (h : SR w wr n A m c I X cost order q) :
    ∃ Ao co Aq cq, (wr.cell? ⟨I.bg, 0, none⟩ = some (.int .i64 n) ∧ wr.cell? ⟨I.bg, 1, none⟩ = some (.slice A m c)) ∧ (wr.cell? ⟨I.bf, 0, none⟩ = some (.slice (some ⟨I.G, 0, none⟩) n n) ∧ wr.cell? ⟨I.bf, 1, none⟩ = some (.slice Ao order.length co) ∧ ∀ i, wr.frozen? ⟨I.bf, i, none⟩ = false) ∧
      wr.cell? ⟨I.qb, 0, none⟩ = some (.slice Aq q.length cq) ∧ (∀ i, wr.frozen? ⟨I.G, i, none⟩ = false) ∧ (I.bg < wr.heap.size ∧ I.bf < wr.heap.size ∧ I.qb < wr.heap.size ∧ I.G < wr.heap.size) ∧ order.length ≤ co ∧ Kd.C (Kd.int .i64) wr Ao order.length order ∧
      Kd.R (Kd.int .i64) 3 wr w.heap.size (fun k => w.heap.size ≤ k ∧ k ≠ I.G) (.slice Ao order.length co) order ∧ wr.heap[I.bf]? = some (.cells #[.slice (some ⟨I.G, 0, none⟩) n n, .slice Ao order.length co] 84 (0, 0)) := by
  obtain ⟨Ao, co, hf, hle, hR⟩ := h.f
  obtain ⟨Aq, cq, hqb, hql, hqR⟩ := h.q
  exact ⟨Ao, co, Aq, cq, ⟨blk_cell h.g 0, blk_cell h.g 1⟩, ⟨blk_cell hf 0, blk_cell hf 1, blk_free hf⟩, blk_cell hqb 0, blk_free h.cs, ⟨blk_lt h.g, blk_lt hf, blk_lt hqb, blk_lt h.cs⟩, hle, (Kd.R_reads' hR).2.2, hR, hf⟩
theorem SR.order {w wr w1 : World} {n m c co c1 : Nat} {A Ao A1 : Option Addr} {I : Ids} {X : Nat → Prop} {cost order order1 : List Int} {q : List S99} (h : SR w wr n A m c I X cost order q)
    (hR : Kd.R (Kd.int .i64) 3 wr w.heap.size (fun k => w.heap.size ≤ k ∧ k ≠ I.G) (.slice Ao order.length co) order) (hf : wr.heap[I.bf]? = some (.cells #[.slice (some ⟨I.G, 0, none⟩) n n, .slice Ao order.length co] 84 (0, 0)))
    (ho : Kd.R (Kd.int .i64) 3 w1 w.heap.size (fun k => w.heap.size ≤ k ∧ k ≠ I.G) (.slice A1 order1.length c1) order1) (hle : order1.length ≤ c1) (hg : wr.grownBy w1 (Value.slice Ao order.length co).ownBlock) :
    SR w (w1.setCell ⟨I.bf, 1, none⟩ (.slice A1 order1.length c1)) n A m c I X cost order1 q := by
  obtain ⟨Aq, cq, hqb, hql, hqR⟩ := h.q
  have far : ∀ {g : Nat} {cs1 : Array Value} {t1 : Nat}, wr.heap[g]? = some (.cells cs1 t1 (0, 0)) → t1 ≠ 3 → w1.heap[g]? = some (.cells cs1 t1 (0, 0)) := fun {g cs1 t1} h1 hne =>
    (hg.block g (blk_lt h1) (Kd.R_ne hR h1 (Ne.symm hne))).trans h1
  have hG1 : w1.heap[I.G]? = _ := (hg.block I.G (blk_lt h.cs) (fun e => (hR.1 I.G e.symm).2 rfl)).trans h.cs
  have hf1 := far hf (by decide)
  have far2 : ∀ {g : Nat} {cs1 : Array Value} {t1 : Nat}, w1.heap[g]? = some (.cells cs1 t1 (0, 0)) → g ≠ I.bf → (w1.setCell ⟨I.bf, 1, none⟩ (.slice A1 order1.length c1)).heap[g]? = some (.cells cs1 t1 (0, 0)) := fun h1 hne =>
    (Below.heap_setCell w1 ⟨I.bf, 1, none⟩ _ _ hne).trans h1
  have hq1 : Kd.R k99 99 w1 w.heap.size (fun k => w.heap.size ≤ k ∧ ¬ X k) (.slice Aq q.length cq) q := by
    refine Kd.R_mono (Kd.R_step (Kd.R_bound hqR) (fun k hk hlt => hg.block k hlt ?_)) (fun k hk => hk.1)
    obtain ⟨_, _, _, t, ht, cells, hc⟩ := hk
    have : t = 99 := by
      rcases List.mem_cons.1 ht with h | h
      · exact h
      · exact absurd h List.not_mem_nil
    subst this
    exact Kd.R_ne hR hc (by decide)
  refine ⟨Below.setCell ((h.below.trans ⟨hg.os, hg.tape, hg.output, hg.size, fun k hk => hg.block k (by have := h.below.size; omega) (fun e => by have := (hR.1 k e.symm).1; omega)⟩)) h.le.2.2.1 _,
    far2 (far h.g (by decide)) (SR.blk_ne h.g hf (by decide)), far2 (far h.r (by decide)) h.ne, ⟨A1, c1, blk_set hf1 1 _, hle, Kd.R_set ho hf1 (by decide) 1 _⟩, far2 hG1 (SR.blk_ne h.cs hf (by decide)), ⟨Aq, cq, far2 (far hqb (by decide)) (SR.blk_ne hqb hf (by decide)), hql, Kd.R_set hq1 hf1 (by decide) 1 _⟩, h.ne, h.le⟩
theorem C46_cell {w : World} {A : Option Addr} {xs : List S46} (h : Kd.C k46 w A xs.length xs) (hp : 0 < xs.length) : ∃ ad, A = some ad ∧ ∀ j, j < xs.length → w.cell? (ad.add (j * 3)) = some (.int .i64 (xs.getD j z46).f0) ∧ w.cell? ⟨(ad.add (j * 3)).block, (ad.add (j * 3)).off + 1, none⟩ = some (.int .i64 (xs.getD j z46).f1) ∧ w.cell? ⟨(ad.add (j * 3)).block, (ad.add (j * 3)).off + 2, none⟩ = some (.int .i64 (xs.getD j z46).f2) := by
  obtain ⟨ad, e, _⟩ := at_T46 h 0 (by omega) (by omega)
  refine ⟨ad, e, fun j hj => ?_⟩
  obtain ⟨ad', e', h1, h2, h3⟩ := at_T46 h (j : Int) (by omega) (by omega)
  rw [e] at e'
  cases e'
  exact ⟨h1, h2, h3⟩
theorem ContainsQ (A : Option Addr) (c : Nat) (l : List Int) (a : Int) (w : World) (hl : l.length ≤ 1000000) (hc : l.length ≤ c) (hK : Kd.C (Kd.int .i64) w A l.length l) :
    Calls Try.prog 57 #[.slice A l.length c, .int .i64 a] w fun e w' => e = .returned (.bool (decide (a ∈ l))) ∧ ∃ m, w' = w.drewN m :=
  (Contains57 A c l a w hl hc hK).mono fun _ _ ⟨h1, h2⟩ => ⟨h1, h2.out⟩

end Go.Proofs.Ytaaohfhcimndmaa.M
