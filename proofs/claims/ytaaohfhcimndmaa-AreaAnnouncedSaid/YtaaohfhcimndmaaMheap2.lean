/- Own lemmas: Push and Pop of the queue. -/
import Derived.Test.YtaaohfhcimndmaaMheap
import Derived.Test.YtaaohfhcimndmaaWLast
import Derived.LoopTactic
import Derived.BigQuiet
import Derived.RegionTactic
import Derived.BigRegion
namespace Go.Proofs.Ytaaohfhcimndmaa.M
open Go.RowKit Go.Proofs.YtaaohfhcimndmaaW.PrintWords Go.Proofs.YtaaohfhcimndmaaW.PrintLast Go.Proofs.YtaaohfhcimndmaaW.PrintMore 
set_option linter.unusedVariables false
set_option linter.unusedSimpArgs false

open Go.Proofs.Ytaaohfhcimndmaa.PAreaAnnounced
/-! what a call leaves: all but the blocks of S -/
structure Fr (w w' : World) (S : Nat → Prop) : Prop where
  os : w'.os = w.os
  tape : w'.tape = w.tape
  output : w'.output = w.output
  size : w.heap.size ≤ w'.heap.size
  block : ∀ i, i < w.heap.size → ¬ S i → w'.heap[i]? = w.heap[i]?
namespace Fr
variable {w w1 w2 : World} {S S1 : Nat → Prop}
theorem refl (w : World) (S : Nat → Prop) : Fr w w S := ⟨rfl, rfl, rfl, Nat.le_refl _, fun _ _ _ => rfl⟩
theorem of_below (h : Below w.heap.size w w1) (S : Nat → Prop) : Fr w w1 S := ⟨h.os, h.tape, h.output, h.size, fun i hi _ => h.block i hi⟩
theorem trans (h : Fr w w1 S) (k : Fr w1 w2 S1) (hs : ∀ i, S1 i → S i ∨ w.heap.size ≤ i) : Fr w w2 S :=
  ⟨k.os.trans h.os, k.tape.trans h.tape, k.output.trans h.output, Nat.le_trans h.size k.size, fun i hi hn => (k.block i (Nat.lt_of_lt_of_le hi h.size) (fun h1 => (hs i h1).elim hn (fun h2 => by omega))).trans (h.block i hi hn)⟩
theorem below (h : Fr w w1 S) (k : Below w1.heap.size w1 w2) : Fr w w2 S := h.trans (of_below k (fun _ => False)) (fun _ h => h.elim)
theorem mono (h : Fr w w1 S) (hs : ∀ i, S i → S1 i) : Fr w w1 S1 := ⟨h.os, h.tape, h.output, h.size, fun i hi hn => h.block i hi (fun hk => hn (hs i hk))⟩
theorem grown {row : Option Nat} (h : Fr w w1 S) (hg : w1.grownBy w2 row) (hr : ∀ k, row = some k → S k ∨ w.heap.size ≤ k) : Fr w w2 S :=
  h.trans (S1 := fun k => row = some k) ⟨hg.os, hg.tape, hg.output, hg.size, fun i hi hn => hg.block i hi (fun e => hn e.symm)⟩ hr
theorem set (h : Fr w w1 S) {p : Addr} (hp : S p.block ∨ w.heap.size ≤ p.block) (u : Value) : Fr w (w1.setCell p u) S :=
  h.trans (S1 := fun k => k = p.block) ⟨rfl, rfl, rfl, by simp [World.setCell], fun i _ hn => Below.heap_setCell w1 p u i hn⟩ (fun k hk => by rw [hk]; exact hp)
theorem drew (h : Fr w w1 S) : Fr w w1.drew S := ⟨h.os, h.tape, h.output, h.size, h.block⟩
theorem drewN (h : Fr w w1 S) (n : Nat) : Fr w (w1.drewN n) S := h.below (pw_below_drewN (Below.refl _ _) n)
theorem alloc (h : Fr w w1 S) (o : Obj) : Fr w (w1.alloc o) S := h.below (below_alloc (Below.refl _ _) o)
theorem toBelow {B : Nat} (h : Fr w w1 S) (hB : B ≤ w.heap.size) (hs : ∀ i, S i → B ≤ i) : Below B w w1 :=
  ⟨h.os, h.tape, h.output, h.size, fun i hi => h.block i (by omega) (fun hk => by have := hs i hk; omega)⟩
theorem blk (h : Fr w w1 S) {g : Nat} {o : Obj} (hb : w.heap[g]? = some o) (hn : ¬ S g) : w1.heap[g]? = some o := (h.block g (blk_lt hb) hn).trans hb
theorem R {α : Type} {d : Kd α} {e base : Nat} {ok : Nat → Prop} {v : Value} {xs : List α} (h : Fr w w1 S) (hR : d.R e w base ok v xs) (hok : ∀ k, ok k → k < w.heap.size → ¬ S k) : d.R e w1 base ok v xs := Kd.R_step hR (fun k hk hlt => h.block k hlt (hok k hk hlt))
end Fr
theorem fr_below {B : Nat} {w0 w w1 : World} {S : Nat → Prop} (h : Below B w0 w) (hB : B ≤ w.heap.size) (k : Fr w w1 S) (hs : ∀ i, S i → B ≤ i) : Below B w0 w1 := h.trans (k.toBelow hB hs)
/-- The queue's variable and its row. -/
def QAt (w : World) (base qb : Nat) (ok : Nat → Prop) (l : List S99) : Prop := ∃ A c, w.heap[qb]? = some (.cells #[.slice A l.length c] 101 (0, 0)) ∧ l.length ≤ c ∧ Kd.R k99 99 w base ok (.slice A l.length c) l
theorem QAt.lt {w : World} {base qb : Nat} {ok : Nat → Prop} {l : List S99} (h : QAt w base qb ok l) : qb < w.heap.size := by obtain ⟨A, c, hb, _⟩ := h; exact blk_lt hb
theorem QAt.fr {w w1 : World} {base qb : Nat} {ok S : Nat → Prop} {l : List S99} (h : QAt w base qb ok l) (k : Fr w w1 S) (hq : ¬ S qb) (hok : ∀ i, ok i → ¬ S i) : QAt w1 base qb ok l := by
  obtain ⟨A, c, hb, hle, hR⟩ := h
  exact ⟨A, c, k.blk hb hq, hle, k.R hR (fun i hi _ => hok i hi)⟩
theorem QAt.below {w w1 : World} {base qb : Nat} {ok : Nat → Prop} {l : List S99} (h : QAt w base qb ok l) (k : Below w.heap.size w w1) : QAt w1 base qb ok l := h.fr (Fr.of_below k (fun _ => False)) (fun h => h) (fun _ _ h => h)
theorem ta99 (a b : Int) (w : World) : (Instr.typeAssert (.iface 99 (.agg #[.int .i64 a, .int .i64 b])) 20 99 false).run Try.prog w = .ok (.agg #[.int .i64 a, .int .i64 b]) w := by kernel_rfl
set_option maxHeartbeats 1000000 in
set_option maxRecDepth 100000 in
theorem Push91 (base qb : Nat) (ok : Nat → Prop) (l : List S99) (x : S99) (w : World) (hbase : base ≤ w.heap.size) (hn : l.length ≤ 1000000) (hfresh : ∀ k, w.heap.size ≤ k → ok k) (H : Hid (QAt w base qb ok l)) :
    Calls Try.prog 91 #[.pointer (some ⟨qb, 0, none⟩), .iface 99 (.agg #[.int .i64 x.f0, .int .i64 x.f1])] w fun e w' => e = .returned (.tuple #[]) ∧ QAt w' base qb ok (l ++ [x]) ∧ Fr w w' (fun k => k = qb ∨ ok k) := by
  have hu := Try.underlying101
  have hu2 := Try.underlying99
  have HF := Lib.hid hfresh
  have hta := ta99 x.f0 x.f1
  clear hfresh
  obtain ⟨A, c, hb, hle, hR⟩ := H.out
  have HB := Lib.hid hb
  have HR := Lib.hid hR
  have hql := blk_lt hb
  have HBd := Lib.hid (show w.drew.heap[qb]? = _ from hb)
  have HRd := Lib.hid (Kd.R_drew hR)
  have HFr := Lib.hid ((Fr.refl w (fun k => k = qb ∨ ok k)).drew)
  have HFd := Lib.hid (show ∀ k, w.drew.heap.size ≤ k → ok k from HF.out)
  have hbd : base ≤ w.drew.heap.size := hbase
  have q0 : w.drew.cell? ⟨qb, 0, none⟩ = _ := blk_cell hb 0
  clear hb hR
  go_enter Try.func91, Try.ntmps91
  go_wp2
  refine start_ (n := 10) (S := fun w' => w'.cell? ⟨qb, 0, none⟩ = some (.slice A l.length c)) (ds := [9]) #[false, false, false, false, false, false, false, false, false, false] (by kernel_rfl) rfl rfl (q0) (fun hHeld => ?_)
  generalize w.drew = wd at HBd HRd HFr HFd hbd q0 hHeld ⊢
  refine pure_ (i := 0) (N := some 4) (v := ?_) (a' := ?_) #[true, false, false, false, false, false, false, false, false, false] rfl rfl (by kernel_rfl) (fun _ _ _ h => h) (Or.inl ⟨by rfl, ?_⟩) ?_ ?_
  rotate_left
  · intro w'
    go_simp
    with_reducible rfl
  rotate_left
  · simp only [Act.put, List.setIfInBounds_toArray, List.set_cons_zero, List.set_cons_succ, i64_w, i32_w]
    rfl
  refine pure_ (i := 1) (N := some 5) (v := ?_) (a' := ?_) #[true, true, false, false, false, false, false, false, false, false] rfl rfl (by kernel_rfl) (fun _ _ _ h => h) (Or.inl ⟨by rfl, ?_⟩) ?_ ?_
  rotate_left
  · intro w'
    go_simp
    with_reducible rfl
  rotate_left
  · simp only [Act.put, List.setIfInBounds_toArray, List.set_cons_zero, List.set_cons_succ, i64_w, i32_w]
    rfl
  refine pure_ (i := 2) (N := some 6) (v := ?_) (a' := ?_) #[true, true, true, false, false, false, false, false, false, false] rfl rfl (by kernel_rfl) (fun _ _ _ h => h) (Or.inl ⟨by rfl, ?_⟩) ?_ ?_
  rotate_left
  · intro w'
    go_simp
    with_reducible rfl
  rotate_left
  · simp only [Act.put, List.setIfInBounds_toArray, List.set_cons_zero, List.set_cons_succ, i64_w, i32_w]
    rfl
  refine pure_ (i := 4) (N := some 8) (v := ?_) (a' := ?_) #[true, true, true, false, true, false, false, false, false, false] rfl rfl (by kernel_rfl) (fun _ _ _ h => h) (Or.inl ⟨by rfl, ?_⟩) ?_ ?_
  rotate_left
  · intro w'
    go_simp
    with_reducible rfl
  rotate_left
  · simp only [Act.put, List.setIfInBounds_toArray, List.set_cons_zero, List.set_cons_succ, i64_w, i32_w]
    rfl
  refine pure_ (i := 5) (N := some 9) (v := ?_) (a' := ?_) #[true, true, true, false, true, true, false, false, false, false] rfl rfl (by kernel_rfl) (fun _ _ _ h => h) (Or.inl ⟨by rfl, ?_⟩) ?_ ?_
  rotate_left
  · intro w'
    go_simp
    with_reducible rfl
  rotate_left
  · simp only [Act.put, List.setIfInBounds_toArray, List.set_cons_zero, List.set_cons_succ, i64_w, i32_w]
    rfl
  refine take_ (i := 3) (N := some 7) (v := ?_) (a' := ?_) #[true, true, true, true, true, true, false, false, false, false] rfl rfl (by kernel_rfl) (fun _ _ _ h => h) (Or.inl ⟨by rfl, ?_⟩) hHeld ?_ ?_
  rotate_left
  · intro w' s0
    go_simp
    with_reducible rfl
  rotate_left
  · simp only [Act.put, List.setIfInBounds_toArray, List.set_cons_zero, List.set_cons_succ, i64_w, i32_w]
    rfl
  refine one_ (i := 6) (N := some 10) #[true, true, true, true, true, true, true, false, false, false] rfl rfl (by kernel_rfl) (by decide) (fun K hK => ?_)
  refine value_ (w1 := ?_) (v := ?_) (by rfl) rfl ?_ ?_
  rotate_left 2
  · go_simp
    constructor
    · rfl
    · rfl
  have q1 := blk_cell (show (wd.alloc (.cells #[.int .i64 x.f0, .int .i64 x.f1] 99)).heap[qb]? = _ from blk_keep (below_alloc (Below.refl _ _) _) HBd.out) 0
  refine hK.out _ _ (q1) (fun hHeld => ?_)
  clear hK K
  refine norm_ (a' := ?_) ?_ ?_
  rotate_left
  · show Act.put _ (some 10) _ = _
    simp only [Act.put, List.setIfInBounds_toArray, List.set_cons_zero, List.set_cons_succ, i64_w, i32_w]
    rfl
  refine one_ (i := 7) (N := some 11) #[true, true, true, true, true, true, true, true, false, false] rfl rfl (by kernel_rfl) (by decide) (fun K hK => ?_)
  refine Kd.R_append_step k99 (w0 := wd) base (by rfl) (.tmp 7) (.tmp 10) 101 99 (.agg #[.int .i64 0, .int .i64 0]) 16 rfl Try.underlying101 info99 rfl (by decide) (by omega) (.slice A l.length c) (l) (x) [.int .i64 x.f0, .int .i64 x.f1] (ok) (fun _ => False) rfl rfl ?aP (fun _ hk => hk.elim) ?aF ?aO ?aB ?aS ?aL ?_
  (case aP => exact k99_mkM _ _ _ x)
  (case aF => exact HFd.out)
  (case aO => exact HRd.out)
  (case aB => exact Below.refl _ _)
  (case aS => exact hbd)
  (case aL => omega)
  intro v1 w1 ho hb hg hat
  obtain ⟨L2, HL2⟩ : ∃ L2, Hid (L2 = l ++ [x]) := ⟨_, Lib.hid rfl⟩
  rw [← HL2.out] at ho
  obtain ⟨A1, c1, rfl, hle1, _⟩ := Kd.R_reads ho
  have HR1 := Lib.hid ho
  have HX1 := Lib.hid ((hg.block qb (blk_lt HBd.out) (Kd.R_ne HRd.out HBd.out (by decide))).trans HBd.out)
  have HG1 := Lib.hid (HFr.out.grown hg (fun k hk => .inl (.inr (HRd.out.1 k hk))))
  have HLE1 := Lib.hid hle1
  clear ho hb hg hat hle1
  have q2 := blk_cell HX1.out 0
  have f2 := blk_free HX1.out 0
  have hql1 := blk_lt HX1.out
  refine hK.out _ _ (q2) (fun hHeld => ?_)
  clear hK K
  refine norm_ (a' := ?_) ?_ ?_
  rotate_left
  · show Act.put _ (some 11) _ = _
    simp only [Act.put, List.setIfInBounds_toArray, List.set_cons_zero, List.set_cons_succ, i64_w, i32_w]
    rfl
  refine pure_ (i := 8) (N := some 12) (v := ?_) (a' := ?_) #[true, true, true, true, true, true, true, true, true, false] rfl rfl (by kernel_rfl) (fun _ _ _ h => h) (Or.inl ⟨by rfl, ?_⟩) ?_ ?_
  rotate_left
  · intro w'
    go_simp
    with_reducible rfl
  rotate_left
  · simp only [Act.put, List.setIfInBounds_toArray, List.set_cons_zero, List.set_cons_succ, i64_w, i32_w]
    rfl
  refine last_ (i := 9) (N := none) #[true, true, true, true, true, true, true, true, true, true] rfl rfl (by kernel_rfl) (by decide) (fun K hK => ?_)
  refine skip_ (w1 := ?_) (by rfl) rfl ?_ ?_
  rotate_left
  · go_simp
    rfl
  refine hK.out _ _ ?_
  clear hK K
  refine done_ (by kernel_rfl) ?_

  go_end0
  rw [← HL2.out]
  exact ⟨rfl, ⟨A1, c1, blk_set HX1.out 0 _, HLE1.out, Kd.R_set HR1.out HX1.out (by decide) 0 _⟩, HG1.out.set (.inl (.inl rfl)) _⟩

end Go.Proofs.Ytaaohfhcimndmaa.M
