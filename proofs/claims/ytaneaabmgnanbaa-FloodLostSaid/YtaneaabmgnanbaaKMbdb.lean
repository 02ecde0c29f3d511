import Derived.Test.YtaneaabmgnanbaaKMclone
import Derived.LoopTactic
namespace Go.Proofs.Ytaneaabmgnanbaa.M
open Go.RowKit Go.Proofs.YtaneaabmgnanbaaW.PrintWords Go.Proofs.YtaneaabmgnanbaaW.PrintLast Go.Proofs.YtaneaabmgnanbaaW.PrintMore Go.Proofs.Ytaneaabmgnanbaa.PAdvBack
set_option linter.unusedVariables false
set_option linter.unusedSimpArgs false
def KA (w w' : World) : Prop := w.heap.size ≤ w'.heap.size ∧ ∀ (i : Nat) (cs : Array Value), w.heap[i]? = some (Obj.cells cs 28 (0, 0)) → w'.heap[i]? = w.heap[i]?
theorem KA.refl (w : World) : KA w w := ⟨Nat.le_refl _, fun _ _ _ => rfl⟩
theorem KA.of_keep {w w' : World} {p t : Nat} {cs : Array Value} (h : KeepBut w w' p none) (hp : w.heap[p]? = some (.cells cs t (0, 0))) (ht : t ≠ 28) : KA w w' := ⟨h.1, fun i cs2 hi => h.2 i (blk_lt hi) (fun e => by subst e; rw [hp] at hi; simp at hi; exact ht hi.2) (by simp)⟩
theorem KA.of_below {w w' : World} (h : Below w.heap.size w w') : KA w w' := ⟨h.size, fun i cs hi => h.block i (blk_lt hi)⟩
theorem KA.trans {w w1 w2 : World} (h : KA w w1) (k : KA w1 w2) : KA w w2 := ⟨Nat.le_trans h.1 k.1, fun i cs hi => (k.2 i cs ((h.2 i cs hi).trans hi)).trans (h.2 i cs hi)⟩
def BaseAt (w : World) (p : Nat) (f : Nat → S24) (h : Nat → Bool) : Prop := ∃ cs : Array Value, w.heap[p]? = some (.cells cs 93 (0, 0)) ∧ cs.size = 80 ∧ ∀ i, i < 16 →
 cs[i * 4]? = some (.int .i64 (f i).f0) ∧ cs[i * 4 + 1]? = some (.int .i64 (f i).f1) ∧ cs[i * 4 + 2]? = some (.int .i64 (f i).f2) ∧ cs[64 + i]? = some (.bool (h i)) ∧
 ∃ A c, cs[i * 4 + 3]? = some (.slice A (f i).f3.length c) ∧ (f i).f3.length ≤ c ∧ ∀ W', KA w W' → Kd.C k28 W' A (f i).f3.length (f i).f3
theorem BaseAt.lt {w : World} {p : Nat} {f h} (H : BaseAt w p f h) : p < w.heap.size := by obtain ⟨cs, hb, _⟩ := H; exact blk_lt hb
theorem BaseAt.below {w w1 : World} {p : Nat} {f h} (H : BaseAt w p f h) (hb : Below w.heap.size w w1) : BaseAt w1 p f h := by
 obtain ⟨cs, hp, hs, hi⟩ := H
 refine ⟨cs, blk_keep hb hp, hs, fun i h16 => ?_⟩
 obtain ⟨a, b, c, d, A, n, e, l, hC⟩ := hi i h16
 exact ⟨a, b, c, d, A, n, e, l, fun W' hk => hC W' ((KA.of_below hb).trans hk)⟩
theorem BaseAt.read {w : World} {p : Nat} {f h} (H : BaseAt w p f h) {i : Nat} (hi : i < 16) : ∃ A c,
 w.cell? ⟨p, i * 4, none⟩ = some (.int .i64 (f i).f0) ∧ w.cell? ⟨p, i * 4 + 1, none⟩ = some (.int .i64 (f i).f1) ∧ w.cell? ⟨p, i * 4 + 2, none⟩ = some (.int .i64 (f i).f2) ∧ w.cell? ⟨p, i * 4 + 3, none⟩ = some (.slice A (f i).f3.length c) ∧ w.cell? ⟨p, 64 + i, none⟩ = some (.bool (h i)) ∧ (f i).f3.length ≤ c ∧ Kd.C k28 w A (f i).f3.length (f i).f3 ∧ (∀ j, w.frozen? ⟨p, j, none⟩ = false) := by
 obtain ⟨cs, hp, hs, hj⟩ := H
 obtain ⟨a, b, c, d, A, n, e, l, hC⟩ := hj i hi
 exact ⟨A, n, (blk_cell hp _).trans a, (blk_cell hp _).trans b, (blk_cell hp _).trans c, (blk_cell hp _).trans e, (blk_cell hp _).trans d, l, hC w (KA.refl w), blk_free hp⟩
set_option maxHeartbeats 1000000 in
set_option maxRecDepth 100000 in
theorem names_has (p i : Nat) (j : Int) (f : Nat → S24) (h : Nat → Bool) (w : World) (hi : i < 16) (hn : (f i).f3.length ≤ 1000) (H : Hid (BaseAt w p f h)) (hh : h i = true) (ha : (f i).f2 < 3600) :
 Calls Try.prog 51 #[.pointer (some ⟨p, 0, none⟩), .int .i64 i, .int .i64 j] w fun e w' => e = .returned (.bool ((f i).f3.any fun x => x.f0 == j)) ∧ Below w.heap.size w w' := by
 have hu := Try.underlying24
 have hu90 := Try.underlying90
 have hu91 := Try.underlying91
 have hu93 := Try.underlying93
 have hp := H.out.lt
 obtain ⟨A, c, c0, c1, c2, c3, c4, hle, hC, hf⟩ := H.out.read hi
 rw [hh] at c4
 have HC := Lib.hid hC
 have HH := Lib.hid hh
 clear hh hC
 go_enter Try.func51, Try.ntmps51
 go_wp2_with fail
 refine (Contains69 A c w.heap.size j (f i).f3 _ (by omega) (Lib.hid (Kd.C_below HC.out (below_alloc (Below.refl _ _) _))) (Lib.hid (blk_alloc w _))).mono ?_
 rintro e w2 ⟨rfl, hb⟩
 have HB := Lib.hid ((below_alloc (Below.refl w.heap.size w) (.cells #[.int .i64 j] 3)).trans (hb.mono (below_alloc (Below.refl w.heap.size w) (.cells #[.int .i64 j] 3)).size))
 clear hb
 go_wp2_with fail
 go_ret
 exact ⟨rfl, HB.out⟩
set_option maxHeartbeats 1000000 in
set_option maxRecDepth 100000 in
theorem names_old (p i : Nat) (j : Int) (f : Nat → S24) (h : Nat → Bool) (w : World) (hi : i < 16) (H : Hid (BaseAt w p f h)) (hh : h i = true) (ha : ¬ (f i).f2 < 3600) :
 Calls Try.prog 51 #[.pointer (some ⟨p, 0, none⟩), .int .i64 i, .int .i64 j] w fun e w' => e = .returned (.bool false) ∧ Below w.heap.size w w' := by
 have hu := Try.underlying24
 have hu90 := Try.underlying90
 have hu91 := Try.underlying91
 have hu93 := Try.underlying93
 have hp := H.out.lt
 obtain ⟨A, c, c0, c1, c2, c3, c4, hle, hC, hf⟩ := H.out.read hi
 rw [hh] at c4
 have HC := Lib.hid hC
 have HH := Lib.hid hh
 clear hh hC
 go_enter Try.func51, Try.ntmps51
 go_wp2_with fail
 go_ret
 exact ⟨rfl, below_alloc (Below.refl _ _) _⟩
set_option maxHeartbeats 1000000 in
set_option maxRecDepth 100000 in
theorem names_not (p i : Nat) (j : Int) (f : Nat → S24) (h : Nat → Bool) (w : World) (hi : i < 16) (H : Hid (BaseAt w p f h)) (hh : h i = false) :
 Calls Try.prog 51 #[.pointer (some ⟨p, 0, none⟩), .int .i64 i, .int .i64 j] w fun e w' => e = .returned (.bool false) ∧ Below w.heap.size w w' := by
 have hu := Try.underlying24
 have hu90 := Try.underlying90
 have hu91 := Try.underlying91
 have hu93 := Try.underlying93
 have hp := H.out.lt
 obtain ⟨A, c, c0, c1, c2, c3, c4, hle, hC, hf⟩ := H.out.read hi
 rw [hh] at c4
 have HC := Lib.hid hC
 have HH := Lib.hid hh
 clear hh hC
 go_enter Try.func51, Try.ntmps51
 go_wp2_with fail
 go_ret
 exact ⟨rfl, below_alloc (Below.refl _ _) _⟩
def nm (f : Nat → S24) (h : Nat → Bool) (i : Nat) (j : Int) : Bool := h i && decide ((f i).f2 < 3600) && (f i).f3.any fun x => x.f0 == j
theorem names_any (p i : Nat) (j : Int) (f : Nat → S24) (h : Nat → Bool) (w : World) (hi : i < 16) (hn : (f i).f3.length ≤ 1000) (H : Hid (BaseAt w p f h)) :
 Calls Try.prog 51 #[.pointer (some ⟨p, 0, none⟩), .int .i64 i, .int .i64 j] w fun e w' => e = .returned (.bool (nm f h i j)) ∧ Below w.heap.size w w' := by
 unfold nm
 cases hh : h i with
 | false => exact names_not p i j f h w hi H hh
 | true =>
  by_cases ha : (f i).f2 < 3600
  · rw [decide_eq_true ha]
    exact names_has p i j f h w hi hn H hh ha
  · rw [decide_eq_false ha]
    exact names_old p i j f h w hi H hh ha
end Go.Proofs.Ytaneaabmgnanbaa.M
