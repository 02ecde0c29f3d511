/- Own lemmas: Tick. -/
import Derived.Test.YtaneaabmgnanbaaMord
import Derived.LoopTactic
import Derived.RegionTactic
import Derived.BigRegion
import Derived.BigQuiet
import Derived.Deep.MidRow
namespace Go.Proofs.Ytaneaabmgnanbaa.M
open Go.RowKit Go.Proofs.YtaneaabmgnanbaaW.PrintWords Go.Proofs.YtaneaabmgnanbaaW.PrintLast Go.Proofs.YtaneaabmgnanbaaW.PrintMore Go.Proofs.Ytaneaabmgnanbaa.PAdvBack
set_option linter.unusedVariables false
set_option linter.unusedSimpArgs false

theorem BaseAt.age {w : World} {p : Nat} {f : Nat → S24} {h : Nat → Bool} (H : BaseAt w p f h) {i : Nat} (hi : i < 16) (a : Int) :
    BaseAt (w.setCell ⟨p, i * 4 + 2, none⟩ (.int .i64 a)) p (fun j => if j = i then ⟨(f i).f0, (f i).f1, a, (f i).f3⟩ else f j) h := by
  have hk := (KeepBut.refl w p none).set_ (i * 4 + 2) (.int .i64 a)
  obtain ⟨cs, hp, hs, hj⟩ := H
  refine ⟨_, blk_set hp _ _, by simp [hs], fun j h16 => ?_⟩
  obtain ⟨a0, a1, a2, a3, B, n, a4, l, hC⟩ := hj j h16
  by_cases e : j = i
  · subst e
    simp only [if_true]
    refine ⟨?_, ?_, ?_, ?_, B, n, ?_, l, fun W' hW => hC W' ((KA.of_keep hk hp (by decide)).trans hW)⟩
    all_goals simp only [Array.getElem?_setIfInBounds, hs]
    · rw [if_neg (by omega)]; exact a0
    · rw [if_neg (by omega)]; exact a1
    · rw [if_pos trivial, if_pos (by omega)]
    · rw [if_neg (by omega)]; exact a3
    · rw [if_neg (by omega)]; exact a4
  · simp only [if_neg e]
    refine ⟨?_, ?_, ?_, ?_, B, n, ?_, l, fun W' hW => hC W' ((KA.of_keep hk hp (by decide)).trans hW)⟩
    all_goals simp only [Array.getElem?_setIfInBounds, hs]
    · rw [if_neg (by omega)]; exact a0
    · rw [if_neg (by omega)]; exact a1
    · rw [if_neg (by omega)]; exact a2
    · rw [if_neg (by omega)]; exact a3
    · rw [if_neg (by omega)]; exact a4
theorem BaseAt.wipe {w : World} {p : Nat} {f : Nat → S24} {h : Nat → Bool} (H : BaseAt w p f h) {i : Nat} (hi : i < 16) :
    BaseAt (((((w.setCell ⟨p, i * 4, none⟩ (.int .i64 0)).setCell ⟨p, i * 4 + 1, none⟩ (.int .i64 0)).setCell ⟨p, i * 4 + 2, none⟩ (.int .i64 0)).setCell ⟨p, i * 4 + 3, none⟩ (.slice none 0 0)).setCell ⟨p, 64 + i, none⟩ (.bool false)) p (fun j => if j = i then z24 else f j) (fun j => if j = i then false else h j) := by
  have hk := keep_sets (w := w) p (i * 4) (i * 4 + 1) (i * 4 + 2) (i * 4 + 3) (64 + i) (.int .i64 0) (.int .i64 0) (.int .i64 0) (.slice none 0 0) (.bool false)
  obtain ⟨cs, hp, hs, hj⟩ := H
  refine ⟨_, blk_set (blk_set (blk_set (blk_set (blk_set hp _ _) _ _) _ _) _ _) _ _, by simp [hs], fun j h16 => ?_⟩
  by_cases e : j = i
  · subst e
    simp only [if_true]
    refine ⟨?_, ?_, ?_, ?_, none, 0, ?_, Nat.le_refl _, fun W' _ => Kd.C_nil k28 W'⟩
    all_goals simp only [Array.getElem?_setIfInBounds, Array.size_setIfInBounds, hs]
    all_goals repeat (first | rw [if_neg (by omega)] | rw [if_pos (by omega)] | simp only [if_true])
    all_goals rfl
  · obtain ⟨a0, a1, a2, a3, B, n, a4, l, hC⟩ := hj j h16
    simp only [if_neg e]
    refine ⟨?_, ?_, ?_, ?_, B, n, ?_, l, fun W' hW => hC W' ((KA.of_keep hk hp (by decide)).trans hW)⟩
    all_goals simp only [Array.getElem?_setIfInBounds, Array.size_setIfInBounds, hs]
    all_goals repeat (rw [if_neg (by omega)])
    · exact a0
    · exact a1
    · exact a2
    · exact a3
    · exact a4
theorem BaseAt.side {w w1 : World} {q : Nat} {f : Nat → S24} {h : Nat → Bool} (H : BaseAt w q f h) (hk : KA w w1) (hq : w1.heap[q]? = w.heap[q]?) : BaseAt w1 q f h := by
  obtain ⟨cs, hp, hs, hj⟩ := H
  refine ⟨cs, hq.trans hp, hs, fun j h16 => ?_⟩
  obtain ⟨a0, a1, a2, a3, B, n, a4, l, hC⟩ := hj j h16
  exact ⟨a0, a1, a2, a3, B, n, a4, l, fun W' hW => hC W' (hk.trans hW)⟩
theorem BaseAt.fn {w : World} {p : Nat} {f g : Nat → S24} {h k : Nat → Bool} (H : BaseAt w p f h) (h1 : ∀ i, i < 16 → f i = g i) (h2 : ∀ i, i < 16 → h i = k i) : BaseAt w p g k := by
  obtain ⟨cs, hp, hs, hj⟩ := H
  exact ⟨cs, hp, hs, fun j h16 => by rw [← h1 j h16, ← h2 j h16]; exact hj j h16⟩

/-- A record behind m ticks. -/
def tkA (d : Db) (m : Int) (i : Nat) : S24 := if d.2 i then (if (d.1 i).f2 + m < 3600 then ⟨(d.1 i).f0, (d.1 i).f1, (d.1 i).f2 + m, (d.1 i).f3⟩ else z24) else d.1 i
def tkH (d : Db) (m : Int) (i : Nat) : Bool := d.2 i && decide ((d.1 i).f2 + m < 3600)
def tick (d : Db) (m : Int) : Db := (tkA d m, tkH d m)
def fT (d : Db) (m : Int) (k : Nat) (i : Nat) : S24 := if i < k then tkA d m i else d.1 i
def hT (d : Db) (m : Int) (k : Nat) (i : Nat) : Bool := if i < k then tkH d m i else d.2 i
def outTo (d : Db) (m : Int) (k : Nat) : List Int := ((List.range k).filter fun i => d.2 i && decide (3600 ≤ (d.1 i).f2 + m)).map fun i : Nat => (i : Int)
theorem outTo_succ (d : Db) (m : Int) (k : Nat) : outTo d m (k + 1) = outTo d m k ++ (if d.2 k && decide (3600 ≤ (d.1 k).f2 + m) then [(k : Int)] else []) := by
  unfold outTo
  rw [List.range_succ, List.filter_append, List.map_append]
  congr 1
  cases h : d.2 k && decide (3600 ≤ (d.1 k).f2 + m) <;> simp [List.filter_cons, h]
theorem outTo_len (d : Db) (m : Int) (k : Nat) : (outTo d m k).length ≤ k := by
  unfold outTo
  rw [List.length_map]
  exact Nat.le_trans (List.length_filter_le _ _) (by simp)
theorem DbOk.age {d : Db} (h : DbOk d) {i : Nat} (hi : d.2 i = true) : 0 ≤ (d.1 i).f2 ∧ (d.1 i).f2 ≤ 3600 := by
  have := ((h i).1 hi).1
  unfold Chk chk at this
  split at this
  · cases this
  · rename_i hb
    unfold badHead at hb
    omega

end Go.Proofs.Ytaneaabmgnanbaa.M
