/- Own lemmas: Costs; Equal. -/
import Derived.Test.YtaaohfhcimndmaaMsr4
import Derived.LoopTactic
import Derived.BigQuiet
import Derived.RegionTactic
import Derived.BigRegion
namespace Go.Proofs.Ytaaohfhcimndmaa.M
open Go.RowKit Go.Proofs.YtaaohfhcimndmaaW.PrintWords Go.Proofs.YtaaohfhcimndmaaW.PrintLast Go.Proofs.YtaaohfhcimndmaaW.PrintMore 
set_option linter.unusedVariables false
set_option linter.unusedSimpArgs false

open Go.Proofs.Ytaaohfhcimndmaa.PAreaAnnounced
theorem ok_at {n : Nat} {es : List S46} (hg : GOk n es) {i : Nat} (hi : i < es.length) : 0 ≤ (rd_T46 es i).f0 ∧ (rd_T46 es i).f0 < n ∧ 0 ≤ (rd_T46 es i).f1 ∧ (rd_T46 es i).f1 < n ∧ 1 ≤ (rd_T46 es i).f2 ∧ (rd_T46 es i).f2 ≤ 65535 := by
  have h : rd_T46 es i = es[i] := by simp [rd_T46, List.getD_eq_getElem?_getD, hi]
  rw [h]
  exact hg.ok _ (List.getElem_mem hi)
theorem check_loop {n : Nat} {es : List S46} (hg : GOk n es) : ∀ (d k i : Nat), es.length - i = d → d < k → i ≤ es.length → short_Check.l0 k es (es.length : Int) (i : Int) (n : Int) es = some 0 := by
  intro d
  induction d with
  | zero =>
    intro k i hd hk hi
    obtain ⟨k, rfl⟩ : ∃ k', k = k' + 1 := ⟨k - 1, by omega⟩
    simp only [short_Check.l0]
    rw [if_neg (by omega)]
  | succ d ih =>
    intro k i hd hk hi
    obtain ⟨k, rfl⟩ : ∃ k', k = k' + 1 := ⟨k - 1, by omega⟩
    obtain ⟨h1, h2, h3, h4, h5, h6⟩ := ok_at hg (i := i) (by omega)
    have hl := hg.len
    simp only [short_Check.l0]
    rw [if_pos (by omega), if_pos (by omega), if_pos (by omega), if_neg (by omega), if_neg (by omega), if_neg (by omega), if_neg (by omega), if_neg (by omega), if_neg (by omega), wrap_in _ (by omega) (by omega)]
    exact ih k (i + 1) (by omega) (by omega) (by omega)
theorem check_ok {n : Nat} {es : List S46} (hg : GOk n es) : short_Check.f (es.length + 2) n es = some 0 := by
  have h1 := hg.n1
  have h2 := hg.n16
  have h3 := hg.len
  unfold short_Check.f
  rw [if_neg (by omega), decide_eq_false (show ¬ (n : Int) > 16 by omega)]
  simp only [short_Check.j0]
  rw [if_neg (by simp), if_neg (by omega)]
  exact check_loop hg es.length (es.length + 1) 0 rfl (by omega) (by omega)
theorem wrong_ok {n s : Nat} {es : List S46} (hg : GOk n es) (hs : s < n) : short_wrong.f (es.length + 2) n es s = some 0 := by
  unfold short_wrong.f
  rw [check_ok hg]
  simp only [Option.bind_some]
  rw [if_pos trivial, if_neg (by omega), if_neg (by omega)]
theorem fld84_0 (A B : Option Addr) (n m c d : Nat) (W : World) : (Instr.field 84 (.agg #[.slice A n c, .slice B m d]) 0).run Try.prog W = .ok (.slice A n c) W := by kernel_rfl
set_option maxHeartbeats 1000000 in
set_option maxRecDepth 100000 in
theorem Costs21 (n s : Nat) (es : List S46) (A : Option Addr) (c : Nat) (w : World) (hg : GOk n es) (hs : s < n) (hle : es.length ≤ c) (HK : Hid (Kd.C k46 w A es.length es)) :
    Calls Try.prog 21 #[.agg #[.int .i64 n, .slice A es.length c], .int .i64 s] w fun e w' => ∃ G cost, e = .returned (.tuple #[.slice (some ⟨G, 0, none⟩) n n, .int .i64 0]) ∧ Dist n es s cost ∧ w.heap.size ≤ G ∧ w'.heap[G]? = some (.cells (nums .i64 cost).toArray 3 (0, 0)) ∧ Below w.heap.size w w' := by
  have hu42 := Try.underlying42
  have hu84 := Try.underlying84
  have hw := Lib.hid (wrong_ok hg hs)
  have HG := Lib.hid hg
  clear hg
  go_enter Try.func21, Try.ntmps21
  go_wp2_with fail
  have HX := Lib.hid (blk_alloc w (.cells #[.int .i64 n, .slice A es.length c] 42))
  have HB := Lib.hid (below_alloc (Below.refl w.heap.size w) (.cells #[.int .i64 n, .slice A es.length c] 42))
  refine (short_wrong.calls _ n A c es s 0 _ (Kd.C_below HK.out HB.out) hle hw.out).mono ?_
  rintro e w1 ⟨rfl, hb1⟩
  have HB1 := Lib.hid (below_self HB.out (by first | exact hb1 | exact hb1.below))
  have HX1 := Lib.hid (blk_keep (by first | exact hb1 | exact hb1.below) HX.out)
  obtain ⟨x0, x1, xf⟩ := blk_cells2 HX1.out
  have hxl := blk_lt HX1.out
  clear hb1
  go_wp2_with fail
  refine (search41 n s es A c w1 HG.out hs hle (Lib.hid (Kd.C_below HK.out HB1.out))).mono ?_
  rintro e w2 ⟨G, cost, Ao, lo, co, rfl, hD, hGl, hGc, hb2⟩
  have HD := Lib.hid hD
  have HGC := Lib.hid hGc
  have HB2 := Lib.hid (below_self HB1.out hb2)
  have HGl := Lib.hid (Nat.le_trans HB1.out.size hGl)
  have hfd := fld84_0 (some ⟨G, 0, none⟩) Ao n lo n co w2
  clear hD hGc hb2 hGl x0 x1 xf hxl
  go_wp2_with fail
  go_ret2
  exact ⟨G, cost, rfl, HD.out, HGl.out, HGC.out, HB2.out⟩
/-- A row of ints that is known whole. -/
theorem row_C {w : World} {G : Nat} {xs : List Int} (h : w.heap[G]? = some (.cells (nums .i64 xs).toArray 3 (0, 0))) (hl : xs.length ≤ 1000000) : Kd.C (Kd.int .i64) w (some ⟨G, 0, none⟩) xs.length xs := by
  refine ⟨rfl, by omega, fun _ => ⟨_, rfl, fun j p hj => ⟨[.int .i64 p], rfl, rfl, fun i u hu => ?_⟩⟩⟩
  rcases i with _ | i
  · simp at hu
    subst hu
    rw [add_plain, blk_cell h]
    have e1 : (Kd.int .i64).sz = 1 := rfl
    rw [e1, Nat.mul_one, Nat.add_zero, List.getElem?_toArray]
    simp [nums, hj]
  · simp at hu
theorem row_cell {w : World} {G i : Nat} {xs : List Int} (h : w.heap[G]? = some (.cells (nums .i64 xs).toArray 3 (0, 0))) (hi : i < xs.length) : w.cell? ⟨G, i, none⟩ = some (.int .i64 (rd xs i)) := by
  rw [blk_cell h]
  simp [nums, rd, List.getD_eq_getElem?_getD, hi]
theorem eq_loop (xs ys : List Int) (hl : xs.length = ys.length) (hb : xs.length ≤ 1000000) : ∀ (d k i : Nat), xs.length - i = d → d < k → i ≤ xs.length → slices_Equal_int_int.l0 k xs ys (xs.length : Int) (i : Int) = some (decide (xs.drop i = ys.drop i)) := by
  intro d
  induction d with
  | zero =>
    intro k i hd hk hi
    obtain ⟨k, rfl⟩ : ∃ k', k = k' + 1 := ⟨k - 1, by omega⟩
    simp only [slices_Equal_int_int.l0]
    rw [if_neg (by omega), List.drop_of_length_le (by omega), List.drop_of_length_le (by omega)]
    simp
  | succ d ih =>
    intro k i hd hk hi
    obtain ⟨k, rfl⟩ : ∃ k', k = k' + 1 := ⟨k - 1, by omega⟩
    have h1 : i < xs.length := by omega
    have h2 : i < ys.length := by omega
    have e1 : rd xs (i : Int) = xs[i] := by simp [rd, List.getD_eq_getElem?_getD, h1]
    have e2 : rd ys (i : Int) = ys[i] := by simp [rd, List.getD_eq_getElem?_getD, h2]
    simp only [slices_Equal_int_int.l0]
    rw [if_pos (by omega), if_pos (by omega), if_pos (by omega), if_pos (by omega), e1, e2, wrap_in _ (by omega) (by omega)]
    by_cases h : xs[i] = ys[i]
    · rw [if_pos h]
      have := ih k (i + 1) (by omega) (by omega) (by omega)
      refine this.trans ?_
      congr 1
      refine decide_eq_decide.mpr ?_
      rw [List.drop_eq_getElem_cons h1, List.drop_eq_getElem_cons h2, h]
      constructor
      · intro h3; rw [h3]
      · intro h3; injection h3
    · rw [if_neg h]
      congr 1
      refine (decide_eq_false ?_).symm
      rw [List.drop_eq_getElem_cons h1, List.drop_eq_getElem_cons h2]
      intro h3
      injection h3 with h4 _
      exact h h4
theorem Equal29 (A B : Option Addr) (c d : Nat) (xs ys : List Int) (w : World) (hb : xs.length ≤ 1000000) (hc : xs.length ≤ c) (hd : ys.length ≤ d) (hA : Kd.C (Kd.int .i64) w A xs.length xs) (hB : Kd.C (Kd.int .i64) w B ys.length ys) :
    Calls Try.prog 29 #[.slice A xs.length c, .slice B ys.length d] w fun e w' => e = .returned (.bool (decide (xs = ys))) ∧ Drawn0 w w' := by
  refine slices_Equal_int_int.calls (xs.length + 1) A c xs B d ys _ w hA hc hB hd ?_
  unfold slices_Equal_int_int.f
  by_cases h : xs.length = ys.length
  · rw [if_pos (by omega)]
    exact eq_loop xs ys h hb xs.length (xs.length + 1) 0 rfl (by omega) (by omega)
  · rw [if_neg (by omega), decide_eq_false (fun e => h (by rw [e]))]

end Go.Proofs.Ytaaohfhcimndmaa.M
