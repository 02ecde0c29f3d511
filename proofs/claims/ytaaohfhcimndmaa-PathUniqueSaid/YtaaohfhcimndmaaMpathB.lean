/- Own lemmas: path.Check. -/
import Derived.Test.YtaaohfhcimndmaaMpathA
import Derived.Deep.QuietTactic
import Derived.BigQuiet
namespace Go.Proofs.Ytaaohfhcimndmaa.M
open Go.RowKit Go.Proofs.YtaaohfhcimndmaaW.PrintWords Go.Proofs.YtaaohfhcimndmaaW.PrintLast Go.Proofs.YtaaohfhcimndmaaW.PrintMore Go.Proofs.Ytaaohfhcimndmaa.PPathBack
set_option linter.unusedVariables false
set_option linter.unusedSimpArgs false

theorem any_range {n j : Nat} {p : Nat → Bool} (hj : j < n) (h : p j = true) : (List.range' 0 n).any p = true := by
  rw [List.any_eq_true]; exact ⟨j, by simp [hj], h⟩
theorem any_range_not {n : Nat} {p : Nat → Bool} (h : ∀ j, j < n → p j = false) : ¬ (List.range' 0 n).any p = true := by
  rw [List.any_eq_true]
  rintro ⟨j, hj, hp⟩
  have := h j (by simpa using hj)
  rw [this] at hp; cases hp

theorem ContainsFunc_is (A : Option Addr) (c : Nat) (xs : List Int) (w : World) (hn : xs.length ≤ 9223372036854775807) (hK : Hid (Kd.C (Kd.int .i64) w A xs.length xs)) {r : Bool} (hr : Hid (xs.any bey = r)) :
    Calls Try.prog 36 #[.slice A xs.length c, .func (.func 35) #[] #[]] w fun e w' => e = .returned (.bool r) ∧ w = w' := by
  rw [← hr.out]; exact ContainsFunc_any A c xs w hn hK

theorem max2_mx (k k' : IntKind) (x y : Int) : Builtin.max2 (.int k x) (.int k' y) = pure (.int k (mx x y)) := max2_int k k' x y
theorem min2_mn (k k' : IntKind) (x y : Int) : Builtin.min2 (.int k x) (.int k' y) = pure (.int k (mn x y)) := min2_int k k' x y
attribute [local go_sem] max2_mx min2_mn max_two min_two
set_option maxHeartbeats 1000000 in
set_option maxRecDepth 100000 in
theorem pCheck1 (a b pr md : Int) (ws ts : List Int) (A0 A1 : Option Addr) (c0 c1 : Nat) (w : World) (hw : ws.length ≤ 9223372036854775807) (ht : ts.length ≤ 9223372036854775807) (hc0 : ws.length ≤ c0) (hc1 : ts.length ≤ c1) (K0 : Hid (Kd.C (Kd.int .i64) w A0 ws.length ws)) (K1 : Hid (Kd.C (Kd.int .i64) w A1 ts.length ts)) (hbad : ac a b ≠ 0) :
    Calls Try.prog 14 #[.agg #[.int .u32 a, .int .i64 b, .slice A0 ws.length c0, .int .i64 pr, .int .i64 md, .slice A1 ts.length c1]] w fun e w' => e = .returned (.int .i64 (ac a b)) ∧ Below w.heap.size w w' := by
  have hu25 := Try.underlying25
  have hu27 := Try.underlying27
  have heb : (ac a b != 0) = true := bne_iff_ne.mpr hbad
  obtain ⟨er, Her⟩ : ∃ er, Hid (er = ac a b) := ⟨_, Lib.hid rfl⟩
  rw [← Her.out] at heb
  rw [← Her.out]
  have Hac0 := ac_any a b (w.alloc (.cells #[.int .u32 a, .int .i64 b, .slice A0 ws.length c0, .int .i64 pr, .int .i64 md, .slice A1 ts.length c1] 27))
  rw [← Her.out] at Hac0
  have Hac := Lib.hid Hac0
  clear Hac0
  clear hbad
  go_enter Try.func14, Try.ntmps14
  go_wp2_with fail
  have HX1_0 := Lib.hid (blk_alloc w (.cells #[.int .u32 a, .int .i64 b, .slice A0 ws.length c0, .int .i64 pr, .int .i64 md, .slice A1 ts.length c1] 27))
  have HB1 := Lib.hid ((Below.refl w.heap.size w).alloc (Nat.le_refl _) (.cells #[.int .u32 a, .int .i64 b, .slice A0 ws.length c0, .int .i64 pr, .int .i64 md, .slice A1 ts.length c1] 27))
  refine Hac.out.mono ?_
  rintro e w2 ⟨rfl, hb2⟩
  have HB2 := Lib.hid (HB1.out.trans (hb2.mono HB1.out.size))
  have HX2_0 := Lib.hid (blk_keep hb2 HX1_0.out)
  obtain ⟨p2_00, p2_01, p2_02, p2_03, p2_04, p2_05, p2_0f⟩ := blk_cells6 HX2_0.out
  clear hb2 
  go_wp2_with fail
  go_ret
  exact ⟨rfl, HB2.out⟩
set_option maxHeartbeats 1000000 in
set_option maxRecDepth 100000 in
theorem pCheck2a (a b pr md : Int) (ws ts : List Int) (A0 A1 : Option Addr) (c0 c1 : Nat) (w : World) (hw : ws.length ≤ 9223372036854775807) (ht : ts.length ≤ 9223372036854775807) (hc0 : ws.length ≤ c0) (hc1 : ts.length ≤ c1) (K0 : Hid (Kd.C (Kd.int .i64) w A0 ws.length ws)) (K1 : Hid (Kd.C (Kd.int .i64) w A1 ts.length ts)) (hok : ac a b = 0) (hl : 32 < ws.length) :
    Calls Try.prog 14 #[.agg #[.int .u32 a, .int .i64 b, .slice A0 ws.length c0, .int .i64 pr, .int .i64 md, .slice A1 ts.length c1]] w fun e w' => e = .returned (.int .i64 2) ∧ Below w.heap.size w w' := by
  have hu25 := Try.underlying25
  have hu27 := Try.underlying27
  have Hac0 := ac_any a b (w.alloc (.cells #[.int .u32 a, .int .i64 b, .slice A0 ws.length c0, .int .i64 pr, .int .i64 md, .slice A1 ts.length c1] 27))
  rw [hok] at Hac0
  have Hac := Lib.hid Hac0
  clear Hac0
  clear hok
  go_enter Try.func14, Try.ntmps14
  go_wp2_with fail
  have HX1_0 := Lib.hid (blk_alloc w (.cells #[.int .u32 a, .int .i64 b, .slice A0 ws.length c0, .int .i64 pr, .int .i64 md, .slice A1 ts.length c1] 27))
  have HB1 := Lib.hid ((Below.refl w.heap.size w).alloc (Nat.le_refl _) (.cells #[.int .u32 a, .int .i64 b, .slice A0 ws.length c0, .int .i64 pr, .int .i64 md, .slice A1 ts.length c1] 27))
  refine Hac.out.mono ?_
  rintro e w2 ⟨rfl, hb2⟩
  have HB2 := Lib.hid (HB1.out.trans (hb2.mono HB1.out.size))
  have HX2_0 := Lib.hid (blk_keep hb2 HX1_0.out)
  obtain ⟨p2_00, p2_01, p2_02, p2_03, p2_04, p2_05, p2_0f⟩ := blk_cells6 HX2_0.out
  clear hb2 
  go_wp2_with fail
  go_ret
  exact ⟨rfl, HB2.out⟩
set_option maxHeartbeats 1000000 in
set_option maxRecDepth 100000 in
theorem pCheck2b (a b pr md : Int) (ws ts : List Int) (A0 A1 : Option Addr) (c0 c1 : Nat) (w : World) (hw : ws.length ≤ 9223372036854775807) (ht : ts.length ≤ 9223372036854775807) (hc0 : ws.length ≤ c0) (hc1 : ts.length ≤ c1) (K0 : Hid (Kd.C (Kd.int .i64) w A0 ws.length ws)) (K1 : Hid (Kd.C (Kd.int .i64) w A1 ts.length ts)) (hok : ac a b = 0) (hl : ws.length ≤ 32) (hl2 : 8 < ts.length) :
    Calls Try.prog 14 #[.agg #[.int .u32 a, .int .i64 b, .slice A0 ws.length c0, .int .i64 pr, .int .i64 md, .slice A1 ts.length c1]] w fun e w' => e = .returned (.int .i64 2) ∧ Below w.heap.size w w' := by
  have hu25 := Try.underlying25
  have hu27 := Try.underlying27
  have Hac0 := ac_any a b (w.alloc (.cells #[.int .u32 a, .int .i64 b, .slice A0 ws.length c0, .int .i64 pr, .int .i64 md, .slice A1 ts.length c1] 27))
  rw [hok] at Hac0
  have Hac := Lib.hid Hac0
  clear Hac0
  clear hok
  go_enter Try.func14, Try.ntmps14
  go_wp2_with fail
  have HX1_0 := Lib.hid (blk_alloc w (.cells #[.int .u32 a, .int .i64 b, .slice A0 ws.length c0, .int .i64 pr, .int .i64 md, .slice A1 ts.length c1] 27))
  have HB1 := Lib.hid ((Below.refl w.heap.size w).alloc (Nat.le_refl _) (.cells #[.int .u32 a, .int .i64 b, .slice A0 ws.length c0, .int .i64 pr, .int .i64 md, .slice A1 ts.length c1] 27))
  refine Hac.out.mono ?_
  rintro e w2 ⟨rfl, hb2⟩
  have HB2 := Lib.hid (HB1.out.trans (hb2.mono HB1.out.size))
  have HX2_0 := Lib.hid (blk_keep hb2 HX1_0.out)
  obtain ⟨p2_00, p2_01, p2_02, p2_03, p2_04, p2_05, p2_0f⟩ := blk_cells6 HX2_0.out
  clear hb2 
  go_wp2_with fail
  go_ret
  exact ⟨rfl, HB2.out⟩
set_option maxHeartbeats 1000000 in
set_option maxRecDepth 100000 in
theorem pCheck3a (a b pr md : Int) (ws ts : List Int) (A0 A1 : Option Addr) (c0 c1 : Nat) (w : World) (hw : ws.length ≤ 9223372036854775807) (ht : ts.length ≤ 9223372036854775807) (hc0 : ws.length ≤ c0) (hc1 : ts.length ≤ c1) (K0 : Hid (Kd.C (Kd.int .i64) w A0 ws.length ws)) (K1 : Hid (Kd.C (Kd.int .i64) w A1 ts.length ts)) (hok : ac a b = 0) (hl : ws.length ≤ 32) (hl2 : ts.length ≤ 8) (Hb0 : Hid (ws.any bey = true)) :
    Calls Try.prog 14 #[.agg #[.int .u32 a, .int .i64 b, .slice A0 ws.length c0, .int .i64 pr, .int .i64 md, .slice A1 ts.length c1]] w fun e w' => e = .returned (.int .i64 10) ∧ Below w.heap.size w w' := by
  have hu25 := Try.underlying25
  have hu27 := Try.underlying27
  have Hac0 := ac_any a b (w.alloc (.cells #[.int .u32 a, .int .i64 b, .slice A0 ws.length c0, .int .i64 pr, .int .i64 md, .slice A1 ts.length c1] 27))
  rw [hok] at Hac0
  have Hac := Lib.hid Hac0
  clear Hac0
  clear hok
  go_enter Try.func14, Try.ntmps14
  go_wp2_with fail
  have HX1_0 := Lib.hid (blk_alloc w (.cells #[.int .u32 a, .int .i64 b, .slice A0 ws.length c0, .int .i64 pr, .int .i64 md, .slice A1 ts.length c1] 27))
  have HB1 := Lib.hid ((Below.refl w.heap.size w).alloc (Nat.le_refl _) (.cells #[.int .u32 a, .int .i64 b, .slice A0 ws.length c0, .int .i64 pr, .int .i64 md, .slice A1 ts.length c1] 27))
  refine Hac.out.mono ?_
  rintro e w2 ⟨rfl, hb2⟩
  have HB2 := Lib.hid (HB1.out.trans (hb2.mono HB1.out.size))
  have HX2_0 := Lib.hid (blk_keep hb2 HX1_0.out)
  obtain ⟨p2_00, p2_01, p2_02, p2_03, p2_04, p2_05, p2_0f⟩ := blk_cells6 HX2_0.out
  clear hb2 
  go_wp2_with fail
  refine (ContainsFunc_is A0 c0 ws _ (by omega) (Lib.hid (Kd.C_below K0.out HB2.out)) Hb0).mono ?_
  rintro e w' ⟨rfl, rfl⟩
  go_wp2_with fail
  go_ret
  exact ⟨rfl, HB2.out⟩
set_option maxHeartbeats 1000000 in
set_option maxRecDepth 100000 in
theorem pCheck3b (a b pr md : Int) (ws ts : List Int) (A0 A1 : Option Addr) (c0 c1 : Nat) (w : World) (hw : ws.length ≤ 9223372036854775807) (ht : ts.length ≤ 9223372036854775807) (hc0 : ws.length ≤ c0) (hc1 : ts.length ≤ c1) (K0 : Hid (Kd.C (Kd.int .i64) w A0 ws.length ws)) (K1 : Hid (Kd.C (Kd.int .i64) w A1 ts.length ts)) (hok : ac a b = 0) (hl : ws.length ≤ 32) (hl2 : ts.length ≤ 8) (Hb0 : Hid (ws.any bey = false)) (Hb1 : Hid (ts.any bey = true)) :
    Calls Try.prog 14 #[.agg #[.int .u32 a, .int .i64 b, .slice A0 ws.length c0, .int .i64 pr, .int .i64 md, .slice A1 ts.length c1]] w fun e w' => e = .returned (.int .i64 10) ∧ Below w.heap.size w w' := by
  have hu25 := Try.underlying25
  have hu27 := Try.underlying27
  have Hac0 := ac_any a b (w.alloc (.cells #[.int .u32 a, .int .i64 b, .slice A0 ws.length c0, .int .i64 pr, .int .i64 md, .slice A1 ts.length c1] 27))
  rw [hok] at Hac0
  have Hac := Lib.hid Hac0
  clear Hac0
  clear hok
  go_enter Try.func14, Try.ntmps14
  go_wp2_with fail
  have HX1_0 := Lib.hid (blk_alloc w (.cells #[.int .u32 a, .int .i64 b, .slice A0 ws.length c0, .int .i64 pr, .int .i64 md, .slice A1 ts.length c1] 27))
  have HB1 := Lib.hid ((Below.refl w.heap.size w).alloc (Nat.le_refl _) (.cells #[.int .u32 a, .int .i64 b, .slice A0 ws.length c0, .int .i64 pr, .int .i64 md, .slice A1 ts.length c1] 27))
  refine Hac.out.mono ?_
  rintro e w2 ⟨rfl, hb2⟩
  have HB2 := Lib.hid (HB1.out.trans (hb2.mono HB1.out.size))
  have HX2_0 := Lib.hid (blk_keep hb2 HX1_0.out)
  obtain ⟨p2_00, p2_01, p2_02, p2_03, p2_04, p2_05, p2_0f⟩ := blk_cells6 HX2_0.out
  clear hb2 
  go_wp2_with fail
  refine (ContainsFunc_is A0 c0 ws _ (by omega) (Lib.hid (Kd.C_below K0.out HB2.out)) Hb0).mono ?_
  rintro e w' ⟨rfl, rfl⟩
  go_wp2_with fail
  refine (ContainsFunc_is A1 c1 ts _ (by omega) (Lib.hid (Kd.C_below K1.out HB2.out)) Hb1).mono ?_
  rintro e w' ⟨rfl, rfl⟩
  go_wp2_with fail
  go_ret
  exact ⟨rfl, HB2.out⟩
set_option maxHeartbeats 1000000 in
set_option maxRecDepth 100000 in
theorem pCheck4a (a b pr md : Int) (ws ts : List Int) (A0 A1 : Option Addr) (c0 c1 : Nat) (w : World) (hw : ws.length ≤ 9223372036854775807) (ht : ts.length ≤ 9223372036854775807) (hc0 : ws.length ≤ c0) (hc1 : ts.length ≤ c1) (K0 : Hid (Kd.C (Kd.int .i64) w A0 ws.length ws)) (K1 : Hid (Kd.C (Kd.int .i64) w A1 ts.length ts)) (hok : ac a b = 0) (hl : ws.length ≤ 32) (hl2 : ts.length ≤ 8) (Hb0 : Hid (ws.any bey = false)) (Hb1 : Hid (ts.any bey = false)) (hp : mn pr md < 0) :
    Calls Try.prog 14 #[.agg #[.int .u32 a, .int .i64 b, .slice A0 ws.length c0, .int .i64 pr, .int .i64 md, .slice A1 ts.length c1]] w fun e w' => e = .returned (.int .i64 10) ∧ Below w.heap.size w w' := by
  have hu25 := Try.underlying25
  have hu27 := Try.underlying27
  have Hac0 := ac_any a b (w.alloc (.cells #[.int .u32 a, .int .i64 b, .slice A0 ws.length c0, .int .i64 pr, .int .i64 md, .slice A1 ts.length c1] 27))
  rw [hok] at Hac0
  have Hac := Lib.hid Hac0
  clear Hac0
  clear hok
  go_enter Try.func14, Try.ntmps14
  go_wp2_with fail
  have HX1_0 := Lib.hid (blk_alloc w (.cells #[.int .u32 a, .int .i64 b, .slice A0 ws.length c0, .int .i64 pr, .int .i64 md, .slice A1 ts.length c1] 27))
  have HB1 := Lib.hid ((Below.refl w.heap.size w).alloc (Nat.le_refl _) (.cells #[.int .u32 a, .int .i64 b, .slice A0 ws.length c0, .int .i64 pr, .int .i64 md, .slice A1 ts.length c1] 27))
  refine Hac.out.mono ?_
  rintro e w2 ⟨rfl, hb2⟩
  have HB2 := Lib.hid (HB1.out.trans (hb2.mono HB1.out.size))
  have HX2_0 := Lib.hid (blk_keep hb2 HX1_0.out)
  obtain ⟨p2_00, p2_01, p2_02, p2_03, p2_04, p2_05, p2_0f⟩ := blk_cells6 HX2_0.out
  clear hb2 
  go_wp2_with fail
  refine (ContainsFunc_is A0 c0 ws _ (by omega) (Lib.hid (Kd.C_below K0.out HB2.out)) Hb0).mono ?_
  rintro e w' ⟨rfl, rfl⟩
  go_wp2_with fail
  refine (ContainsFunc_is A1 c1 ts _ (by omega) (Lib.hid (Kd.C_below K1.out HB2.out)) Hb1).mono ?_
  rintro e w' ⟨rfl, rfl⟩
  go_wp2_with fail
  go_ret
  exact ⟨rfl, HB2.out⟩
set_option maxHeartbeats 1000000 in
set_option maxRecDepth 100000 in
theorem pCheck4b (a b pr md : Int) (ws ts : List Int) (A0 A1 : Option Addr) (c0 c1 : Nat) (w : World) (hw : ws.length ≤ 9223372036854775807) (ht : ts.length ≤ 9223372036854775807) (hc0 : ws.length ≤ c0) (hc1 : ts.length ≤ c1) (K0 : Hid (Kd.C (Kd.int .i64) w A0 ws.length ws)) (K1 : Hid (Kd.C (Kd.int .i64) w A1 ts.length ts)) (hok : ac a b = 0) (hl : ws.length ≤ 32) (hl2 : ts.length ≤ 8) (Hb0 : Hid (ws.any bey = false)) (Hb1 : Hid (ts.any bey = false)) (hp : ¬ mn pr md < 0) (hp2 : 1000000 < mx pr md) :
    Calls Try.prog 14 #[.agg #[.int .u32 a, .int .i64 b, .slice A0 ws.length c0, .int .i64 pr, .int .i64 md, .slice A1 ts.length c1]] w fun e w' => e = .returned (.int .i64 10) ∧ Below w.heap.size w w' := by
  have hu25 := Try.underlying25
  have hu27 := Try.underlying27
  have Hac0 := ac_any a b (w.alloc (.cells #[.int .u32 a, .int .i64 b, .slice A0 ws.length c0, .int .i64 pr, .int .i64 md, .slice A1 ts.length c1] 27))
  rw [hok] at Hac0
  have Hac := Lib.hid Hac0
  clear Hac0
  clear hok
  go_enter Try.func14, Try.ntmps14
  go_wp2_with fail
  have HX1_0 := Lib.hid (blk_alloc w (.cells #[.int .u32 a, .int .i64 b, .slice A0 ws.length c0, .int .i64 pr, .int .i64 md, .slice A1 ts.length c1] 27))
  have HB1 := Lib.hid ((Below.refl w.heap.size w).alloc (Nat.le_refl _) (.cells #[.int .u32 a, .int .i64 b, .slice A0 ws.length c0, .int .i64 pr, .int .i64 md, .slice A1 ts.length c1] 27))
  refine Hac.out.mono ?_
  rintro e w2 ⟨rfl, hb2⟩
  have HB2 := Lib.hid (HB1.out.trans (hb2.mono HB1.out.size))
  have HX2_0 := Lib.hid (blk_keep hb2 HX1_0.out)
  obtain ⟨p2_00, p2_01, p2_02, p2_03, p2_04, p2_05, p2_0f⟩ := blk_cells6 HX2_0.out
  clear hb2 
  go_wp2_with fail
  refine (ContainsFunc_is A0 c0 ws _ (by omega) (Lib.hid (Kd.C_below K0.out HB2.out)) Hb0).mono ?_
  rintro e w' ⟨rfl, rfl⟩
  go_wp2_with fail
  refine (ContainsFunc_is A1 c1 ts _ (by omega) (Lib.hid (Kd.C_below K1.out HB2.out)) Hb1).mono ?_
  rintro e w' ⟨rfl, rfl⟩
  go_wp2_with fail
  go_ret
  exact ⟨rfl, HB2.out⟩
set_option maxHeartbeats 1000000 in
set_option maxRecDepth 100000 in
theorem pCheck5 (a b pr md : Int) (ws ts : List Int) (A0 A1 : Option Addr) (c0 c1 : Nat) (w : World) (hw : ws.length ≤ 9223372036854775807) (ht : ts.length ≤ 9223372036854775807) (hc0 : ws.length ≤ c0) (hc1 : ts.length ≤ c1) (K0 : Hid (Kd.C (Kd.int .i64) w A0 ws.length ws)) (K1 : Hid (Kd.C (Kd.int .i64) w A1 ts.length ts)) (hok : ac a b = 0) (hl : ws.length ≤ 32) (hl2 : ts.length ≤ 8) (Hb0 : Hid (ws.any bey = false)) (Hb1 : Hid (ts.any bey = false)) (hp : ¬ mn pr md < 0) (hp2 : ¬ 1000000 < mx pr md) (r : Int) (Hr : Hid (r = (if (List.range' 0 (ts.length - 1)).any (disorder ts) then (3 : Int) else 0))) :
    Calls Try.prog 14 #[.agg #[.int .u32 a, .int .i64 b, .slice A0 ws.length c0, .int .i64 pr, .int .i64 md, .slice A1 ts.length c1]] w fun e w' => e = .returned (.int .i64 r) ∧ Below w.heap.size w w' := by
  have hu25 := Try.underlying25
  have hu27 := Try.underlying27
  have Hac0 := ac_any a b (w.alloc (.cells #[.int .u32 a, .int .i64 b, .slice A0 ws.length c0, .int .i64 pr, .int .i64 md, .slice A1 ts.length c1] 27))
  rw [hok] at Hac0
  have Hac := Lib.hid Hac0
  clear Hac0
  clear hok
  go_enter Try.func14, Try.ntmps14
  go_wp2_with fail
  have HX1_0 := Lib.hid (blk_alloc w (.cells #[.int .u32 a, .int .i64 b, .slice A0 ws.length c0, .int .i64 pr, .int .i64 md, .slice A1 ts.length c1] 27))
  have HB1 := Lib.hid ((Below.refl w.heap.size w).alloc (Nat.le_refl _) (.cells #[.int .u32 a, .int .i64 b, .slice A0 ws.length c0, .int .i64 pr, .int .i64 md, .slice A1 ts.length c1] 27))
  refine Hac.out.mono ?_
  rintro e w2 ⟨rfl, hb2⟩
  have HB2 := Lib.hid (HB1.out.trans (hb2.mono HB1.out.size))
  have HX2_0 := Lib.hid (blk_keep hb2 HX1_0.out)
  obtain ⟨p2_00, p2_01, p2_02, p2_03, p2_04, p2_05, p2_0f⟩ := blk_cells6 HX2_0.out
  clear hb2 
  go_wp2_with fail
  refine (ContainsFunc_is A0 c0 ws _ (by omega) (Lib.hid (Kd.C_below K0.out HB2.out)) Hb0).mono ?_
  rintro e w' ⟨rfl, rfl⟩
  go_wp2_with fail
  refine (ContainsFunc_is A1 c1 ts _ (by omega) (Lib.hid (Kd.C_below K1.out HB2.out)) Hb1).mono ?_
  rintro e w' ⟨rfl, rfl⟩
  go_wp2_with fail
  go_loopw [5] (fun i wr => ∃ k : Nat, k ≤ ts.length - 1 ∧ i = .int .i64 ((k : Int) + 1) ∧ Hid (∀ j, j < k → disorder ts j = false) ∧ Hid (Below w.heap.size w wr) ∧ Hid (wr.heap[w.heap.size]? = some (.cells #[.int .u32 a, .int .i64 b, .slice A0 ws.length c0, .int .i64 pr, .int .i64 md, .slice A1 ts.length c1] 27 (0, 0)))) (fun i _ => ts.length + 1 - (intOf i).toNat)
  case atStart => exact ⟨0, Nat.zero_le _, rfl, fun j hj => absurd hj (by omega), HB2, HX2_0⟩
  case round =>
    obtain ⟨k, hk, rfl, HN, HBr, HXr⟩ := hrel
    obtain ⟨q0, q1, q2, q3, q4, q5, qf⟩ := blk_cells6 HXr.out
    clear p2_00 p2_01 p2_02 p2_03 p2_04 p2_05 p2_0f
    by_cases hlt : k + 1 < ts.length
    · obtain ⟨ad, Hcell⟩ := C_cell (Kd.C_below K1.out HBr.out) (by omega)
      obtain ⟨rfl, hcell⟩ := Hcell
      obtain ⟨v0, Hv0⟩ : ∃ v, Hid (v = ts.getD k 0) := ⟨_, Lib.hid rfl⟩
      obtain ⟨v1, Hv1⟩ : ∃ v, Hid (v = ts.getD (k + 1) 0) := ⟨_, Lib.hid rfl⟩
      have e0 : wr.cell? (ad.add k) = some (.int .i64 v0) := by rw [Hv0.out]; exact hcell k (by omega)
      have e1 : wr.cell? (ad.add (k + 1)) = some (.int .i64 v1) := by rw [Hv1.out]; exact hcell (k + 1) hlt
      clear hcell
      have e1 : wr.cell? { block := ad.block, off := ad.off + (k + 1) } = some (.int .i64 v1) := by rw [← e1]; congr 1
      have a1 : ((k : Int) + 1).toNat = k + 1 := by omega
      have a2 : (k : Int) + 1 < (ts.length : Int) := by omega
      have a3 : (k : Int) < (ts.length : Int) := by omega
      have a4 : wrap64 (k : Int) = (k : Int) := wrap_in _ (by omega) (by omega)
      have a5 : 0 ≤ (k : Int) + 1 := by omega
      have hcmp : ts.getD k 0 ≥ ts.getD (k + 1) 0 ↔ v1 ≤ v0 := by rw [← Hv0.out, ← Hv1.out]
      by_cases hv : v1 ≤ v0
      · have HR : Hid (r = 3) := by rw [Hr.out, if_pos (any_range (j := k) (by omega) (by simp only [disorder]; rw [decide_eq_true (hcmp.2 hv)]))]; exact rfl
        clear hcmp
        go_wp2_with fail
        refine start_ (n := 12) (S := fun w' => w'.cell? ⟨w.heap.size, 5, none⟩ = some (.slice (some ad) ts.length c1) ∧ w'.cell? (ad.add k) = some (.int .i64 v0) ∧ w'.cell? { block := ad.block, off := ad.off + (k + 1) } = some (.int .i64 v1)) (ds := []) #[false, false, false, false, false, false, false, false, false, false, false, false] (by kernel_rfl) rfl rfl ⟨q5, e0, e1⟩ (fun hHeld => ?_)
        refine pure_ (i := 0) (N := some 56) (v := ?_) (a' := ?_) #[true, false, false, false, false, false, false, false, false, false, false, false] rfl rfl (by kernel_rfl) (fun _ _ _ h => h) (Or.inl ⟨by rfl, ?_⟩) ?_ ?_
        rotate_left
        · intro w'
          go_simp
          with_reducible rfl
        rotate_left
        · simp only [Act.put, List.setIfInBounds_toArray, List.set_cons_zero, List.set_cons_succ, i64_w, i32_w]
          rfl
        refine pure_ (i := 2) (N := some 58) (v := ?_) (a' := ?_) #[true, false, true, false, false, false, false, false, false, false, false, false] rfl rfl (by kernel_rfl) (fun _ _ _ h => h) (Or.inl ⟨by rfl, ?_⟩) ?_ ?_
        rotate_left
        · intro w'
          go_simp
          with_reducible rfl
        rotate_left
        · simp only [Act.put, List.setIfInBounds_toArray, List.set_cons_zero, List.set_cons_succ, i64_w, i32_w]
          rfl
        refine pure_ (i := 3) (N := some 59) (v := ?_) (a' := ?_) #[true, false, true, true, false, false, false, false, false, false, false, false] rfl rfl (by kernel_rfl) (fun _ _ _ h => h) (Or.inl ⟨by rfl, ?_⟩) ?_ ?_
        rotate_left
        · intro w'
          go_simp
          with_reducible rfl
        rotate_left
        · simp only [Act.put, List.setIfInBounds_toArray, List.set_cons_zero, List.set_cons_succ, i64_w, i32_w]
          rfl
        refine pure_ (i := 6) (N := some 62) (v := ?_) (a' := ?_) #[true, false, true, true, false, false, true, false, false, false, false, false] rfl rfl (by kernel_rfl) (fun _ _ _ h => h) (Or.inl ⟨by rfl, ?_⟩) ?_ ?_
        rotate_left
        · intro w'
          go_simp
          with_reducible rfl
        rotate_left
        · simp only [Act.put, List.setIfInBounds_toArray, List.set_cons_zero, List.set_cons_succ, i64_w, i32_w]
          rfl
        refine pure_ (i := 8) (N := some 64) (v := ?_) (a' := ?_) #[true, false, true, true, false, false, true, false, true, false, false, false] rfl rfl (by kernel_rfl) (fun _ _ _ h => h) (Or.inl ⟨by rfl, ?_⟩) ?_ ?_
        rotate_left
        · intro w'
          go_simp
          with_reducible rfl
        rotate_left
        · simp only [Act.put, List.setIfInBounds_toArray, List.set_cons_zero, List.set_cons_succ, i64_w, i32_w]
          rfl
        refine take_ (i := 1) (N := some 57) (v := ?_) (a' := ?_) #[true, true, true, true, false, false, true, false, true, false, false, false] rfl rfl (by kernel_rfl) (fun _ _ _ h => h) (Or.inl ⟨by rfl, ?_⟩) hHeld ?_ ?_
        rotate_left
        · rintro w' ⟨s0, s1, s2⟩
          go_simp
          with_reducible rfl
        rotate_left
        · simp only [Act.put, List.setIfInBounds_toArray, List.set_cons_zero, List.set_cons_succ, i64_w, i32_w]
          rfl
        refine pure_ (i := 4) (N := some 60) (v := ?_) (a' := ?_) #[true, true, true, true, true, false, true, false, true, false, false, false] rfl rfl (by kernel_rfl) (fun _ _ _ h => h) (Or.inl ⟨by rfl, ?_⟩) ?_ ?_
        rotate_left
        · intro w'
          go_simp
          with_reducible rfl
        rotate_left
        · simp only [Act.put, List.setIfInBounds_toArray, List.set_cons_zero, List.set_cons_succ, i64_w, i32_w]
          rfl
        refine take_ (i := 5) (N := some 61) (v := ?_) (a' := ?_) #[true, true, true, true, true, true, true, false, true, false, false, false] rfl rfl (by kernel_rfl) (fun _ _ _ h => h) (Or.inl ⟨by rfl, ?_⟩) hHeld ?_ ?_
        rotate_left
        · rintro w' ⟨s0, s1, s2⟩
          go_simp
          with_reducible rfl
        rotate_left
        · simp only [Act.put, List.setIfInBounds_toArray, List.set_cons_zero, List.set_cons_succ, i64_w, i32_w]
          rfl
        refine take_ (i := 7) (N := some 63) (v := ?_) (a' := ?_) #[true, true, true, true, true, true, true, true, true, false, false, false] rfl rfl (by kernel_rfl) (fun _ _ _ h => h) (Or.inl ⟨by rfl, ?_⟩) hHeld ?_ ?_
        rotate_left
        · rintro w' ⟨s0, s1, s2⟩
          go_simp
          with_reducible rfl
        rotate_left
        · simp only [Act.put, List.setIfInBounds_toArray, List.set_cons_zero, List.set_cons_succ, i64_w, i32_w]
          rfl
        refine pure_ (i := 9) (N := some 65) (v := ?_) (a' := ?_) #[true, true, true, true, true, true, true, true, true, true, false, false] rfl rfl (by kernel_rfl) (fun _ _ _ h => h) (Or.inl ⟨by rfl, ?_⟩) ?_ ?_
        rotate_left
        · intro w'
          go_simp
          with_reducible rfl
        rotate_left
        · simp only [Act.put, List.setIfInBounds_toArray, List.set_cons_zero, List.set_cons_succ, i64_w, i32_w]
          rfl
        refine take_ (i := 10) (N := some 66) (v := ?_) (a' := ?_) #[true, true, true, true, true, true, true, true, true, true, true, false] rfl rfl (by kernel_rfl) (fun _ _ _ h => h) (Or.inl ⟨by rfl, ?_⟩) hHeld ?_ ?_
        rotate_left
        · rintro w' ⟨s0, s1, s2⟩
          go_simp
          with_reducible rfl
        rotate_left
        · simp only [Act.put, List.setIfInBounds_toArray, List.set_cons_zero, List.set_cons_succ, i64_w, i32_w]
          rfl
        refine pure_ (i := 11) (N := some 67) (v := ?_) (a' := ?_) #[true, true, true, true, true, true, true, true, true, true, true, true] rfl rfl (by kernel_rfl) (fun _ _ _ h => h) (Or.inl ⟨by rfl, ?_⟩) ?_ ?_
        rotate_left
        · intro w'
          go_simp
          with_reducible rfl
        rotate_left
        · simp only [Act.put, List.setIfInBounds_toArray, List.set_cons_zero, List.set_cons_succ, i64_w, i32_w]
          rfl
        refine done_ (by kernel_rfl) ?_
        go_wp2_with fail
        go_ret
        exact ⟨by rw [HR.out]; rfl, HBr.out.drew⟩
      · have HD : Hid (disorder ts k = false) := by simp only [disorder]; exact decide_eq_false (fun h => hv (hcmp.1 h))
        clear hcmp
        go_wp2_with fail
        refine start_ (n := 12) (S := fun w' => w'.cell? ⟨w.heap.size, 5, none⟩ = some (.slice (some ad) ts.length c1) ∧ w'.cell? (ad.add k) = some (.int .i64 v0) ∧ w'.cell? { block := ad.block, off := ad.off + (k + 1) } = some (.int .i64 v1)) (ds := []) #[false, false, false, false, false, false, false, false, false, false, false, false] (by kernel_rfl) rfl rfl ⟨q5, e0, e1⟩ (fun hHeld => ?_)
        refine pure_ (i := 0) (N := some 56) (v := ?_) (a' := ?_) #[true, false, false, false, false, false, false, false, false, false, false, false] rfl rfl (by kernel_rfl) (fun _ _ _ h => h) (Or.inl ⟨by rfl, ?_⟩) ?_ ?_
        rotate_left
        · intro w'
          go_simp
          with_reducible rfl
        rotate_left
        · simp only [Act.put, List.setIfInBounds_toArray, List.set_cons_zero, List.set_cons_succ, i64_w, i32_w]
          rfl
        refine pure_ (i := 2) (N := some 58) (v := ?_) (a' := ?_) #[true, false, true, false, false, false, false, false, false, false, false, false] rfl rfl (by kernel_rfl) (fun _ _ _ h => h) (Or.inl ⟨by rfl, ?_⟩) ?_ ?_
        rotate_left
        · intro w'
          go_simp
          with_reducible rfl
        rotate_left
        · simp only [Act.put, List.setIfInBounds_toArray, List.set_cons_zero, List.set_cons_succ, i64_w, i32_w]
          rfl
        refine pure_ (i := 3) (N := some 59) (v := ?_) (a' := ?_) #[true, false, true, true, false, false, false, false, false, false, false, false] rfl rfl (by kernel_rfl) (fun _ _ _ h => h) (Or.inl ⟨by rfl, ?_⟩) ?_ ?_
        rotate_left
        · intro w'
          go_simp
          with_reducible rfl
        rotate_left
        · simp only [Act.put, List.setIfInBounds_toArray, List.set_cons_zero, List.set_cons_succ, i64_w, i32_w]
          rfl
        refine pure_ (i := 6) (N := some 62) (v := ?_) (a' := ?_) #[true, false, true, true, false, false, true, false, false, false, false, false] rfl rfl (by kernel_rfl) (fun _ _ _ h => h) (Or.inl ⟨by rfl, ?_⟩) ?_ ?_
        rotate_left
        · intro w'
          go_simp
          with_reducible rfl
        rotate_left
        · simp only [Act.put, List.setIfInBounds_toArray, List.set_cons_zero, List.set_cons_succ, i64_w, i32_w]
          rfl
        refine pure_ (i := 8) (N := some 64) (v := ?_) (a' := ?_) #[true, false, true, true, false, false, true, false, true, false, false, false] rfl rfl (by kernel_rfl) (fun _ _ _ h => h) (Or.inl ⟨by rfl, ?_⟩) ?_ ?_
        rotate_left
        · intro w'
          go_simp
          with_reducible rfl
        rotate_left
        · simp only [Act.put, List.setIfInBounds_toArray, List.set_cons_zero, List.set_cons_succ, i64_w, i32_w]
          rfl
        refine take_ (i := 1) (N := some 57) (v := ?_) (a' := ?_) #[true, true, true, true, false, false, true, false, true, false, false, false] rfl rfl (by kernel_rfl) (fun _ _ _ h => h) (Or.inl ⟨by rfl, ?_⟩) hHeld ?_ ?_
        rotate_left
        · rintro w' ⟨s0, s1, s2⟩
          go_simp
          with_reducible rfl
        rotate_left
        · simp only [Act.put, List.setIfInBounds_toArray, List.set_cons_zero, List.set_cons_succ, i64_w, i32_w]
          rfl
        refine pure_ (i := 4) (N := some 60) (v := ?_) (a' := ?_) #[true, true, true, true, true, false, true, false, true, false, false, false] rfl rfl (by kernel_rfl) (fun _ _ _ h => h) (Or.inl ⟨by rfl, ?_⟩) ?_ ?_
        rotate_left
        · intro w'
          go_simp
          with_reducible rfl
        rotate_left
        · simp only [Act.put, List.setIfInBounds_toArray, List.set_cons_zero, List.set_cons_succ, i64_w, i32_w]
          rfl
        refine take_ (i := 5) (N := some 61) (v := ?_) (a' := ?_) #[true, true, true, true, true, true, true, false, true, false, false, false] rfl rfl (by kernel_rfl) (fun _ _ _ h => h) (Or.inl ⟨by rfl, ?_⟩) hHeld ?_ ?_
        rotate_left
        · rintro w' ⟨s0, s1, s2⟩
          go_simp
          with_reducible rfl
        rotate_left
        · simp only [Act.put, List.setIfInBounds_toArray, List.set_cons_zero, List.set_cons_succ, i64_w, i32_w]
          rfl
        refine take_ (i := 7) (N := some 63) (v := ?_) (a' := ?_) #[true, true, true, true, true, true, true, true, true, false, false, false] rfl rfl (by kernel_rfl) (fun _ _ _ h => h) (Or.inl ⟨by rfl, ?_⟩) hHeld ?_ ?_
        rotate_left
        · rintro w' ⟨s0, s1, s2⟩
          go_simp
          with_reducible rfl
        rotate_left
        · simp only [Act.put, List.setIfInBounds_toArray, List.set_cons_zero, List.set_cons_succ, i64_w, i32_w]
          rfl
        refine pure_ (i := 9) (N := some 65) (v := ?_) (a' := ?_) #[true, true, true, true, true, true, true, true, true, true, false, false] rfl rfl (by kernel_rfl) (fun _ _ _ h => h) (Or.inl ⟨by rfl, ?_⟩) ?_ ?_
        rotate_left
        · intro w'
          go_simp
          with_reducible rfl
        rotate_left
        · simp only [Act.put, List.setIfInBounds_toArray, List.set_cons_zero, List.set_cons_succ, i64_w, i32_w]
          rfl
        refine take_ (i := 10) (N := some 66) (v := ?_) (a' := ?_) #[true, true, true, true, true, true, true, true, true, true, true, false] rfl rfl (by kernel_rfl) (fun _ _ _ h => h) (Or.inl ⟨by rfl, ?_⟩) hHeld ?_ ?_
        rotate_left
        · rintro w' ⟨s0, s1, s2⟩
          go_simp
          with_reducible rfl
        rotate_left
        · simp only [Act.put, List.setIfInBounds_toArray, List.set_cons_zero, List.set_cons_succ, i64_w, i32_w]
          rfl
        refine pure_ (i := 11) (N := some 67) (v := ?_) (a' := ?_) #[true, true, true, true, true, true, true, true, true, true, true, true] rfl rfl (by kernel_rfl) (fun _ _ _ h => h) (Or.inl ⟨by rfl, ?_⟩) ?_ ?_
        rotate_left
        · intro w'
          go_simp
          with_reducible rfl
        rotate_left
        · simp only [Act.put, List.setIfInBounds_toArray, List.set_cons_zero, List.set_cons_succ, i64_w, i32_w]
          rfl
        refine done_ (by kernel_rfl) ?_
        go_wp2_with fail
        go_roundw
        case rel => exact ⟨k + 1, by omega, by go_num, fun j hj => by
          by_cases e : j = k
          · subst e; exact HD.out
          · exact HN.out j (by omega), HBr.out.drew, HXr.out⟩
        case measure => simp [intOf]; omega
    · have HR : Hid (r = 0) := by
        rw [Hr.out, if_neg]
        · exact rfl
        · exact any_range_not (fun j hj => HN.out j (by omega))
      go_wp2_with fail
      go_ret
      exact ⟨by rw [HR.out]; rfl, HBr.out⟩

theorem pCheck_any (a b pr md : Int) (ws ts : List Int) (A0 A1 : Option Addr) (c0 c1 : Nat) (w : World) (hw : ws.length ≤ 9223372036854775807) (ht : ts.length ≤ 9223372036854775807) (hc0 : ws.length ≤ c0) (hc1 : ts.length ≤ c1) (K0 : Hid (Kd.C (Kd.int .i64) w A0 ws.length ws)) (K1 : Hid (Kd.C (Kd.int .i64) w A1 ts.length ts)) :
    Calls Try.prog 14 #[.agg #[.int .u32 a, .int .i64 b, .slice A0 ws.length c0, .int .i64 pr, .int .i64 md, .slice A1 ts.length c1]] w fun e w' => e = .returned (.int .i64 (pchk a b ws pr md ts)) ∧ Below w.heap.size w w' := by
  unfold pchk
  by_cases h1 : ac a b = 0
  · rw [if_neg (not_not_intro h1)]
    by_cases h2 : 32 < ws.length
    · rw [if_pos (.inl h2)]
      exact pCheck2a a b pr md ws ts A0 A1 c0 c1 w hw ht hc0 hc1 K0 K1 h1 h2
    by_cases h3 : 8 < ts.length
    · rw [if_pos (.inr h3)]
      exact pCheck2b a b pr md ws ts A0 A1 c0 c1 w hw ht hc0 hc1 K0 K1 h1 (by omega) h3
    rw [if_neg (by omega)]
    have h2 : ws.length ≤ 32 := by omega
    have h3 : ts.length ≤ 8 := by omega
    by_cases h4 : ws.any bey = true
    · rw [if_pos (.inl h4)]
      exact pCheck3a a b pr md ws ts A0 A1 c0 c1 w hw ht hc0 hc1 K0 K1 h1 h2 h3 h4
    by_cases h5 : ts.any bey = true
    · rw [if_pos (.inr h5)]
      exact pCheck3b a b pr md ws ts A0 A1 c0 c1 w hw ht hc0 hc1 K0 K1 h1 h2 h3 (Bool.not_eq_true _ ▸ h4) h5
    rw [if_neg (fun h => h.elim h4 h5)]
    have h4 : Hid (ws.any bey = false) := Bool.not_eq_true _ ▸ h4
    have h5 : Hid (ts.any bey = false) := Bool.not_eq_true _ ▸ h5
    by_cases h6 : mn pr md < 0
    · rw [if_pos (.inl h6)]
      exact pCheck4a a b pr md ws ts A0 A1 c0 c1 w hw ht hc0 hc1 K0 K1 h1 h2 h3 h4 h5 h6
    by_cases h7 : 1000000 < mx pr md
    · rw [if_pos (.inr h7)]
      exact pCheck4b a b pr md ws ts A0 A1 c0 c1 w hw ht hc0 hc1 K0 K1 h1 h2 h3 h4 h5 h6 h7
    rw [if_neg (fun h => h.elim h6 h7)]
    exact pCheck5 a b pr md ws ts A0 A1 c0 c1 w hw ht hc0 hc1 K0 K1 h1 h2 h3 h4 h5 h6 h7 _ (Lib.hid rfl)
  · rw [if_pos h1]
    exact pCheck1 a b pr md ws ts A0 A1 c0 c1 w hw ht hc0 hc1 K0 K1 h1

/-- A valid route. -/
structure PValid (a b : Int) (ws : List Int) (pr md : Int) (ts : List Int) : Prop where
  bits0 : 0 ≤ b
  bits1 : b ≤ 32
  wlen : ws.length ≤ 32
  tlen : ts.length ≤ 8
  way : ∀ n ∈ ws, 1 ≤ n ∧ n ≤ 65535
  tag : ∀ n ∈ ts, 1 ≤ n ∧ n ≤ 65535
  pr0 : 0 ≤ pr
  pr1 : pr ≤ 1000000
  md0 : 0 ≤ md
  md1 : md ≤ 1000000
theorem any_bey {l : List Int} (h : ¬ l.any bey = true) : ∀ n ∈ l, 1 ≤ n ∧ n ≤ 65535 := by
  intro n hn
  rw [List.any_eq_true] at h
  have : bey n = false := by
    cases hb : bey n with
    | false => rfl
    | true => exact absurd ⟨n, hn, hb⟩ h
  simp [bey] at this
  omega
theorem pchk_zero {a b : Int} {ws : List Int} {pr md : Int} {ts : List Int} (h : pchk a b ws pr md ts = 0) : PValid a b ws pr md ts := by
  unfold pchk at h
  by_cases h1 : ac a b = 0
  · rw [if_neg (not_not_intro h1)] at h
    split at h
    · cases h
    split at h
    · cases h
    split at h
    · cases h
    rename_i h2 h3 h4
    have hz := ac_zero h1
    have hmn : mn pr md ≤ pr ∧ mn pr md ≤ md := by unfold mn; split <;> omega
    have hmx : pr ≤ mx pr md ∧ md ≤ mx pr md := by unfold mx; split <;> omega
    exact ⟨hz.1, hz.2, by omega, by omega, any_bey (fun h => h3 (.inl h)), any_bey (fun h => h3 (.inr h)), by omega, by omega, by omega, by omega⟩
  · rw [if_pos h1] at h
    exact absurd h h1

end Go.Proofs.Ytaaohfhcimndmaa.M
