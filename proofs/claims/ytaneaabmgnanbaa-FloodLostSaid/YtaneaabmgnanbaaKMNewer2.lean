import Derived.Test.YtaneaabmgnanbaaKMnewer
namespace Go.Proofs.Ytaneaabmgnanbaa.M
open Go.RowKit Go.Proofs.YtaneaabmgnanbaaW.PrintWords Go.Proofs.YtaneaabmgnanbaaW.PrintLast Go.Proofs.YtaneaabmgnanbaaW.PrintMore Go.Proofs.Ytaneaabmgnanbaa.PAdvBack
set_option linter.unusedVariables false
set_option linter.unusedSimpArgs false
set_option maxHeartbeats 1000000 in
set_option maxRecDepth 100000 in
theorem Newer_bad1 (a b : S24) (A B : Option Addr) (ca cb : Nat) (w : World) (hca : a.f3.length ≤ ca) (hcb : b.f3.length ≤ cb) (hKa : Hid (Kd.C k28 w A a.f3.length a.f3)) (hKb : Hid (Kd.C k28 w B b.f3.length b.f3)) (hbad : chk a.f0 a.f1 a.f2 a.f3 ≠ 0) :
 Calls Try.prog 20 #[.agg #[.int .i64 a.f0, .int .i64 a.f1, .int .i64 a.f2, .slice A a.f3.length ca], .agg #[.int .i64 b.f0, .int .i64 b.f1, .int .i64 b.f2, .slice B b.f3.length cb]] w
  fun e w' => e = .returned (.tuple #[.int .i64 0, .int .i64 (chk a.f0 a.f1 a.f2 a.f3)]) ∧ Below w.heap.size w w' := by
 have hu24 := Try.underlying24
 obtain ⟨k1, hch⟩ := Check_ends a.f0 a.f1 a.f2 a.f3
 obtain ⟨er, Her⟩ : ∃ er, Hid (er = chk a.f0 a.f1 a.f2 a.f3) := ⟨_, Lib.hid rfl⟩
 rw [← Her.out] at hch hbad
 rw [← Her.out]
 have Hch1 := Lib.hid hch
 have heb : (er == 0) = false := beq_eq_false_iff_ne.mpr hbad
 have heb2 : (er != 0) = true := bne_iff_ne.mpr hbad
 clear hch hbad
 go_enter Try.func20, Try.ntmps20
 go_wp2_with fail
 have HX1_0 := Lib.hid (show (((w.alloc (.cells #[.int .i64 a.f0, .int .i64 a.f1, .int .i64 a.f2, .slice A a.f3.length ca] 24)).alloc (.cells #[.int .i64 b.f0, .int .i64 b.f1, .int .i64 b.f2, .slice B b.f3.length cb] 24)).heap[w.heap.size]? = _) from blk_keep ((Below.refl _ _).alloc (Nat.le_refl _) _) (blk_alloc w _))
 have HX1_1 := Lib.hid (blk_alloc_at (w.alloc (.cells #[.int .i64 a.f0, .int .i64 a.f1, .int .i64 a.f2, .slice A a.f3.length ca] 24)) (.cells #[.int .i64 b.f0, .int .i64 b.f1, .int .i64 b.f2, .slice B b.f3.length cb] 24) (n := w.heap.size + 1) (by simp))
 have HB1 := Lib.hid (((Below.refl w.heap.size w).alloc (Nat.le_refl _) (.cells #[.int .i64 a.f0, .int .i64 a.f1, .int .i64 a.f2, .slice A a.f3.length ca] 24)).alloc (by simp) (.cells #[.int .i64 b.f0, .int .i64 b.f1, .int .i64 b.f2, .slice B b.f3.length cb] 24))
 refine (adv_Check.calls k1 a.f0 a.f1 a.f2 A ca a.f3 er _ (Kd.C_below hKa.out HB1.out) hca Hch1.out).mono ?_
 rintro e w2 ⟨rfl, hb2⟩
 have HB2 := Lib.hid (HB1.out.trans (hb2.mono HB1.out.size))
 have HX2_0 := Lib.hid (blk_keep hb2 HX1_0.out)
 have HX2_1 := Lib.hid (blk_keep hb2 HX1_1.out)
 obtain ⟨p2_00, p2_01, p2_02, p2_03, p2_0f⟩ := blk_cells4 HX2_0.out
 obtain ⟨p2_10, p2_11, p2_12, p2_13, p2_1f⟩ := blk_cells4 HX2_1.out
 clear hb2
 go_wp2_with fail
 go_ret2
 exact ⟨rfl, HB2.out⟩
set_option maxHeartbeats 1000000 in
set_option maxRecDepth 100000 in
theorem Newer_bad2 (a b : S24) (A B : Option Addr) (ca cb : Nat) (w : World) (hca : a.f3.length ≤ ca) (hcb : b.f3.length ≤ cb) (hKa : Hid (Kd.C k28 w A a.f3.length a.f3)) (hKb : Hid (Kd.C k28 w B b.f3.length b.f3)) (hva : chk a.f0 a.f1 a.f2 a.f3 = 0) (hbad : chk b.f0 b.f1 b.f2 b.f3 ≠ 0) :
 Calls Try.prog 20 #[.agg #[.int .i64 a.f0, .int .i64 a.f1, .int .i64 a.f2, .slice A a.f3.length ca], .agg #[.int .i64 b.f0, .int .i64 b.f1, .int .i64 b.f2, .slice B b.f3.length cb]] w
  fun e w' => e = .returned (.tuple #[.int .i64 0, .int .i64 (chk b.f0 b.f1 b.f2 b.f3)]) ∧ Below w.heap.size w w' := by
 have hu24 := Try.underlying24
 obtain ⟨k1, hch⟩ := Check_ends a.f0 a.f1 a.f2 a.f3
 rw [hva] at hch
 have Hch1 := Lib.hid hch
 clear hch
 obtain ⟨k2, hch⟩ := Check_ends b.f0 b.f1 b.f2 b.f3
 obtain ⟨er, Her⟩ : ∃ er, Hid (er = chk b.f0 b.f1 b.f2 b.f3) := ⟨_, Lib.hid rfl⟩
 rw [← Her.out] at hch hbad
 rw [← Her.out]
 have Hch2 := Lib.hid hch
 have heb : (er == 0) = false := beq_eq_false_iff_ne.mpr hbad
 have heb2 : (er != 0) = true := bne_iff_ne.mpr hbad
 clear hch hbad hva
 go_enter Try.func20, Try.ntmps20
 go_wp2_with fail
 have HX1_0 := Lib.hid (show (((w.alloc (.cells #[.int .i64 a.f0, .int .i64 a.f1, .int .i64 a.f2, .slice A a.f3.length ca] 24)).alloc (.cells #[.int .i64 b.f0, .int .i64 b.f1, .int .i64 b.f2, .slice B b.f3.length cb] 24)).heap[w.heap.size]? = _) from blk_keep ((Below.refl _ _).alloc (Nat.le_refl _) _) (blk_alloc w _))
 have HX1_1 := Lib.hid (blk_alloc_at (w.alloc (.cells #[.int .i64 a.f0, .int .i64 a.f1, .int .i64 a.f2, .slice A a.f3.length ca] 24)) (.cells #[.int .i64 b.f0, .int .i64 b.f1, .int .i64 b.f2, .slice B b.f3.length cb] 24) (n := w.heap.size + 1) (by simp))
 have HB1 := Lib.hid (((Below.refl w.heap.size w).alloc (Nat.le_refl _) (.cells #[.int .i64 a.f0, .int .i64 a.f1, .int .i64 a.f2, .slice A a.f3.length ca] 24)).alloc (by simp) (.cells #[.int .i64 b.f0, .int .i64 b.f1, .int .i64 b.f2, .slice B b.f3.length cb] 24))
 refine (adv_Check.calls k1 a.f0 a.f1 a.f2 A ca a.f3 0 _ (Kd.C_below hKa.out HB1.out) hca Hch1.out).mono ?_
 rintro e w2 ⟨rfl, hb2⟩
 have HB2 := Lib.hid (HB1.out.trans (hb2.mono HB1.out.size))
 have HX2_0 := Lib.hid (blk_keep hb2 HX1_0.out)
 have HX2_1 := Lib.hid (blk_keep hb2 HX1_1.out)
 obtain ⟨p2_00, p2_01, p2_02, p2_03, p2_0f⟩ := blk_cells4 HX2_0.out
 obtain ⟨p2_10, p2_11, p2_12, p2_13, p2_1f⟩ := blk_cells4 HX2_1.out
 clear hb2
 go_wp2_with fail
 refine (adv_Check.calls k2 b.f0 b.f1 b.f2 B cb b.f3 er _ (Kd.C_below hKb.out HB2.out) hcb Hch2.out).mono ?_
 rintro e w3 ⟨rfl, hb3⟩
 have HB3 := Lib.hid (HB2.out.trans (hb3.mono HB2.out.size))
 have HX3_0 := Lib.hid (blk_keep hb3 HX2_0.out)
 have HX3_1 := Lib.hid (blk_keep hb3 HX2_1.out)
 clear p2_00 p2_01 p2_02 p2_03 p2_0f p2_10 p2_11 p2_12 p2_13 p2_1f
 obtain ⟨p3_00, p3_01, p3_02, p3_03, p3_0f⟩ := blk_cells4 HX3_0.out
 obtain ⟨p3_10, p3_11, p3_12, p3_13, p3_1f⟩ := blk_cells4 HX3_1.out
 clear hb3
 go_wp2_with fail
 go_ret2
 exact ⟨rfl, HB3.out⟩
set_option maxHeartbeats 1000000 in
set_option maxRecDepth 100000 in
theorem Newer_other (a b : S24) (A B : Option Addr) (ca cb : Nat) (w : World) (hca : a.f3.length ≤ ca) (hcb : b.f3.length ≤ cb) (hKa : Hid (Kd.C k28 w A a.f3.length a.f3)) (hKb : Hid (Kd.C k28 w B b.f3.length b.f3)) (hva : chk a.f0 a.f1 a.f2 a.f3 = 0) (hvb : chk b.f0 b.f1 b.f2 b.f3 = 0) (hid : a.f0 ≠ b.f0) :
 Calls Try.prog 20 #[.agg #[.int .i64 a.f0, .int .i64 a.f1, .int .i64 a.f2, .slice A a.f3.length ca], .agg #[.int .i64 b.f0, .int .i64 b.f1, .int .i64 b.f2, .slice B b.f3.length cb]] w
  fun e w' => e = .returned (.tuple #[.int .i64 0, .int .i64 1]) ∧ Below w.heap.size w w' := by
 have hu24 := Try.underlying24
 obtain ⟨k1, hch⟩ := Check_ends a.f0 a.f1 a.f2 a.f3
 rw [hva] at hch
 have Hch1 := Lib.hid hch
 clear hch
 obtain ⟨k2, hch⟩ := Check_ends b.f0 b.f1 b.f2 b.f3
 rw [hvb] at hch
 have Hch2 := Lib.hid hch
 clear hch
 have hidb : (a.f0 != b.f0) = true := bne_iff_ne.mpr hid
 clear hva hvb hid
 go_enter Try.func20, Try.ntmps20
 go_wp2_with fail
 have HX1_0 := Lib.hid (show (((w.alloc (.cells #[.int .i64 a.f0, .int .i64 a.f1, .int .i64 a.f2, .slice A a.f3.length ca] 24)).alloc (.cells #[.int .i64 b.f0, .int .i64 b.f1, .int .i64 b.f2, .slice B b.f3.length cb] 24)).heap[w.heap.size]? = _) from blk_keep ((Below.refl _ _).alloc (Nat.le_refl _) _) (blk_alloc w _))
 have HX1_1 := Lib.hid (blk_alloc_at (w.alloc (.cells #[.int .i64 a.f0, .int .i64 a.f1, .int .i64 a.f2, .slice A a.f3.length ca] 24)) (.cells #[.int .i64 b.f0, .int .i64 b.f1, .int .i64 b.f2, .slice B b.f3.length cb] 24) (n := w.heap.size + 1) (by simp))
 have HB1 := Lib.hid (((Below.refl w.heap.size w).alloc (Nat.le_refl _) (.cells #[.int .i64 a.f0, .int .i64 a.f1, .int .i64 a.f2, .slice A a.f3.length ca] 24)).alloc (by simp) (.cells #[.int .i64 b.f0, .int .i64 b.f1, .int .i64 b.f2, .slice B b.f3.length cb] 24))
 refine (adv_Check.calls k1 a.f0 a.f1 a.f2 A ca a.f3 0 _ (Kd.C_below hKa.out HB1.out) hca Hch1.out).mono ?_
 rintro e w2 ⟨rfl, hb2⟩
 have HB2 := Lib.hid (HB1.out.trans (hb2.mono HB1.out.size))
 have HX2_0 := Lib.hid (blk_keep hb2 HX1_0.out)
 have HX2_1 := Lib.hid (blk_keep hb2 HX1_1.out)
 obtain ⟨p2_00, p2_01, p2_02, p2_03, p2_0f⟩ := blk_cells4 HX2_0.out
 obtain ⟨p2_10, p2_11, p2_12, p2_13, p2_1f⟩ := blk_cells4 HX2_1.out
 clear hb2
 go_wp2_with fail
 refine (adv_Check.calls k2 b.f0 b.f1 b.f2 B cb b.f3 0 _ (Kd.C_below hKb.out HB2.out) hcb Hch2.out).mono ?_
 rintro e w3 ⟨rfl, hb3⟩
 have HB3 := Lib.hid (HB2.out.trans (hb3.mono HB2.out.size))
 have HX3_0 := Lib.hid (blk_keep hb3 HX2_0.out)
 have HX3_1 := Lib.hid (blk_keep hb3 HX2_1.out)
 clear p2_00 p2_01 p2_02 p2_03 p2_0f p2_10 p2_11 p2_12 p2_13 p2_1f
 obtain ⟨p3_00, p3_01, p3_02, p3_03, p3_0f⟩ := blk_cells4 HX3_0.out
 obtain ⟨p3_10, p3_11, p3_12, p3_13, p3_1f⟩ := blk_cells4 HX3_1.out
 clear hb3
 go_wp2_with fail
 go_ret2
 exact ⟨rfl, HB3.out⟩
set_option maxHeartbeats 1000000 in
set_option maxRecDepth 100000 in
theorem Newer_good (a b : S24) (A B : Option Addr) (ca cb : Nat) (w : World) (hca : a.f3.length ≤ ca) (hcb : b.f3.length ≤ cb) (hKa : Hid (Kd.C k28 w A a.f3.length a.f3)) (hKb : Hid (Kd.C k28 w B b.f3.length b.f3)) (hva : chk a.f0 a.f1 a.f2 a.f3 = 0) (hvb : chk b.f0 b.f1 b.f2 b.f3 = 0) (hid : a.f0 = b.f0) :
 Calls Try.prog 20 #[.agg #[.int .i64 a.f0, .int .i64 a.f1, .int .i64 a.f2, .slice A a.f3.length ca], .agg #[.int .i64 b.f0, .int .i64 b.f1, .int .i64 b.f2, .slice B b.f3.length cb]] w
  fun e w' => e = .returned (.tuple #[.int .i64 (newerP a b), .int .i64 0]) ∧ Below w.heap.size w w' := by
 have hu24 := Try.underlying24
 obtain ⟨k1, hch⟩ := Check_ends a.f0 a.f1 a.f2 a.f3
 rw [hva] at hch
 have Hch1 := Lib.hid hch
 clear hch
 obtain ⟨k2, hch⟩ := Check_ends b.f0 b.f1 b.f2 b.f3
 rw [hvb] at hch
 have Hch2 := Lib.hid hch
 clear hch
 have hidb : (a.f0 != b.f0) = false := bne_eq_false_iff_eq.mpr hid
 have hla := (chk_zero hva).len
 have hlb := (chk_zero hvb).len
 clear hva hvb hid
 go_enter Try.func20, Try.ntmps20
 go_wp2_with fail
 have HX1_0 := Lib.hid (show (((w.alloc (.cells #[.int .i64 a.f0, .int .i64 a.f1, .int .i64 a.f2, .slice A a.f3.length ca] 24)).alloc (.cells #[.int .i64 b.f0, .int .i64 b.f1, .int .i64 b.f2, .slice B b.f3.length cb] 24)).heap[w.heap.size]? = _) from blk_keep ((Below.refl _ _).alloc (Nat.le_refl _) _) (blk_alloc w _))
 have HX1_1 := Lib.hid (blk_alloc_at (w.alloc (.cells #[.int .i64 a.f0, .int .i64 a.f1, .int .i64 a.f2, .slice A a.f3.length ca] 24)) (.cells #[.int .i64 b.f0, .int .i64 b.f1, .int .i64 b.f2, .slice B b.f3.length cb] 24) (n := w.heap.size + 1) (by simp))
 have HB1 := Lib.hid (((Below.refl w.heap.size w).alloc (Nat.le_refl _) (.cells #[.int .i64 a.f0, .int .i64 a.f1, .int .i64 a.f2, .slice A a.f3.length ca] 24)).alloc (by simp) (.cells #[.int .i64 b.f0, .int .i64 b.f1, .int .i64 b.f2, .slice B b.f3.length cb] 24))
 refine (adv_Check.calls k1 a.f0 a.f1 a.f2 A ca a.f3 0 _ (Kd.C_below hKa.out HB1.out) hca Hch1.out).mono ?_
 rintro e w2 ⟨rfl, hb2⟩
 have HB2 := Lib.hid (HB1.out.trans (hb2.mono HB1.out.size))
 have HX2_0 := Lib.hid (blk_keep hb2 HX1_0.out)
 have HX2_1 := Lib.hid (blk_keep hb2 HX1_1.out)
 obtain ⟨p2_00, p2_01, p2_02, p2_03, p2_0f⟩ := blk_cells4 HX2_0.out
 obtain ⟨p2_10, p2_11, p2_12, p2_13, p2_1f⟩ := blk_cells4 HX2_1.out
 clear hb2
 go_wp2_with fail
 refine (adv_Check.calls k2 b.f0 b.f1 b.f2 B cb b.f3 0 _ (Kd.C_below hKb.out HB2.out) hcb Hch2.out).mono ?_
 rintro e w3 ⟨rfl, hb3⟩
 have HB3 := Lib.hid (HB2.out.trans (hb3.mono HB2.out.size))
 have HX3_0 := Lib.hid (blk_keep hb3 HX2_0.out)
 have HX3_1 := Lib.hid (blk_keep hb3 HX2_1.out)
 clear p2_00 p2_01 p2_02 p2_03 p2_0f p2_10 p2_11 p2_12 p2_13 p2_1f
 obtain ⟨p3_00, p3_01, p3_02, p3_03, p3_0f⟩ := blk_cells4 HX3_0.out
 obtain ⟨p3_10, p3_11, p3_12, p3_13, p3_1f⟩ := blk_cells4 HX3_1.out
 clear hb3
 go_wp2_with fail
 refine (newer_any a b A B ca cb _ hla hlb hca hcb (Lib.hid (Kd.C_below hKa.out HB3.out)) (Lib.hid (Kd.C_below hKb.out HB3.out))).mono ?_
 rintro e w4 ⟨rfl, hb4⟩
 have HB4 := Lib.hid (HB3.out.trans (hb4.mono HB3.out.size))
 have HX4_0 := Lib.hid (blk_keep hb4 HX3_0.out)
 have HX4_1 := Lib.hid (blk_keep hb4 HX3_1.out)
 clear p3_00 p3_01 p3_02 p3_03 p3_0f p3_10 p3_11 p3_12 p3_13 p3_1f
 obtain ⟨p4_00, p4_01, p4_02, p4_03, p4_0f⟩ := blk_cells4 HX4_0.out
 obtain ⟨p4_10, p4_11, p4_12, p4_13, p4_1f⟩ := blk_cells4 HX4_1.out
 clear hb4
 go_wp2_with fail
 go_ret2
 exact ⟨rfl, HB4.out⟩
def NewerP (a b : S24) : Int × Int :=
 if chk a.f0 a.f1 a.f2 a.f3 ≠ 0 then (0, chk a.f0 a.f1 a.f2 a.f3) else if chk b.f0 b.f1 b.f2 b.f3 ≠ 0 then (0, chk b.f0 b.f1 b.f2 b.f3) else if a.f0 ≠ b.f0 then (0, 1) else (newerP a b, 0)
theorem Newer_any (a b : S24) (A B : Option Addr) (ca cb : Nat) (w : World) (hca : a.f3.length ≤ ca) (hcb : b.f3.length ≤ cb) (hKa : Hid (Kd.C k28 w A a.f3.length a.f3)) (hKb : Hid (Kd.C k28 w B b.f3.length b.f3))  :
 Calls Try.prog 20 #[.agg #[.int .i64 a.f0, .int .i64 a.f1, .int .i64 a.f2, .slice A a.f3.length ca], .agg #[.int .i64 b.f0, .int .i64 b.f1, .int .i64 b.f2, .slice B b.f3.length cb]] w
  fun e w' => e = .returned (.tuple #[.int .i64 (NewerP a b).1, .int .i64 (NewerP a b).2]) ∧ Below w.heap.size w w' := by
 unfold NewerP
 by_cases h1 : chk a.f0 a.f1 a.f2 a.f3 = 0
 · rw [if_neg (not_not_intro h1)]
   by_cases h2 : chk b.f0 b.f1 b.f2 b.f3 = 0
   · rw [if_neg (not_not_intro h2)]
     by_cases h3 : a.f0 = b.f0
     · rw [if_neg (not_not_intro h3)]
       exact Newer_good a b A B ca cb w hca hcb hKa hKb h1 h2 h3
     · rw [if_pos h3]
       exact Newer_other a b A B ca cb w hca hcb hKa hKb h1 h2 h3
   · rw [if_pos h2]
     exact Newer_bad2 a b A B ca cb w hca hcb hKa hKb h1 h2
 · rw [if_pos h1]
   exact Newer_bad1 a b A B ca cb w hca hcb hKa hKb h1
end Go.Proofs.Ytaneaabmgnanbaa.M
