import Derived.Test.YtaneaabmgnanbaaKMAdvBack
namespace Go.Proofs.Ytaneaabmgnanbaa.M
open Go.RowKit Go.Proofs.YtaneaabmgnanbaaW.PrintWords Go.Proofs.YtaneaabmgnanbaaW.PrintLast Go.Proofs.YtaneaabmgnanbaaW.PrintMore Go.Proofs.Ytaneaabmgnanbaa.PAdvBack
set_option linter.unusedVariables false
set_option linter.unusedSimpArgs false
def cmpI (x y : Int) : Int := if x < y then -1 else if y < x then 1 else 0
theorem isNaN_any (x : Int) (w : World) : Calls Try.prog 91 #[.int .i64 x] w fun e w' => e = .returned (.bool false) ∧ w = w' := by
 go_enter Try.func91, Try.ntmps91
 go_wp2
 go_ret
 exact ⟨by simp, rfl⟩
theorem compare_any (x y : Int) (w : World) : Calls Try.prog 68 #[.int .i64 x, .int .i64 y] w fun e w' => e = .returned (.int .i64 (cmpI x y)) ∧ w = w' := by
 rcases Int.lt_trichotomy x y with h | h | h
 · have hf : cmpI x y = -1 := by simp [cmpI, h]
   rw [hf]; clear hf
   go_enter Try.func68, Try.ntmps68
   go_wp2_with (go_at_call 91; refine (isNaN_any _ _).mono ?_; rintro e w' ⟨rfl, rfl⟩)
   go_ret
   exact ⟨rfl, rfl⟩
 · subst h
   have hf : cmpI x x = 0 := by simp [cmpI]
   rw [hf]; clear hf
   go_enter Try.func68, Try.ntmps68
   go_wp2_with (go_at_call 91; refine (isNaN_any _ _).mono ?_; rintro e w' ⟨rfl, rfl⟩)
   go_ret
   exact ⟨rfl, rfl⟩
 · have hf : cmpI x y = 1 := by simp [cmpI, h]; omega
   have h' : ¬ x < y := by omega
   rw [hf]; clear hf
   go_enter Try.func68, Try.ntmps68
   go_wp2_with (go_at_call 91; refine (isNaN_any _ _).mono ?_; rintro e w' ⟨rfl, rfl⟩)
   go_ret
   exact ⟨rfl, rfl⟩
def or3 (a b c : Int) : Int := if a ≠ 0 then a else if b ≠ 0 then b else c
theorem or3_any (a b c : Int) (g : Nat) (w : World) (hg : Hid (w.heap[g]? = some (.cells #[.int .i64 a, .int .i64 b, .int .i64 c] 3 (0, 0)))) :
 Calls Try.prog 67 #[.slice (some ⟨g, 0, none⟩) 3 3] w fun e w' => e = .returned (.int .i64 (or3 a b c)) ∧ w = w' := by
 have hu := Try.underlying56
 have c0 := blk_cell hg.out 0
 have c1 := blk_cell hg.out 1
 have c2 := blk_cell hg.out 2
 by_cases ha : a = 0
 · have hab : (a != 0) = false := bne_eq_false_iff_eq.mpr ha
   by_cases hb : b = 0
   · have hbb : (b != 0) = false := bne_eq_false_iff_eq.mpr hb
     by_cases hc : c = 0
     · have hcb : (c != 0) = false := bne_eq_false_iff_eq.mpr hc
       rw [show or3 a b c = 0 by simp [or3, ha, hb, hc]]
       go_enter Try.func67, Try.ntmps67
       go_wp2
       refine wp_loop_rounds 4 ?_
       rw [rounds_succ]
       go_wp2
       rw [rounds_succ]
       go_wp2
       rw [rounds_succ]
       go_wp2
       rw [rounds_succ]
       go_wp2
       go_ret
       exact ⟨rfl, rfl⟩
     · have hcb : (c != 0) = true := bne_iff_ne.mpr hc
       rw [show or3 a b c = c by simp [or3, ha, hb]]
       go_enter Try.func67, Try.ntmps67
       go_wp2
       refine wp_loop_rounds 4 ?_
       rw [rounds_succ]
       go_wp2
       rw [rounds_succ]
       go_wp2
       rw [rounds_succ]
       go_wp2
       go_ret
       exact ⟨rfl, rfl⟩
   · have hbb : (b != 0) = true := bne_iff_ne.mpr hb
     rw [show or3 a b c = b by simp [or3, ha, hb]]
     go_enter Try.func67, Try.ntmps67
     go_wp2
     refine wp_loop_rounds 4 ?_
     rw [rounds_succ]
     go_wp2
     rw [rounds_succ]
     go_wp2
     go_ret
     exact ⟨rfl, rfl⟩
 · have hab : (a != 0) = true := bne_iff_ne.mpr ha
   rw [show or3 a b c = a by simp [or3, ha]]
   go_enter Try.func67, Try.ntmps67
   go_wp2
   refine wp_loop_rounds 4 ?_
   rw [rounds_succ]
   go_wp2
   go_ret
   exact ⟨rfl, rfl⟩
def gone (age : Int) : Int := if age = 3600 then 1 else 0
theorem gone_any (id seq age : Int) (v : Value) (w : World) : Calls Try.prog 66 #[.agg #[.int .i64 id, .int .i64 seq, .int .i64 age, v]] w fun e w' => e = .returned (.int .i64 (gone age)) ∧ Below w.heap.size w w' := by
 have hu24 := Try.underlying24
 by_cases h : age = 3600
 · have hb : (age == 3600) = true := beq_iff_eq.mpr h
   rw [show gone age = 1 by simp [gone, h]]
   clear h
   go_enter Try.func66, Try.ntmps66
   go_wp2
   go_ret
   exact ⟨rfl, (Below.refl _ _).alloc (Nat.le_refl _) _⟩
 · have hb : (age == 3600) = false := beq_eq_false_iff_ne.mpr h
   rw [show gone age = 0 by simp [gone, h]]
   clear h
   go_enter Try.func66, Try.ntmps66
   go_wp2
   go_ret
   exact ⟨rfl, (Below.refl _ _).alloc (Nat.le_refl _) _⟩
def rankv (id seq : Int) (ls : List S28) : Int := (sums id seq ls).2 * 256 + (sums id seq ls).1
def newerP (a b : S24) : Int := or3 (cmpI a.f1 b.f1) (cmpI (gone a.f2) (gone b.f2)) (cmpI (rankv a.f0 a.f1 a.f3) (rankv b.f0 b.f1 b.f3))
theorem sumbytes (a : S24) (hl : a.f3.length ≤ 16) : ∃ k, adv_bytes.f k a.f0 a.f1 a.f2 a.f3 0 = some (byts a.f0 a.f1 a.f3 0) ∧ adv_sum.f k (byts a.f0 a.f1 a.f3 0) = some ((sums a.f0 a.f1 a.f3).1, (sums a.f0 a.f1 a.f3).2) := sum_bytes_ends _ _ _ _ (by omega)
theorem rank_eq (id seq : Int) (ls : List S28) : bits .or .i64 (wrap64 ((sums id seq ls).2 * 256)) (sums id seq ls).1 = rankv id seq ls := by
 have hr := sums_range id seq ls
 rw [wrap_in _ (by omega) (by omega), or8 (by omega) (by omega) (by omega) (by omega) (by omega)]
 rfl
theorem Drawn_below {w w' : World} (h : Drawn0 w w') : Below w.heap.size w w' := h.below
set_option maxHeartbeats 1000000 in
set_option maxRecDepth 100000 in
theorem newer_any (a b : S24) (A B : Option Addr) (ca cb : Nat) (w : World) (hla : a.f3.length ≤ 16) (hlb : b.f3.length ≤ 16) (hca : a.f3.length ≤ ca) (hcb : b.f3.length ≤ cb) (hKa : Hid (Kd.C k28 w A a.f3.length a.f3)) (hKb : Hid (Kd.C k28 w B b.f3.length b.f3)) :
 Calls Try.prog 48 #[.agg #[.int .i64 a.f0, .int .i64 a.f1, .int .i64 a.f2, .slice A a.f3.length ca], .agg #[.int .i64 b.f0, .int .i64 b.f1, .int .i64 b.f2, .slice B b.f3.length cb]] w
  fun e w' => e = .returned (.int .i64 (newerP a b)) ∧ Below w.heap.size w w' := by
 have hu24 := Try.underlying24
 obtain ⟨k1, hb1, hs1⟩ := sumbytes a hla
 obtain ⟨k2, hb2, hs2⟩ := sumbytes b hlb
 have Hb1 := Lib.hid hb1
 have Hs1 := Lib.hid hs1
 have Hb2 := Lib.hid hb2
 have Hs2 := Lib.hid hs2
 clear hb1 hs1 hb2 hs2
 have re1 := rank_eq a.f0 a.f1 a.f3
 have re2 := rank_eq b.f0 b.f1 b.f3
 obtain ⟨x1, Hx1⟩ : ∃ x, Hid (x = (sums a.f0 a.f1 a.f3).1) := ⟨_, Lib.hid rfl⟩
 obtain ⟨y1, Hy1⟩ : ∃ x, Hid (x = (sums a.f0 a.f1 a.f3).2) := ⟨_, Lib.hid rfl⟩
 obtain ⟨x2, Hx2⟩ : ∃ x, Hid (x = (sums b.f0 b.f1 b.f3).1) := ⟨_, Lib.hid rfl⟩
 obtain ⟨y2, Hy2⟩ : ∃ x, Hid (x = (sums b.f0 b.f1 b.f3).2) := ⟨_, Lib.hid rfl⟩
 obtain ⟨r1, Hr1⟩ : ∃ x, Hid (x = rankv a.f0 a.f1 a.f3) := ⟨_, Lib.hid rfl⟩
 obtain ⟨r2, Hr2⟩ : ∃ x, Hid (x = rankv b.f0 b.f1 b.f3) := ⟨_, Lib.hid rfl⟩
 rw [← Hx1.out, ← Hy1.out] at Hs1
 rw [← Hx2.out, ← Hy2.out] at Hs2
 rw [← Hx1.out, ← Hy1.out, ← Hr1.out] at re1
 rw [← Hx2.out, ← Hy2.out, ← Hr2.out] at re2
 have HF : Hid (newerP a b = or3 (cmpI a.f1 b.f1) (cmpI (gone a.f2) (gone b.f2)) (cmpI r1 r2)) := by rw [Hr1.out, Hr2.out]; exact rfl
 rw [HF.out]
 clear hla hlb
 go_enter Try.func48, Try.ntmps48
 go_wp2_with fail
 have HX1_0 := Lib.hid (show (((w.alloc (.cells #[.int .i64 a.f0, .int .i64 a.f1, .int .i64 a.f2, .slice A a.f3.length ca] 24)).alloc (.cells #[.int .i64 b.f0, .int .i64 b.f1, .int .i64 b.f2, .slice B b.f3.length cb] 24)).heap[w.heap.size]? = _) from blk_keep ((Below.refl _ _).alloc (Nat.le_refl _) _) (blk_alloc w _))
 have HX1_1 := Lib.hid (blk_alloc_at (w.alloc (.cells #[.int .i64 a.f0, .int .i64 a.f1, .int .i64 a.f2, .slice A a.f3.length ca] 24)) (.cells #[.int .i64 b.f0, .int .i64 b.f1, .int .i64 b.f2, .slice B b.f3.length cb] 24) (n := w.heap.size + 1) (by simp))
 have HB1 := Lib.hid (((Below.refl w.heap.size w).alloc (Nat.le_refl _) (.cells #[.int .i64 a.f0, .int .i64 a.f1, .int .i64 a.f2, .slice A a.f3.length ca] 24)).alloc (by simp) (.cells #[.int .i64 b.f0, .int .i64 b.f1, .int .i64 b.f2, .slice B b.f3.length cb] 24))
 refine (adv_bytes.calls k1 a.f0 a.f1 a.f2 A ca a.f3 0 _ _ (Kd.C_below hKa.out HB1.out) hca Hb1.out).mono ?_
 rintro e w2 ⟨v2, rfl, hR2, hb2⟩
 obtain ⟨A2, c2, rfl, hl2, hC2⟩ := Kd.R_reads hR2
 have HC2 := Lib.hid hC2
 have HL2 := Lib.hid hl2
 clear hR2 hC2 hl2
 have HB2 := Lib.hid (HB1.out.trans (hb2.mono HB1.out.size))
 have HX2_0 := Lib.hid (blk_keep hb2 HX1_0.out)
 obtain ⟨p2_00, p2_01, p2_02, p2_03, p2_04⟩ := blk_cells4 HX2_0.out
 have HX2_1 := Lib.hid (blk_keep hb2 HX1_1.out)
 obtain ⟨p2_10, p2_11, p2_12, p2_13, p2_14⟩ := blk_cells4 HX2_1.out
 clear hb2
 go_wp2_with fail
 refine (adv_sum.calls k1 A2 c2 _ x1 y1 _ HC2.out HL2.out Hs1.out).mono ?_
 rintro e w3 ⟨rfl, hd3⟩
 have hb3 := Drawn_below hd3
 have HB3 := Lib.hid (HB2.out.trans (hb3.mono HB2.out.size))
 have HX3_0 := Lib.hid (blk_keep hb3 HX2_0.out)
 obtain ⟨p3_00, p3_01, p3_02, p3_03, p3_04⟩ := blk_cells4 HX3_0.out
 have HX3_1 := Lib.hid (blk_keep hb3 HX2_1.out)
 obtain ⟨p3_10, p3_11, p3_12, p3_13, p3_14⟩ := blk_cells4 HX3_1.out
 clear hb3 hd3 p2_00 p2_01 p2_02 p2_03 p2_04 p2_10 p2_11 p2_12 p2_13 p2_14
 go_wp2_with fail
 refine (adv_bytes.calls k2 b.f0 b.f1 b.f2 B cb b.f3 0 _ _ (Kd.C_below hKb.out HB3.out) hcb Hb2.out).mono ?_
 rintro e w4 ⟨v4, rfl, hR4, hb4⟩
 obtain ⟨A4, c4, rfl, hl4, hC4⟩ := Kd.R_reads hR4
 have HC4 := Lib.hid hC4
 have HL4 := Lib.hid hl4
 clear hR4 hC4 hl4
 have HB4 := Lib.hid (HB3.out.trans (hb4.mono HB3.out.size))
 have HX4_0 := Lib.hid (blk_keep hb4 HX3_0.out)
 obtain ⟨p4_00, p4_01, p4_02, p4_03, p4_04⟩ := blk_cells4 HX4_0.out
 have HX4_1 := Lib.hid (blk_keep hb4 HX3_1.out)
 obtain ⟨p4_10, p4_11, p4_12, p4_13, p4_14⟩ := blk_cells4 HX4_1.out
 clear hb4 p3_00 p3_01 p3_02 p3_03 p3_04 p3_10 p3_11 p3_12 p3_13 p3_14
 go_wp2_with fail
 refine (adv_sum.calls k2 A4 c4 _ x2 y2 _ HC4.out HL4.out Hs2.out).mono ?_
 rintro e w5 ⟨rfl, hd5⟩
 have hb5 := Drawn_below hd5
 have HB5 := Lib.hid (HB4.out.trans (hb5.mono HB4.out.size))
 have HX5_0 := Lib.hid (blk_keep hb5 HX4_0.out)
 obtain ⟨p5_00, p5_01, p5_02, p5_03, p5_04⟩ := blk_cells4 HX5_0.out
 have HX5_1 := Lib.hid (blk_keep hb5 HX4_1.out)
 obtain ⟨p5_10, p5_11, p5_12, p5_13, p5_14⟩ := blk_cells4 HX5_1.out
 clear hb5 hd5 p4_00 p4_01 p4_02 p4_03 p4_04 p4_10 p4_11 p4_12 p4_13 p4_14
 go_wp2_with fail
 have HBd := Lib.hid HB5.out.drew
 have HXd_0 := Lib.hid (show w5.drew.heap[w.heap.size]? = _ from HX5_0.out)
 have HXd_1 := Lib.hid (show w5.drew.heap[w.heap.size + 1]? = _ from HX5_1.out)
 refine start_ (n := 24) (S := fun w' => w'.cell? ⟨w.heap.size, 0, none⟩ = some (.int .i64 a.f0) ∧ w'.cell? ⟨w.heap.size, 1, none⟩ = some (.int .i64 a.f1) ∧ w'.cell? ⟨w.heap.size, 2, none⟩ = some (.int .i64 a.f2) ∧ w'.cell? ⟨w.heap.size, 3, none⟩ = some (.slice A a.f3.length ca) ∧ w'.cell? ⟨(w.heap.size + 1), 0, none⟩ = some (.int .i64 b.f0) ∧ w'.cell? ⟨(w.heap.size + 1), 1, none⟩ = some (.int .i64 b.f1) ∧ w'.cell? ⟨(w.heap.size + 1), 2, none⟩ = some (.int .i64 b.f2) ∧ w'.cell? ⟨(w.heap.size + 1), 3, none⟩ = some (.slice B b.f3.length cb)) (ds := []) #[false, false, false, false, false, false, false, false, false, false, false, false, false, false, false, false, false, false, false, false, false, false, false, false] (by kernel_rfl) rfl rfl ⟨p5_00, p5_01, p5_02, p5_03, p5_10, p5_11, p5_12, p5_13⟩ (fun hHeld => ?_)
 refine pure_ (i := 0) (N := some 22) (v := ?_) (a' := ?_) #[true, false, false, false, false, false, false, false, false, false, false, false, false, false, false, false, false, false, false, false, false, false, false, false] rfl rfl (by kernel_rfl) (fun _ _ _ h => h) (Or.inl ⟨by rfl, ?_⟩) ?_ ?_
 rotate_left
 · intro w'
   go_simp
   with_reducible rfl
 rotate_left
 · simp only [Act.put, List.setIfInBounds_toArray, List.set_cons_zero, List.set_cons_succ, i64_w, i32_w]
   rfl
 refine pure_ (i := 2) (N := some 24) (v := ?_) (a' := ?_) #[true, false, true, false, false, false, false, false, false, false, false, false, false, false, false, false, false, false, false, false, false, false, false, false] rfl rfl (by kernel_rfl) (fun _ _ _ h => h) (Or.inl ⟨by rfl, ?_⟩) ?_ ?_
 rotate_left
 · intro w'
   go_simp
   with_reducible rfl
 rotate_left
 · simp only [Act.put, List.setIfInBounds_toArray, List.set_cons_zero, List.set_cons_succ, i64_w, i32_w]
   rfl
 refine pure_ (i := 5) (N := some 27) (v := ?_) (a' := ?_) #[true, false, true, false, false, true, false, false, false, false, false, false, false, false, false, false, false, false, false, false, false, false, false, false] rfl rfl (by kernel_rfl) (fun _ _ _ h => h) (Or.inl ⟨by rfl, ?_⟩) ?_ ?_
 rotate_left
 · intro w'
   go_simp
   with_reducible rfl
 rotate_left
 · simp only [Act.put, List.setIfInBounds_toArray, List.set_cons_zero, List.set_cons_succ, i64_w, i32_w]
   rfl
 refine pure_ (i := 8) (N := some 30) (v := ?_) (a' := ?_) #[true, false, true, false, false, true, false, false, true, false, false, false, false, false, false, false, false, false, false, false, false, false, false, false] rfl rfl (by kernel_rfl) (fun _ _ _ h => h) (Or.inl ⟨by rfl, ?_⟩) ?_ ?_
 rotate_left
 · intro w'
   go_simp
   with_reducible rfl
 rotate_left
 · simp only [Act.put, List.setIfInBounds_toArray, List.set_cons_zero, List.set_cons_succ, i64_w, i32_w]
   rfl
 refine pure_ (i := 12) (N := some 34) (v := ?_) (a' := ?_) #[true, false, true, false, false, true, false, false, true, false, false, false, true, false, false, false, false, false, false, false, false, false, false, false] rfl rfl (by kernel_rfl) (fun _ _ _ h => h) (Or.inl ⟨by rfl, ?_⟩) ?_ ?_
 rotate_left
 · intro w'
   go_simp
   with_reducible rfl
 rotate_left
 · simp only [Act.put, List.setIfInBounds_toArray, List.set_cons_zero, List.set_cons_succ, i64_w, i32_w]
   rfl
 refine pure_ (i := 13) (N := some 35) (v := ?_) (a' := ?_) #[true, false, true, false, false, true, false, false, true, false, false, false, true, true, false, false, false, false, false, false, false, false, false, false] rfl rfl (by kernel_rfl) (fun _ _ _ h => h) (Or.inl ⟨by rfl, ?_⟩) ?_ ?_
 rotate_left
 · intro w'
   go_simp
   with_reducible rfl
 rotate_left
 · simp only [Act.put, List.setIfInBounds_toArray, List.set_cons_zero, List.set_cons_succ, i64_w, i32_w]
   rfl
 refine pure_ (i := 14) (N := some 36) (v := ?_) (a' := ?_) #[true, false, true, false, false, true, false, false, true, false, false, false, true, true, true, false, false, false, false, false, false, false, false, false] rfl rfl (by kernel_rfl) (fun _ _ _ h => h) (Or.inl ⟨by rfl, ?_⟩) ?_ ?_
 rotate_left
 · intro w'
   go_simp
   with_reducible rfl
 rotate_left
 · simp only [Act.put, List.setIfInBounds_toArray, List.set_cons_zero, List.set_cons_succ, i64_w, i32_w]
   rfl
 refine pure_ (i := 15) (N := some 37) (v := ?_) (a' := ?_) #[true, false, true, false, false, true, false, false, true, false, false, false, true, true, true, true, false, false, false, false, false, false, false, false] rfl rfl (by kernel_rfl) (fun _ _ _ h => h) (Or.inl ⟨by rfl, ?_⟩) ?_ ?_
 rotate_left
 · intro w'
   go_simp
   with_reducible rfl
 rotate_left
 · simp only [Act.put, List.setIfInBounds_toArray, List.set_cons_zero, List.set_cons_succ, i64_w, i32_w]
   rfl
 refine pure_ (i := 16) (N := some 38) (v := ?_) (a' := ?_) #[true, false, true, false, false, true, false, false, true, false, false, false, true, true, true, true, true, false, false, false, false, false, false, false] rfl rfl (by kernel_rfl) (fun _ _ _ h => h) (Or.inl ⟨by rfl, ?_⟩) ?_ ?_
 rotate_left
 · intro w'
   go_simp
   with_reducible rfl
 rotate_left
 · simp only [Act.put, List.setIfInBounds_toArray, List.set_cons_zero, List.set_cons_succ, i64_w, i32_w]
   rfl
 refine pure_ (i := 17) (N := some 39) (v := ?_) (a' := ?_) #[true, false, true, false, false, true, false, false, true, false, false, false, true, true, true, true, true, true, false, false, false, false, false, false] rfl rfl (by kernel_rfl) (fun _ _ _ h => h) (Or.inl ⟨by rfl, ?_⟩) ?_ ?_
 rotate_left
 · intro w'
   go_simp
   with_reducible rfl
 rotate_left
 · simp only [Act.put, List.setIfInBounds_toArray, List.set_cons_zero, List.set_cons_succ, i64_w, i32_w]
   rfl
 refine pure_ (i := 18) (N := some 40) (v := ?_) (a' := ?_) #[true, false, true, false, false, true, false, false, true, false, false, false, true, true, true, true, true, true, true, false, false, false, false, false] rfl rfl (by kernel_rfl) (fun _ _ _ h => h) (Or.inl ⟨by rfl, ?_⟩) ?_ ?_
 rotate_left
 · intro w'
   go_simp
   with_reducible rfl
 rotate_left
 · simp only [Act.put, List.setIfInBounds_toArray, List.set_cons_zero, List.set_cons_succ, i64_w, i32_w]
   rfl
 refine pure_ (i := 19) (N := some 41) (v := ?_) (a' := ?_) #[true, false, true, false, false, true, false, false, true, false, false, false, true, true, true, true, true, true, true, true, false, false, false, false] rfl rfl (by kernel_rfl) (fun _ _ _ h => h) (Or.inl ⟨by rfl, ?_⟩) ?_ ?_
 rotate_left
 · intro w'
   go_simp
   with_reducible rfl
 rotate_left
 · simp only [Act.put, List.setIfInBounds_toArray, List.set_cons_zero, List.set_cons_succ, i64_w, i32_w]
   rfl
 refine take_ (i := 1) (N := some 23) (v := ?_) (a' := ?_) #[true, true, true, false, false, true, false, false, true, false, false, false, true, true, true, true, true, true, true, true, false, false, false, false] rfl rfl (by kernel_rfl) (fun _ _ _ h => h) (Or.inl ⟨by rfl, ?_⟩) hHeld ?_ ?_
 rotate_left
 · rintro w' ⟨s0, s1, s2, s3, s4, s5, s6, s7⟩
   go_simp
   with_reducible rfl
 rotate_left
 · simp only [Act.put, List.setIfInBounds_toArray, List.set_cons_zero, List.set_cons_succ, i64_w, i32_w]
   rfl
 refine take_ (i := 3) (N := some 25) (v := ?_) (a' := ?_) #[true, true, true, true, false, true, false, false, true, false, false, false, true, true, true, true, true, true, true, true, false, false, false, false] rfl rfl (by kernel_rfl) (fun _ _ _ h => h) (Or.inl ⟨by rfl, ?_⟩) hHeld ?_ ?_
 rotate_left
 · rintro w' ⟨s0, s1, s2, s3, s4, s5, s6, s7⟩
   go_simp
   with_reducible rfl
 rotate_left
 · simp only [Act.put, List.setIfInBounds_toArray, List.set_cons_zero, List.set_cons_succ, i64_w, i32_w]
   rfl
 refine take_ (i := 6) (N := some 28) (v := ?_) (a' := ?_) #[true, true, true, true, false, true, true, false, true, false, false, false, true, true, true, true, true, true, true, true, false, false, false, false] rfl rfl (by kernel_rfl) (fun _ _ _ h => h) (Or.inl ⟨by rfl, ?_⟩) hHeld ?_ ?_
 rotate_left
 · rintro w' ⟨s0, s1, s2, s3, s4, s5, s6, s7⟩
   go_simp
   with_reducible rfl
 rotate_left
 · simp only [Act.put, List.setIfInBounds_toArray, List.set_cons_zero, List.set_cons_succ, i64_w, i32_w]
   rfl
 refine take_ (i := 9) (N := some 31) (v := ?_) (a' := ?_) #[true, true, true, true, false, true, true, false, true, true, false, false, true, true, true, true, true, true, true, true, false, false, false, false] rfl rfl (by kernel_rfl) (fun _ _ _ h => h) (Or.inl ⟨by rfl, ?_⟩) hHeld ?_ ?_
 rotate_left
 · rintro w' ⟨s0, s1, s2, s3, s4, s5, s6, s7⟩
   go_simp
   with_reducible rfl
 rotate_left
 · simp only [Act.put, List.setIfInBounds_toArray, List.set_cons_zero, List.set_cons_succ, i64_w, i32_w]
   rfl
 refine one_ (i := 4) (N := some 26) #[true, true, true, true, true, true, true, false, true, true, false, false, true, true, true, true, true, true, true, true, false, false, false, false] rfl rfl (by kernel_rfl) (by decide) (fun K hK => ?_)
 refine goes_ Try.func68 (by kernel_rfl) rfl #[.int .i64 a.f1, .int .i64 b.f1] (by rfl) rfl rfl (by simp only [List.map_toArray, List.map_cons, List.map_nil]; rfl) ?_
 with_reducible refine (compare_any _ _ _).mono ?_
 rintro e w3 ⟨rfl, rfl⟩
 refine ⟨_, rfl, ?_⟩
 refine hK.out _ _ ⟨p5_00, p5_01, p5_02, p5_03, p5_10, p5_11, p5_12, p5_13⟩ (fun hHeld => ?_)
 clear hK K
 refine norm_ (a' := ?_) ?_ ?_
 rotate_left
 · show Act.put _ (some 26) _ = _
   simp only [Act.put, List.setIfInBounds_toArray, List.set_cons_zero, List.set_cons_succ, i64_w, i32_w]
   rfl
 refine one_ (i := 7) (N := some 29) #[true, true, true, true, true, true, true, true, true, true, false, false, true, true, true, true, true, true, true, true, false, false, false, false] rfl rfl (by kernel_rfl) (by decide) (fun K hK => ?_)
 refine call_ 66 #[.agg #[.int .i64 a.f0, .int .i64 a.f1, .int .i64 a.f2, .slice A a.f3.length ca]] (by rfl) rfl ?_ ?_
 · have he := enters_ (P := Try.prog) Try.func66 (by kernel_rfl) rfl #[.agg #[.int .i64 a.f0, .int .i64 a.f1, .int .i64 a.f2, .slice A a.f3.length ca]]
   unfold execOp
   simp [resolve, Deferred.ofValue, invoke, Act.eval, he]
 with_reducible refine (gone_any _ _ _ _ _).mono ?_
 rintro e w6 ⟨rfl, hb6⟩
 refine ⟨_, rfl, ?_⟩
 have HB6 := Lib.hid (HBd.out.trans (hb6.mono HBd.out.size))
 have HX6_0 := Lib.hid (blk_keep hb6 HXd_0.out)
 obtain ⟨p6_00, p6_01, p6_02, p6_03, p6_04⟩ := blk_cells4 HX6_0.out
 have HX6_1 := Lib.hid (blk_keep hb6 HXd_1.out)
 obtain ⟨p6_10, p6_11, p6_12, p6_13, p6_14⟩ := blk_cells4 HX6_1.out
 clear hb6
 refine hK.out _ _ ⟨p6_00, p6_01, p6_02, p6_03, p6_10, p6_11, p6_12, p6_13⟩ (fun hHeld => ?_)
 clear hK K
 refine norm_ (a' := ?_) ?_ ?_
 rotate_left
 · show Act.put _ (some 29) _ = _
   simp only [Act.put, List.setIfInBounds_toArray, List.set_cons_zero, List.set_cons_succ, i64_w, i32_w]
   rfl
 refine one_ (i := 10) (N := some 32) #[true, true, true, true, true, true, true, true, true, true, true, false, true, true, true, true, true, true, true, true, false, false, false, false] rfl rfl (by kernel_rfl) (by decide) (fun K hK => ?_)
 refine call_ 66 #[.agg #[.int .i64 b.f0, .int .i64 b.f1, .int .i64 b.f2, .slice B b.f3.length cb]] (by rfl) rfl ?_ ?_
 · have he := enters_ (P := Try.prog) Try.func66 (by kernel_rfl) rfl #[.agg #[.int .i64 b.f0, .int .i64 b.f1, .int .i64 b.f2, .slice B b.f3.length cb]]
   unfold execOp
   simp [resolve, Deferred.ofValue, invoke, Act.eval, he]
 with_reducible refine (gone_any _ _ _ _ _).mono ?_
 rintro e w7 ⟨rfl, hb7⟩
 refine ⟨_, rfl, ?_⟩
 have HB7 := Lib.hid (HB6.out.trans (hb7.mono HB6.out.size))
 have HX7_0 := Lib.hid (blk_keep hb7 HX6_0.out)
 obtain ⟨p7_00, p7_01, p7_02, p7_03, p7_04⟩ := blk_cells4 HX7_0.out
 have HX7_1 := Lib.hid (blk_keep hb7 HX6_1.out)
 obtain ⟨p7_10, p7_11, p7_12, p7_13, p7_14⟩ := blk_cells4 HX7_1.out
 clear hb7
 refine hK.out _ _ ⟨p7_00, p7_01, p7_02, p7_03, p7_10, p7_11, p7_12, p7_13⟩ (fun hHeld => ?_)
 clear hK K
 refine norm_ (a' := ?_) ?_ ?_
 rotate_left
 · show Act.put _ (some 32) _ = _
   simp only [Act.put, List.setIfInBounds_toArray, List.set_cons_zero, List.set_cons_succ, i64_w, i32_w]
   rfl
 refine one_ (i := 11) (N := some 33) #[true, true, true, true, true, true, true, true, true, true, true, true, true, true, true, true, true, true, true, true, false, false, false, false] rfl rfl (by kernel_rfl) (by decide) (fun K hK => ?_)
 refine goes_ Try.func68 (by kernel_rfl) rfl #[.int .i64 (gone a.f2), .int .i64 (gone b.f2)] (by rfl) rfl rfl (by simp only [List.map_toArray, List.map_cons, List.map_nil]; rfl) ?_
 with_reducible refine (compare_any _ _ _).mono ?_
 rintro e w8 ⟨rfl, rfl⟩
 refine ⟨_, rfl, ?_⟩
 refine hK.out _ _ ⟨p7_00, p7_01, p7_02, p7_03, p7_10, p7_11, p7_12, p7_13⟩ (fun hHeld => ?_)
 clear hK K
 refine norm_ (a' := ?_) ?_ ?_
 rotate_left
 · show Act.put _ (some 33) _ = _
   simp only [Act.put, List.setIfInBounds_toArray, List.set_cons_zero, List.set_cons_succ, i64_w, i32_w]
   rfl
 refine one_ (i := 20) (N := some 42) #[true, true, true, true, true, true, true, true, true, true, true, true, true, true, true, true, true, true, true, true, true, false, false, false] rfl rfl (by kernel_rfl) (by decide) (fun K hK => ?_)
 refine goes_ Try.func68 (by kernel_rfl) rfl #[.int .i64 r1, .int .i64 r2] (by rfl) rfl rfl (by simp only [List.map_toArray, List.map_cons, List.map_nil]; rfl) ?_
 with_reducible refine (compare_any _ _ _).mono ?_
 rintro e w9 ⟨rfl, rfl⟩
 refine ⟨_, rfl, ?_⟩
 refine hK.out _ _ ⟨p7_00, p7_01, p7_02, p7_03, p7_10, p7_11, p7_12, p7_13⟩ (fun hHeld => ?_)
 clear hK K
 refine norm_ (a' := ?_) ?_ ?_
 rotate_left
 · show Act.put _ (some 42) _ = _
   simp only [Act.put, List.setIfInBounds_toArray, List.set_cons_zero, List.set_cons_succ, i64_w, i32_w]
   rfl
 refine one_ (i := 21) (N := some 43) #[true, true, true, true, true, true, true, true, true, true, true, true, true, true, true, true, true, true, true, true, true, true, false, false] rfl rfl (by kernel_rfl) (by decide) (fun K hK => ?_)
 refine value_ (w1 := ?_) (v := ?_) (by rfl) rfl ?_ ?_
 rotate_left 2
 · go_simp
   constructor
   · rfl
   · rfl
 have hb10 : Below w7.heap.size w7 (w7.alloc (.cells #[.int .i64 (cmpI a.f1 b.f1), .int .i64 (cmpI (gone a.f2) (gone b.f2)), .int .i64 (cmpI r1 r2)] 3)) := (Below.refl _ _).alloc (Nat.le_refl _) _
 have HXo := Lib.hid (blk_alloc w7 (.cells #[.int .i64 (cmpI a.f1 b.f1), .int .i64 (cmpI (gone a.f2) (gone b.f2)), .int .i64 (cmpI r1 r2)] 3))
 have HB10 := Lib.hid (HB7.out.trans (hb10.mono HB7.out.size))
 have HX10_0 := Lib.hid (blk_keep hb10 HX7_0.out)
 obtain ⟨p10_00, p10_01, p10_02, p10_03, p10_04⟩ := blk_cells4 HX10_0.out
 have HX10_1 := Lib.hid (blk_keep hb10 HX7_1.out)
 obtain ⟨p10_10, p10_11, p10_12, p10_13, p10_14⟩ := blk_cells4 HX10_1.out
 clear hb10
 refine hK.out _ _ ⟨p10_00, p10_01, p10_02, p10_03, p10_10, p10_11, p10_12, p10_13⟩ (fun hHeld => ?_)
 clear hK K
 refine norm_ (a' := ?_) ?_ ?_
 rotate_left
 · show Act.put _ (some 43) _ = _
   simp only [Act.put, List.setIfInBounds_toArray, List.set_cons_zero, List.set_cons_succ, i64_w, i32_w]
   rfl
 refine one_ (i := 22) (N := some 44) #[true, true, true, true, true, true, true, true, true, true, true, true, true, true, true, true, true, true, true, true, true, true, true, false] rfl rfl (by kernel_rfl) (by decide) (fun K hK => ?_)
 refine goes_ Try.func67 (by kernel_rfl) rfl #[.slice (some ⟨w7.heap.size, 0, none⟩) 3 3] (by rfl) rfl rfl (by simp only [List.map_toArray, List.map_cons, List.map_nil]; rfl) ?_
 with_reducible refine (or3_any _ _ _ _ _ HXo).mono ?_
 rintro e w11 ⟨rfl, rfl⟩
 refine ⟨_, rfl, ?_⟩
 refine hK.out _ _ ⟨p10_00, p10_01, p10_02, p10_03, p10_10, p10_11, p10_12, p10_13⟩ (fun hHeld => ?_)
 clear hK K
 refine norm_ (a' := ?_) ?_ ?_
 rotate_left
 · show Act.put _ (some 44) _ = _
   simp only [Act.put, List.setIfInBounds_toArray, List.set_cons_zero, List.set_cons_succ, i64_w, i32_w]
   rfl
 refine pure_ (i := 23) (N := some 4) (v := ?_) (a' := ?_) #[true, true, true, true, true, true, true, true, true, true, true, true, true, true, true, true, true, true, true, true, true, true, true, true] rfl rfl (by kernel_rfl) (fun _ _ _ h => h) (Or.inl ⟨by rfl, ?_⟩) ?_ ?_
 rotate_left
 · intro w'
   go_simp
   with_reducible rfl
 rotate_left
 · simp only [Act.put, List.setIfInBounds_toArray, List.set_cons_zero, List.set_cons_succ, i64_w, i32_w]
   rfl
 refine done_ (by kernel_rfl) ?_
 go_wp2_with fail
 go_ret
 exact ⟨rfl, HB10.out⟩
end Go.Proofs.Ytaneaabmgnanbaa.M
