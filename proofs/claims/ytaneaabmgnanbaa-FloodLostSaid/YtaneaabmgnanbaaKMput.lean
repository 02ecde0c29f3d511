import Derived.Test.YtaneaabmgnanbaaKMbdb
import Derived.Test.YtaneaabmgnanbaaKWFoot
import Derived.LoopTactic
import Derived.BigQuiet
namespace Go.Proofs.Ytaneaabmgnanbaa.M
open Go.RowKit Go.Proofs.YtaneaabmgnanbaaW.PrintWords Go.Proofs.YtaneaabmgnanbaaW.PrintLast Go.Proofs.YtaneaabmgnanbaaW.PrintMore Go.Proofs.Ytaneaabmgnanbaa.PAdvBack
set_option linter.unusedVariables false
set_option linter.unusedSimpArgs false
theorem keep_sets {w : World} (p : Nat) (j0 j1 j2 j3 j4 : Nat) (u0 u1 u2 u3 u4 : Value) : KeepBut w (((((w.setCell ⟨p, j0, none⟩ u0).setCell ⟨p, j1, none⟩ u1).setCell ⟨p, j2, none⟩ u2).setCell ⟨p, j3, none⟩ u3).setCell ⟨p, j4, none⟩ u4) p none :=
 ((((((KeepBut.refl w p none).set_ j0 u0).set_ j1 u1).set_ j2 u2).set_ j3 u3).set_ j4 u4)
theorem BaseAt.put {w : World} {p base : Nat} {f : Nat → S24} {h : Nat → Bool} (H : BaseAt w p f h) {i : Nat} (hi : i < 16) (a : S24) (hai : a.f0 = i) {A : Option Addr} {c : Nat} (hle : a.f3.length ≤ c)
 (hR : Kd.R k28 28 w base (fun k => base ≤ k) (.slice A a.f3.length c) a.f3) (hpb : p < base) :
 BaseAt (((((w.setCell ⟨p, i * 4, none⟩ (.int .i64 i)).setCell ⟨p, i * 4 + 1, none⟩ (.int .i64 a.f1)).setCell ⟨p, i * 4 + 2, none⟩ (.int .i64 a.f2)).setCell ⟨p, i * 4 + 3, none⟩ (.slice A a.f3.length c)).setCell ⟨p, 64 + i, none⟩ (.bool true)) p (fun j => if j = i then a else f j) (fun j => if j = i then true else h j) := by
 have hk := keep_sets (w := w) p (i * 4) (i * 4 + 1) (i * 4 + 2) (i * 4 + 3) (64 + i) (.int .i64 i) (.int .i64 a.f1) (.int .i64 a.f2) (.slice A a.f3.length c) (.bool true)
 obtain ⟨cs, hp, hs, hj⟩ := H
 refine ⟨_, blk_set (blk_set (blk_set (blk_set (blk_set hp _ _) _ _) _ _) _ _) _ _, by simp [hs], fun j h16 => ?_⟩
 by_cases e : j = i
 · subst e
   simp only [if_true]
   refine ⟨?_, ?_, ?_, ?_, A, c, ?_, hle, fun W' hW => (Kd.R_reads' (Kd.R_step (Kd.R_bound hR) (fun k ho hlt => by obtain ⟨_, _, _, q, hq, cells, hc⟩ := ho; obtain rfl : q = 28 := (by rcases List.mem_cons.1 hq with h | h; exact h; exact absurd h List.not_mem_nil); exact ((KA.of_keep hk hp (by decide)).trans hW).2 k cells hc))).2.2⟩
   · rw [hai]
     simp only [Array.getElem?_setIfInBounds, Array.size_setIfInBounds, hs]
     repeat (first | rw [if_neg (by omega)] | rw [if_pos (by omega)] | simp only [if_true])
   · simp only [Array.getElem?_setIfInBounds, Array.size_setIfInBounds, hs]
     repeat (first | rw [if_neg (by omega)] | rw [if_pos (by omega)] | simp only [if_true])
   · simp only [Array.getElem?_setIfInBounds, Array.size_setIfInBounds, hs]
     repeat (first | rw [if_neg (by omega)] | rw [if_pos (by omega)] | simp only [if_true])
   · simp only [Array.getElem?_setIfInBounds, Array.size_setIfInBounds, hs]
     repeat (first | rw [if_neg (by omega)] | rw [if_pos (by omega)] | simp only [if_true])
   · simp only [Array.getElem?_setIfInBounds, Array.size_setIfInBounds, hs]
     repeat (first | rw [if_neg (by omega)] | rw [if_pos (by omega)] | simp only [if_true])
 · obtain ⟨a0, a1, a2, a3, B, n, a4, l, hC⟩ := hj j h16
   simp only [if_neg e]
   refine ⟨?_, ?_, ?_, ?_, B, n, ?_, l, fun W' hW => hC W' ((KA.of_keep hk hp (by decide)).trans hW)⟩
   · simp only [Array.getElem?_setIfInBounds, Array.size_setIfInBounds, hs]
     repeat (rw [if_neg (by omega)])
     exact a0
   · simp only [Array.getElem?_setIfInBounds, Array.size_setIfInBounds, hs]
     repeat (rw [if_neg (by omega)])
     exact a1
   · simp only [Array.getElem?_setIfInBounds, Array.size_setIfInBounds, hs]
     repeat (rw [if_neg (by omega)])
     exact a2
   · simp only [Array.getElem?_setIfInBounds, Array.size_setIfInBounds, hs]
     repeat (rw [if_neg (by omega)])
     exact a3
   · simp only [Array.getElem?_setIfInBounds, Array.size_setIfInBounds, hs]
     repeat (rw [if_neg (by omega)])
     exact a4
set_option maxHeartbeats 400000 in
set_option maxRecDepth 100000 in
theorem Put_bad (a : S24) (A : Option Addr) (ca p : Nat) (f : Nat → S24) (h : Nat → Bool) (w w0 : World) (hca : a.f3.length ≤ ca) (HKC : Hid (Kd.C k28 w A a.f3.length a.f3)) (H : Hid (BaseAt w p f h)) (HB0 : Hid (Below w0.heap.size w0 w)) (hp0 : w0.heap.size ≤ p) (hbad : chk a.f0 a.f1 a.f2 a.f3 ≠ 0) :
 Calls Try.prog 50 #[.pointer (some ⟨p, 0, none⟩), .agg #[.int .i64 a.f0, .int .i64 a.f1, .int .i64 a.f2, .slice A a.f3.length ca]] w fun e w' => e = .returned (.tuple #[.int .i64 0, .int .i64 (chk a.f0 a.f1 a.f2 a.f3)]) ∧ BaseAt w' p f h ∧ Below w0.heap.size w0 w' ∧ Below w.heap.size w w' := by
 have hu := Try.underlying24
 have hu90 := Try.underlying90
 have hu91 := Try.underlying91
 have hu93 := Try.underlying93
 have hlt := H.out.lt
 obtain ⟨k1, hch⟩ := Check_ends a.f0 a.f1 a.f2 a.f3
 obtain ⟨er, Her⟩ : ∃ er, Hid (er = chk a.f0 a.f1 a.f2 a.f3) := ⟨_, Lib.hid rfl⟩
 rw [← Her.out] at hch hbad
 rw [← Her.out]
 have Hch1 := Lib.hid hch
 have heb : (er == 0) = false := beq_eq_false_iff_ne.mpr hbad
 have heb2 : (er != 0) = true := bne_iff_ne.mpr hbad
 clear hch hbad
 go_enter Try.func50, Try.ntmps50
 go_wp2_with fail
 have HX1_0 := Lib.hid (blk_alloc w (.cells #[.int .i64 a.f0, .int .i64 a.f1, .int .i64 a.f2, .slice A a.f3.length ca] 24))
 have HB1 := Lib.hid ((Below.refl w.heap.size w).alloc (Nat.le_refl _) (.cells #[.int .i64 a.f0, .int .i64 a.f1, .int .i64 a.f2, .slice A a.f3.length ca] 24))
 refine (adv_Check.calls k1 a.f0 a.f1 a.f2 A ca a.f3 er _ (Kd.C_below HKC.out HB1.out) hca Hch1.out).mono ?_
 rintro e w2 ⟨rfl, hb2⟩
 have HB2 := Lib.hid (HB1.out.trans (hb2.mono HB1.out.size))
 have HX2_0 := Lib.hid (blk_keep hb2 HX1_0.out)
 clear hb2
 have hgl := blk_lt HX2_0.out
 obtain ⟨p2_00, p2_01, p2_02, p2_03, p2_0f⟩ := blk_cells4 HX2_0.out
 go_wp2_with fail
 go_ret2
 exact ⟨rfl, H.out.below HB2.out, HB0.out.trans (HB2.out.mono HB0.out.size), HB2.out⟩
set_option maxHeartbeats 400000 in
set_option maxRecDepth 100000 in
theorem Put_new (a : S24) (A : Option Addr) (ca p : Nat) (f : Nat → S24) (h : Nat → Bool) (w w0 : World) (hca : a.f3.length ≤ ca) (HKC : Hid (Kd.C k28 w A a.f3.length a.f3)) (H : Hid (BaseAt w p f h)) (HB0 : Hid (Below w0.heap.size w0 w)) (hp0 : w0.heap.size ≤ p) (i : Nat) (hi : i < 16) (hai : a.f0 = i) (hok : chk a.f0 a.f1 a.f2 a.f3 = 0) (HLEN : Hid (a.f3.length ≤ 1000)) (hh : h i = false) :
 Calls Try.prog 50 #[.pointer (some ⟨p, 0, none⟩), .agg #[.int .i64 a.f0, .int .i64 a.f1, .int .i64 a.f2, .slice A a.f3.length ca]] w fun e w' => e = .returned (.tuple #[.int .i64 1, .int .i64 0]) ∧ BaseAt w' p (fun j => if j = i then a else f j) (fun j => if j = i then true else h j) ∧ Below w0.heap.size w0 w' ∧ KeepBut w w' p none := by
 have hu := Try.underlying24
 have hu90 := Try.underlying90
 have hu91 := Try.underlying91
 have hu93 := Try.underlying93
 have hlt := H.out.lt
 obtain ⟨k1, hch⟩ := Check_ends a.f0 a.f1 a.f2 a.f3
 rw [hok] at hch
 have Hch1 := Lib.hid hch
 have HOK := Lib.hid hok
 have HAI := Lib.hid hai
 have HH := Lib.hid hh
 have hi2 : (i : Int) < 16 := by omega
 clear hch hok hai hh
 go_enter Try.func50, Try.ntmps50
 go_wp2_with fail
 have HX1_0 := Lib.hid (blk_alloc w (.cells #[.int .i64 a.f0, .int .i64 a.f1, .int .i64 a.f2, .slice A a.f3.length ca] 24))
 have HB1 := Lib.hid ((Below.refl w.heap.size w).alloc (Nat.le_refl _) (.cells #[.int .i64 a.f0, .int .i64 a.f1, .int .i64 a.f2, .slice A a.f3.length ca] 24))
 refine (adv_Check.calls k1 a.f0 a.f1 a.f2 A ca a.f3 0 _ (Kd.C_below HKC.out HB1.out) hca Hch1.out).mono ?_
 rintro e w2 ⟨rfl, hb2⟩
 have HB2 := Lib.hid (HB1.out.trans (hb2.mono HB1.out.size))
 have HX2_0 := Lib.hid (blk_keep hb2 HX1_0.out)
 clear hb2
 have hgl := blk_lt HX2_0.out
 obtain ⟨p2_00, p2_01, p2_02, p2_03, p2_0f⟩ := blk_cells4 HX2_0.out
 have HBD2 := Lib.hid (H.out.below HB2.out)
 have hpl := HBD2.out.lt
 obtain ⟨D, cd, d0, d1, d2, d3, d4, hle, hC, hf⟩ := HBD2.out.read hi
 rw [HH.out] at d4
 clear hC hle
 rw [HAI.out] at p2_00
 go_wp2_with fail
 go_quiet (fail)
 go_wp2_with fail
 generalize hq : w2.drewN _ = wq
 have HQ : Below w2.heap.size w2 wq := by rw [← hq]; exact pw_below_drewN (Below.refl _ _) _
 have HBq := Lib.hid (HB2.out.trans (HQ.mono HB2.out.size))
 have HXq_0 := Lib.hid (blk_keep HQ HX2_0.out)
 have HBDq := Lib.hid (HBD2.out.below HQ)
 clear hq HQ p2_00 p2_01 p2_02 p2_03 p2_0f hgl hpl d0 d1 d2 d3 d4 hf
 obtain ⟨pq_00, pq_01, pq_02, pq_03, pq_0f⟩ := blk_cells4 HXq_0.out
 rw [HAI.out] at pq_00
 have HBqd := Lib.hid HBq.out.drew
 have HXqd_0 := Lib.hid (show wq.drew.heap[w.heap.size]? = _ from HXq_0.out)
 have HBDqd := Lib.hid (BaseAt.below HBDq.out (Below.refl _ _).drew)
 refine start_ (n := 16) (S := fun w' => w'.cell? ⟨w.heap.size, 0, none⟩ = some (.int .i64 i) ∧ w'.cell? ⟨w.heap.size, 1, none⟩ = some (.int .i64 a.f1) ∧ w'.cell? ⟨w.heap.size, 2, none⟩ = some (.int .i64 a.f2) ∧ w'.cell? ⟨w.heap.size, 3, none⟩ = some (.slice A a.f3.length ca)) (ds := []) #[false, false, false, false, false, false, false, false, false, false, false, false, false, false, false, false] (by kernel_rfl) rfl rfl ⟨pq_00, pq_01, pq_02, pq_03⟩ (fun hHeld => ?_)
 refine pure_ (i := 0) (N := some 31) (v := ?_) (a' := ?_) #[true, false, false, false, false, false, false, false, false, false, false, false, false, false, false, false] rfl rfl (by kernel_rfl) (fun _ _ _ h => h) (Or.inl ⟨by rfl, ?_⟩) ?_ ?_
 rotate_left
 · intro w'
   go_simp
   with_reducible rfl
 rotate_left
 · simp only [Act.put, List.setIfInBounds_toArray, List.set_cons_zero, List.set_cons_succ, i64_w, i32_w]
   rfl
 refine pure_ (i := 1) (N := some 32) (v := ?_) (a' := ?_) #[true, true, false, false, false, false, false, false, false, false, false, false, false, false, false, false] rfl rfl (by kernel_rfl) (fun _ _ _ h => h) (Or.inl ⟨by rfl, ?_⟩) ?_ ?_
 rotate_left
 · intro w'
   go_simp
   with_reducible rfl
 rotate_left
 · simp only [Act.put, List.setIfInBounds_toArray, List.set_cons_zero, List.set_cons_succ, i64_w, i32_w]
   rfl
 refine pure_ (i := 3) (N := some 34) (v := ?_) (a' := ?_) #[true, true, false, true, false, false, false, false, false, false, false, false, false, false, false, false] rfl rfl (by kernel_rfl) (fun _ _ _ h => h) (Or.inl ⟨by rfl, ?_⟩) ?_ ?_
 rotate_left
 · intro w'
   go_simp
   with_reducible rfl
 rotate_left
 · simp only [Act.put, List.setIfInBounds_toArray, List.set_cons_zero, List.set_cons_succ, i64_w, i32_w]
   rfl
 refine pure_ (i := 4) (N := some 35) (v := ?_) (a' := ?_) #[true, true, false, true, true, false, false, false, false, false, false, false, false, false, false, false] rfl rfl (by kernel_rfl) (fun _ _ _ h => h) (Or.inl ⟨by rfl, ?_⟩) ?_ ?_
 rotate_left
 · intro w'
   go_simp
   with_reducible rfl
 rotate_left
 · simp only [Act.put, List.setIfInBounds_toArray, List.set_cons_zero, List.set_cons_succ, i64_w, i32_w]
   rfl
 refine pure_ (i := 8) (N := some 39) (v := ?_) (a' := ?_) #[true, true, false, true, true, false, false, false, true, false, false, false, false, false, false, false] rfl rfl (by kernel_rfl) (fun _ _ _ h => h) (Or.inl ⟨by rfl, ?_⟩) ?_ ?_
 rotate_left
 · intro w'
   go_simp
   with_reducible rfl
 rotate_left
 · simp only [Act.put, List.setIfInBounds_toArray, List.set_cons_zero, List.set_cons_succ, i64_w, i32_w]
   rfl
 refine pure_ (i := 9) (N := some 40) (v := ?_) (a' := ?_) #[true, true, false, true, true, false, false, false, true, true, false, false, false, false, false, false] rfl rfl (by kernel_rfl) (fun _ _ _ h => h) (Or.inl ⟨by rfl, ?_⟩) ?_ ?_
 rotate_left
 · intro w'
   go_simp
   with_reducible rfl
 rotate_left
 · simp only [Act.put, List.setIfInBounds_toArray, List.set_cons_zero, List.set_cons_succ, i64_w, i32_w]
   rfl
 refine pure_ (i := 12) (N := some 42) (v := ?_) (a' := ?_) #[true, true, false, true, true, false, false, false, true, true, false, false, true, false, false, false] rfl rfl (by kernel_rfl) (fun _ _ _ h => h) (Or.inl ⟨by rfl, ?_⟩) ?_ ?_
 rotate_left
 · intro w'
   go_simp
   with_reducible rfl
 rotate_left
 · simp only [Act.put, List.setIfInBounds_toArray, List.set_cons_zero, List.set_cons_succ, i64_w, i32_w]
   rfl
 refine pure_ (i := 13) (N := some 43) (v := ?_) (a' := ?_) #[true, true, false, true, true, false, false, false, true, true, false, false, true, true, false, false] rfl rfl (by kernel_rfl) (fun _ _ _ h => h) (Or.inl ⟨by rfl, ?_⟩) ?_ ?_
 rotate_left
 · intro w'
   go_simp
   with_reducible rfl
 rotate_left
 · simp only [Act.put, List.setIfInBounds_toArray, List.set_cons_zero, List.set_cons_succ, i64_w, i32_w]
   rfl
 refine take_ (i := 2) (N := some 33) (v := ?_) (a' := ?_) #[true, true, true, true, true, false, false, false, true, true, false, false, true, true, false, false] rfl rfl (by kernel_rfl) (fun _ _ _ h => h) (Or.inl ⟨by rfl, ?_⟩) hHeld ?_ ?_
 rotate_left
 · rintro w' ⟨s0, s1, s2, s3⟩
   go_simp
   with_reducible rfl
 rotate_left
 · simp only [Act.put, List.setIfInBounds_toArray, List.set_cons_zero, List.set_cons_succ, i64_w, i32_w]
   rfl
 refine take_ (i := 5) (N := some 36) (v := ?_) (a' := ?_) #[true, true, true, true, true, true, false, false, true, true, false, false, true, true, false, false] rfl rfl (by kernel_rfl) (fun _ _ _ h => h) (Or.inl ⟨by rfl, ?_⟩) hHeld ?_ ?_
 rotate_left
 · rintro w' ⟨s0, s1, s2, s3⟩
   go_simp
   with_reducible rfl
 rotate_left
 · simp only [Act.put, List.setIfInBounds_toArray, List.set_cons_zero, List.set_cons_succ, i64_w, i32_w]
   rfl
 refine take_ (i := 6) (N := some 37) (v := ?_) (a' := ?_) #[true, true, true, true, true, true, true, false, true, true, false, false, true, true, false, false] rfl rfl (by kernel_rfl) (fun _ _ _ h => h) (Or.inl ⟨by rfl, ?_⟩) hHeld ?_ ?_
 rotate_left
 · rintro w' ⟨s0, s1, s2, s3⟩
   go_simp
   with_reducible rfl
 rotate_left
 · simp only [Act.put, List.setIfInBounds_toArray, List.set_cons_zero, List.set_cons_succ, i64_w, i32_w]
   rfl
 refine one_ (i := 7) (N := some 38) #[true, true, true, true, true, true, true, true, true, true, false, false, true, true, false, false] rfl rfl (by kernel_rfl) (by decide) (fun K hK => ?_)
 refine goes_ Try.func53 (by kernel_rfl) rfl #[.agg #[.int .i64 i, .int .i64 a.f1, .int .i64 a.f2, .slice A a.f3.length ca]] (by rfl) rfl rfl (by simp only [List.map_toArray, List.map_cons, List.map_nil]; rfl) ?_
 with_reducible refine (own53 i a.f1 a.f2 A ca a.f3 _ HLEN.out (Lib.hid (Kd.C_below HKC.out HBqd.out))).mono ?_
 rintro e w3 ⟨A', c', rfl, hle3, hR3, hb3⟩
 refine ⟨_, rfl, ?_⟩
 have HR3 := Lib.hid hR3
 have HLE3 := Lib.hid hle3
 have HB3 := Lib.hid (HBqd.out.trans (hb3.mono HBqd.out.size))
 have HX3_0 := Lib.hid (blk_keep hb3 HXqd_0.out)
 have HBD3 := Lib.hid (BaseAt.below HBDqd.out hb3)
 clear hR3 hle3 hb3
 obtain ⟨p3_00, p3_01, p3_02, p3_03, p3_0f⟩ := blk_cells4 HX3_0.out; rw [HAI.out] at p3_00
 obtain ⟨D3, cd3, d30, d31, d32, d33, d34, _, _, hf3⟩ := HBD3.out.read hi
 refine hK.out _ _ ⟨p3_00, p3_01, p3_02, p3_03⟩ (fun hHeld => ?_)
 clear hK K
 refine norm_ (a' := ?_) ?_ ?_
 rotate_left
 · show Act.put _ (some 38) _ = _
   simp only [Act.put, List.setIfInBounds_toArray, List.set_cons_zero, List.set_cons_succ, i64_w, i32_w]
   rfl
 refine pure_ (i := 10) (N := some 41) (v := ?_) (a' := ?_) #[true, true, true, true, true, true, true, true, true, true, true, false, true, true, false, false] rfl rfl (by kernel_rfl) (fun _ _ _ h => h) (Or.inl ⟨by rfl, ?_⟩) ?_ ?_
 rotate_left
 · intro w'
   go_simp
   with_reducible rfl
 rotate_left
 · simp only [Act.put, List.setIfInBounds_toArray, List.set_cons_zero, List.set_cons_succ, i64_w, i32_w]
   rfl
 refine one_ (i := 11) (N := none) #[true, true, true, true, true, true, true, true, true, true, true, true, true, true, false, false] rfl rfl (by kernel_rfl) (by decide) (fun K hK => ?_)
 refine skip_ (w1 := ?_) (by rfl) rfl ?_ ?_
 rotate_left
 · go_simp
   rfl
 have HX4_0 := Lib.hid (show ((((w3.setCell ⟨p, i * 4, none⟩ (.int .i64 i)).setCell ⟨p, i * 4 + 1, none⟩ (.int .i64 a.f1)).setCell ⟨p, i * 4 + 2, none⟩ (.int .i64 a.f2)).setCell ⟨p, i * 4 + 3, none⟩ (.slice A' a.f3.length c')).heap[w.heap.size]? = some (.cells #[.int .i64 a.f0, .int .i64 a.f1, .int .i64 a.f2, .slice A a.f3.length ca] 24 (0, 0)) from (((((KeepBut.refl w3 p none).set_ _ _).set_ _ _).set_ _ _).set_ _ _).blk HX3_0.out (by omega) (by simp))
 obtain ⟨p4_00, p4_01, p4_02, p4_03, p4_0f⟩ := blk_cells4 HX4_0.out; rw [HAI.out] at p4_00
 have hf4 : ∀ j, (((((w3.setCell ⟨p, i * 4, none⟩ (.int .i64 i)).setCell ⟨p, i * 4 + 1, none⟩ (.int .i64 a.f1)).setCell ⟨p, i * 4 + 2, none⟩ (.int .i64 a.f2)).setCell ⟨p, i * 4 + 3, none⟩ (.slice A' a.f3.length c'))).frozen? ⟨p, j, none⟩ = false := by obtain ⟨cs, hp, _⟩ := HBD3.out; exact blk_free (blk_set (blk_set (blk_set (blk_set hp _ _) _ _) _ _) _ _)
 refine hK.out _ _ ⟨p4_00, p4_01, p4_02, p4_03⟩ (fun hHeld => ?_)
 clear hK K
 refine pure_ (i := 14) (N := some 44) (v := ?_) (a' := ?_) #[true, true, true, true, true, true, true, true, true, true, true, true, true, true, true, false] rfl rfl (by kernel_rfl) (fun _ _ _ h => h) (Or.inl ⟨by rfl, ?_⟩) ?_ ?_
 rotate_left
 · intro w'
   go_simp
   with_reducible rfl
 rotate_left
 · simp only [Act.put, List.setIfInBounds_toArray, List.set_cons_zero, List.set_cons_succ, i64_w, i32_w]
   rfl
 refine one_ (i := 15) (N := none) #[true, true, true, true, true, true, true, true, true, true, true, true, true, true, true, true] rfl rfl (by kernel_rfl) (by decide) (fun K hK => ?_)
 refine skip_ (w1 := ?_) (by rfl) rfl ?_ ?_
 rotate_left
 · go_simp
   rfl
 have HX5_0 := Lib.hid (show (((((w3.setCell ⟨p, i * 4, none⟩ (.int .i64 i)).setCell ⟨p, i * 4 + 1, none⟩ (.int .i64 a.f1)).setCell ⟨p, i * 4 + 2, none⟩ (.int .i64 a.f2)).setCell ⟨p, i * 4 + 3, none⟩ (.slice A' a.f3.length c')).setCell ⟨p, 64 + i, none⟩ (.bool true)).heap[w.heap.size]? = some (.cells #[.int .i64 a.f0, .int .i64 a.f1, .int .i64 a.f2, .slice A a.f3.length ca] 24 (0, 0)) from ((((((KeepBut.refl w3 p none).set_ _ _).set_ _ _).set_ _ _).set_ _ _).set_ _ _).blk HX3_0.out (by omega) (by simp))
 obtain ⟨p5_00, p5_01, p5_02, p5_03, p5_0f⟩ := blk_cells4 HX5_0.out; rw [HAI.out] at p5_00
 refine hK.out _ _ ⟨p5_00, p5_01, p5_02, p5_03⟩ (fun hHeld => ?_)
 clear hK K
 refine done_ (by kernel_rfl) ?_
 go_wp2_with fail
 have HBD5 := Lib.hid (BaseAt.put HBD3.out hi a HAI.out HLE3.out HR3.out (show p < wq.drew.heap.size from HBDq.out.lt))
 have HB5 := Lib.hid (Below.setCell (Below.setCell (Below.setCell (Below.setCell (Below.setCell (HB0.out.trans (HB3.out.mono HB0.out.size)) (p := ⟨p, i * 4, none⟩) hp0 (.int .i64 i)) (p := ⟨p, i * 4 + 1, none⟩) hp0 (.int .i64 a.f1)) (p := ⟨p, i * 4 + 2, none⟩) hp0 (.int .i64 a.f2)) (p := ⟨p, i * 4 + 3, none⟩) hp0 (.slice A' a.f3.length c')) (p := ⟨p, 64 + i, none⟩) hp0 (.bool true))
 have HK5 := Lib.hid ((KeepBut.of_below HB3.out p none).trans (keep_sets (w := w3) p (i * 4) (i * 4 + 1) (i * 4 + 2) (i * 4 + 3) (64 + i) (.int .i64 i) (.int .i64 a.f1) (.int .i64 a.f2) (.slice A' a.f3.length c') (.bool true)) (.inl rfl))
 go_ret2
 exact ⟨rfl, HBD5.out, HB5.out, HK5.out⟩
set_option maxHeartbeats 400000 in
set_option maxRecDepth 100000 in
theorem Put_stays (a : S24) (A : Option Addr) (ca p : Nat) (f : Nat → S24) (h : Nat → Bool) (w w0 : World) (hca : a.f3.length ≤ ca) (HKC : Hid (Kd.C k28 w A a.f3.length a.f3)) (H : Hid (BaseAt w p f h)) (HB0 : Hid (Below w0.heap.size w0 w)) (hp0 : w0.heap.size ≤ p) (i : Nat) (hi : i < 16) (hai : a.f0 = i) (hok : chk a.f0 a.f1 a.f2 a.f3 = 0) (HLEN : Hid (a.f3.length ≤ 1000)) (hla : a.f3.length ≤ 16) (hlb : (f i).f3.length ≤ 16) (hh : h i = true) (n : Int) (Hn : Hid (newerP a (f i) = n)) (hn : ¬ n > 0) :
 Calls Try.prog 50 #[.pointer (some ⟨p, 0, none⟩), .agg #[.int .i64 a.f0, .int .i64 a.f1, .int .i64 a.f2, .slice A a.f3.length ca]] w fun e w' => e = .returned (.tuple #[.int .i64 n, .int .i64 0]) ∧ BaseAt w' p f h ∧ Below w0.heap.size w0 w' ∧ Below w.heap.size w w' := by
 have hu := Try.underlying24
 have hu90 := Try.underlying90
 have hu91 := Try.underlying91
 have hu93 := Try.underlying93
 have hlt := H.out.lt
 obtain ⟨k1, hch⟩ := Check_ends a.f0 a.f1 a.f2 a.f3
 rw [hok] at hch
 have Hch1 := Lib.hid hch
 have HOK := Lib.hid hok
 have HAI := Lib.hid hai
 have HH := Lib.hid hh
 have HLA := Lib.hid hla
 have HLB := Lib.hid hlb
 have hi2 : (i : Int) < 16 := by omega
 clear hch hok hai hh hla hlb
 go_enter Try.func50, Try.ntmps50
 go_wp2_with fail
 have HX1_0 := Lib.hid (blk_alloc w (.cells #[.int .i64 a.f0, .int .i64 a.f1, .int .i64 a.f2, .slice A a.f3.length ca] 24))
 have HB1 := Lib.hid ((Below.refl w.heap.size w).alloc (Nat.le_refl _) (.cells #[.int .i64 a.f0, .int .i64 a.f1, .int .i64 a.f2, .slice A a.f3.length ca] 24))
 refine (adv_Check.calls k1 a.f0 a.f1 a.f2 A ca a.f3 0 _ (Kd.C_below HKC.out HB1.out) hca Hch1.out).mono ?_
 rintro e w2 ⟨rfl, hb2⟩
 have HB2 := Lib.hid (HB1.out.trans (hb2.mono HB1.out.size))
 have HX2_0 := Lib.hid (blk_keep hb2 HX1_0.out)
 clear hb2
 have hgl := blk_lt HX2_0.out
 obtain ⟨p2_00, p2_01, p2_02, p2_03, p2_0f⟩ := blk_cells4 HX2_0.out
 have HBD2 := Lib.hid (H.out.below HB2.out)
 have hpl := HBD2.out.lt
 obtain ⟨D, cd, d0, d1, d2, d3, d4, hle, hC, hf⟩ := HBD2.out.read hi
 rw [HH.out] at d4
 clear hC hle
 rw [HAI.out] at p2_00
 go_wp2_with fail
 go_quiet (fail)
 go_wp2_with fail
 generalize hq : w2.drewN _ = wq
 have HQ : Below w2.heap.size w2 wq := by rw [← hq]; exact pw_below_drewN (Below.refl _ _) _
 have HBq := Lib.hid (HB2.out.trans (HQ.mono HB2.out.size))
 have HXq_0 := Lib.hid (blk_keep HQ HX2_0.out)
 have HBDq := Lib.hid (HBD2.out.below HQ)
 clear hq HQ p2_00 p2_01 p2_02 p2_03 p2_0f hgl hpl d0 d1 d2 d3 d4 hf
 obtain ⟨E', ce, e0, e1, e2, e3, e4, hle, hC, hf⟩ := HBDq.out.read hi
 have HLEe := Lib.hid hle
 have HCe := Lib.hid hC
 clear hC hle hf
 obtain ⟨pq_00, pq_01, pq_02, pq_03, pq_0f⟩ := blk_cells4 HXq_0.out
 rw [HAI.out] at pq_00
 have HBqd := Lib.hid HBq.out.drew
 have HXqd_0 := Lib.hid (show wq.drew.heap[w.heap.size]? = _ from HXq_0.out)
 have HBDqd := Lib.hid (BaseAt.below HBDq.out (Below.refl _ _).drew)
 have hnw := newer_any a (f i) A E' ca ce wq.drew HLA.out HLB.out hca HLEe.out (Lib.hid (Kd.C_below HKC.out HBqd.out)) (Lib.hid (show Kd.C k28 wq.drew E' (f i).f3.length (f i).f3 from Kd.C_below HCe.out (Below.refl _ _).drew))
 rw [Hn.out, HAI.out] at hnw
 have HNW := Lib.hid hnw
 clear hnw
 refine start_ (n := 10) (S := fun w' => w'.cell? ⟨w.heap.size, 0, none⟩ = some (.int .i64 i) ∧ w'.cell? ⟨w.heap.size, 1, none⟩ = some (.int .i64 a.f1) ∧ w'.cell? ⟨w.heap.size, 2, none⟩ = some (.int .i64 a.f2) ∧ w'.cell? ⟨w.heap.size, 3, none⟩ = some (.slice A a.f3.length ca) ∧ w'.cell? ⟨p, i * 4, none⟩ = some (.int .i64 (f i).f0) ∧ w'.cell? ⟨p, i * 4 + 1, none⟩ = some (.int .i64 (f i).f1) ∧ w'.cell? ⟨p, i * 4 + 2, none⟩ = some (.int .i64 (f i).f2) ∧ w'.cell? ⟨p, i * 4 + 3, none⟩ = some (.slice E' (f i).f3.length ce)) (ds := []) #[false, false, false, false, false, false, false, false, false, false] (by kernel_rfl) rfl rfl ⟨pq_00, pq_01, pq_02, pq_03, e0, e1, e2, e3⟩ (fun hHeld => ?_)
 refine pure_ (i := 1) (N := some 21) (v := ?_) (a' := ?_) #[false, true, false, false, false, false, false, false, false, false] rfl rfl (by kernel_rfl) (fun _ _ _ h => h) (Or.inl ⟨by rfl, ?_⟩) ?_ ?_
 rotate_left
 · intro w'
   go_simp
   with_reducible rfl
 rotate_left
 · simp only [Act.put, List.setIfInBounds_toArray, List.set_cons_zero, List.set_cons_succ, i64_w, i32_w]
   rfl
 refine pure_ (i := 2) (N := some 22) (v := ?_) (a' := ?_) #[false, true, true, false, false, false, false, false, false, false] rfl rfl (by kernel_rfl) (fun _ _ _ h => h) (Or.inl ⟨by rfl, ?_⟩) ?_ ?_
 rotate_left
 · intro w'
   go_simp
   with_reducible rfl
 rotate_left
 · simp only [Act.put, List.setIfInBounds_toArray, List.set_cons_zero, List.set_cons_succ, i64_w, i32_w]
   rfl
 refine pure_ (i := 4) (N := some 24) (v := ?_) (a' := ?_) #[false, true, true, false, true, false, false, false, false, false] rfl rfl (by kernel_rfl) (fun _ _ _ h => h) (Or.inl ⟨by rfl, ?_⟩) ?_ ?_
 rotate_left
 · intro w'
   go_simp
   with_reducible rfl
 rotate_left
 · simp only [Act.put, List.setIfInBounds_toArray, List.set_cons_zero, List.set_cons_succ, i64_w, i32_w]
   rfl
 refine pure_ (i := 5) (N := some 25) (v := ?_) (a' := ?_) #[false, true, true, false, true, true, false, false, false, false] rfl rfl (by kernel_rfl) (fun _ _ _ h => h) (Or.inl ⟨by rfl, ?_⟩) ?_ ?_
 rotate_left
 · intro w'
   go_simp
   with_reducible rfl
 rotate_left
 · simp only [Act.put, List.setIfInBounds_toArray, List.set_cons_zero, List.set_cons_succ, i64_w, i32_w]
   rfl
 refine take_ (i := 0) (N := some 20) (v := ?_) (a' := ?_) #[true, true, true, false, true, true, false, false, false, false] rfl rfl (by kernel_rfl) (fun _ _ _ h => h) (Or.inl ⟨by rfl, ?_⟩) hHeld ?_ ?_
 rotate_left
 · rintro w' ⟨s0, s1, s2, s3, s4, s5, s6, s7⟩
   go_simp
   with_reducible rfl
 rotate_left
 · simp only [Act.put, List.setIfInBounds_toArray, List.set_cons_zero, List.set_cons_succ, i64_w, i32_w]
   rfl
 refine take_ (i := 3) (N := some 23) (v := ?_) (a' := ?_) #[true, true, true, true, true, true, false, false, false, false] rfl rfl (by kernel_rfl) (fun _ _ _ h => h) (Or.inl ⟨by rfl, ?_⟩) hHeld ?_ ?_
 rotate_left
 · rintro w' ⟨s0, s1, s2, s3, s4, s5, s6, s7⟩
   go_simp
   with_reducible rfl
 rotate_left
 · simp only [Act.put, List.setIfInBounds_toArray, List.set_cons_zero, List.set_cons_succ, i64_w, i32_w]
   rfl
 refine pure_ (i := 6) (N := some 26) (v := ?_) (a' := ?_) #[true, true, true, true, true, true, true, false, false, false] rfl rfl (by kernel_rfl) (fun _ _ _ h => h) (Or.inl ⟨by rfl, ?_⟩) ?_ ?_
 rotate_left
 · intro w'
   go_simp
   with_reducible rfl
 rotate_left
 · simp only [Act.put, List.setIfInBounds_toArray, List.set_cons_zero, List.set_cons_succ, i64_w, i32_w]
   rfl
 refine take_ (i := 7) (N := some 27) (v := ?_) (a' := ?_) #[true, true, true, true, true, true, true, true, false, false] rfl rfl (by kernel_rfl) (fun _ _ _ h => h) (Or.inl ⟨by rfl, ?_⟩) hHeld ?_ ?_
 rotate_left
 · rintro w' ⟨s0, s1, s2, s3, s4, s5, s6, s7⟩
   go_simp
   with_reducible rfl
 rotate_left
 · simp only [Act.put, List.setIfInBounds_toArray, List.set_cons_zero, List.set_cons_succ, i64_w, i32_w]
   rfl
 refine one_ (i := 8) (N := some 28) #[true, true, true, true, true, true, true, true, true, false] rfl rfl (by kernel_rfl) (by decide) (fun K hK => ?_)
 refine goes_ Try.func48 (by kernel_rfl) rfl #[.agg #[.int .i64 i, .int .i64 a.f1, .int .i64 a.f2, .slice A a.f3.length ca], .agg #[.int .i64 (f i).f0, .int .i64 (f i).f1, .int .i64 (f i).f2, .slice E' (f i).f3.length ce]] (by rfl) rfl rfl (by simp only [List.map_toArray, List.map_cons, List.map_nil]; rfl) ?_
 with_reducible refine (HNW.out).mono ?_
 rintro e w7 ⟨rfl, hb7⟩
 refine ⟨_, rfl, ?_⟩
 have HB7 := Lib.hid (HBqd.out.trans (hb7.mono HBqd.out.size))
 have HX7_0 := Lib.hid (blk_keep hb7 HXqd_0.out)
 have HBD7 := Lib.hid (BaseAt.below HBDqd.out hb7)
 have HE7 := Lib.hid hb7
 clear hb7
 obtain ⟨p7_00, p7_01, p7_02, p7_03, p7_0f⟩ := blk_cells4 HX7_0.out
 rw [HAI.out] at p7_00
 have g0 : w7.cell? ⟨p, i * 4, none⟩ = some (.int .i64 (f i).f0) := (HE7.out.cell (p := ⟨p, i * 4, none⟩) HBDqd.out.lt).trans e0
 have g1 : w7.cell? ⟨p, i * 4 + 1, none⟩ = some (.int .i64 (f i).f1) := (HE7.out.cell (p := ⟨p, i * 4 + 1, none⟩) HBDqd.out.lt).trans e1
 have g2 : w7.cell? ⟨p, i * 4 + 2, none⟩ = some (.int .i64 (f i).f2) := (HE7.out.cell (p := ⟨p, i * 4 + 2, none⟩) HBDqd.out.lt).trans e2
 have g3 : w7.cell? ⟨p, i * 4 + 3, none⟩ = some (.slice E' (f i).f3.length ce) := (HE7.out.cell (p := ⟨p, i * 4 + 3, none⟩) HBDqd.out.lt).trans e3
 refine hK.out _ _ ⟨p7_00, p7_01, p7_02, p7_03, g0, g1, g2, g3⟩ (fun hHeld => ?_)
 clear hK K
 refine norm_ (a' := ?_) ?_ ?_
 rotate_left
 · show Act.put _ (some 28) _ = _
   simp only [Act.put, List.setIfInBounds_toArray, List.set_cons_zero, List.set_cons_succ, i64_w, i32_w]
   rfl
 refine pure_ (i := 9) (N := some 7) (v := ?_) (a' := ?_) #[true, true, true, true, true, true, true, true, true, true] rfl rfl (by kernel_rfl) (fun _ _ _ h => h) (Or.inl ⟨by rfl, ?_⟩) ?_ ?_
 rotate_left
 · intro w'
   go_simp
   with_reducible rfl
 rotate_left
 · simp only [Act.put, List.setIfInBounds_toArray, List.set_cons_zero, List.set_cons_succ, i64_w, i32_w]
   rfl
 refine done_ (by kernel_rfl) ?_
 go_wp2_with fail
 go_ret2
 exact ⟨rfl, HBD7.out, HB0.out.trans (HB7.out.mono HB0.out.size), HB7.out⟩
set_option maxHeartbeats 400000 in
set_option maxRecDepth 100000 in
theorem Put_more (a : S24) (A : Option Addr) (ca p : Nat) (f : Nat → S24) (h : Nat → Bool) (w w0 : World) (hca : a.f3.length ≤ ca) (HKC : Hid (Kd.C k28 w A a.f3.length a.f3)) (H : Hid (BaseAt w p f h)) (HB0 : Hid (Below w0.heap.size w0 w)) (hp0 : w0.heap.size ≤ p) (i : Nat) (hi : i < 16) (hai : a.f0 = i) (hok : chk a.f0 a.f1 a.f2 a.f3 = 0) (HLEN : Hid (a.f3.length ≤ 1000)) (hla : a.f3.length ≤ 16) (hlb : (f i).f3.length ≤ 16) (hh : h i = true) (n : Int) (Hn : Hid (newerP a (f i) = n)) (hn : n > 0) :
 Calls Try.prog 50 #[.pointer (some ⟨p, 0, none⟩), .agg #[.int .i64 a.f0, .int .i64 a.f1, .int .i64 a.f2, .slice A a.f3.length ca]] w fun e w' => e = .returned (.tuple #[.int .i64 n, .int .i64 0]) ∧ BaseAt w' p (fun j => if j = i then a else f j) (fun j => if j = i then true else h j) ∧ Below w0.heap.size w0 w' ∧ KeepBut w w' p none := by
 have hu := Try.underlying24
 have hu90 := Try.underlying90
 have hu91 := Try.underlying91
 have hu93 := Try.underlying93
 have hlt := H.out.lt
 obtain ⟨k1, hch⟩ := Check_ends a.f0 a.f1 a.f2 a.f3
 rw [hok] at hch
 have Hch1 := Lib.hid hch
 have HOK := Lib.hid hok
 have HAI := Lib.hid hai
 have HH := Lib.hid hh
 have HLA := Lib.hid hla
 have HLB := Lib.hid hlb
 have hi2 : (i : Int) < 16 := by omega
 clear hch hok hai hh hla hlb
 go_enter Try.func50, Try.ntmps50
 go_wp2_with fail
 have HX1_0 := Lib.hid (blk_alloc w (.cells #[.int .i64 a.f0, .int .i64 a.f1, .int .i64 a.f2, .slice A a.f3.length ca] 24))
 have HB1 := Lib.hid ((Below.refl w.heap.size w).alloc (Nat.le_refl _) (.cells #[.int .i64 a.f0, .int .i64 a.f1, .int .i64 a.f2, .slice A a.f3.length ca] 24))
 refine (adv_Check.calls k1 a.f0 a.f1 a.f2 A ca a.f3 0 _ (Kd.C_below HKC.out HB1.out) hca Hch1.out).mono ?_
 rintro e w2 ⟨rfl, hb2⟩
 have HB2 := Lib.hid (HB1.out.trans (hb2.mono HB1.out.size))
 have HX2_0 := Lib.hid (blk_keep hb2 HX1_0.out)
 clear hb2
 have hgl := blk_lt HX2_0.out
 obtain ⟨p2_00, p2_01, p2_02, p2_03, p2_0f⟩ := blk_cells4 HX2_0.out
 have HBD2 := Lib.hid (H.out.below HB2.out)
 have hpl := HBD2.out.lt
 obtain ⟨D, cd, d0, d1, d2, d3, d4, hle, hC, hf⟩ := HBD2.out.read hi
 rw [HH.out] at d4
 clear hC hle
 rw [HAI.out] at p2_00
 go_wp2_with fail
 go_quiet (fail)
 go_wp2_with fail
 generalize hq : w2.drewN _ = wq
 have HQ : Below w2.heap.size w2 wq := by rw [← hq]; exact pw_below_drewN (Below.refl _ _) _
 have HBq := Lib.hid (HB2.out.trans (HQ.mono HB2.out.size))
 have HXq_0 := Lib.hid (blk_keep HQ HX2_0.out)
 have HBDq := Lib.hid (HBD2.out.below HQ)
 clear hq HQ p2_00 p2_01 p2_02 p2_03 p2_0f hgl hpl d0 d1 d2 d3 d4 hf
 obtain ⟨E', ce, e0, e1, e2, e3, e4, hle, hC, hf⟩ := HBDq.out.read hi
 have HLEe := Lib.hid hle
 have HCe := Lib.hid hC
 clear hC hle hf
 obtain ⟨pq_00, pq_01, pq_02, pq_03, pq_0f⟩ := blk_cells4 HXq_0.out
 rw [HAI.out] at pq_00
 have HBqd := Lib.hid HBq.out.drew
 have HXqd_0 := Lib.hid (show wq.drew.heap[w.heap.size]? = _ from HXq_0.out)
 have HBDqd := Lib.hid (BaseAt.below HBDq.out (Below.refl _ _).drew)
 have hnw := newer_any a (f i) A E' ca ce wq.drew HLA.out HLB.out hca HLEe.out (Lib.hid (Kd.C_below HKC.out HBqd.out)) (Lib.hid (show Kd.C k28 wq.drew E' (f i).f3.length (f i).f3 from Kd.C_below HCe.out (Below.refl _ _).drew))
 rw [Hn.out, HAI.out] at hnw
 have HNW := Lib.hid hnw
 clear hnw
 refine start_ (n := 10) (S := fun w' => w'.cell? ⟨w.heap.size, 0, none⟩ = some (.int .i64 i) ∧ w'.cell? ⟨w.heap.size, 1, none⟩ = some (.int .i64 a.f1) ∧ w'.cell? ⟨w.heap.size, 2, none⟩ = some (.int .i64 a.f2) ∧ w'.cell? ⟨w.heap.size, 3, none⟩ = some (.slice A a.f3.length ca) ∧ w'.cell? ⟨p, i * 4, none⟩ = some (.int .i64 (f i).f0) ∧ w'.cell? ⟨p, i * 4 + 1, none⟩ = some (.int .i64 (f i).f1) ∧ w'.cell? ⟨p, i * 4 + 2, none⟩ = some (.int .i64 (f i).f2) ∧ w'.cell? ⟨p, i * 4 + 3, none⟩ = some (.slice E' (f i).f3.length ce)) (ds := []) #[false, false, false, false, false, false, false, false, false, false] (by kernel_rfl) rfl rfl ⟨pq_00, pq_01, pq_02, pq_03, e0, e1, e2, e3⟩ (fun hHeld => ?_)
 refine pure_ (i := 1) (N := some 21) (v := ?_) (a' := ?_) #[false, true, false, false, false, false, false, false, false, false] rfl rfl (by kernel_rfl) (fun _ _ _ h => h) (Or.inl ⟨by rfl, ?_⟩) ?_ ?_
 rotate_left
 · intro w'
   go_simp
   with_reducible rfl
 rotate_left
 · simp only [Act.put, List.setIfInBounds_toArray, List.set_cons_zero, List.set_cons_succ, i64_w, i32_w]
   rfl
 refine pure_ (i := 2) (N := some 22) (v := ?_) (a' := ?_) #[false, true, true, false, false, false, false, false, false, false] rfl rfl (by kernel_rfl) (fun _ _ _ h => h) (Or.inl ⟨by rfl, ?_⟩) ?_ ?_
 rotate_left
 · intro w'
   go_simp
   with_reducible rfl
 rotate_left
 · simp only [Act.put, List.setIfInBounds_toArray, List.set_cons_zero, List.set_cons_succ, i64_w, i32_w]
   rfl
 refine pure_ (i := 4) (N := some 24) (v := ?_) (a' := ?_) #[false, true, true, false, true, false, false, false, false, false] rfl rfl (by kernel_rfl) (fun _ _ _ h => h) (Or.inl ⟨by rfl, ?_⟩) ?_ ?_
 rotate_left
 · intro w'
   go_simp
   with_reducible rfl
 rotate_left
 · simp only [Act.put, List.setIfInBounds_toArray, List.set_cons_zero, List.set_cons_succ, i64_w, i32_w]
   rfl
 refine pure_ (i := 5) (N := some 25) (v := ?_) (a' := ?_) #[false, true, true, false, true, true, false, false, false, false] rfl rfl (by kernel_rfl) (fun _ _ _ h => h) (Or.inl ⟨by rfl, ?_⟩) ?_ ?_
 rotate_left
 · intro w'
   go_simp
   with_reducible rfl
 rotate_left
 · simp only [Act.put, List.setIfInBounds_toArray, List.set_cons_zero, List.set_cons_succ, i64_w, i32_w]
   rfl
 refine take_ (i := 0) (N := some 20) (v := ?_) (a' := ?_) #[true, true, true, false, true, true, false, false, false, false] rfl rfl (by kernel_rfl) (fun _ _ _ h => h) (Or.inl ⟨by rfl, ?_⟩) hHeld ?_ ?_
 rotate_left
 · rintro w' ⟨s0, s1, s2, s3, s4, s5, s6, s7⟩
   go_simp
   with_reducible rfl
 rotate_left
 · simp only [Act.put, List.setIfInBounds_toArray, List.set_cons_zero, List.set_cons_succ, i64_w, i32_w]
   rfl
 refine take_ (i := 3) (N := some 23) (v := ?_) (a' := ?_) #[true, true, true, true, true, true, false, false, false, false] rfl rfl (by kernel_rfl) (fun _ _ _ h => h) (Or.inl ⟨by rfl, ?_⟩) hHeld ?_ ?_
 rotate_left
 · rintro w' ⟨s0, s1, s2, s3, s4, s5, s6, s7⟩
   go_simp
   with_reducible rfl
 rotate_left
 · simp only [Act.put, List.setIfInBounds_toArray, List.set_cons_zero, List.set_cons_succ, i64_w, i32_w]
   rfl
 refine pure_ (i := 6) (N := some 26) (v := ?_) (a' := ?_) #[true, true, true, true, true, true, true, false, false, false] rfl rfl (by kernel_rfl) (fun _ _ _ h => h) (Or.inl ⟨by rfl, ?_⟩) ?_ ?_
 rotate_left
 · intro w'
   go_simp
   with_reducible rfl
 rotate_left
 · simp only [Act.put, List.setIfInBounds_toArray, List.set_cons_zero, List.set_cons_succ, i64_w, i32_w]
   rfl
 refine take_ (i := 7) (N := some 27) (v := ?_) (a' := ?_) #[true, true, true, true, true, true, true, true, false, false] rfl rfl (by kernel_rfl) (fun _ _ _ h => h) (Or.inl ⟨by rfl, ?_⟩) hHeld ?_ ?_
 rotate_left
 · rintro w' ⟨s0, s1, s2, s3, s4, s5, s6, s7⟩
   go_simp
   with_reducible rfl
 rotate_left
 · simp only [Act.put, List.setIfInBounds_toArray, List.set_cons_zero, List.set_cons_succ, i64_w, i32_w]
   rfl
 refine one_ (i := 8) (N := some 28) #[true, true, true, true, true, true, true, true, true, false] rfl rfl (by kernel_rfl) (by decide) (fun K hK => ?_)
 refine goes_ Try.func48 (by kernel_rfl) rfl #[.agg #[.int .i64 i, .int .i64 a.f1, .int .i64 a.f2, .slice A a.f3.length ca], .agg #[.int .i64 (f i).f0, .int .i64 (f i).f1, .int .i64 (f i).f2, .slice E' (f i).f3.length ce]] (by rfl) rfl rfl (by simp only [List.map_toArray, List.map_cons, List.map_nil]; rfl) ?_
 with_reducible refine (HNW.out).mono ?_
 rintro e w7 ⟨rfl, hb7⟩
 refine ⟨_, rfl, ?_⟩
 have HB7 := Lib.hid (HBqd.out.trans (hb7.mono HBqd.out.size))
 have HX7_0 := Lib.hid (blk_keep hb7 HXqd_0.out)
 have HBD7 := Lib.hid (BaseAt.below HBDqd.out hb7)
 have HE7 := Lib.hid hb7
 clear hb7
 obtain ⟨p7_00, p7_01, p7_02, p7_03, p7_0f⟩ := blk_cells4 HX7_0.out
 rw [HAI.out] at p7_00
 have g0 : w7.cell? ⟨p, i * 4, none⟩ = some (.int .i64 (f i).f0) := (HE7.out.cell (p := ⟨p, i * 4, none⟩) HBDqd.out.lt).trans e0
 have g1 : w7.cell? ⟨p, i * 4 + 1, none⟩ = some (.int .i64 (f i).f1) := (HE7.out.cell (p := ⟨p, i * 4 + 1, none⟩) HBDqd.out.lt).trans e1
 have g2 : w7.cell? ⟨p, i * 4 + 2, none⟩ = some (.int .i64 (f i).f2) := (HE7.out.cell (p := ⟨p, i * 4 + 2, none⟩) HBDqd.out.lt).trans e2
 have g3 : w7.cell? ⟨p, i * 4 + 3, none⟩ = some (.slice E' (f i).f3.length ce) := (HE7.out.cell (p := ⟨p, i * 4 + 3, none⟩) HBDqd.out.lt).trans e3
 refine hK.out _ _ ⟨p7_00, p7_01, p7_02, p7_03, g0, g1, g2, g3⟩ (fun hHeld => ?_)
 clear hK K
 refine norm_ (a' := ?_) ?_ ?_
 rotate_left
 · show Act.put _ (some 28) _ = _
   simp only [Act.put, List.setIfInBounds_toArray, List.set_cons_zero, List.set_cons_succ, i64_w, i32_w]
   rfl
 refine pure_ (i := 9) (N := some 7) (v := ?_) (a' := ?_) #[true, true, true, true, true, true, true, true, true, true] rfl rfl (by kernel_rfl) (fun _ _ _ h => h) (Or.inl ⟨by rfl, ?_⟩) ?_ ?_
 rotate_left
 · intro w'
   go_simp
   with_reducible rfl
 rotate_left
 · simp only [Act.put, List.setIfInBounds_toArray, List.set_cons_zero, List.set_cons_succ, i64_w, i32_w]
   rfl
 refine done_ (by kernel_rfl) ?_
 clear e0 e1 e2 e3 e4 g0 g1 g2 g3 pq_00 pq_01 pq_02 pq_03 pq_0f
 go_wp2_with fail
 have HB7d := Lib.hid HB7.out.drew
 have HX7d_0 := Lib.hid (show w7.drew.heap[w.heap.size]? = _ from HX7_0.out)
 have HBD7d := Lib.hid (BaseAt.below HBD7.out (Below.refl _ _).drew)
 refine start_ (n := 16) (S := fun w' => w'.cell? ⟨w.heap.size, 0, none⟩ = some (.int .i64 i) ∧ w'.cell? ⟨w.heap.size, 1, none⟩ = some (.int .i64 a.f1) ∧ w'.cell? ⟨w.heap.size, 2, none⟩ = some (.int .i64 a.f2) ∧ w'.cell? ⟨w.heap.size, 3, none⟩ = some (.slice A a.f3.length ca)) (ds := []) #[false, false, false, false, false, false, false, false, false, false, false, false, false, false, false, false] (by kernel_rfl) rfl rfl ⟨p7_00, p7_01, p7_02, p7_03⟩ (fun hHeld => ?_)
 refine pure_ (i := 0) (N := some 31) (v := ?_) (a' := ?_) #[true, false, false, false, false, false, false, false, false, false, false, false, false, false, false, false] rfl rfl (by kernel_rfl) (fun _ _ _ h => h) (Or.inl ⟨by rfl, ?_⟩) ?_ ?_
 rotate_left
 · intro w'
   go_simp
   with_reducible rfl
 rotate_left
 · simp only [Act.put, List.setIfInBounds_toArray, List.set_cons_zero, List.set_cons_succ, i64_w, i32_w]
   rfl
 refine pure_ (i := 1) (N := some 32) (v := ?_) (a' := ?_) #[true, true, false, false, false, false, false, false, false, false, false, false, false, false, false, false] rfl rfl (by kernel_rfl) (fun _ _ _ h => h) (Or.inl ⟨by rfl, ?_⟩) ?_ ?_
 rotate_left
 · intro w'
   go_simp
   with_reducible rfl
 rotate_left
 · simp only [Act.put, List.setIfInBounds_toArray, List.set_cons_zero, List.set_cons_succ, i64_w, i32_w]
   rfl
 refine pure_ (i := 3) (N := some 34) (v := ?_) (a' := ?_) #[true, true, false, true, false, false, false, false, false, false, false, false, false, false, false, false] rfl rfl (by kernel_rfl) (fun _ _ _ h => h) (Or.inl ⟨by rfl, ?_⟩) ?_ ?_
 rotate_left
 · intro w'
   go_simp
   with_reducible rfl
 rotate_left
 · simp only [Act.put, List.setIfInBounds_toArray, List.set_cons_zero, List.set_cons_succ, i64_w, i32_w]
   rfl
 refine pure_ (i := 4) (N := some 35) (v := ?_) (a' := ?_) #[true, true, false, true, true, false, false, false, false, false, false, false, false, false, false, false] rfl rfl (by kernel_rfl) (fun _ _ _ h => h) (Or.inl ⟨by rfl, ?_⟩) ?_ ?_
 rotate_left
 · intro w'
   go_simp
   with_reducible rfl
 rotate_left
 · simp only [Act.put, List.setIfInBounds_toArray, List.set_cons_zero, List.set_cons_succ, i64_w, i32_w]
   rfl
 refine pure_ (i := 8) (N := some 39) (v := ?_) (a' := ?_) #[true, true, false, true, true, false, false, false, true, false, false, false, false, false, false, false] rfl rfl (by kernel_rfl) (fun _ _ _ h => h) (Or.inl ⟨by rfl, ?_⟩) ?_ ?_
 rotate_left
 · intro w'
   go_simp
   with_reducible rfl
 rotate_left
 · simp only [Act.put, List.setIfInBounds_toArray, List.set_cons_zero, List.set_cons_succ, i64_w, i32_w]
   rfl
 refine pure_ (i := 9) (N := some 40) (v := ?_) (a' := ?_) #[true, true, false, true, true, false, false, false, true, true, false, false, false, false, false, false] rfl rfl (by kernel_rfl) (fun _ _ _ h => h) (Or.inl ⟨by rfl, ?_⟩) ?_ ?_
 rotate_left
 · intro w'
   go_simp
   with_reducible rfl
 rotate_left
 · simp only [Act.put, List.setIfInBounds_toArray, List.set_cons_zero, List.set_cons_succ, i64_w, i32_w]
   rfl
 refine pure_ (i := 12) (N := some 42) (v := ?_) (a' := ?_) #[true, true, false, true, true, false, false, false, true, true, false, false, true, false, false, false] rfl rfl (by kernel_rfl) (fun _ _ _ h => h) (Or.inl ⟨by rfl, ?_⟩) ?_ ?_
 rotate_left
 · intro w'
   go_simp
   with_reducible rfl
 rotate_left
 · simp only [Act.put, List.setIfInBounds_toArray, List.set_cons_zero, List.set_cons_succ, i64_w, i32_w]
   rfl
 refine pure_ (i := 13) (N := some 43) (v := ?_) (a' := ?_) #[true, true, false, true, true, false, false, false, true, true, false, false, true, true, false, false] rfl rfl (by kernel_rfl) (fun _ _ _ h => h) (Or.inl ⟨by rfl, ?_⟩) ?_ ?_
 rotate_left
 · intro w'
   go_simp
   with_reducible rfl
 rotate_left
 · simp only [Act.put, List.setIfInBounds_toArray, List.set_cons_zero, List.set_cons_succ, i64_w, i32_w]
   rfl
 refine take_ (i := 2) (N := some 33) (v := ?_) (a' := ?_) #[true, true, true, true, true, false, false, false, true, true, false, false, true, true, false, false] rfl rfl (by kernel_rfl) (fun _ _ _ h => h) (Or.inl ⟨by rfl, ?_⟩) hHeld ?_ ?_
 rotate_left
 · rintro w' ⟨s0, s1, s2, s3⟩
   go_simp
   with_reducible rfl
 rotate_left
 · simp only [Act.put, List.setIfInBounds_toArray, List.set_cons_zero, List.set_cons_succ, i64_w, i32_w]
   rfl
 refine take_ (i := 5) (N := some 36) (v := ?_) (a' := ?_) #[true, true, true, true, true, true, false, false, true, true, false, false, true, true, false, false] rfl rfl (by kernel_rfl) (fun _ _ _ h => h) (Or.inl ⟨by rfl, ?_⟩) hHeld ?_ ?_
 rotate_left
 · rintro w' ⟨s0, s1, s2, s3⟩
   go_simp
   with_reducible rfl
 rotate_left
 · simp only [Act.put, List.setIfInBounds_toArray, List.set_cons_zero, List.set_cons_succ, i64_w, i32_w]
   rfl
 refine take_ (i := 6) (N := some 37) (v := ?_) (a' := ?_) #[true, true, true, true, true, true, true, false, true, true, false, false, true, true, false, false] rfl rfl (by kernel_rfl) (fun _ _ _ h => h) (Or.inl ⟨by rfl, ?_⟩) hHeld ?_ ?_
 rotate_left
 · rintro w' ⟨s0, s1, s2, s3⟩
   go_simp
   with_reducible rfl
 rotate_left
 · simp only [Act.put, List.setIfInBounds_toArray, List.set_cons_zero, List.set_cons_succ, i64_w, i32_w]
   rfl
 refine one_ (i := 7) (N := some 38) #[true, true, true, true, true, true, true, true, true, true, false, false, true, true, false, false] rfl rfl (by kernel_rfl) (by decide) (fun K hK => ?_)
 refine goes_ Try.func53 (by kernel_rfl) rfl #[.agg #[.int .i64 i, .int .i64 a.f1, .int .i64 a.f2, .slice A a.f3.length ca]] (by rfl) rfl rfl (by simp only [List.map_toArray, List.map_cons, List.map_nil]; rfl) ?_
 with_reducible refine (own53 i a.f1 a.f2 A ca a.f3 _ HLEN.out (Lib.hid (Kd.C_below HKC.out HB7d.out))).mono ?_
 rintro e w3 ⟨A', c', rfl, hle3, hR3, hb3⟩
 refine ⟨_, rfl, ?_⟩
 have HR3 := Lib.hid hR3
 have HLE3 := Lib.hid hle3
 have HB3 := Lib.hid (HB7d.out.trans (hb3.mono HB7d.out.size))
 have HX3_0 := Lib.hid (blk_keep hb3 HX7d_0.out)
 have HBD3 := Lib.hid (BaseAt.below HBD7d.out hb3)
 clear hR3 hle3 hb3
 obtain ⟨p3_00, p3_01, p3_02, p3_03, p3_0f⟩ := blk_cells4 HX3_0.out; rw [HAI.out] at p3_00
 obtain ⟨D3, cd3, d30, d31, d32, d33, d34, _, _, hf3⟩ := HBD3.out.read hi
 refine hK.out _ _ ⟨p3_00, p3_01, p3_02, p3_03⟩ (fun hHeld => ?_)
 clear hK K
 refine norm_ (a' := ?_) ?_ ?_
 rotate_left
 · show Act.put _ (some 38) _ = _
   simp only [Act.put, List.setIfInBounds_toArray, List.set_cons_zero, List.set_cons_succ, i64_w, i32_w]
   rfl
 refine pure_ (i := 10) (N := some 41) (v := ?_) (a' := ?_) #[true, true, true, true, true, true, true, true, true, true, true, false, true, true, false, false] rfl rfl (by kernel_rfl) (fun _ _ _ h => h) (Or.inl ⟨by rfl, ?_⟩) ?_ ?_
 rotate_left
 · intro w'
   go_simp
   with_reducible rfl
 rotate_left
 · simp only [Act.put, List.setIfInBounds_toArray, List.set_cons_zero, List.set_cons_succ, i64_w, i32_w]
   rfl
 refine one_ (i := 11) (N := none) #[true, true, true, true, true, true, true, true, true, true, true, true, true, true, false, false] rfl rfl (by kernel_rfl) (by decide) (fun K hK => ?_)
 refine skip_ (w1 := ?_) (by rfl) rfl ?_ ?_
 rotate_left
 · go_simp
   rfl
 have HX4_0 := Lib.hid (show ((((w3.setCell ⟨p, i * 4, none⟩ (.int .i64 i)).setCell ⟨p, i * 4 + 1, none⟩ (.int .i64 a.f1)).setCell ⟨p, i * 4 + 2, none⟩ (.int .i64 a.f2)).setCell ⟨p, i * 4 + 3, none⟩ (.slice A' a.f3.length c')).heap[w.heap.size]? = some (.cells #[.int .i64 a.f0, .int .i64 a.f1, .int .i64 a.f2, .slice A a.f3.length ca] 24 (0, 0)) from (((((KeepBut.refl w3 p none).set_ _ _).set_ _ _).set_ _ _).set_ _ _).blk HX3_0.out (by omega) (by simp))
 obtain ⟨p4_00, p4_01, p4_02, p4_03, p4_0f⟩ := blk_cells4 HX4_0.out; rw [HAI.out] at p4_00
 have hf4 : ∀ j, (((((w3.setCell ⟨p, i * 4, none⟩ (.int .i64 i)).setCell ⟨p, i * 4 + 1, none⟩ (.int .i64 a.f1)).setCell ⟨p, i * 4 + 2, none⟩ (.int .i64 a.f2)).setCell ⟨p, i * 4 + 3, none⟩ (.slice A' a.f3.length c'))).frozen? ⟨p, j, none⟩ = false := by obtain ⟨cs, hp, _⟩ := HBD3.out; exact blk_free (blk_set (blk_set (blk_set (blk_set hp _ _) _ _) _ _) _ _)
 refine hK.out _ _ ⟨p4_00, p4_01, p4_02, p4_03⟩ (fun hHeld => ?_)
 clear hK K
 refine pure_ (i := 14) (N := some 44) (v := ?_) (a' := ?_) #[true, true, true, true, true, true, true, true, true, true, true, true, true, true, true, false] rfl rfl (by kernel_rfl) (fun _ _ _ h => h) (Or.inl ⟨by rfl, ?_⟩) ?_ ?_
 rotate_left
 · intro w'
   go_simp
   with_reducible rfl
 rotate_left
 · simp only [Act.put, List.setIfInBounds_toArray, List.set_cons_zero, List.set_cons_succ, i64_w, i32_w]
   rfl
 refine one_ (i := 15) (N := none) #[true, true, true, true, true, true, true, true, true, true, true, true, true, true, true, true] rfl rfl (by kernel_rfl) (by decide) (fun K hK => ?_)
 refine skip_ (w1 := ?_) (by rfl) rfl ?_ ?_
 rotate_left
 · go_simp
   rfl
 have HX5_0 := Lib.hid (show (((((w3.setCell ⟨p, i * 4, none⟩ (.int .i64 i)).setCell ⟨p, i * 4 + 1, none⟩ (.int .i64 a.f1)).setCell ⟨p, i * 4 + 2, none⟩ (.int .i64 a.f2)).setCell ⟨p, i * 4 + 3, none⟩ (.slice A' a.f3.length c')).setCell ⟨p, 64 + i, none⟩ (.bool true)).heap[w.heap.size]? = some (.cells #[.int .i64 a.f0, .int .i64 a.f1, .int .i64 a.f2, .slice A a.f3.length ca] 24 (0, 0)) from ((((((KeepBut.refl w3 p none).set_ _ _).set_ _ _).set_ _ _).set_ _ _).set_ _ _).blk HX3_0.out (by omega) (by simp))
 obtain ⟨p5_00, p5_01, p5_02, p5_03, p5_0f⟩ := blk_cells4 HX5_0.out; rw [HAI.out] at p5_00
 refine hK.out _ _ ⟨p5_00, p5_01, p5_02, p5_03⟩ (fun hHeld => ?_)
 clear hK K
 refine done_ (by kernel_rfl) ?_
 go_wp2_with fail
 have HBD5 := Lib.hid (BaseAt.put HBD3.out hi a HAI.out HLE3.out HR3.out (show p < w7.drew.heap.size from HBD7.out.lt))
 have HB5 := Lib.hid (Below.setCell (Below.setCell (Below.setCell (Below.setCell (Below.setCell (HB0.out.trans (HB3.out.mono HB0.out.size)) (p := ⟨p, i * 4, none⟩) hp0 (.int .i64 i)) (p := ⟨p, i * 4 + 1, none⟩) hp0 (.int .i64 a.f1)) (p := ⟨p, i * 4 + 2, none⟩) hp0 (.int .i64 a.f2)) (p := ⟨p, i * 4 + 3, none⟩) hp0 (.slice A' a.f3.length c')) (p := ⟨p, 64 + i, none⟩) hp0 (.bool true))
 have HK5 := Lib.hid ((KeepBut.of_below HB3.out p none).trans (keep_sets (w := w3) p (i * 4) (i * 4 + 1) (i * 4 + 2) (i * 4 + 3) (64 + i) (.int .i64 i) (.int .i64 a.f1) (.int .i64 a.f2) (.slice A' a.f3.length c') (.bool true)) (.inl rfl))
 go_ret2
 exact ⟨rfl, HBD5.out, HB5.out, HK5.out⟩
end Go.Proofs.Ytaneaabmgnanbaa.M
