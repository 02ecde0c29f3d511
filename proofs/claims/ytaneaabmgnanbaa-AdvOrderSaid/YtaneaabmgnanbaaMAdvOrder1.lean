/- Own lemmas: the law AdvOrder, its first cases. -/
import Derived.Test.YtaneaabmgnanbaaMNewer2
namespace Go.Proofs.Ytaneaabmgnanbaa.M
open Go.RowKit Go.Proofs.YtaneaabmgnanbaaW.PrintWords Go.Proofs.YtaneaabmgnanbaaW.PrintLast Go.Proofs.YtaneaabmgnanbaaW.PrintMore Go.Proofs.Ytaneaabmgnanbaa.PAdvBack
set_option linter.unusedVariables false
set_option linter.unusedSimpArgs false

theorem some15_four (A : Option Addr) (ls L : List S28) (c : Nat) (hL : Hid (L = ls.take 4)) (hn : ls.length ≤ c) (w : World) : Calls Try.prog 15 #[.slice A ls.length c, .int .i64 4] w fun e w' => e = .returned (.slice A L.length c) ∧ w = w' := some15_any A ls L c 4 hL hn w
theorem set3 {w : World} {g : Nat} {a b c : Array Value} {t : Nat} (h0 : w.heap[g]? = some (.cells a t (0, 0))) (h1 : w.heap[g + 1]? = some (.cells b t (0, 0))) (h2 : w.heap[g + 2]? = some (.cells c t (0, 0))) (j : Nat) (u v x : Value) :
    (((w.setCell ⟨g, j, none⟩ u).setCell ⟨g + 1, j, none⟩ v).setCell ⟨g + 2, j, none⟩ x).heap[g]? = some (.cells (a.setIfInBounds j u) t (0, 0)) ∧
    (((w.setCell ⟨g, j, none⟩ u).setCell ⟨g + 1, j, none⟩ v).setCell ⟨g + 2, j, none⟩ x).heap[g + 1]? = some (.cells (b.setIfInBounds j v) t (0, 0)) ∧
    (((w.setCell ⟨g, j, none⟩ u).setCell ⟨g + 1, j, none⟩ v).setCell ⟨g + 2, j, none⟩ x).heap[g + 2]? = some (.cells (c.setIfInBounds j x) t (0, 0)) := by
  refine ⟨?_, ?_, ?_⟩
  · rw [Below.heap_setCell _ _ _ _ (by simp), Below.heap_setCell _ _ _ _ (by simp)]
    exact blk_set h0 j u
  · rw [Below.heap_setCell _ _ _ _ (by simp)]
    refine blk_set ?_ j v
    rw [Below.heap_setCell _ _ _ _ (by simp)]
    exact h1
  · refine blk_set ?_ j x
    rw [Below.heap_setCell _ _ _ _ (by simp), Below.heap_setCell _ _ _ _ (by simp)]
    exact h2
set_option maxHeartbeats 2000000 in
set_option maxRecDepth 100000 in
theorem AdvOrder_e1 (i0 i1 i2 s0 s1 s2 t0 t1 t2 age x e y f z g u h n : Int) (A0 A1 A2 : Option Addr) (c0 c1 c2 : Nat) (l0 l1 l2 L0 L1 L2 : List S28) (w : World) (hl0 : l0.length ≤ c0) (hl1 : l1.length ≤ c1) (hl2 : l2.length ≤ c2) (HL0 : Hid (L0 = l0.take 4)) (HL1 : Hid (L1 = l1.take 4)) (HL2 : Hid (L2 = l2.take 4)) (HK0 : Hid (Kd.C k28 w A0 L0.length L0)) (HK1 : Hid (Kd.C k28 w A1 L1.length L1)) (HK2 : Hid (Kd.C k28 w A2 L2.length L2)) (N1 : Hid (∀ W : World, Kd.C k28 W A0 L0.length L0 → Kd.C k28 W A1 L1.length L1 → Calls Try.prog 20 #[.agg #[.int .i64 9, .int .i64 s0, .int .i64 t0, .slice A0 L0.length c0], .agg #[.int .i64 9, .int .i64 s1, .int .i64 t1, .slice A1 L1.length c1]] W fun E w' => E = .returned (.tuple #[.int .i64 x, .int .i64 e]) ∧ Below W.heap.size W w')) (N2 : Hid (∀ W : World, Kd.C k28 W A1 L1.length L1 → Kd.C k28 W A0 L0.length L0 → Calls Try.prog 20 #[.agg #[.int .i64 9, .int .i64 s1, .int .i64 t1, .slice A1 L1.length c1], .agg #[.int .i64 9, .int .i64 s0, .int .i64 t0, .slice A0 L0.length c0]] W fun E w' => E = .returned (.tuple #[.int .i64 y, .int .i64 f]) ∧ Below W.heap.size W w')) (N3 : Hid (∀ W : World, Kd.C k28 W A1 L1.length L1 → Kd.C k28 W A2 L2.length L2 → Calls Try.prog 20 #[.agg #[.int .i64 9, .int .i64 s1, .int .i64 t1, .slice A1 L1.length c1], .agg #[.int .i64 9, .int .i64 s2, .int .i64 t2, .slice A2 L2.length c2]] W fun E w' => E = .returned (.tuple #[.int .i64 z, .int .i64 g]) ∧ Below W.heap.size W w')) (N4 : Hid (∀ W : World, Kd.C k28 W A0 L0.length L0 → Kd.C k28 W A2 L2.length L2 → Calls Try.prog 20 #[.agg #[.int .i64 9, .int .i64 s0, .int .i64 t0, .slice A0 L0.length c0], .agg #[.int .i64 9, .int .i64 s2, .int .i64 t2, .slice A2 L2.length c2]] W fun E w' => E = .returned (.tuple #[.int .i64 u, .int .i64 h]) ∧ Below W.heap.size W w')) (he : (e == 0) = false) (he2 : (e != 0) = true) (hx : (x == 0) = true) (hg : (g == 0) = false) :
    Calls Try.prog 5 #[.agg #[.int .i64 i0, .int .i64 s0, .int .i64 t0, .slice A0 l0.length c0], .agg #[.int .i64 i1, .int .i64 s1, .int .i64 t1, .slice A1 l1.length c1], .agg #[.int .i64 i2, .int .i64 s2, .int .i64 t2, .slice A2 l2.length c2], .int .i64 age] w fun E w' => E = .returned (.bool true) ∧ Below w.heap.size w w' := by
  have hu22 := Try.underlying22
  have hu24 := Try.underlying24
  obtain ⟨k0, hk0⟩ := advLives_ok
  have Hk0 := Lib.hid hk0
  clear hk0
  go_enter Try.func5, Try.ntmps5
  go_wp2_with fail
  have HX0_2 := Lib.hid (blk_alloc_at ((w.alloc (.cells #[.int .i64 i0, .int .i64 s0, .int .i64 t0, .slice A0 l0.length c0] 24)).alloc (.cells #[.int .i64 i1, .int .i64 s1, .int .i64 t1, .slice A1 l1.length c1] 24)) (.cells #[.int .i64 i2, .int .i64 s2, .int .i64 t2, .slice A2 l2.length c2] 24) (n := w.heap.size + 2) (by simp))
  have HX0_1 := Lib.hid (show ((((w.alloc (.cells #[.int .i64 i0, .int .i64 s0, .int .i64 t0, .slice A0 l0.length c0] 24)).alloc (.cells #[.int .i64 i1, .int .i64 s1, .int .i64 t1, .slice A1 l1.length c1] 24)).alloc (.cells #[.int .i64 i2, .int .i64 s2, .int .i64 t2, .slice A2 l2.length c2] 24)).heap[w.heap.size + 1]? = _) from blk_keep ((Below.refl _ _).alloc (Nat.le_refl _) _) (blk_alloc_at (w.alloc (.cells #[.int .i64 i0, .int .i64 s0, .int .i64 t0, .slice A0 l0.length c0] 24)) (.cells #[.int .i64 i1, .int .i64 s1, .int .i64 t1, .slice A1 l1.length c1] 24) (n := w.heap.size + 1) (by simp)))
  have HX0_0 := Lib.hid (show ((((w.alloc (.cells #[.int .i64 i0, .int .i64 s0, .int .i64 t0, .slice A0 l0.length c0] 24)).alloc (.cells #[.int .i64 i1, .int .i64 s1, .int .i64 t1, .slice A1 l1.length c1] 24)).alloc (.cells #[.int .i64 i2, .int .i64 s2, .int .i64 t2, .slice A2 l2.length c2] 24)).heap[w.heap.size]? = _) from blk_keep ((Below.refl _ _).alloc (Nat.le_refl _) _) (blk_keep ((Below.refl _ _).alloc (Nat.le_refl _) _) (blk_alloc w _)))
  have HB0 := Lib.hid (((((Below.refl w.heap.size w).alloc (Nat.le_refl _) (.cells #[.int .i64 i0, .int .i64 s0, .int .i64 t0, .slice A0 l0.length c0] 24)).alloc (by simp) (.cells #[.int .i64 i1, .int .i64 s1, .int .i64 t1, .slice A1 l1.length c1] 24)).alloc (by simp; omega) (.cells #[.int .i64 i2, .int .i64 s2, .int .i64 t2, .slice A2 l2.length c2] 24)))
  refine (patchbaykeep2_advLives.calls k0 true _ Hk0.out).mono ?_
  rintro e' w1 ⟨rfl, hb1⟩
  have HB1 := Lib.hid (HB0.out.trans (hb1.mono HB0.out.size))
  have HX1_0 := Lib.hid (blk_keep hb1 HX0_0.out)
  have HX1_1 := Lib.hid (blk_keep hb1 HX0_1.out)
  have HX1_2 := Lib.hid (blk_keep hb1 HX0_2.out)
  obtain ⟨p1_00, p1_01, p1_02, p1_03, p1_0f⟩ := blk_cells4 HX1_0.out
  obtain ⟨p1_10, p1_11, p1_12, p1_13, p1_1f⟩ := blk_cells4 HX1_1.out
  obtain ⟨p1_20, p1_21, p1_22, p1_23, p1_2f⟩ := blk_cells4 HX1_2.out
  clear hb1 
  have hsz : w.heap.size + 2 < w1.heap.size := blk_lt HX1_2.out
  go_wp2_with fail
  have HB2 := Lib.hid (Below.setCell (Below.setCell (Below.setCell HB1.out (p := ⟨w.heap.size, 0, none⟩) (by simp) (.int .i64 9)) (p := ⟨w.heap.size + 1, 0, none⟩) (by simp) (.int .i64 9)) (p := ⟨w.heap.size + 2, 0, none⟩) (by simp) (.int .i64 9))
  have HX2_0 := Lib.hid (set3 HX1_0.out HX1_1.out HX1_2.out 0 (.int .i64 9) (.int .i64 9) (.int .i64 9)).1
  have HX2_1 := Lib.hid (set3 HX1_0.out HX1_1.out HX1_2.out 0 (.int .i64 9) (.int .i64 9) (.int .i64 9)).2.1
  have HX2_2 := Lib.hid (set3 HX1_0.out HX1_1.out HX1_2.out 0 (.int .i64 9) (.int .i64 9) (.int .i64 9)).2.2
  clear p1_00 p1_01 p1_02 p1_03 p1_0f p1_10 p1_11 p1_12 p1_13 p1_1f p1_20 p1_21 p1_22 p1_23 p1_2f hsz HB1 HX1_0 HX1_1 HX1_2
  generalize ((w1.setCell ⟨w.heap.size, 0, none⟩ (.int .i64 9)).setCell ⟨w.heap.size + 1, 0, none⟩ (.int .i64 9)).setCell ⟨w.heap.size + 2, 0, none⟩ (.int .i64 9) = w2 at HB2 HX2_0 HX2_1 HX2_2 ⊢
  obtain ⟨p2_00, p2_01, p2_02, p2_03, p2_0f⟩ := blk_cells4 HX2_0.out
  obtain ⟨p2_10, p2_11, p2_12, p2_13, p2_1f⟩ := blk_cells4 HX2_1.out
  obtain ⟨p2_20, p2_21, p2_22, p2_23, p2_2f⟩ := blk_cells4 HX2_2.out
  refine start_ (n := 15) (S := fun w' => w'.cell? ⟨w.heap.size, 3, none⟩ = some (.slice A0 l0.length c0) ∧ w'.cell? ⟨(w.heap.size + 1), 3, none⟩ = some (.slice A1 l1.length c1) ∧ w'.cell? ⟨(w.heap.size + 2), 3, none⟩ = some (.slice A2 l2.length c2)) (ds := [10, 12, 14]) #[false, false, false, false, false, false, false, false, false, false, false, false, false, false, false] (by kernel_rfl) rfl rfl ⟨p2_03, p2_13, p2_23⟩ (fun hHeld => ?_)
  refine pure_ (i := 0) (N := some 24) (v := ?_) (a' := ?_) #[true, false, false, false, false, false, false, false, false, false, false, false, false, false, false] rfl rfl (by kernel_rfl) (fun _ _ _ h => h) (Or.inl ⟨by rfl, ?_⟩) ?_ ?_
  rotate_left
  · intro w'
    go_simp
    with_reducible rfl
  rotate_left
  · simp only [Act.put, List.setIfInBounds_toArray, List.set_cons_zero, List.set_cons_succ, i64_w, i32_w]
    rfl
  refine pure_ (i := 3) (N := some 27) (v := ?_) (a' := ?_) #[true, false, false, true, false, false, false, false, false, false, false, false, false, false, false] rfl rfl (by kernel_rfl) (fun _ _ _ h => h) (Or.inl ⟨by rfl, ?_⟩) ?_ ?_
  rotate_left
  · intro w'
    go_simp
    with_reducible rfl
  rotate_left
  · simp only [Act.put, List.setIfInBounds_toArray, List.set_cons_zero, List.set_cons_succ, i64_w, i32_w]
    rfl
  refine pure_ (i := 6) (N := some 30) (v := ?_) (a' := ?_) #[true, false, false, true, false, false, true, false, false, false, false, false, false, false, false] rfl rfl (by kernel_rfl) (fun _ _ _ h => h) (Or.inl ⟨by rfl, ?_⟩) ?_ ?_
  rotate_left
  · intro w'
    go_simp
    with_reducible rfl
  rotate_left
  · simp only [Act.put, List.setIfInBounds_toArray, List.set_cons_zero, List.set_cons_succ, i64_w, i32_w]
    rfl
  refine take_ (i := 1) (N := some 25) (v := ?_) (a' := ?_) #[true, true, false, true, false, false, true, false, false, false, false, false, false, false, false] rfl rfl (by kernel_rfl) (fun _ _ _ h => h) (Or.inl ⟨by rfl, ?_⟩) hHeld ?_ ?_
  rotate_left
  · rintro w' ⟨s0, s1, s2⟩
    go_simp
    with_reducible rfl
  rotate_left
  · simp only [Act.put, List.setIfInBounds_toArray, List.set_cons_zero, List.set_cons_succ, i64_w, i32_w]
    rfl
  refine take_ (i := 4) (N := some 28) (v := ?_) (a' := ?_) #[true, true, false, true, true, false, true, false, false, false, false, false, false, false, false] rfl rfl (by kernel_rfl) (fun _ _ _ h => h) (Or.inl ⟨by rfl, ?_⟩) hHeld ?_ ?_
  rotate_left
  · rintro w' ⟨s0, s1, s2⟩
    go_simp
    with_reducible rfl
  rotate_left
  · simp only [Act.put, List.setIfInBounds_toArray, List.set_cons_zero, List.set_cons_succ, i64_w, i32_w]
    rfl
  refine take_ (i := 7) (N := some 31) (v := ?_) (a' := ?_) #[true, true, false, true, true, false, true, true, false, false, false, false, false, false, false] rfl rfl (by kernel_rfl) (fun _ _ _ h => h) (Or.inl ⟨by rfl, ?_⟩) hHeld ?_ ?_
  rotate_left
  · rintro w' ⟨s0, s1, s2⟩
    go_simp
    with_reducible rfl
  rotate_left
  · simp only [Act.put, List.setIfInBounds_toArray, List.set_cons_zero, List.set_cons_succ, i64_w, i32_w]
    rfl
  refine one_ (i := 2) (N := some 26) #[true, true, true, true, true, false, true, true, false, false, false, false, false, false, false] rfl rfl (by kernel_rfl) (by decide) (fun K hK => ?_)
  refine goes_ Try.func15 (by kernel_rfl) rfl #[.slice A0 l0.length c0, .int .i64 4] (by rfl) rfl rfl (by simp only [List.map_toArray, List.map_cons, List.map_nil]; rfl) ?_
  with_reducible refine (some15_four A0 l0 L0 c0 HL0 hl0 _).mono ?_
  rintro e' w3 ⟨rfl, rfl⟩
  refine ⟨_, rfl, ?_⟩
  refine hK.out _ _ ⟨p2_03, p2_13, p2_23⟩ (fun hHeld => ?_)
  clear hK K
  refine norm_ (a' := ?_) ?_ ?_
  rotate_left
  · show Act.put _ (some 26) _ = _
    simp only [Act.put, List.setIfInBounds_toArray, List.set_cons_zero, List.set_cons_succ, i64_w, i32_w]
    rfl
  refine pure_ (i := 9) (N := some 33) (v := ?_) (a' := ?_) #[true, true, true, true, true, false, true, true, false, true, false, false, false, false, false] rfl rfl (by kernel_rfl) (fun _ _ _ h => h) (Or.inl ⟨by rfl, ?_⟩) ?_ ?_
  rotate_left
  · intro w'
    go_simp
    with_reducible rfl
  rotate_left
  · simp only [Act.put, List.setIfInBounds_toArray, List.set_cons_zero, List.set_cons_succ, i64_w, i32_w]
    rfl
  refine one_ (i := 5) (N := some 29) #[true, true, true, true, true, true, true, true, false, true, false, false, false, false, false] rfl rfl (by kernel_rfl) (by decide) (fun K hK => ?_)
  refine goes_ Try.func15 (by kernel_rfl) rfl #[.slice A1 l1.length c1, .int .i64 4] (by rfl) rfl rfl (by simp only [List.map_toArray, List.map_cons, List.map_nil]; rfl) ?_
  with_reducible refine (some15_four A1 l1 L1 c1 HL1 hl1 _).mono ?_
  rintro e' w3 ⟨rfl, rfl⟩
  refine ⟨_, rfl, ?_⟩
  refine hK.out _ _ ⟨p2_03, p2_13, p2_23⟩ (fun hHeld => ?_)
  clear hK K
  refine norm_ (a' := ?_) ?_ ?_
  rotate_left
  · show Act.put _ (some 29) _ = _
    simp only [Act.put, List.setIfInBounds_toArray, List.set_cons_zero, List.set_cons_succ, i64_w, i32_w]
    rfl
  refine one_ (i := 8) (N := some 32) #[true, true, true, true, true, true, true, true, true, true, false, false, false, false, false] rfl rfl (by kernel_rfl) (by decide) (fun K hK => ?_)
  refine goes_ Try.func15 (by kernel_rfl) rfl #[.slice A2 l2.length c2, .int .i64 4] (by rfl) rfl rfl (by simp only [List.map_toArray, List.map_cons, List.map_nil]; rfl) ?_
  with_reducible refine (some15_four A2 l2 L2 c2 HL2 hl2 _).mono ?_
  rintro e' w3 ⟨rfl, rfl⟩
  refine ⟨_, rfl, ?_⟩
  refine hK.out _ _ ⟨p2_03, p2_13, p2_23⟩ (fun hHeld => ?_)
  clear hK K
  refine norm_ (a' := ?_) ?_ ?_
  rotate_left
  · show Act.put _ (some 32) _ = _
    simp only [Act.put, List.setIfInBounds_toArray, List.set_cons_zero, List.set_cons_succ, i64_w, i32_w]
    rfl
  refine last_ (i := 10) (N := none) #[true, true, true, true, true, true, true, true, true, true, true, false, false, false, false] rfl rfl (by kernel_rfl) (by decide) (fun K hK => ?_)
  refine skip_ (w1 := ?_) (by rfl) rfl ?_ ?_
  rotate_left
  · go_simp
    rfl
  refine hK.out _ _ ?_
  clear hK K
  refine pure_ (i := 11) (N := some 34) (v := ?_) (a' := ?_) #[true, true, true, true, true, true, true, true, true, true, true, true, false, false, false] rfl rfl (by kernel_rfl) (fun _ _ _ h => h) (Or.inl ⟨by rfl, ?_⟩) ?_ ?_
  rotate_left
  · intro w'
    go_simp
    with_reducible rfl
  rotate_left
  · simp only [Act.put, List.setIfInBounds_toArray, List.set_cons_zero, List.set_cons_succ, i64_w, i32_w]
    rfl
  refine last_ (i := 12) (N := none) #[true, true, true, true, true, true, true, true, true, true, true, true, true, false, false] rfl rfl (by kernel_rfl) (by decide) (fun K hK => ?_)
  refine skip_ (w1 := ?_) (by rfl) rfl ?_ ?_
  rotate_left
  · go_simp
    rfl
  refine hK.out _ _ ?_
  clear hK K
  refine pure_ (i := 13) (N := some 35) (v := ?_) (a' := ?_) #[true, true, true, true, true, true, true, true, true, true, true, true, true, true, false] rfl rfl (by kernel_rfl) (fun _ _ _ h => h) (Or.inl ⟨by rfl, ?_⟩) ?_ ?_
  rotate_left
  · intro w'
    go_simp
    with_reducible rfl
  rotate_left
  · simp only [Act.put, List.setIfInBounds_toArray, List.set_cons_zero, List.set_cons_succ, i64_w, i32_w]
    rfl
  refine last_ (i := 14) (N := none) #[true, true, true, true, true, true, true, true, true, true, true, true, true, true, true] rfl rfl (by kernel_rfl) (by decide) (fun K hK => ?_)
  refine skip_ (w1 := ?_) (by rfl) rfl ?_ ?_
  rotate_left
  · go_simp
    rfl
  refine hK.out _ _ ?_
  clear hK K
  refine done_ (by kernel_rfl) ?_
  have HB3 := Lib.hid (Below.drew (Below.setCell (Below.setCell (Below.setCell HB2.out (p := ⟨w.heap.size, 3, none⟩) (by simp) (.slice A0 L0.length c0)) (p := ⟨w.heap.size + 1, 3, none⟩) (by simp) (.slice A1 L1.length c1)) (p := ⟨w.heap.size + 2, 3, none⟩) (by simp) (.slice A2 L2.length c2)))
  have HX3_0 := Lib.hid (show (((w2.setCell ⟨w.heap.size, 3, none⟩ (.slice A0 L0.length c0)).setCell ⟨w.heap.size + 1, 3, none⟩ (.slice A1 L1.length c1)).setCell ⟨w.heap.size + 2, 3, none⟩ (.slice A2 L2.length c2)).drew.heap[w.heap.size]? = _ from (set3 HX2_0.out HX2_1.out HX2_2.out 3 (.slice A0 L0.length c0) (.slice A1 L1.length c1) (.slice A2 L2.length c2)).1)
  have HX3_1 := Lib.hid (show (((w2.setCell ⟨w.heap.size, 3, none⟩ (.slice A0 L0.length c0)).setCell ⟨w.heap.size + 1, 3, none⟩ (.slice A1 L1.length c1)).setCell ⟨w.heap.size + 2, 3, none⟩ (.slice A2 L2.length c2)).drew.heap[w.heap.size + 1]? = _ from (set3 HX2_0.out HX2_1.out HX2_2.out 3 (.slice A0 L0.length c0) (.slice A1 L1.length c1) (.slice A2 L2.length c2)).2.1)
  have HX3_2 := Lib.hid (show (((w2.setCell ⟨w.heap.size, 3, none⟩ (.slice A0 L0.length c0)).setCell ⟨w.heap.size + 1, 3, none⟩ (.slice A1 L1.length c1)).setCell ⟨w.heap.size + 2, 3, none⟩ (.slice A2 L2.length c2)).drew.heap[w.heap.size + 2]? = _ from (set3 HX2_0.out HX2_1.out HX2_2.out 3 (.slice A0 L0.length c0) (.slice A1 L1.length c1) (.slice A2 L2.length c2)).2.2)
  clear p2_00 p2_01 p2_02 p2_03 p2_0f p2_10 p2_11 p2_12 p2_13 p2_1f p2_20 p2_21 p2_22 p2_23 p2_2f HB2 HX2_0 HX2_1 HX2_2
  generalize (((w2.setCell ⟨w.heap.size, 3, none⟩ (.slice A0 L0.length c0)).setCell ⟨w.heap.size + 1, 3, none⟩ (.slice A1 L1.length c1)).setCell ⟨w.heap.size + 2, 3, none⟩ (.slice A2 L2.length c2)).drew = w3 at HB3 HX3_0 HX3_1 HX3_2 ⊢
  obtain ⟨p3_00, p3_01, p3_02, p3_03, p3_0f⟩ := blk_cells4 HX3_0.out
  obtain ⟨p3_10, p3_11, p3_12, p3_13, p3_1f⟩ := blk_cells4 HX3_1.out
  obtain ⟨p3_20, p3_21, p3_22, p3_23, p3_2f⟩ := blk_cells4 HX3_2.out
  go_wp2_with fail
  refine (N1.out _ (Kd.C_below HK0.out HB3.out) (Kd.C_below HK1.out HB3.out)).mono ?_
  rintro E w4 ⟨rfl, hb4⟩
  have HB4 := Lib.hid (HB3.out.trans (hb4.mono HB3.out.size))
  have HX4_0 := Lib.hid (blk_keep hb4 HX3_0.out)
  have HX4_1 := Lib.hid (blk_keep hb4 HX3_1.out)
  have HX4_2 := Lib.hid (blk_keep hb4 HX3_2.out)
  clear p3_00 p3_01 p3_02 p3_03 p3_0f p3_10 p3_11 p3_12 p3_13 p3_1f p3_20 p3_21 p3_22 p3_23 p3_2f
  obtain ⟨p4_00, p4_01, p4_02, p4_03, p4_0f⟩ := blk_cells4 HX4_0.out
  obtain ⟨p4_10, p4_11, p4_12, p4_13, p4_1f⟩ := blk_cells4 HX4_1.out
  obtain ⟨p4_20, p4_21, p4_22, p4_23, p4_2f⟩ := blk_cells4 HX4_2.out
  clear hb4 
  go_wp2_with fail
  refine (N2.out _ (Kd.C_below HK1.out HB4.out) (Kd.C_below HK0.out HB4.out)).mono ?_
  rintro E w5 ⟨rfl, hb5⟩
  have HB5 := Lib.hid (HB4.out.trans (hb5.mono HB4.out.size))
  have HX5_0 := Lib.hid (blk_keep hb5 HX4_0.out)
  have HX5_1 := Lib.hid (blk_keep hb5 HX4_1.out)
  have HX5_2 := Lib.hid (blk_keep hb5 HX4_2.out)
  clear p4_00 p4_01 p4_02 p4_03 p4_0f p4_10 p4_11 p4_12 p4_13 p4_1f p4_20 p4_21 p4_22 p4_23 p4_2f
  obtain ⟨p5_00, p5_01, p5_02, p5_03, p5_0f⟩ := blk_cells4 HX5_0.out
  obtain ⟨p5_10, p5_11, p5_12, p5_13, p5_1f⟩ := blk_cells4 HX5_1.out
  obtain ⟨p5_20, p5_21, p5_22, p5_23, p5_2f⟩ := blk_cells4 HX5_2.out
  clear hb5 
  go_wp2_with fail
  refine (N3.out _ (Kd.C_below HK1.out HB5.out) (Kd.C_below HK2.out HB5.out)).mono ?_
  rintro E w6 ⟨rfl, hb6⟩
  have HB6 := Lib.hid (HB5.out.trans (hb6.mono HB5.out.size))
  have HX6_0 := Lib.hid (blk_keep hb6 HX5_0.out)
  have HX6_1 := Lib.hid (blk_keep hb6 HX5_1.out)
  have HX6_2 := Lib.hid (blk_keep hb6 HX5_2.out)
  clear p5_00 p5_01 p5_02 p5_03 p5_0f p5_10 p5_11 p5_12 p5_13 p5_1f p5_20 p5_21 p5_22 p5_23 p5_2f
  obtain ⟨p6_00, p6_01, p6_02, p6_03, p6_0f⟩ := blk_cells4 HX6_0.out
  obtain ⟨p6_10, p6_11, p6_12, p6_13, p6_1f⟩ := blk_cells4 HX6_1.out
  obtain ⟨p6_20, p6_21, p6_22, p6_23, p6_2f⟩ := blk_cells4 HX6_2.out
  clear hb6 
  go_wp2_with fail
  refine (N4.out _ (Kd.C_below HK0.out HB6.out) (Kd.C_below HK2.out HB6.out)).mono ?_
  rintro E w7 ⟨rfl, hb7⟩
  have HB7 := Lib.hid (HB6.out.trans (hb7.mono HB6.out.size))
  have HX7_0 := Lib.hid (blk_keep hb7 HX6_0.out)
  have HX7_1 := Lib.hid (blk_keep hb7 HX6_1.out)
  have HX7_2 := Lib.hid (blk_keep hb7 HX6_2.out)
  clear p6_00 p6_01 p6_02 p6_03 p6_0f p6_10 p6_11 p6_12 p6_13 p6_1f p6_20 p6_21 p6_22 p6_23 p6_2f
  obtain ⟨p7_00, p7_01, p7_02, p7_03, p7_0f⟩ := blk_cells4 HX7_0.out
  obtain ⟨p7_10, p7_11, p7_12, p7_13, p7_1f⟩ := blk_cells4 HX7_1.out
  obtain ⟨p7_20, p7_21, p7_22, p7_23, p7_2f⟩ := blk_cells4 HX7_2.out
  clear hb7 
  go_wp2_with fail
  go_ret
  exact ⟨rfl, HB7.out⟩
set_option maxHeartbeats 2000000 in
set_option maxRecDepth 100000 in
theorem AdvOrder_e2 (i0 i1 i2 s0 s1 s2 t0 t1 t2 age x e y f z g u h n : Int) (A0 A1 A2 : Option Addr) (c0 c1 c2 : Nat) (l0 l1 l2 L0 L1 L2 : List S28) (w : World) (hl0 : l0.length ≤ c0) (hl1 : l1.length ≤ c1) (hl2 : l2.length ≤ c2) (HL0 : Hid (L0 = l0.take 4)) (HL1 : Hid (L1 = l1.take 4)) (HL2 : Hid (L2 = l2.take 4)) (HK0 : Hid (Kd.C k28 w A0 L0.length L0)) (HK1 : Hid (Kd.C k28 w A1 L1.length L1)) (HK2 : Hid (Kd.C k28 w A2 L2.length L2)) (N1 : Hid (∀ W : World, Kd.C k28 W A0 L0.length L0 → Kd.C k28 W A1 L1.length L1 → Calls Try.prog 20 #[.agg #[.int .i64 9, .int .i64 s0, .int .i64 t0, .slice A0 L0.length c0], .agg #[.int .i64 9, .int .i64 s1, .int .i64 t1, .slice A1 L1.length c1]] W fun E w' => E = .returned (.tuple #[.int .i64 x, .int .i64 e]) ∧ Below W.heap.size W w')) (N2 : Hid (∀ W : World, Kd.C k28 W A1 L1.length L1 → Kd.C k28 W A0 L0.length L0 → Calls Try.prog 20 #[.agg #[.int .i64 9, .int .i64 s1, .int .i64 t1, .slice A1 L1.length c1], .agg #[.int .i64 9, .int .i64 s0, .int .i64 t0, .slice A0 L0.length c0]] W fun E w' => E = .returned (.tuple #[.int .i64 y, .int .i64 f]) ∧ Below W.heap.size W w')) (N3 : Hid (∀ W : World, Kd.C k28 W A1 L1.length L1 → Kd.C k28 W A2 L2.length L2 → Calls Try.prog 20 #[.agg #[.int .i64 9, .int .i64 s1, .int .i64 t1, .slice A1 L1.length c1], .agg #[.int .i64 9, .int .i64 s2, .int .i64 t2, .slice A2 L2.length c2]] W fun E w' => E = .returned (.tuple #[.int .i64 z, .int .i64 g]) ∧ Below W.heap.size W w')) (N4 : Hid (∀ W : World, Kd.C k28 W A0 L0.length L0 → Kd.C k28 W A2 L2.length L2 → Calls Try.prog 20 #[.agg #[.int .i64 9, .int .i64 s0, .int .i64 t0, .slice A0 L0.length c0], .agg #[.int .i64 9, .int .i64 s2, .int .i64 t2, .slice A2 L2.length c2]] W fun E w' => E = .returned (.tuple #[.int .i64 u, .int .i64 h]) ∧ Below W.heap.size W w')) (he : (e == 0) = false) (he2 : (e != 0) = true) (hx : (x == 0) = true) (hg : (g == 0) = true) (hh : (h == 0) = false) :
    Calls Try.prog 5 #[.agg #[.int .i64 i0, .int .i64 s0, .int .i64 t0, .slice A0 l0.length c0], .agg #[.int .i64 i1, .int .i64 s1, .int .i64 t1, .slice A1 l1.length c1], .agg #[.int .i64 i2, .int .i64 s2, .int .i64 t2, .slice A2 l2.length c2], .int .i64 age] w fun E w' => E = .returned (.bool true) ∧ Below w.heap.size w w' := by
  have hu22 := Try.underlying22
  have hu24 := Try.underlying24
  obtain ⟨k0, hk0⟩ := advLives_ok
  have Hk0 := Lib.hid hk0
  clear hk0
  go_enter Try.func5, Try.ntmps5
  go_wp2_with fail
  have HX0_2 := Lib.hid (blk_alloc_at ((w.alloc (.cells #[.int .i64 i0, .int .i64 s0, .int .i64 t0, .slice A0 l0.length c0] 24)).alloc (.cells #[.int .i64 i1, .int .i64 s1, .int .i64 t1, .slice A1 l1.length c1] 24)) (.cells #[.int .i64 i2, .int .i64 s2, .int .i64 t2, .slice A2 l2.length c2] 24) (n := w.heap.size + 2) (by simp))
  have HX0_1 := Lib.hid (show ((((w.alloc (.cells #[.int .i64 i0, .int .i64 s0, .int .i64 t0, .slice A0 l0.length c0] 24)).alloc (.cells #[.int .i64 i1, .int .i64 s1, .int .i64 t1, .slice A1 l1.length c1] 24)).alloc (.cells #[.int .i64 i2, .int .i64 s2, .int .i64 t2, .slice A2 l2.length c2] 24)).heap[w.heap.size + 1]? = _) from blk_keep ((Below.refl _ _).alloc (Nat.le_refl _) _) (blk_alloc_at (w.alloc (.cells #[.int .i64 i0, .int .i64 s0, .int .i64 t0, .slice A0 l0.length c0] 24)) (.cells #[.int .i64 i1, .int .i64 s1, .int .i64 t1, .slice A1 l1.length c1] 24) (n := w.heap.size + 1) (by simp)))
  have HX0_0 := Lib.hid (show ((((w.alloc (.cells #[.int .i64 i0, .int .i64 s0, .int .i64 t0, .slice A0 l0.length c0] 24)).alloc (.cells #[.int .i64 i1, .int .i64 s1, .int .i64 t1, .slice A1 l1.length c1] 24)).alloc (.cells #[.int .i64 i2, .int .i64 s2, .int .i64 t2, .slice A2 l2.length c2] 24)).heap[w.heap.size]? = _) from blk_keep ((Below.refl _ _).alloc (Nat.le_refl _) _) (blk_keep ((Below.refl _ _).alloc (Nat.le_refl _) _) (blk_alloc w _)))
  have HB0 := Lib.hid (((((Below.refl w.heap.size w).alloc (Nat.le_refl _) (.cells #[.int .i64 i0, .int .i64 s0, .int .i64 t0, .slice A0 l0.length c0] 24)).alloc (by simp) (.cells #[.int .i64 i1, .int .i64 s1, .int .i64 t1, .slice A1 l1.length c1] 24)).alloc (by simp; omega) (.cells #[.int .i64 i2, .int .i64 s2, .int .i64 t2, .slice A2 l2.length c2] 24)))
  refine (patchbaykeep2_advLives.calls k0 true _ Hk0.out).mono ?_
  rintro e' w1 ⟨rfl, hb1⟩
  have HB1 := Lib.hid (HB0.out.trans (hb1.mono HB0.out.size))
  have HX1_0 := Lib.hid (blk_keep hb1 HX0_0.out)
  have HX1_1 := Lib.hid (blk_keep hb1 HX0_1.out)
  have HX1_2 := Lib.hid (blk_keep hb1 HX0_2.out)
  obtain ⟨p1_00, p1_01, p1_02, p1_03, p1_0f⟩ := blk_cells4 HX1_0.out
  obtain ⟨p1_10, p1_11, p1_12, p1_13, p1_1f⟩ := blk_cells4 HX1_1.out
  obtain ⟨p1_20, p1_21, p1_22, p1_23, p1_2f⟩ := blk_cells4 HX1_2.out
  clear hb1 
  have hsz : w.heap.size + 2 < w1.heap.size := blk_lt HX1_2.out
  go_wp2_with fail
  have HB2 := Lib.hid (Below.setCell (Below.setCell (Below.setCell HB1.out (p := ⟨w.heap.size, 0, none⟩) (by simp) (.int .i64 9)) (p := ⟨w.heap.size + 1, 0, none⟩) (by simp) (.int .i64 9)) (p := ⟨w.heap.size + 2, 0, none⟩) (by simp) (.int .i64 9))
  have HX2_0 := Lib.hid (set3 HX1_0.out HX1_1.out HX1_2.out 0 (.int .i64 9) (.int .i64 9) (.int .i64 9)).1
  have HX2_1 := Lib.hid (set3 HX1_0.out HX1_1.out HX1_2.out 0 (.int .i64 9) (.int .i64 9) (.int .i64 9)).2.1
  have HX2_2 := Lib.hid (set3 HX1_0.out HX1_1.out HX1_2.out 0 (.int .i64 9) (.int .i64 9) (.int .i64 9)).2.2
  clear p1_00 p1_01 p1_02 p1_03 p1_0f p1_10 p1_11 p1_12 p1_13 p1_1f p1_20 p1_21 p1_22 p1_23 p1_2f hsz HB1 HX1_0 HX1_1 HX1_2
  generalize ((w1.setCell ⟨w.heap.size, 0, none⟩ (.int .i64 9)).setCell ⟨w.heap.size + 1, 0, none⟩ (.int .i64 9)).setCell ⟨w.heap.size + 2, 0, none⟩ (.int .i64 9) = w2 at HB2 HX2_0 HX2_1 HX2_2 ⊢
  obtain ⟨p2_00, p2_01, p2_02, p2_03, p2_0f⟩ := blk_cells4 HX2_0.out
  obtain ⟨p2_10, p2_11, p2_12, p2_13, p2_1f⟩ := blk_cells4 HX2_1.out
  obtain ⟨p2_20, p2_21, p2_22, p2_23, p2_2f⟩ := blk_cells4 HX2_2.out
  refine start_ (n := 15) (S := fun w' => w'.cell? ⟨w.heap.size, 3, none⟩ = some (.slice A0 l0.length c0) ∧ w'.cell? ⟨(w.heap.size + 1), 3, none⟩ = some (.slice A1 l1.length c1) ∧ w'.cell? ⟨(w.heap.size + 2), 3, none⟩ = some (.slice A2 l2.length c2)) (ds := [10, 12, 14]) #[false, false, false, false, false, false, false, false, false, false, false, false, false, false, false] (by kernel_rfl) rfl rfl ⟨p2_03, p2_13, p2_23⟩ (fun hHeld => ?_)
  refine pure_ (i := 0) (N := some 24) (v := ?_) (a' := ?_) #[true, false, false, false, false, false, false, false, false, false, false, false, false, false, false] rfl rfl (by kernel_rfl) (fun _ _ _ h => h) (Or.inl ⟨by rfl, ?_⟩) ?_ ?_
  rotate_left
  · intro w'
    go_simp
    with_reducible rfl
  rotate_left
  · simp only [Act.put, List.setIfInBounds_toArray, List.set_cons_zero, List.set_cons_succ, i64_w, i32_w]
    rfl
  refine pure_ (i := 3) (N := some 27) (v := ?_) (a' := ?_) #[true, false, false, true, false, false, false, false, false, false, false, false, false, false, false] rfl rfl (by kernel_rfl) (fun _ _ _ h => h) (Or.inl ⟨by rfl, ?_⟩) ?_ ?_
  rotate_left
  · intro w'
    go_simp
    with_reducible rfl
  rotate_left
  · simp only [Act.put, List.setIfInBounds_toArray, List.set_cons_zero, List.set_cons_succ, i64_w, i32_w]
    rfl
  refine pure_ (i := 6) (N := some 30) (v := ?_) (a' := ?_) #[true, false, false, true, false, false, true, false, false, false, false, false, false, false, false] rfl rfl (by kernel_rfl) (fun _ _ _ h => h) (Or.inl ⟨by rfl, ?_⟩) ?_ ?_
  rotate_left
  · intro w'
    go_simp
    with_reducible rfl
  rotate_left
  · simp only [Act.put, List.setIfInBounds_toArray, List.set_cons_zero, List.set_cons_succ, i64_w, i32_w]
    rfl
  refine take_ (i := 1) (N := some 25) (v := ?_) (a' := ?_) #[true, true, false, true, false, false, true, false, false, false, false, false, false, false, false] rfl rfl (by kernel_rfl) (fun _ _ _ h => h) (Or.inl ⟨by rfl, ?_⟩) hHeld ?_ ?_
  rotate_left
  · rintro w' ⟨s0, s1, s2⟩
    go_simp
    with_reducible rfl
  rotate_left
  · simp only [Act.put, List.setIfInBounds_toArray, List.set_cons_zero, List.set_cons_succ, i64_w, i32_w]
    rfl
  refine take_ (i := 4) (N := some 28) (v := ?_) (a' := ?_) #[true, true, false, true, true, false, true, false, false, false, false, false, false, false, false] rfl rfl (by kernel_rfl) (fun _ _ _ h => h) (Or.inl ⟨by rfl, ?_⟩) hHeld ?_ ?_
  rotate_left
  · rintro w' ⟨s0, s1, s2⟩
    go_simp
    with_reducible rfl
  rotate_left
  · simp only [Act.put, List.setIfInBounds_toArray, List.set_cons_zero, List.set_cons_succ, i64_w, i32_w]
    rfl
  refine take_ (i := 7) (N := some 31) (v := ?_) (a' := ?_) #[true, true, false, true, true, false, true, true, false, false, false, false, false, false, false] rfl rfl (by kernel_rfl) (fun _ _ _ h => h) (Or.inl ⟨by rfl, ?_⟩) hHeld ?_ ?_
  rotate_left
  · rintro w' ⟨s0, s1, s2⟩
    go_simp
    with_reducible rfl
  rotate_left
  · simp only [Act.put, List.setIfInBounds_toArray, List.set_cons_zero, List.set_cons_succ, i64_w, i32_w]
    rfl
  refine one_ (i := 2) (N := some 26) #[true, true, true, true, true, false, true, true, false, false, false, false, false, false, false] rfl rfl (by kernel_rfl) (by decide) (fun K hK => ?_)
  refine goes_ Try.func15 (by kernel_rfl) rfl #[.slice A0 l0.length c0, .int .i64 4] (by rfl) rfl rfl (by simp only [List.map_toArray, List.map_cons, List.map_nil]; rfl) ?_
  with_reducible refine (some15_four A0 l0 L0 c0 HL0 hl0 _).mono ?_
  rintro e' w3 ⟨rfl, rfl⟩
  refine ⟨_, rfl, ?_⟩
  refine hK.out _ _ ⟨p2_03, p2_13, p2_23⟩ (fun hHeld => ?_)
  clear hK K
  refine norm_ (a' := ?_) ?_ ?_
  rotate_left
  · show Act.put _ (some 26) _ = _
    simp only [Act.put, List.setIfInBounds_toArray, List.set_cons_zero, List.set_cons_succ, i64_w, i32_w]
    rfl
  refine pure_ (i := 9) (N := some 33) (v := ?_) (a' := ?_) #[true, true, true, true, true, false, true, true, false, true, false, false, false, false, false] rfl rfl (by kernel_rfl) (fun _ _ _ h => h) (Or.inl ⟨by rfl, ?_⟩) ?_ ?_
  rotate_left
  · intro w'
    go_simp
    with_reducible rfl
  rotate_left
  · simp only [Act.put, List.setIfInBounds_toArray, List.set_cons_zero, List.set_cons_succ, i64_w, i32_w]
    rfl
  refine one_ (i := 5) (N := some 29) #[true, true, true, true, true, true, true, true, false, true, false, false, false, false, false] rfl rfl (by kernel_rfl) (by decide) (fun K hK => ?_)
  refine goes_ Try.func15 (by kernel_rfl) rfl #[.slice A1 l1.length c1, .int .i64 4] (by rfl) rfl rfl (by simp only [List.map_toArray, List.map_cons, List.map_nil]; rfl) ?_
  with_reducible refine (some15_four A1 l1 L1 c1 HL1 hl1 _).mono ?_
  rintro e' w3 ⟨rfl, rfl⟩
  refine ⟨_, rfl, ?_⟩
  refine hK.out _ _ ⟨p2_03, p2_13, p2_23⟩ (fun hHeld => ?_)
  clear hK K
  refine norm_ (a' := ?_) ?_ ?_
  rotate_left
  · show Act.put _ (some 29) _ = _
    simp only [Act.put, List.setIfInBounds_toArray, List.set_cons_zero, List.set_cons_succ, i64_w, i32_w]
    rfl
  refine one_ (i := 8) (N := some 32) #[true, true, true, true, true, true, true, true, true, true, false, false, false, false, false] rfl rfl (by kernel_rfl) (by decide) (fun K hK => ?_)
  refine goes_ Try.func15 (by kernel_rfl) rfl #[.slice A2 l2.length c2, .int .i64 4] (by rfl) rfl rfl (by simp only [List.map_toArray, List.map_cons, List.map_nil]; rfl) ?_
  with_reducible refine (some15_four A2 l2 L2 c2 HL2 hl2 _).mono ?_
  rintro e' w3 ⟨rfl, rfl⟩
  refine ⟨_, rfl, ?_⟩
  refine hK.out _ _ ⟨p2_03, p2_13, p2_23⟩ (fun hHeld => ?_)
  clear hK K
  refine norm_ (a' := ?_) ?_ ?_
  rotate_left
  · show Act.put _ (some 32) _ = _
    simp only [Act.put, List.setIfInBounds_toArray, List.set_cons_zero, List.set_cons_succ, i64_w, i32_w]
    rfl
  refine last_ (i := 10) (N := none) #[true, true, true, true, true, true, true, true, true, true, true, false, false, false, false] rfl rfl (by kernel_rfl) (by decide) (fun K hK => ?_)
  refine skip_ (w1 := ?_) (by rfl) rfl ?_ ?_
  rotate_left
  · go_simp
    rfl
  refine hK.out _ _ ?_
  clear hK K
  refine pure_ (i := 11) (N := some 34) (v := ?_) (a' := ?_) #[true, true, true, true, true, true, true, true, true, true, true, true, false, false, false] rfl rfl (by kernel_rfl) (fun _ _ _ h => h) (Or.inl ⟨by rfl, ?_⟩) ?_ ?_
  rotate_left
  · intro w'
    go_simp
    with_reducible rfl
  rotate_left
  · simp only [Act.put, List.setIfInBounds_toArray, List.set_cons_zero, List.set_cons_succ, i64_w, i32_w]
    rfl
  refine last_ (i := 12) (N := none) #[true, true, true, true, true, true, true, true, true, true, true, true, true, false, false] rfl rfl (by kernel_rfl) (by decide) (fun K hK => ?_)
  refine skip_ (w1 := ?_) (by rfl) rfl ?_ ?_
  rotate_left
  · go_simp
    rfl
  refine hK.out _ _ ?_
  clear hK K
  refine pure_ (i := 13) (N := some 35) (v := ?_) (a' := ?_) #[true, true, true, true, true, true, true, true, true, true, true, true, true, true, false] rfl rfl (by kernel_rfl) (fun _ _ _ h => h) (Or.inl ⟨by rfl, ?_⟩) ?_ ?_
  rotate_left
  · intro w'
    go_simp
    with_reducible rfl
  rotate_left
  · simp only [Act.put, List.setIfInBounds_toArray, List.set_cons_zero, List.set_cons_succ, i64_w, i32_w]
    rfl
  refine last_ (i := 14) (N := none) #[true, true, true, true, true, true, true, true, true, true, true, true, true, true, true] rfl rfl (by kernel_rfl) (by decide) (fun K hK => ?_)
  refine skip_ (w1 := ?_) (by rfl) rfl ?_ ?_
  rotate_left
  · go_simp
    rfl
  refine hK.out _ _ ?_
  clear hK K
  refine done_ (by kernel_rfl) ?_
  have HB3 := Lib.hid (Below.drew (Below.setCell (Below.setCell (Below.setCell HB2.out (p := ⟨w.heap.size, 3, none⟩) (by simp) (.slice A0 L0.length c0)) (p := ⟨w.heap.size + 1, 3, none⟩) (by simp) (.slice A1 L1.length c1)) (p := ⟨w.heap.size + 2, 3, none⟩) (by simp) (.slice A2 L2.length c2)))
  have HX3_0 := Lib.hid (show (((w2.setCell ⟨w.heap.size, 3, none⟩ (.slice A0 L0.length c0)).setCell ⟨w.heap.size + 1, 3, none⟩ (.slice A1 L1.length c1)).setCell ⟨w.heap.size + 2, 3, none⟩ (.slice A2 L2.length c2)).drew.heap[w.heap.size]? = _ from (set3 HX2_0.out HX2_1.out HX2_2.out 3 (.slice A0 L0.length c0) (.slice A1 L1.length c1) (.slice A2 L2.length c2)).1)
  have HX3_1 := Lib.hid (show (((w2.setCell ⟨w.heap.size, 3, none⟩ (.slice A0 L0.length c0)).setCell ⟨w.heap.size + 1, 3, none⟩ (.slice A1 L1.length c1)).setCell ⟨w.heap.size + 2, 3, none⟩ (.slice A2 L2.length c2)).drew.heap[w.heap.size + 1]? = _ from (set3 HX2_0.out HX2_1.out HX2_2.out 3 (.slice A0 L0.length c0) (.slice A1 L1.length c1) (.slice A2 L2.length c2)).2.1)
  have HX3_2 := Lib.hid (show (((w2.setCell ⟨w.heap.size, 3, none⟩ (.slice A0 L0.length c0)).setCell ⟨w.heap.size + 1, 3, none⟩ (.slice A1 L1.length c1)).setCell ⟨w.heap.size + 2, 3, none⟩ (.slice A2 L2.length c2)).drew.heap[w.heap.size + 2]? = _ from (set3 HX2_0.out HX2_1.out HX2_2.out 3 (.slice A0 L0.length c0) (.slice A1 L1.length c1) (.slice A2 L2.length c2)).2.2)
  clear p2_00 p2_01 p2_02 p2_03 p2_0f p2_10 p2_11 p2_12 p2_13 p2_1f p2_20 p2_21 p2_22 p2_23 p2_2f HB2 HX2_0 HX2_1 HX2_2
  generalize (((w2.setCell ⟨w.heap.size, 3, none⟩ (.slice A0 L0.length c0)).setCell ⟨w.heap.size + 1, 3, none⟩ (.slice A1 L1.length c1)).setCell ⟨w.heap.size + 2, 3, none⟩ (.slice A2 L2.length c2)).drew = w3 at HB3 HX3_0 HX3_1 HX3_2 ⊢
  obtain ⟨p3_00, p3_01, p3_02, p3_03, p3_0f⟩ := blk_cells4 HX3_0.out
  obtain ⟨p3_10, p3_11, p3_12, p3_13, p3_1f⟩ := blk_cells4 HX3_1.out
  obtain ⟨p3_20, p3_21, p3_22, p3_23, p3_2f⟩ := blk_cells4 HX3_2.out
  go_wp2_with fail
  refine (N1.out _ (Kd.C_below HK0.out HB3.out) (Kd.C_below HK1.out HB3.out)).mono ?_
  rintro E w4 ⟨rfl, hb4⟩
  have HB4 := Lib.hid (HB3.out.trans (hb4.mono HB3.out.size))
  have HX4_0 := Lib.hid (blk_keep hb4 HX3_0.out)
  have HX4_1 := Lib.hid (blk_keep hb4 HX3_1.out)
  have HX4_2 := Lib.hid (blk_keep hb4 HX3_2.out)
  clear p3_00 p3_01 p3_02 p3_03 p3_0f p3_10 p3_11 p3_12 p3_13 p3_1f p3_20 p3_21 p3_22 p3_23 p3_2f
  obtain ⟨p4_00, p4_01, p4_02, p4_03, p4_0f⟩ := blk_cells4 HX4_0.out
  obtain ⟨p4_10, p4_11, p4_12, p4_13, p4_1f⟩ := blk_cells4 HX4_1.out
  obtain ⟨p4_20, p4_21, p4_22, p4_23, p4_2f⟩ := blk_cells4 HX4_2.out
  clear hb4 
  go_wp2_with fail
  refine (N2.out _ (Kd.C_below HK1.out HB4.out) (Kd.C_below HK0.out HB4.out)).mono ?_
  rintro E w5 ⟨rfl, hb5⟩
  have HB5 := Lib.hid (HB4.out.trans (hb5.mono HB4.out.size))
  have HX5_0 := Lib.hid (blk_keep hb5 HX4_0.out)
  have HX5_1 := Lib.hid (blk_keep hb5 HX4_1.out)
  have HX5_2 := Lib.hid (blk_keep hb5 HX4_2.out)
  clear p4_00 p4_01 p4_02 p4_03 p4_0f p4_10 p4_11 p4_12 p4_13 p4_1f p4_20 p4_21 p4_22 p4_23 p4_2f
  obtain ⟨p5_00, p5_01, p5_02, p5_03, p5_0f⟩ := blk_cells4 HX5_0.out
  obtain ⟨p5_10, p5_11, p5_12, p5_13, p5_1f⟩ := blk_cells4 HX5_1.out
  obtain ⟨p5_20, p5_21, p5_22, p5_23, p5_2f⟩ := blk_cells4 HX5_2.out
  clear hb5 
  go_wp2_with fail
  refine (N3.out _ (Kd.C_below HK1.out HB5.out) (Kd.C_below HK2.out HB5.out)).mono ?_
  rintro E w6 ⟨rfl, hb6⟩
  have HB6 := Lib.hid (HB5.out.trans (hb6.mono HB5.out.size))
  have HX6_0 := Lib.hid (blk_keep hb6 HX5_0.out)
  have HX6_1 := Lib.hid (blk_keep hb6 HX5_1.out)
  have HX6_2 := Lib.hid (blk_keep hb6 HX5_2.out)
  clear p5_00 p5_01 p5_02 p5_03 p5_0f p5_10 p5_11 p5_12 p5_13 p5_1f p5_20 p5_21 p5_22 p5_23 p5_2f
  obtain ⟨p6_00, p6_01, p6_02, p6_03, p6_0f⟩ := blk_cells4 HX6_0.out
  obtain ⟨p6_10, p6_11, p6_12, p6_13, p6_1f⟩ := blk_cells4 HX6_1.out
  obtain ⟨p6_20, p6_21, p6_22, p6_23, p6_2f⟩ := blk_cells4 HX6_2.out
  clear hb6 
  go_wp2_with fail
  refine (N4.out _ (Kd.C_below HK0.out HB6.out) (Kd.C_below HK2.out HB6.out)).mono ?_
  rintro E w7 ⟨rfl, hb7⟩
  have HB7 := Lib.hid (HB6.out.trans (hb7.mono HB6.out.size))
  have HX7_0 := Lib.hid (blk_keep hb7 HX6_0.out)
  have HX7_1 := Lib.hid (blk_keep hb7 HX6_1.out)
  have HX7_2 := Lib.hid (blk_keep hb7 HX6_2.out)
  clear p6_00 p6_01 p6_02 p6_03 p6_0f p6_10 p6_11 p6_12 p6_13 p6_1f p6_20 p6_21 p6_22 p6_23 p6_2f
  obtain ⟨p7_00, p7_01, p7_02, p7_03, p7_0f⟩ := blk_cells4 HX7_0.out
  obtain ⟨p7_10, p7_11, p7_12, p7_13, p7_1f⟩ := blk_cells4 HX7_1.out
  obtain ⟨p7_20, p7_21, p7_22, p7_23, p7_2f⟩ := blk_cells4 HX7_2.out
  clear hb7 
  go_wp2_with fail
  go_ret
  exact ⟨rfl, HB7.out⟩
set_option maxHeartbeats 2000000 in
set_option maxRecDepth 100000 in
theorem AdvOrder_gy (i0 i1 i2 s0 s1 s2 t0 t1 t2 age x e y f z g u h n : Int) (A0 A1 A2 : Option Addr) (c0 c1 c2 : Nat) (l0 l1 l2 L0 L1 L2 : List S28) (w : World) (hl0 : l0.length ≤ c0) (hl1 : l1.length ≤ c1) (hl2 : l2.length ≤ c2) (HL0 : Hid (L0 = l0.take 4)) (HL1 : Hid (L1 = l1.take 4)) (HL2 : Hid (L2 = l2.take 4)) (HK0 : Hid (Kd.C k28 w A0 L0.length L0)) (HK1 : Hid (Kd.C k28 w A1 L1.length L1)) (HK2 : Hid (Kd.C k28 w A2 L2.length L2)) (N1 : Hid (∀ W : World, Kd.C k28 W A0 L0.length L0 → Kd.C k28 W A1 L1.length L1 → Calls Try.prog 20 #[.agg #[.int .i64 9, .int .i64 s0, .int .i64 t0, .slice A0 L0.length c0], .agg #[.int .i64 9, .int .i64 s1, .int .i64 t1, .slice A1 L1.length c1]] W fun E w' => E = .returned (.tuple #[.int .i64 x, .int .i64 e]) ∧ Below W.heap.size W w')) (N2 : Hid (∀ W : World, Kd.C k28 W A1 L1.length L1 → Kd.C k28 W A0 L0.length L0 → Calls Try.prog 20 #[.agg #[.int .i64 9, .int .i64 s1, .int .i64 t1, .slice A1 L1.length c1], .agg #[.int .i64 9, .int .i64 s0, .int .i64 t0, .slice A0 L0.length c0]] W fun E w' => E = .returned (.tuple #[.int .i64 y, .int .i64 f]) ∧ Below W.heap.size W w')) (N3 : Hid (∀ W : World, Kd.C k28 W A1 L1.length L1 → Kd.C k28 W A2 L2.length L2 → Calls Try.prog 20 #[.agg #[.int .i64 9, .int .i64 s1, .int .i64 t1, .slice A1 L1.length c1], .agg #[.int .i64 9, .int .i64 s2, .int .i64 t2, .slice A2 L2.length c2]] W fun E w' => E = .returned (.tuple #[.int .i64 z, .int .i64 g]) ∧ Below W.heap.size W w')) (N4 : Hid (∀ W : World, Kd.C k28 W A0 L0.length L0 → Kd.C k28 W A2 L2.length L2 → Calls Try.prog 20 #[.agg #[.int .i64 9, .int .i64 s0, .int .i64 t0, .slice A0 L0.length c0], .agg #[.int .i64 9, .int .i64 s2, .int .i64 t2, .slice A2 L2.length c2]] W fun E w' => E = .returned (.tuple #[.int .i64 u, .int .i64 h]) ∧ Below W.heap.size W w')) (d : Int) (hd : wrap64 ((IntKind.u64.wrap age).tmod 3600) = d) (N5 : Hid (∀ W : World, Kd.C k28 W A0 L0.length L0 → Kd.C k28 W A0 L0.length L0 → Calls Try.prog 20 #[.agg #[.int .i64 9, .int .i64 s0, .int .i64 t0, .slice A0 L0.length c0], .agg #[.int .i64 9, .int .i64 s0, .int .i64 d, .slice A0 L0.length c0]] W fun E w' => E = .returned (.tuple #[.int .i64 n, .int .i64 0]) ∧ Below W.heap.size W w')) (he : (e == 0) = true) (he2 : (e != 0) = false) (hf : (f == 0) = true) (hxy : (x != wrap64 (-y)) = false) (hg : (g == 0) = false) (ha : decide (t0 < 3600) = true) (hn : (n == 0) = true) :
    Calls Try.prog 5 #[.agg #[.int .i64 i0, .int .i64 s0, .int .i64 t0, .slice A0 l0.length c0], .agg #[.int .i64 i1, .int .i64 s1, .int .i64 t1, .slice A1 l1.length c1], .agg #[.int .i64 i2, .int .i64 s2, .int .i64 t2, .slice A2 l2.length c2], .int .i64 age] w fun E w' => E = .returned (.bool true) ∧ Below w.heap.size w w' := by
  have hu22 := Try.underlying22
  have hu24 := Try.underlying24
  obtain ⟨k0, hk0⟩ := advLives_ok
  have Hk0 := Lib.hid hk0
  clear hk0
  go_enter Try.func5, Try.ntmps5
  go_wp2_with fail
  have HX0_2 := Lib.hid (blk_alloc_at ((w.alloc (.cells #[.int .i64 i0, .int .i64 s0, .int .i64 t0, .slice A0 l0.length c0] 24)).alloc (.cells #[.int .i64 i1, .int .i64 s1, .int .i64 t1, .slice A1 l1.length c1] 24)) (.cells #[.int .i64 i2, .int .i64 s2, .int .i64 t2, .slice A2 l2.length c2] 24) (n := w.heap.size + 2) (by simp))
  have HX0_1 := Lib.hid (show ((((w.alloc (.cells #[.int .i64 i0, .int .i64 s0, .int .i64 t0, .slice A0 l0.length c0] 24)).alloc (.cells #[.int .i64 i1, .int .i64 s1, .int .i64 t1, .slice A1 l1.length c1] 24)).alloc (.cells #[.int .i64 i2, .int .i64 s2, .int .i64 t2, .slice A2 l2.length c2] 24)).heap[w.heap.size + 1]? = _) from blk_keep ((Below.refl _ _).alloc (Nat.le_refl _) _) (blk_alloc_at (w.alloc (.cells #[.int .i64 i0, .int .i64 s0, .int .i64 t0, .slice A0 l0.length c0] 24)) (.cells #[.int .i64 i1, .int .i64 s1, .int .i64 t1, .slice A1 l1.length c1] 24) (n := w.heap.size + 1) (by simp)))
  have HX0_0 := Lib.hid (show ((((w.alloc (.cells #[.int .i64 i0, .int .i64 s0, .int .i64 t0, .slice A0 l0.length c0] 24)).alloc (.cells #[.int .i64 i1, .int .i64 s1, .int .i64 t1, .slice A1 l1.length c1] 24)).alloc (.cells #[.int .i64 i2, .int .i64 s2, .int .i64 t2, .slice A2 l2.length c2] 24)).heap[w.heap.size]? = _) from blk_keep ((Below.refl _ _).alloc (Nat.le_refl _) _) (blk_keep ((Below.refl _ _).alloc (Nat.le_refl _) _) (blk_alloc w _)))
  have HB0 := Lib.hid (((((Below.refl w.heap.size w).alloc (Nat.le_refl _) (.cells #[.int .i64 i0, .int .i64 s0, .int .i64 t0, .slice A0 l0.length c0] 24)).alloc (by simp) (.cells #[.int .i64 i1, .int .i64 s1, .int .i64 t1, .slice A1 l1.length c1] 24)).alloc (by simp; omega) (.cells #[.int .i64 i2, .int .i64 s2, .int .i64 t2, .slice A2 l2.length c2] 24)))
  refine (patchbaykeep2_advLives.calls k0 true _ Hk0.out).mono ?_
  rintro e' w1 ⟨rfl, hb1⟩
  have HB1 := Lib.hid (HB0.out.trans (hb1.mono HB0.out.size))
  have HX1_0 := Lib.hid (blk_keep hb1 HX0_0.out)
  have HX1_1 := Lib.hid (blk_keep hb1 HX0_1.out)
  have HX1_2 := Lib.hid (blk_keep hb1 HX0_2.out)
  obtain ⟨p1_00, p1_01, p1_02, p1_03, p1_0f⟩ := blk_cells4 HX1_0.out
  obtain ⟨p1_10, p1_11, p1_12, p1_13, p1_1f⟩ := blk_cells4 HX1_1.out
  obtain ⟨p1_20, p1_21, p1_22, p1_23, p1_2f⟩ := blk_cells4 HX1_2.out
  clear hb1 
  have hsz : w.heap.size + 2 < w1.heap.size := blk_lt HX1_2.out
  go_wp2_with fail
  have HB2 := Lib.hid (Below.setCell (Below.setCell (Below.setCell HB1.out (p := ⟨w.heap.size, 0, none⟩) (by simp) (.int .i64 9)) (p := ⟨w.heap.size + 1, 0, none⟩) (by simp) (.int .i64 9)) (p := ⟨w.heap.size + 2, 0, none⟩) (by simp) (.int .i64 9))
  have HX2_0 := Lib.hid (set3 HX1_0.out HX1_1.out HX1_2.out 0 (.int .i64 9) (.int .i64 9) (.int .i64 9)).1
  have HX2_1 := Lib.hid (set3 HX1_0.out HX1_1.out HX1_2.out 0 (.int .i64 9) (.int .i64 9) (.int .i64 9)).2.1
  have HX2_2 := Lib.hid (set3 HX1_0.out HX1_1.out HX1_2.out 0 (.int .i64 9) (.int .i64 9) (.int .i64 9)).2.2
  clear p1_00 p1_01 p1_02 p1_03 p1_0f p1_10 p1_11 p1_12 p1_13 p1_1f p1_20 p1_21 p1_22 p1_23 p1_2f hsz HB1 HX1_0 HX1_1 HX1_2
  generalize ((w1.setCell ⟨w.heap.size, 0, none⟩ (.int .i64 9)).setCell ⟨w.heap.size + 1, 0, none⟩ (.int .i64 9)).setCell ⟨w.heap.size + 2, 0, none⟩ (.int .i64 9) = w2 at HB2 HX2_0 HX2_1 HX2_2 ⊢
  obtain ⟨p2_00, p2_01, p2_02, p2_03, p2_0f⟩ := blk_cells4 HX2_0.out
  obtain ⟨p2_10, p2_11, p2_12, p2_13, p2_1f⟩ := blk_cells4 HX2_1.out
  obtain ⟨p2_20, p2_21, p2_22, p2_23, p2_2f⟩ := blk_cells4 HX2_2.out
  refine start_ (n := 15) (S := fun w' => w'.cell? ⟨w.heap.size, 3, none⟩ = some (.slice A0 l0.length c0) ∧ w'.cell? ⟨(w.heap.size + 1), 3, none⟩ = some (.slice A1 l1.length c1) ∧ w'.cell? ⟨(w.heap.size + 2), 3, none⟩ = some (.slice A2 l2.length c2)) (ds := [10, 12, 14]) #[false, false, false, false, false, false, false, false, false, false, false, false, false, false, false] (by kernel_rfl) rfl rfl ⟨p2_03, p2_13, p2_23⟩ (fun hHeld => ?_)
  refine pure_ (i := 0) (N := some 24) (v := ?_) (a' := ?_) #[true, false, false, false, false, false, false, false, false, false, false, false, false, false, false] rfl rfl (by kernel_rfl) (fun _ _ _ h => h) (Or.inl ⟨by rfl, ?_⟩) ?_ ?_
  rotate_left
  · intro w'
    go_simp
    with_reducible rfl
  rotate_left
  · simp only [Act.put, List.setIfInBounds_toArray, List.set_cons_zero, List.set_cons_succ, i64_w, i32_w]
    rfl
  refine pure_ (i := 3) (N := some 27) (v := ?_) (a' := ?_) #[true, false, false, true, false, false, false, false, false, false, false, false, false, false, false] rfl rfl (by kernel_rfl) (fun _ _ _ h => h) (Or.inl ⟨by rfl, ?_⟩) ?_ ?_
  rotate_left
  · intro w'
    go_simp
    with_reducible rfl
  rotate_left
  · simp only [Act.put, List.setIfInBounds_toArray, List.set_cons_zero, List.set_cons_succ, i64_w, i32_w]
    rfl
  refine pure_ (i := 6) (N := some 30) (v := ?_) (a' := ?_) #[true, false, false, true, false, false, true, false, false, false, false, false, false, false, false] rfl rfl (by kernel_rfl) (fun _ _ _ h => h) (Or.inl ⟨by rfl, ?_⟩) ?_ ?_
  rotate_left
  · intro w'
    go_simp
    with_reducible rfl
  rotate_left
  · simp only [Act.put, List.setIfInBounds_toArray, List.set_cons_zero, List.set_cons_succ, i64_w, i32_w]
    rfl
  refine take_ (i := 1) (N := some 25) (v := ?_) (a' := ?_) #[true, true, false, true, false, false, true, false, false, false, false, false, false, false, false] rfl rfl (by kernel_rfl) (fun _ _ _ h => h) (Or.inl ⟨by rfl, ?_⟩) hHeld ?_ ?_
  rotate_left
  · rintro w' ⟨s0, s1, s2⟩
    go_simp
    with_reducible rfl
  rotate_left
  · simp only [Act.put, List.setIfInBounds_toArray, List.set_cons_zero, List.set_cons_succ, i64_w, i32_w]
    rfl
  refine take_ (i := 4) (N := some 28) (v := ?_) (a' := ?_) #[true, true, false, true, true, false, true, false, false, false, false, false, false, false, false] rfl rfl (by kernel_rfl) (fun _ _ _ h => h) (Or.inl ⟨by rfl, ?_⟩) hHeld ?_ ?_
  rotate_left
  · rintro w' ⟨s0, s1, s2⟩
    go_simp
    with_reducible rfl
  rotate_left
  · simp only [Act.put, List.setIfInBounds_toArray, List.set_cons_zero, List.set_cons_succ, i64_w, i32_w]
    rfl
  refine take_ (i := 7) (N := some 31) (v := ?_) (a' := ?_) #[true, true, false, true, true, false, true, true, false, false, false, false, false, false, false] rfl rfl (by kernel_rfl) (fun _ _ _ h => h) (Or.inl ⟨by rfl, ?_⟩) hHeld ?_ ?_
  rotate_left
  · rintro w' ⟨s0, s1, s2⟩
    go_simp
    with_reducible rfl
  rotate_left
  · simp only [Act.put, List.setIfInBounds_toArray, List.set_cons_zero, List.set_cons_succ, i64_w, i32_w]
    rfl
  refine one_ (i := 2) (N := some 26) #[true, true, true, true, true, false, true, true, false, false, false, false, false, false, false] rfl rfl (by kernel_rfl) (by decide) (fun K hK => ?_)
  refine goes_ Try.func15 (by kernel_rfl) rfl #[.slice A0 l0.length c0, .int .i64 4] (by rfl) rfl rfl (by simp only [List.map_toArray, List.map_cons, List.map_nil]; rfl) ?_
  with_reducible refine (some15_four A0 l0 L0 c0 HL0 hl0 _).mono ?_
  rintro e' w3 ⟨rfl, rfl⟩
  refine ⟨_, rfl, ?_⟩
  refine hK.out _ _ ⟨p2_03, p2_13, p2_23⟩ (fun hHeld => ?_)
  clear hK K
  refine norm_ (a' := ?_) ?_ ?_
  rotate_left
  · show Act.put _ (some 26) _ = _
    simp only [Act.put, List.setIfInBounds_toArray, List.set_cons_zero, List.set_cons_succ, i64_w, i32_w]
    rfl
  refine pure_ (i := 9) (N := some 33) (v := ?_) (a' := ?_) #[true, true, true, true, true, false, true, true, false, true, false, false, false, false, false] rfl rfl (by kernel_rfl) (fun _ _ _ h => h) (Or.inl ⟨by rfl, ?_⟩) ?_ ?_
  rotate_left
  · intro w'
    go_simp
    with_reducible rfl
  rotate_left
  · simp only [Act.put, List.setIfInBounds_toArray, List.set_cons_zero, List.set_cons_succ, i64_w, i32_w]
    rfl
  refine one_ (i := 5) (N := some 29) #[true, true, true, true, true, true, true, true, false, true, false, false, false, false, false] rfl rfl (by kernel_rfl) (by decide) (fun K hK => ?_)
  refine goes_ Try.func15 (by kernel_rfl) rfl #[.slice A1 l1.length c1, .int .i64 4] (by rfl) rfl rfl (by simp only [List.map_toArray, List.map_cons, List.map_nil]; rfl) ?_
  with_reducible refine (some15_four A1 l1 L1 c1 HL1 hl1 _).mono ?_
  rintro e' w3 ⟨rfl, rfl⟩
  refine ⟨_, rfl, ?_⟩
  refine hK.out _ _ ⟨p2_03, p2_13, p2_23⟩ (fun hHeld => ?_)
  clear hK K
  refine norm_ (a' := ?_) ?_ ?_
  rotate_left
  · show Act.put _ (some 29) _ = _
    simp only [Act.put, List.setIfInBounds_toArray, List.set_cons_zero, List.set_cons_succ, i64_w, i32_w]
    rfl
  refine one_ (i := 8) (N := some 32) #[true, true, true, true, true, true, true, true, true, true, false, false, false, false, false] rfl rfl (by kernel_rfl) (by decide) (fun K hK => ?_)
  refine goes_ Try.func15 (by kernel_rfl) rfl #[.slice A2 l2.length c2, .int .i64 4] (by rfl) rfl rfl (by simp only [List.map_toArray, List.map_cons, List.map_nil]; rfl) ?_
  with_reducible refine (some15_four A2 l2 L2 c2 HL2 hl2 _).mono ?_
  rintro e' w3 ⟨rfl, rfl⟩
  refine ⟨_, rfl, ?_⟩
  refine hK.out _ _ ⟨p2_03, p2_13, p2_23⟩ (fun hHeld => ?_)
  clear hK K
  refine norm_ (a' := ?_) ?_ ?_
  rotate_left
  · show Act.put _ (some 32) _ = _
    simp only [Act.put, List.setIfInBounds_toArray, List.set_cons_zero, List.set_cons_succ, i64_w, i32_w]
    rfl
  refine last_ (i := 10) (N := none) #[true, true, true, true, true, true, true, true, true, true, true, false, false, false, false] rfl rfl (by kernel_rfl) (by decide) (fun K hK => ?_)
  refine skip_ (w1 := ?_) (by rfl) rfl ?_ ?_
  rotate_left
  · go_simp
    rfl
  refine hK.out _ _ ?_
  clear hK K
  refine pure_ (i := 11) (N := some 34) (v := ?_) (a' := ?_) #[true, true, true, true, true, true, true, true, true, true, true, true, false, false, false] rfl rfl (by kernel_rfl) (fun _ _ _ h => h) (Or.inl ⟨by rfl, ?_⟩) ?_ ?_
  rotate_left
  · intro w'
    go_simp
    with_reducible rfl
  rotate_left
  · simp only [Act.put, List.setIfInBounds_toArray, List.set_cons_zero, List.set_cons_succ, i64_w, i32_w]
    rfl
  refine last_ (i := 12) (N := none) #[true, true, true, true, true, true, true, true, true, true, true, true, true, false, false] rfl rfl (by kernel_rfl) (by decide) (fun K hK => ?_)
  refine skip_ (w1 := ?_) (by rfl) rfl ?_ ?_
  rotate_left
  · go_simp
    rfl
  refine hK.out _ _ ?_
  clear hK K
  refine pure_ (i := 13) (N := some 35) (v := ?_) (a' := ?_) #[true, true, true, true, true, true, true, true, true, true, true, true, true, true, false] rfl rfl (by kernel_rfl) (fun _ _ _ h => h) (Or.inl ⟨by rfl, ?_⟩) ?_ ?_
  rotate_left
  · intro w'
    go_simp
    with_reducible rfl
  rotate_left
  · simp only [Act.put, List.setIfInBounds_toArray, List.set_cons_zero, List.set_cons_succ, i64_w, i32_w]
    rfl
  refine last_ (i := 14) (N := none) #[true, true, true, true, true, true, true, true, true, true, true, true, true, true, true] rfl rfl (by kernel_rfl) (by decide) (fun K hK => ?_)
  refine skip_ (w1 := ?_) (by rfl) rfl ?_ ?_
  rotate_left
  · go_simp
    rfl
  refine hK.out _ _ ?_
  clear hK K
  refine done_ (by kernel_rfl) ?_
  have HB3 := Lib.hid (Below.drew (Below.setCell (Below.setCell (Below.setCell HB2.out (p := ⟨w.heap.size, 3, none⟩) (by simp) (.slice A0 L0.length c0)) (p := ⟨w.heap.size + 1, 3, none⟩) (by simp) (.slice A1 L1.length c1)) (p := ⟨w.heap.size + 2, 3, none⟩) (by simp) (.slice A2 L2.length c2)))
  have HX3_0 := Lib.hid (show (((w2.setCell ⟨w.heap.size, 3, none⟩ (.slice A0 L0.length c0)).setCell ⟨w.heap.size + 1, 3, none⟩ (.slice A1 L1.length c1)).setCell ⟨w.heap.size + 2, 3, none⟩ (.slice A2 L2.length c2)).drew.heap[w.heap.size]? = _ from (set3 HX2_0.out HX2_1.out HX2_2.out 3 (.slice A0 L0.length c0) (.slice A1 L1.length c1) (.slice A2 L2.length c2)).1)
  have HX3_1 := Lib.hid (show (((w2.setCell ⟨w.heap.size, 3, none⟩ (.slice A0 L0.length c0)).setCell ⟨w.heap.size + 1, 3, none⟩ (.slice A1 L1.length c1)).setCell ⟨w.heap.size + 2, 3, none⟩ (.slice A2 L2.length c2)).drew.heap[w.heap.size + 1]? = _ from (set3 HX2_0.out HX2_1.out HX2_2.out 3 (.slice A0 L0.length c0) (.slice A1 L1.length c1) (.slice A2 L2.length c2)).2.1)
  have HX3_2 := Lib.hid (show (((w2.setCell ⟨w.heap.size, 3, none⟩ (.slice A0 L0.length c0)).setCell ⟨w.heap.size + 1, 3, none⟩ (.slice A1 L1.length c1)).setCell ⟨w.heap.size + 2, 3, none⟩ (.slice A2 L2.length c2)).drew.heap[w.heap.size + 2]? = _ from (set3 HX2_0.out HX2_1.out HX2_2.out 3 (.slice A0 L0.length c0) (.slice A1 L1.length c1) (.slice A2 L2.length c2)).2.2)
  clear p2_00 p2_01 p2_02 p2_03 p2_0f p2_10 p2_11 p2_12 p2_13 p2_1f p2_20 p2_21 p2_22 p2_23 p2_2f HB2 HX2_0 HX2_1 HX2_2
  generalize (((w2.setCell ⟨w.heap.size, 3, none⟩ (.slice A0 L0.length c0)).setCell ⟨w.heap.size + 1, 3, none⟩ (.slice A1 L1.length c1)).setCell ⟨w.heap.size + 2, 3, none⟩ (.slice A2 L2.length c2)).drew = w3 at HB3 HX3_0 HX3_1 HX3_2 ⊢
  obtain ⟨p3_00, p3_01, p3_02, p3_03, p3_0f⟩ := blk_cells4 HX3_0.out
  obtain ⟨p3_10, p3_11, p3_12, p3_13, p3_1f⟩ := blk_cells4 HX3_1.out
  obtain ⟨p3_20, p3_21, p3_22, p3_23, p3_2f⟩ := blk_cells4 HX3_2.out
  go_wp2_with fail
  refine (N1.out _ (Kd.C_below HK0.out HB3.out) (Kd.C_below HK1.out HB3.out)).mono ?_
  rintro E w4 ⟨rfl, hb4⟩
  have HB4 := Lib.hid (HB3.out.trans (hb4.mono HB3.out.size))
  have HX4_0 := Lib.hid (blk_keep hb4 HX3_0.out)
  have HX4_1 := Lib.hid (blk_keep hb4 HX3_1.out)
  have HX4_2 := Lib.hid (blk_keep hb4 HX3_2.out)
  clear p3_00 p3_01 p3_02 p3_03 p3_0f p3_10 p3_11 p3_12 p3_13 p3_1f p3_20 p3_21 p3_22 p3_23 p3_2f
  obtain ⟨p4_00, p4_01, p4_02, p4_03, p4_0f⟩ := blk_cells4 HX4_0.out
  obtain ⟨p4_10, p4_11, p4_12, p4_13, p4_1f⟩ := blk_cells4 HX4_1.out
  obtain ⟨p4_20, p4_21, p4_22, p4_23, p4_2f⟩ := blk_cells4 HX4_2.out
  clear hb4 
  go_wp2_with fail
  refine (N2.out _ (Kd.C_below HK1.out HB4.out) (Kd.C_below HK0.out HB4.out)).mono ?_
  rintro E w5 ⟨rfl, hb5⟩
  have HB5 := Lib.hid (HB4.out.trans (hb5.mono HB4.out.size))
  have HX5_0 := Lib.hid (blk_keep hb5 HX4_0.out)
  have HX5_1 := Lib.hid (blk_keep hb5 HX4_1.out)
  have HX5_2 := Lib.hid (blk_keep hb5 HX4_2.out)
  clear p4_00 p4_01 p4_02 p4_03 p4_0f p4_10 p4_11 p4_12 p4_13 p4_1f p4_20 p4_21 p4_22 p4_23 p4_2f
  obtain ⟨p5_00, p5_01, p5_02, p5_03, p5_0f⟩ := blk_cells4 HX5_0.out
  obtain ⟨p5_10, p5_11, p5_12, p5_13, p5_1f⟩ := blk_cells4 HX5_1.out
  obtain ⟨p5_20, p5_21, p5_22, p5_23, p5_2f⟩ := blk_cells4 HX5_2.out
  clear hb5 
  go_wp2_with fail
  refine (N3.out _ (Kd.C_below HK1.out HB5.out) (Kd.C_below HK2.out HB5.out)).mono ?_
  rintro E w6 ⟨rfl, hb6⟩
  have HB6 := Lib.hid (HB5.out.trans (hb6.mono HB5.out.size))
  have HX6_0 := Lib.hid (blk_keep hb6 HX5_0.out)
  have HX6_1 := Lib.hid (blk_keep hb6 HX5_1.out)
  have HX6_2 := Lib.hid (blk_keep hb6 HX5_2.out)
  clear p5_00 p5_01 p5_02 p5_03 p5_0f p5_10 p5_11 p5_12 p5_13 p5_1f p5_20 p5_21 p5_22 p5_23 p5_2f
  obtain ⟨p6_00, p6_01, p6_02, p6_03, p6_0f⟩ := blk_cells4 HX6_0.out
  obtain ⟨p6_10, p6_11, p6_12, p6_13, p6_1f⟩ := blk_cells4 HX6_1.out
  obtain ⟨p6_20, p6_21, p6_22, p6_23, p6_2f⟩ := blk_cells4 HX6_2.out
  clear hb6 
  go_wp2_with fail
  refine (N4.out _ (Kd.C_below HK0.out HB6.out) (Kd.C_below HK2.out HB6.out)).mono ?_
  rintro E w7 ⟨rfl, hb7⟩
  have HB7 := Lib.hid (HB6.out.trans (hb7.mono HB6.out.size))
  have HX7_0 := Lib.hid (blk_keep hb7 HX6_0.out)
  have HX7_1 := Lib.hid (blk_keep hb7 HX6_1.out)
  have HX7_2 := Lib.hid (blk_keep hb7 HX6_2.out)
  clear p6_00 p6_01 p6_02 p6_03 p6_0f p6_10 p6_11 p6_12 p6_13 p6_1f p6_20 p6_21 p6_22 p6_23 p6_2f
  obtain ⟨p7_00, p7_01, p7_02, p7_03, p7_0f⟩ := blk_cells4 HX7_0.out
  obtain ⟨p7_10, p7_11, p7_12, p7_13, p7_1f⟩ := blk_cells4 HX7_1.out
  obtain ⟨p7_20, p7_21, p7_22, p7_23, p7_2f⟩ := blk_cells4 HX7_2.out
  clear hb7 
  have hlt := blk_lt HX7_0.out
  go_wp2_with fail
  have HB8 := Lib.hid (HB7.out.alloc HB7.out.size (.cells #[.int .i64 9, .int .i64 s0, .int .i64 d, .slice A0 L0.length c0] 24))
  refine (N5.out _ (Kd.C_below HK0.out HB8.out) (Kd.C_below HK0.out HB8.out)).mono ?_
  rintro E w9 ⟨rfl, hb9⟩
  have HX8_0 := Lib.hid (show (w7.alloc (.cells #[.int .i64 9, .int .i64 s0, .int .i64 d, .slice A0 L0.length c0] 24)).heap[w.heap.size]? = _ from blk_keep ((Below.refl _ _).alloc (Nat.le_refl _) _) HX7_0.out)
  have HB9 := Lib.hid (HB8.out.trans (hb9.mono HB8.out.size))
  have HX9_0 := Lib.hid (blk_keep hb9 HX8_0.out)
  clear p7_00 p7_01 p7_02 p7_03 p7_0f p7_10 p7_11 p7_12 p7_13 p7_1f p7_20 p7_21 p7_22 p7_23 p7_2f
  obtain ⟨p9_00, p9_01, p9_02, p9_03, p9_0f⟩ := blk_cells4 HX9_0.out
  clear hb9 
  go_wp2_with fail
  go_ret
  exact ⟨rfl, HB9.out⟩
set_option maxHeartbeats 2000000 in
set_option maxRecDepth 100000 in
theorem AdvOrder_go (i0 i1 i2 s0 s1 s2 t0 t1 t2 age x e y f z g u h n : Int) (A0 A1 A2 : Option Addr) (c0 c1 c2 : Nat) (l0 l1 l2 L0 L1 L2 : List S28) (w : World) (hl0 : l0.length ≤ c0) (hl1 : l1.length ≤ c1) (hl2 : l2.length ≤ c2) (HL0 : Hid (L0 = l0.take 4)) (HL1 : Hid (L1 = l1.take 4)) (HL2 : Hid (L2 = l2.take 4)) (HK0 : Hid (Kd.C k28 w A0 L0.length L0)) (HK1 : Hid (Kd.C k28 w A1 L1.length L1)) (HK2 : Hid (Kd.C k28 w A2 L2.length L2)) (N1 : Hid (∀ W : World, Kd.C k28 W A0 L0.length L0 → Kd.C k28 W A1 L1.length L1 → Calls Try.prog 20 #[.agg #[.int .i64 9, .int .i64 s0, .int .i64 t0, .slice A0 L0.length c0], .agg #[.int .i64 9, .int .i64 s1, .int .i64 t1, .slice A1 L1.length c1]] W fun E w' => E = .returned (.tuple #[.int .i64 x, .int .i64 e]) ∧ Below W.heap.size W w')) (N2 : Hid (∀ W : World, Kd.C k28 W A1 L1.length L1 → Kd.C k28 W A0 L0.length L0 → Calls Try.prog 20 #[.agg #[.int .i64 9, .int .i64 s1, .int .i64 t1, .slice A1 L1.length c1], .agg #[.int .i64 9, .int .i64 s0, .int .i64 t0, .slice A0 L0.length c0]] W fun E w' => E = .returned (.tuple #[.int .i64 y, .int .i64 f]) ∧ Below W.heap.size W w')) (N3 : Hid (∀ W : World, Kd.C k28 W A1 L1.length L1 → Kd.C k28 W A2 L2.length L2 → Calls Try.prog 20 #[.agg #[.int .i64 9, .int .i64 s1, .int .i64 t1, .slice A1 L1.length c1], .agg #[.int .i64 9, .int .i64 s2, .int .i64 t2, .slice A2 L2.length c2]] W fun E w' => E = .returned (.tuple #[.int .i64 z, .int .i64 g]) ∧ Below W.heap.size W w')) (N4 : Hid (∀ W : World, Kd.C k28 W A0 L0.length L0 → Kd.C k28 W A2 L2.length L2 → Calls Try.prog 20 #[.agg #[.int .i64 9, .int .i64 s0, .int .i64 t0, .slice A0 L0.length c0], .agg #[.int .i64 9, .int .i64 s2, .int .i64 t2, .slice A2 L2.length c2]] W fun E w' => E = .returned (.tuple #[.int .i64 u, .int .i64 h]) ∧ Below W.heap.size W w')) (d : Int) (hd : wrap64 ((IntKind.u64.wrap age).tmod 3600) = d) (N5 : Hid (∀ W : World, Kd.C k28 W A0 L0.length L0 → Kd.C k28 W A0 L0.length L0 → Calls Try.prog 20 #[.agg #[.int .i64 9, .int .i64 s0, .int .i64 t0, .slice A0 L0.length c0], .agg #[.int .i64 9, .int .i64 s0, .int .i64 d, .slice A0 L0.length c0]] W fun E w' => E = .returned (.tuple #[.int .i64 n, .int .i64 0]) ∧ Below W.heap.size W w')) (he : (e == 0) = true) (he2 : (e != 0) = false) (hf : (f == 0) = true) (hxy : (x != wrap64 (-y)) = false) (hg : (g == 0) = false) (ha : decide (t0 < 3600) = false) (hn : (n == 0) = false) :
    Calls Try.prog 5 #[.agg #[.int .i64 i0, .int .i64 s0, .int .i64 t0, .slice A0 l0.length c0], .agg #[.int .i64 i1, .int .i64 s1, .int .i64 t1, .slice A1 l1.length c1], .agg #[.int .i64 i2, .int .i64 s2, .int .i64 t2, .slice A2 l2.length c2], .int .i64 age] w fun E w' => E = .returned (.bool true) ∧ Below w.heap.size w w' := by
  have hu22 := Try.underlying22
  have hu24 := Try.underlying24
  obtain ⟨k0, hk0⟩ := advLives_ok
  have Hk0 := Lib.hid hk0
  clear hk0
  go_enter Try.func5, Try.ntmps5
  go_wp2_with fail
  have HX0_2 := Lib.hid (blk_alloc_at ((w.alloc (.cells #[.int .i64 i0, .int .i64 s0, .int .i64 t0, .slice A0 l0.length c0] 24)).alloc (.cells #[.int .i64 i1, .int .i64 s1, .int .i64 t1, .slice A1 l1.length c1] 24)) (.cells #[.int .i64 i2, .int .i64 s2, .int .i64 t2, .slice A2 l2.length c2] 24) (n := w.heap.size + 2) (by simp))
  have HX0_1 := Lib.hid (show ((((w.alloc (.cells #[.int .i64 i0, .int .i64 s0, .int .i64 t0, .slice A0 l0.length c0] 24)).alloc (.cells #[.int .i64 i1, .int .i64 s1, .int .i64 t1, .slice A1 l1.length c1] 24)).alloc (.cells #[.int .i64 i2, .int .i64 s2, .int .i64 t2, .slice A2 l2.length c2] 24)).heap[w.heap.size + 1]? = _) from blk_keep ((Below.refl _ _).alloc (Nat.le_refl _) _) (blk_alloc_at (w.alloc (.cells #[.int .i64 i0, .int .i64 s0, .int .i64 t0, .slice A0 l0.length c0] 24)) (.cells #[.int .i64 i1, .int .i64 s1, .int .i64 t1, .slice A1 l1.length c1] 24) (n := w.heap.size + 1) (by simp)))
  have HX0_0 := Lib.hid (show ((((w.alloc (.cells #[.int .i64 i0, .int .i64 s0, .int .i64 t0, .slice A0 l0.length c0] 24)).alloc (.cells #[.int .i64 i1, .int .i64 s1, .int .i64 t1, .slice A1 l1.length c1] 24)).alloc (.cells #[.int .i64 i2, .int .i64 s2, .int .i64 t2, .slice A2 l2.length c2] 24)).heap[w.heap.size]? = _) from blk_keep ((Below.refl _ _).alloc (Nat.le_refl _) _) (blk_keep ((Below.refl _ _).alloc (Nat.le_refl _) _) (blk_alloc w _)))
  have HB0 := Lib.hid (((((Below.refl w.heap.size w).alloc (Nat.le_refl _) (.cells #[.int .i64 i0, .int .i64 s0, .int .i64 t0, .slice A0 l0.length c0] 24)).alloc (by simp) (.cells #[.int .i64 i1, .int .i64 s1, .int .i64 t1, .slice A1 l1.length c1] 24)).alloc (by simp; omega) (.cells #[.int .i64 i2, .int .i64 s2, .int .i64 t2, .slice A2 l2.length c2] 24)))
  refine (patchbaykeep2_advLives.calls k0 true _ Hk0.out).mono ?_
  rintro e' w1 ⟨rfl, hb1⟩
  have HB1 := Lib.hid (HB0.out.trans (hb1.mono HB0.out.size))
  have HX1_0 := Lib.hid (blk_keep hb1 HX0_0.out)
  have HX1_1 := Lib.hid (blk_keep hb1 HX0_1.out)
  have HX1_2 := Lib.hid (blk_keep hb1 HX0_2.out)
  obtain ⟨p1_00, p1_01, p1_02, p1_03, p1_0f⟩ := blk_cells4 HX1_0.out
  obtain ⟨p1_10, p1_11, p1_12, p1_13, p1_1f⟩ := blk_cells4 HX1_1.out
  obtain ⟨p1_20, p1_21, p1_22, p1_23, p1_2f⟩ := blk_cells4 HX1_2.out
  clear hb1 
  have hsz : w.heap.size + 2 < w1.heap.size := blk_lt HX1_2.out
  go_wp2_with fail
  have HB2 := Lib.hid (Below.setCell (Below.setCell (Below.setCell HB1.out (p := ⟨w.heap.size, 0, none⟩) (by simp) (.int .i64 9)) (p := ⟨w.heap.size + 1, 0, none⟩) (by simp) (.int .i64 9)) (p := ⟨w.heap.size + 2, 0, none⟩) (by simp) (.int .i64 9))
  have HX2_0 := Lib.hid (set3 HX1_0.out HX1_1.out HX1_2.out 0 (.int .i64 9) (.int .i64 9) (.int .i64 9)).1
  have HX2_1 := Lib.hid (set3 HX1_0.out HX1_1.out HX1_2.out 0 (.int .i64 9) (.int .i64 9) (.int .i64 9)).2.1
  have HX2_2 := Lib.hid (set3 HX1_0.out HX1_1.out HX1_2.out 0 (.int .i64 9) (.int .i64 9) (.int .i64 9)).2.2
  clear p1_00 p1_01 p1_02 p1_03 p1_0f p1_10 p1_11 p1_12 p1_13 p1_1f p1_20 p1_21 p1_22 p1_23 p1_2f hsz HB1 HX1_0 HX1_1 HX1_2
  generalize ((w1.setCell ⟨w.heap.size, 0, none⟩ (.int .i64 9)).setCell ⟨w.heap.size + 1, 0, none⟩ (.int .i64 9)).setCell ⟨w.heap.size + 2, 0, none⟩ (.int .i64 9) = w2 at HB2 HX2_0 HX2_1 HX2_2 ⊢
  obtain ⟨p2_00, p2_01, p2_02, p2_03, p2_0f⟩ := blk_cells4 HX2_0.out
  obtain ⟨p2_10, p2_11, p2_12, p2_13, p2_1f⟩ := blk_cells4 HX2_1.out
  obtain ⟨p2_20, p2_21, p2_22, p2_23, p2_2f⟩ := blk_cells4 HX2_2.out
  refine start_ (n := 15) (S := fun w' => w'.cell? ⟨w.heap.size, 3, none⟩ = some (.slice A0 l0.length c0) ∧ w'.cell? ⟨(w.heap.size + 1), 3, none⟩ = some (.slice A1 l1.length c1) ∧ w'.cell? ⟨(w.heap.size + 2), 3, none⟩ = some (.slice A2 l2.length c2)) (ds := [10, 12, 14]) #[false, false, false, false, false, false, false, false, false, false, false, false, false, false, false] (by kernel_rfl) rfl rfl ⟨p2_03, p2_13, p2_23⟩ (fun hHeld => ?_)
  refine pure_ (i := 0) (N := some 24) (v := ?_) (a' := ?_) #[true, false, false, false, false, false, false, false, false, false, false, false, false, false, false] rfl rfl (by kernel_rfl) (fun _ _ _ h => h) (Or.inl ⟨by rfl, ?_⟩) ?_ ?_
  rotate_left
  · intro w'
    go_simp
    with_reducible rfl
  rotate_left
  · simp only [Act.put, List.setIfInBounds_toArray, List.set_cons_zero, List.set_cons_succ, i64_w, i32_w]
    rfl
  refine pure_ (i := 3) (N := some 27) (v := ?_) (a' := ?_) #[true, false, false, true, false, false, false, false, false, false, false, false, false, false, false] rfl rfl (by kernel_rfl) (fun _ _ _ h => h) (Or.inl ⟨by rfl, ?_⟩) ?_ ?_
  rotate_left
  · intro w'
    go_simp
    with_reducible rfl
  rotate_left
  · simp only [Act.put, List.setIfInBounds_toArray, List.set_cons_zero, List.set_cons_succ, i64_w, i32_w]
    rfl
  refine pure_ (i := 6) (N := some 30) (v := ?_) (a' := ?_) #[true, false, false, true, false, false, true, false, false, false, false, false, false, false, false] rfl rfl (by kernel_rfl) (fun _ _ _ h => h) (Or.inl ⟨by rfl, ?_⟩) ?_ ?_
  rotate_left
  · intro w'
    go_simp
    with_reducible rfl
  rotate_left
  · simp only [Act.put, List.setIfInBounds_toArray, List.set_cons_zero, List.set_cons_succ, i64_w, i32_w]
    rfl
  refine take_ (i := 1) (N := some 25) (v := ?_) (a' := ?_) #[true, true, false, true, false, false, true, false, false, false, false, false, false, false, false] rfl rfl (by kernel_rfl) (fun _ _ _ h => h) (Or.inl ⟨by rfl, ?_⟩) hHeld ?_ ?_
  rotate_left
  · rintro w' ⟨s0, s1, s2⟩
    go_simp
    with_reducible rfl
  rotate_left
  · simp only [Act.put, List.setIfInBounds_toArray, List.set_cons_zero, List.set_cons_succ, i64_w, i32_w]
    rfl
  refine take_ (i := 4) (N := some 28) (v := ?_) (a' := ?_) #[true, true, false, true, true, false, true, false, false, false, false, false, false, false, false] rfl rfl (by kernel_rfl) (fun _ _ _ h => h) (Or.inl ⟨by rfl, ?_⟩) hHeld ?_ ?_
  rotate_left
  · rintro w' ⟨s0, s1, s2⟩
    go_simp
    with_reducible rfl
  rotate_left
  · simp only [Act.put, List.setIfInBounds_toArray, List.set_cons_zero, List.set_cons_succ, i64_w, i32_w]
    rfl
  refine take_ (i := 7) (N := some 31) (v := ?_) (a' := ?_) #[true, true, false, true, true, false, true, true, false, false, false, false, false, false, false] rfl rfl (by kernel_rfl) (fun _ _ _ h => h) (Or.inl ⟨by rfl, ?_⟩) hHeld ?_ ?_
  rotate_left
  · rintro w' ⟨s0, s1, s2⟩
    go_simp
    with_reducible rfl
  rotate_left
  · simp only [Act.put, List.setIfInBounds_toArray, List.set_cons_zero, List.set_cons_succ, i64_w, i32_w]
    rfl
  refine one_ (i := 2) (N := some 26) #[true, true, true, true, true, false, true, true, false, false, false, false, false, false, false] rfl rfl (by kernel_rfl) (by decide) (fun K hK => ?_)
  refine goes_ Try.func15 (by kernel_rfl) rfl #[.slice A0 l0.length c0, .int .i64 4] (by rfl) rfl rfl (by simp only [List.map_toArray, List.map_cons, List.map_nil]; rfl) ?_
  with_reducible refine (some15_four A0 l0 L0 c0 HL0 hl0 _).mono ?_
  rintro e' w3 ⟨rfl, rfl⟩
  refine ⟨_, rfl, ?_⟩
  refine hK.out _ _ ⟨p2_03, p2_13, p2_23⟩ (fun hHeld => ?_)
  clear hK K
  refine norm_ (a' := ?_) ?_ ?_
  rotate_left
  · show Act.put _ (some 26) _ = _
    simp only [Act.put, List.setIfInBounds_toArray, List.set_cons_zero, List.set_cons_succ, i64_w, i32_w]
    rfl
  refine pure_ (i := 9) (N := some 33) (v := ?_) (a' := ?_) #[true, true, true, true, true, false, true, true, false, true, false, false, false, false, false] rfl rfl (by kernel_rfl) (fun _ _ _ h => h) (Or.inl ⟨by rfl, ?_⟩) ?_ ?_
  rotate_left
  · intro w'
    go_simp
    with_reducible rfl
  rotate_left
  · simp only [Act.put, List.setIfInBounds_toArray, List.set_cons_zero, List.set_cons_succ, i64_w, i32_w]
    rfl
  refine one_ (i := 5) (N := some 29) #[true, true, true, true, true, true, true, true, false, true, false, false, false, false, false] rfl rfl (by kernel_rfl) (by decide) (fun K hK => ?_)
  refine goes_ Try.func15 (by kernel_rfl) rfl #[.slice A1 l1.length c1, .int .i64 4] (by rfl) rfl rfl (by simp only [List.map_toArray, List.map_cons, List.map_nil]; rfl) ?_
  with_reducible refine (some15_four A1 l1 L1 c1 HL1 hl1 _).mono ?_
  rintro e' w3 ⟨rfl, rfl⟩
  refine ⟨_, rfl, ?_⟩
  refine hK.out _ _ ⟨p2_03, p2_13, p2_23⟩ (fun hHeld => ?_)
  clear hK K
  refine norm_ (a' := ?_) ?_ ?_
  rotate_left
  · show Act.put _ (some 29) _ = _
    simp only [Act.put, List.setIfInBounds_toArray, List.set_cons_zero, List.set_cons_succ, i64_w, i32_w]
    rfl
  refine one_ (i := 8) (N := some 32) #[true, true, true, true, true, true, true, true, true, true, false, false, false, false, false] rfl rfl (by kernel_rfl) (by decide) (fun K hK => ?_)
  refine goes_ Try.func15 (by kernel_rfl) rfl #[.slice A2 l2.length c2, .int .i64 4] (by rfl) rfl rfl (by simp only [List.map_toArray, List.map_cons, List.map_nil]; rfl) ?_
  with_reducible refine (some15_four A2 l2 L2 c2 HL2 hl2 _).mono ?_
  rintro e' w3 ⟨rfl, rfl⟩
  refine ⟨_, rfl, ?_⟩
  refine hK.out _ _ ⟨p2_03, p2_13, p2_23⟩ (fun hHeld => ?_)
  clear hK K
  refine norm_ (a' := ?_) ?_ ?_
  rotate_left
  · show Act.put _ (some 32) _ = _
    simp only [Act.put, List.setIfInBounds_toArray, List.set_cons_zero, List.set_cons_succ, i64_w, i32_w]
    rfl
  refine last_ (i := 10) (N := none) #[true, true, true, true, true, true, true, true, true, true, true, false, false, false, false] rfl rfl (by kernel_rfl) (by decide) (fun K hK => ?_)
  refine skip_ (w1 := ?_) (by rfl) rfl ?_ ?_
  rotate_left
  · go_simp
    rfl
  refine hK.out _ _ ?_
  clear hK K
  refine pure_ (i := 11) (N := some 34) (v := ?_) (a' := ?_) #[true, true, true, true, true, true, true, true, true, true, true, true, false, false, false] rfl rfl (by kernel_rfl) (fun _ _ _ h => h) (Or.inl ⟨by rfl, ?_⟩) ?_ ?_
  rotate_left
  · intro w'
    go_simp
    with_reducible rfl
  rotate_left
  · simp only [Act.put, List.setIfInBounds_toArray, List.set_cons_zero, List.set_cons_succ, i64_w, i32_w]
    rfl
  refine last_ (i := 12) (N := none) #[true, true, true, true, true, true, true, true, true, true, true, true, true, false, false] rfl rfl (by kernel_rfl) (by decide) (fun K hK => ?_)
  refine skip_ (w1 := ?_) (by rfl) rfl ?_ ?_
  rotate_left
  · go_simp
    rfl
  refine hK.out _ _ ?_
  clear hK K
  refine pure_ (i := 13) (N := some 35) (v := ?_) (a' := ?_) #[true, true, true, true, true, true, true, true, true, true, true, true, true, true, false] rfl rfl (by kernel_rfl) (fun _ _ _ h => h) (Or.inl ⟨by rfl, ?_⟩) ?_ ?_
  rotate_left
  · intro w'
    go_simp
    with_reducible rfl
  rotate_left
  · simp only [Act.put, List.setIfInBounds_toArray, List.set_cons_zero, List.set_cons_succ, i64_w, i32_w]
    rfl
  refine last_ (i := 14) (N := none) #[true, true, true, true, true, true, true, true, true, true, true, true, true, true, true] rfl rfl (by kernel_rfl) (by decide) (fun K hK => ?_)
  refine skip_ (w1 := ?_) (by rfl) rfl ?_ ?_
  rotate_left
  · go_simp
    rfl
  refine hK.out _ _ ?_
  clear hK K
  refine done_ (by kernel_rfl) ?_
  have HB3 := Lib.hid (Below.drew (Below.setCell (Below.setCell (Below.setCell HB2.out (p := ⟨w.heap.size, 3, none⟩) (by simp) (.slice A0 L0.length c0)) (p := ⟨w.heap.size + 1, 3, none⟩) (by simp) (.slice A1 L1.length c1)) (p := ⟨w.heap.size + 2, 3, none⟩) (by simp) (.slice A2 L2.length c2)))
  have HX3_0 := Lib.hid (show (((w2.setCell ⟨w.heap.size, 3, none⟩ (.slice A0 L0.length c0)).setCell ⟨w.heap.size + 1, 3, none⟩ (.slice A1 L1.length c1)).setCell ⟨w.heap.size + 2, 3, none⟩ (.slice A2 L2.length c2)).drew.heap[w.heap.size]? = _ from (set3 HX2_0.out HX2_1.out HX2_2.out 3 (.slice A0 L0.length c0) (.slice A1 L1.length c1) (.slice A2 L2.length c2)).1)
  have HX3_1 := Lib.hid (show (((w2.setCell ⟨w.heap.size, 3, none⟩ (.slice A0 L0.length c0)).setCell ⟨w.heap.size + 1, 3, none⟩ (.slice A1 L1.length c1)).setCell ⟨w.heap.size + 2, 3, none⟩ (.slice A2 L2.length c2)).drew.heap[w.heap.size + 1]? = _ from (set3 HX2_0.out HX2_1.out HX2_2.out 3 (.slice A0 L0.length c0) (.slice A1 L1.length c1) (.slice A2 L2.length c2)).2.1)
  have HX3_2 := Lib.hid (show (((w2.setCell ⟨w.heap.size, 3, none⟩ (.slice A0 L0.length c0)).setCell ⟨w.heap.size + 1, 3, none⟩ (.slice A1 L1.length c1)).setCell ⟨w.heap.size + 2, 3, none⟩ (.slice A2 L2.length c2)).drew.heap[w.heap.size + 2]? = _ from (set3 HX2_0.out HX2_1.out HX2_2.out 3 (.slice A0 L0.length c0) (.slice A1 L1.length c1) (.slice A2 L2.length c2)).2.2)
  clear p2_00 p2_01 p2_02 p2_03 p2_0f p2_10 p2_11 p2_12 p2_13 p2_1f p2_20 p2_21 p2_22 p2_23 p2_2f HB2 HX2_0 HX2_1 HX2_2
  generalize (((w2.setCell ⟨w.heap.size, 3, none⟩ (.slice A0 L0.length c0)).setCell ⟨w.heap.size + 1, 3, none⟩ (.slice A1 L1.length c1)).setCell ⟨w.heap.size + 2, 3, none⟩ (.slice A2 L2.length c2)).drew = w3 at HB3 HX3_0 HX3_1 HX3_2 ⊢
  obtain ⟨p3_00, p3_01, p3_02, p3_03, p3_0f⟩ := blk_cells4 HX3_0.out
  obtain ⟨p3_10, p3_11, p3_12, p3_13, p3_1f⟩ := blk_cells4 HX3_1.out
  obtain ⟨p3_20, p3_21, p3_22, p3_23, p3_2f⟩ := blk_cells4 HX3_2.out
  go_wp2_with fail
  refine (N1.out _ (Kd.C_below HK0.out HB3.out) (Kd.C_below HK1.out HB3.out)).mono ?_
  rintro E w4 ⟨rfl, hb4⟩
  have HB4 := Lib.hid (HB3.out.trans (hb4.mono HB3.out.size))
  have HX4_0 := Lib.hid (blk_keep hb4 HX3_0.out)
  have HX4_1 := Lib.hid (blk_keep hb4 HX3_1.out)
  have HX4_2 := Lib.hid (blk_keep hb4 HX3_2.out)
  clear p3_00 p3_01 p3_02 p3_03 p3_0f p3_10 p3_11 p3_12 p3_13 p3_1f p3_20 p3_21 p3_22 p3_23 p3_2f
  obtain ⟨p4_00, p4_01, p4_02, p4_03, p4_0f⟩ := blk_cells4 HX4_0.out
  obtain ⟨p4_10, p4_11, p4_12, p4_13, p4_1f⟩ := blk_cells4 HX4_1.out
  obtain ⟨p4_20, p4_21, p4_22, p4_23, p4_2f⟩ := blk_cells4 HX4_2.out
  clear hb4 
  go_wp2_with fail
  refine (N2.out _ (Kd.C_below HK1.out HB4.out) (Kd.C_below HK0.out HB4.out)).mono ?_
  rintro E w5 ⟨rfl, hb5⟩
  have HB5 := Lib.hid (HB4.out.trans (hb5.mono HB4.out.size))
  have HX5_0 := Lib.hid (blk_keep hb5 HX4_0.out)
  have HX5_1 := Lib.hid (blk_keep hb5 HX4_1.out)
  have HX5_2 := Lib.hid (blk_keep hb5 HX4_2.out)
  clear p4_00 p4_01 p4_02 p4_03 p4_0f p4_10 p4_11 p4_12 p4_13 p4_1f p4_20 p4_21 p4_22 p4_23 p4_2f
  obtain ⟨p5_00, p5_01, p5_02, p5_03, p5_0f⟩ := blk_cells4 HX5_0.out
  obtain ⟨p5_10, p5_11, p5_12, p5_13, p5_1f⟩ := blk_cells4 HX5_1.out
  obtain ⟨p5_20, p5_21, p5_22, p5_23, p5_2f⟩ := blk_cells4 HX5_2.out
  clear hb5 
  go_wp2_with fail
  refine (N3.out _ (Kd.C_below HK1.out HB5.out) (Kd.C_below HK2.out HB5.out)).mono ?_
  rintro E w6 ⟨rfl, hb6⟩
  have HB6 := Lib.hid (HB5.out.trans (hb6.mono HB5.out.size))
  have HX6_0 := Lib.hid (blk_keep hb6 HX5_0.out)
  have HX6_1 := Lib.hid (blk_keep hb6 HX5_1.out)
  have HX6_2 := Lib.hid (blk_keep hb6 HX5_2.out)
  clear p5_00 p5_01 p5_02 p5_03 p5_0f p5_10 p5_11 p5_12 p5_13 p5_1f p5_20 p5_21 p5_22 p5_23 p5_2f
  obtain ⟨p6_00, p6_01, p6_02, p6_03, p6_0f⟩ := blk_cells4 HX6_0.out
  obtain ⟨p6_10, p6_11, p6_12, p6_13, p6_1f⟩ := blk_cells4 HX6_1.out
  obtain ⟨p6_20, p6_21, p6_22, p6_23, p6_2f⟩ := blk_cells4 HX6_2.out
  clear hb6 
  go_wp2_with fail
  refine (N4.out _ (Kd.C_below HK0.out HB6.out) (Kd.C_below HK2.out HB6.out)).mono ?_
  rintro E w7 ⟨rfl, hb7⟩
  have HB7 := Lib.hid (HB6.out.trans (hb7.mono HB6.out.size))
  have HX7_0 := Lib.hid (blk_keep hb7 HX6_0.out)
  have HX7_1 := Lib.hid (blk_keep hb7 HX6_1.out)
  have HX7_2 := Lib.hid (blk_keep hb7 HX6_2.out)
  clear p6_00 p6_01 p6_02 p6_03 p6_0f p6_10 p6_11 p6_12 p6_13 p6_1f p6_20 p6_21 p6_22 p6_23 p6_2f
  obtain ⟨p7_00, p7_01, p7_02, p7_03, p7_0f⟩ := blk_cells4 HX7_0.out
  obtain ⟨p7_10, p7_11, p7_12, p7_13, p7_1f⟩ := blk_cells4 HX7_1.out
  obtain ⟨p7_20, p7_21, p7_22, p7_23, p7_2f⟩ := blk_cells4 HX7_2.out
  clear hb7 
  have hlt := blk_lt HX7_0.out
  go_wp2_with fail
  have HB8 := Lib.hid (HB7.out.alloc HB7.out.size (.cells #[.int .i64 9, .int .i64 s0, .int .i64 d, .slice A0 L0.length c0] 24))
  refine (N5.out _ (Kd.C_below HK0.out HB8.out) (Kd.C_below HK0.out HB8.out)).mono ?_
  rintro E w9 ⟨rfl, hb9⟩
  have HX8_0 := Lib.hid (show (w7.alloc (.cells #[.int .i64 9, .int .i64 s0, .int .i64 d, .slice A0 L0.length c0] 24)).heap[w.heap.size]? = _ from blk_keep ((Below.refl _ _).alloc (Nat.le_refl _) _) HX7_0.out)
  have HB9 := Lib.hid (HB8.out.trans (hb9.mono HB8.out.size))
  have HX9_0 := Lib.hid (blk_keep hb9 HX8_0.out)
  clear p7_00 p7_01 p7_02 p7_03 p7_0f p7_10 p7_11 p7_12 p7_13 p7_1f p7_20 p7_21 p7_22 p7_23 p7_2f
  obtain ⟨p9_00, p9_01, p9_02, p9_03, p9_0f⟩ := blk_cells4 HX9_0.out
  clear hb9 
  go_wp2_with fail
  go_ret
  exact ⟨rfl, HB9.out⟩
end Go.Proofs.Ytaneaabmgnanbaa.M
