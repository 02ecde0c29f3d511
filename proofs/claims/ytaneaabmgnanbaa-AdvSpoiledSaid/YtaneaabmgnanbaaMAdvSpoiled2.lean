/- Own lemmas: the law AdvSpoiled, its last cases. -/
import Derived.Test.YtaneaabmgnanbaaMAdvSpoiled
import Derived.Test.YtaneaabmgnanbaaMspoil
namespace Go.Proofs.Ytaneaabmgnanbaa.M
open Go.RowKit Go.Proofs.YtaneaabmgnanbaaW.PrintWords Go.Proofs.YtaneaabmgnanbaaW.PrintLast Go.Proofs.YtaneaabmgnanbaaW.PrintMore Go.Proofs.Ytaneaabmgnanbaa.PAdvBack
set_option linter.unusedVariables false
set_option linter.unusedSimpArgs false

theorem spoil_last {id seq age : Int} {ls : List S28} (h : Valid id seq age ls) (s : ByteArray) (hs : s = strOfNums (encL id seq age ls)) (q : Nat) (hq : q < s.size) (h5 : ((q : Int) == 5) = false) (h6 : ((q : Int) == 6) = false) (c y : Int)
    (h0 : (y == 0) = false) (h2 : (y == 255) = false) (hy0 : 0 ≤ y) (hy1 : y ≤ 255)
    (hc : wrap64 (wrap64 ((s[q]'hq).toNat : Int) + y) = c) (hc1 : c ≤ 255) : ((dec (s.extract 0 q ++ strOfNums [IntKind.u8.wrap c] ++ s.extract (q + 1) s.size)).2.2.2.2 != 0) = true := by
  have e5 : (q : Int) ≠ 5 := beq_eq_false_iff_ne.1 h5
  have e6 : (q : Int) ≠ 6 := beq_eq_false_iff_ne.1 h6
  have e0 : y ≠ 0 := beq_eq_false_iff_ne.1 h0
  have e2 : y ≠ 255 := beq_eq_false_iff_ne.1 h2
  exact bne_iff_ne.mpr (spoil_any h s hs q hq (by omega) (by omega) c y (by omega) (by omega) hc hc1)
theorem qfacts (q n : Nat) (h : q < n) (hn : n ≤ 1000) : q ≤ n ∧ wrap64 ((q : Int) + 1) = (q : Int) + 1 ∧ 0 ≤ (q : Int) + 1 ∧ (q : Int) + 1 ≤ (n : Int) ∧ ((q : Int) + 1).toNat = q + 1 :=
  ⟨by omega, wrap_in _ (by omega) (by omega), by omega, by omega, by omega⟩
theorem bigs (q n : Nat) (h : q < n) (hn : n ≤ 1000) : ¬ 9223372036854775807 < q + 1 ∧ ¬ 9223372036854775807 < q + 1 + (n - (q + 1)) := by omega
theorem conv1 (W : World) (g : Nat) (v : Int) (h : W.heap.size = g) : (convert 36 9 (.slice (some ⟨g, 0, none⟩) 1 1)).run Try.prog (W.alloc (.cells #[.int .u8 v] 5)).drew = .ok (.string (strOfNums [v])) (W.alloc (.cells #[.int .u8 v] 5)).drew := by
  subst h
  refine run_convert_bytes_arg _ 36 5 Try.underlying36 Try.underlying5 W.heap.size 0 1 1 [v] rfl (fun i hi => ?_) 9 Try.underlying9
  obtain rfl : i = 0 := by simp at hi; exact hi
  exact blk_cell (show (W.alloc (.cells #[.int .u8 v] 5)).drew.heap[W.heap.size]? = some (.cells #[.int .u8 v] 5 (0, 0)) from blk_alloc W _) 0
theorem Decode_any (s : ByteArray) (w : World) : Calls Try.prog 18 #[.string s] w fun e w' => ∃ v3 : Value, e = .returned (.tuple #[.agg #[.int .i64 (dec s).1, .int .i64 (dec s).2.1, .int .i64 (dec s).2.2.1, v3], .int .i64 (dec s).2.2.2.2]) ∧ Below w.heap.size w w' := by
  obtain ⟨k, hk⟩ := Decode_ends s
  refine (adv_Decode.calls k s _ _ _ _ _ w hk).mono ?_
  rintro e w' ⟨v3, rfl, _, hb⟩
  exact ⟨v3, rfl, hb⟩
attribute [local go_sem] max2_int min2_int max_two min_two

set_option maxHeartbeats 1000000 in
set_option maxRecDepth 100000 in
theorem AdvSpoiled_y255 (id seq age x y : Int) (A : Option Addr) (c : Nat) (ls : List S28) (w : World) (hn : ls.length ≤ c) (hx : (Lit.int .i64 x).wf = true) (hy0 : 0 ≤ y) (hy1 : y ≤ 255)
   (hK : Kd.C k28 w A ls.length ls) (hv : chk id seq age (ls.take 4) = 0) (h0 : (y == 0) = false) (hp5 : wrap64 ((IntKind.u64.wrap x).tmod ((10 + 3 * (ls.take 4).length : Nat) : Int)) ≠ 5) (hp6 : wrap64 ((IntKind.u64.wrap x).tmod ((10 + 3 * (ls.take 4).length : Nat) : Int)) ≠ 6) (hyb : (y == 255) = true) : Calls Try.prog 3 #[.agg #[.int .i64 id, .int .i64 seq, .int .i64 age, .slice A ls.length c], .int .i64 x, .int .u8 y] w fun e w' => e = .returned (.bool true) ∧ Below w.heap.size w w' := by
  have hu22 := Try.underlying22
  have hu24 := Try.underlying24
  obtain ⟨k0, hk0⟩ := advLives_ok
  have Hk0 := Lib.hid hk0
  clear hk0
  have HK := C_take 4 hK
  have hLc : (ls.take 4).length ≤ c := by rw [List.length_take]; omega
  obtain ⟨L, HL⟩ : ∃ L, Hid (L = ls.take 4) := ⟨_, Lib.hid rfl⟩
  rw [← HL.out] at HK hLc hv
  have hv := chk_zero hv
  obtain ⟨k1, henc⟩ := Encode_ok id seq age L hv
  obtain ⟨k2, hch⟩ := Check_ends id seq age L
  rw [chk_of_valid hv] at hch
  obtain ⟨s, Hs⟩ : ∃ s, Hid (s = strOfNums (encL id seq age L)) := ⟨_, Lib.hid rfl⟩
  have hsz : s.size = 10 + 3 * L.length := by rw [Hs.out, strOfNums_size, encL_length]
  rw [← Hs.out] at henc
  have HKK := Lib.hid HK
  clear HK
  have HK := Lib.hid HKK.out
  have Henc := Lib.hid henc
  have Hch := Lib.hid hch
  have hs1 : 10 ≤ s.size := by omega
  have hs2 : s.size ≤ 1000 := by have := hv.len; omega
  have Hsz := Lib.hid hsz
  have Hv := Lib.hid hv
  obtain ⟨q, hqe, hq⟩ := place x s.size hs1 hs2 hx
  clear hK henc hch hsz hv hx HKK
  have hq5 : ((q : Int) == 5) = false := by
    rw [← HL.out, ← Hsz.out] at hp5
    rw [beq_eq_false_iff_ne]
    intro h
    exact hp5 (hqe.trans h)
  have hq6 : ((q : Int) == 6) = false := by
    rw [← HL.out, ← Hsz.out] at hp6
    rw [beq_eq_false_iff_ne]
    intro h
    exact hp6 (hqe.trans h)
  clear hp5 hp6
  obtain ⟨c0, hc0⟩ : ∃ c0 : Int, wrap64 (wrap64 ((s[q]'hq).toNat : Int) + y) = c0 := ⟨_, rfl⟩
  obtain ⟨hqs, hqw, hqp, hql, hqn⟩ := qfacts q s.size hq hs2
  have hconv := conv1
  have hone := strOfNums_size
  obtain ⟨hbig1, hbig2⟩ := bigs q s.size hq hs2

  by_cases hcb : 255 < c0
  · skip
    go_enter Try.func3, Try.ntmps3
    go_wp2_with fail
    refine (patchbaykeep2_advLives.calls k0 true _ Hk0.out).mono ?_
    rintro e w1 ⟨rfl, hb1⟩
    have hx1 := blk_keep hb1 (blk_alloc w _)
    have HL1 := Lib.hid hb1.size
    obtain ⟨_, _, _, q1, f1⟩ := blk_cells4 hx1
    have HX1 := Lib.hid (blk_set hx1 3 (.slice A L.length c))
    have HB2 := Lib.hid (Below.setCell (((Below.refl w.heap.size w).alloc (Nat.le_refl _) (.cells #[.int .i64 id, .int .i64 seq, .int .i64 age, .slice A ls.length c] 24)).trans (hb1.mono (by simp))) (p := ⟨w.heap.size, 3, none⟩) (by simp) (.slice A L.length c))
    clear hb1 hx1
    go_wp2_with fail
    refine (some15_any A ls L c 4 HL hn w1).mono ?_
    rintro e w1' ⟨rfl, rfl⟩
    go_wp2_with fail
    refine (adv_Encode.calls k1 id seq age A c L _ _ _ (Kd.C_below HK.out HB2.out) hLc Henc.out).mono ?_
    rintro e w2 ⟨rfl, hb2⟩
    have HX2 := Lib.hid (blk_keep hb2 HX1.out)
    have HB3 := Lib.hid (HB2.out.trans (hb2.mono (HB2.out.size)))
    have HL2 := Lib.hid hb2.size
    obtain ⟨p20, p21, p22, p23, p24⟩ := blk_cells4 HX2.out
    clear hb2
    go_wp2_with fail
    go_ret
    exact ⟨rfl, HB3.out⟩
  · skip
    go_enter Try.func3, Try.ntmps3
    go_wp2_with fail
    refine (patchbaykeep2_advLives.calls k0 true _ Hk0.out).mono ?_
    rintro e w1 ⟨rfl, hb1⟩
    have hx1 := blk_keep hb1 (blk_alloc w _)
    have HL1 := Lib.hid hb1.size
    obtain ⟨_, _, _, q1, f1⟩ := blk_cells4 hx1
    have HX1 := Lib.hid (blk_set hx1 3 (.slice A L.length c))
    have HB2 := Lib.hid (Below.setCell (((Below.refl w.heap.size w).alloc (Nat.le_refl _) (.cells #[.int .i64 id, .int .i64 seq, .int .i64 age, .slice A ls.length c] 24)).trans (hb1.mono (by simp))) (p := ⟨w.heap.size, 3, none⟩) (by simp) (.slice A L.length c))
    clear hb1 hx1
    go_wp2_with fail
    refine (some15_any A ls L c 4 HL hn w1).mono ?_
    rintro e w1' ⟨rfl, rfl⟩
    go_wp2_with fail
    refine (adv_Encode.calls k1 id seq age A c L _ _ _ (Kd.C_below HK.out HB2.out) hLc Henc.out).mono ?_
    rintro e w2 ⟨rfl, hb2⟩
    have HX2 := Lib.hid (blk_keep hb2 HX1.out)
    have HB3 := Lib.hid (HB2.out.trans (hb2.mono (HB2.out.size)))
    have HL2 := Lib.hid hb2.size
    obtain ⟨p20, p21, p22, p23, p24⟩ := blk_cells4 HX2.out
    clear hb2
    go_wp2_with fail
    go_ret
    exact ⟨rfl, HB3.out⟩
set_option maxHeartbeats 1000000 in
set_option maxRecDepth 100000 in
theorem AdvSpoiled_main (id seq age x y : Int) (A : Option Addr) (c : Nat) (ls : List S28) (w : World) (hn : ls.length ≤ c) (hx : (Lit.int .i64 x).wf = true) (hy0 : 0 ≤ y) (hy1 : y ≤ 255)
   (hK : Kd.C k28 w A ls.length ls) (hv : chk id seq age (ls.take 4) = 0) (h0 : (y == 0) = false) (hp5 : wrap64 ((IntKind.u64.wrap x).tmod ((10 + 3 * (ls.take 4).length : Nat) : Int)) ≠ 5) (hp6 : wrap64 ((IntKind.u64.wrap x).tmod ((10 + 3 * (ls.take 4).length : Nat) : Int)) ≠ 6) (hyb : (y == 255) = false) : Calls Try.prog 3 #[.agg #[.int .i64 id, .int .i64 seq, .int .i64 age, .slice A ls.length c], .int .i64 x, .int .u8 y] w fun e w' => e = .returned (.bool true) ∧ Below w.heap.size w w' := by
  have hu22 := Try.underlying22
  have hu24 := Try.underlying24
  obtain ⟨k0, hk0⟩ := advLives_ok
  have Hk0 := Lib.hid hk0
  clear hk0
  have HK := C_take 4 hK
  have hLc : (ls.take 4).length ≤ c := by rw [List.length_take]; omega
  obtain ⟨L, HL⟩ : ∃ L, Hid (L = ls.take 4) := ⟨_, Lib.hid rfl⟩
  rw [← HL.out] at HK hLc hv
  have hv := chk_zero hv
  obtain ⟨k1, henc⟩ := Encode_ok id seq age L hv
  obtain ⟨k2, hch⟩ := Check_ends id seq age L
  rw [chk_of_valid hv] at hch
  obtain ⟨s, Hs⟩ : ∃ s, Hid (s = strOfNums (encL id seq age L)) := ⟨_, Lib.hid rfl⟩
  have hsz : s.size = 10 + 3 * L.length := by rw [Hs.out, strOfNums_size, encL_length]
  rw [← Hs.out] at henc
  have HKK := Lib.hid HK
  clear HK
  have HK := Lib.hid HKK.out
  have Henc := Lib.hid henc
  have Hch := Lib.hid hch
  have hs1 : 10 ≤ s.size := by omega
  have hs2 : s.size ≤ 1000 := by have := hv.len; omega
  have Hsz := Lib.hid hsz
  have Hv := Lib.hid hv
  obtain ⟨q, hqe, hq⟩ := place x s.size hs1 hs2 hx
  clear hK henc hch hsz hv hx HKK
  have hq5 : ((q : Int) == 5) = false := by
    rw [← HL.out, ← Hsz.out] at hp5
    rw [beq_eq_false_iff_ne]
    intro h
    exact hp5 (hqe.trans h)
  have hq6 : ((q : Int) == 6) = false := by
    rw [← HL.out, ← Hsz.out] at hp6
    rw [beq_eq_false_iff_ne]
    intro h
    exact hp6 (hqe.trans h)
  clear hp5 hp6
  obtain ⟨c0, hc0⟩ : ∃ c0 : Int, wrap64 (wrap64 ((s[q]'hq).toNat : Int) + y) = c0 := ⟨_, rfl⟩
  obtain ⟨hqs, hqw, hqp, hql, hqn⟩ := qfacts q s.size hq hs2
  have hconv := conv1
  have hone := strOfNums_size
  obtain ⟨hbig1, hbig2⟩ := bigs q s.size hq hs2

  by_cases hcb : 255 < c0
  · skip
    go_enter Try.func3, Try.ntmps3
    go_wp2_with fail
    refine (patchbaykeep2_advLives.calls k0 true _ Hk0.out).mono ?_
    rintro e w1 ⟨rfl, hb1⟩
    have hx1 := blk_keep hb1 (blk_alloc w _)
    have HL1 := Lib.hid hb1.size
    obtain ⟨_, _, _, q1, f1⟩ := blk_cells4 hx1
    have HX1 := Lib.hid (blk_set hx1 3 (.slice A L.length c))
    have HB2 := Lib.hid (Below.setCell (((Below.refl w.heap.size w).alloc (Nat.le_refl _) (.cells #[.int .i64 id, .int .i64 seq, .int .i64 age, .slice A ls.length c] 24)).trans (hb1.mono (by simp))) (p := ⟨w.heap.size, 3, none⟩) (by simp) (.slice A L.length c))
    clear hb1 hx1
    go_wp2_with fail
    refine (some15_any A ls L c 4 HL hn w1).mono ?_
    rintro e w1' ⟨rfl, rfl⟩
    go_wp2_with fail
    refine (adv_Encode.calls k1 id seq age A c L _ _ _ (Kd.C_below HK.out HB2.out) hLc Henc.out).mono ?_
    rintro e w2 ⟨rfl, hb2⟩
    have HX2 := Lib.hid (blk_keep hb2 HX1.out)
    have HB3 := Lib.hid (HB2.out.trans (hb2.mono (HB2.out.size)))
    have HL2 := Lib.hid hb2.size
    obtain ⟨p20, p21, p22, p23, p24⟩ := blk_cells4 HX2.out
    clear hb2
    go_wp2_with fail
    go_ret
    exact ⟨rfl, HB3.out⟩
  · skip
    go_enter Try.func3, Try.ntmps3
    go_wp2_with fail
    refine (patchbaykeep2_advLives.calls k0 true _ Hk0.out).mono ?_
    rintro e w1 ⟨rfl, hb1⟩
    have hx1 := blk_keep hb1 (blk_alloc w _)
    have HL1 := Lib.hid hb1.size
    obtain ⟨_, _, _, q1, f1⟩ := blk_cells4 hx1
    have HX1 := Lib.hid (blk_set hx1 3 (.slice A L.length c))
    have HB2 := Lib.hid (Below.setCell (((Below.refl w.heap.size w).alloc (Nat.le_refl _) (.cells #[.int .i64 id, .int .i64 seq, .int .i64 age, .slice A ls.length c] 24)).trans (hb1.mono (by simp))) (p := ⟨w.heap.size, 3, none⟩) (by simp) (.slice A L.length c))
    clear hb1 hx1
    go_wp2_with fail
    refine (some15_any A ls L c 4 HL hn w1).mono ?_
    rintro e w1' ⟨rfl, rfl⟩
    go_wp2_with fail
    refine (adv_Encode.calls k1 id seq age A c L _ _ _ (Kd.C_below HK.out HB2.out) hLc Henc.out).mono ?_
    rintro e w2 ⟨rfl, hb2⟩
    have HX2 := Lib.hid (blk_keep hb2 HX1.out)
    have HB3 := Lib.hid (HB2.out.trans (hb2.mono (HB2.out.size)))
    have HL2 := Lib.hid hb2.size
    obtain ⟨p20, p21, p22, p23, p24⟩ := blk_cells4 HX2.out
    clear hb2
    go_wp2_with fail
    refine start_ (n := 18) (S := fun w' => True) (ds := []) #[false, false, false, false, false, false, false, false, false, false, false, false, false, false, false, false, false, false] (by kernel_rfl) rfl rfl trivial (fun hHeld => ?_)
    refine pure_ (i := 0) (N := some 62) (v := ?_) (a' := ?_) #[true, false, false, false, false, false, false, false, false, false, false, false, false, false, false, false, false, false] rfl rfl (by kernel_rfl) (fun _ _ _ h => h) (Or.inl ⟨by rfl, ?_⟩) ?_ ?_
    rotate_left
    · intro w'
      go_simp
      with_reducible rfl
    rotate_left
    · simp only [Act.put, List.setIfInBounds_toArray, List.set_cons_zero, List.set_cons_succ, i64_w, i32_w]
      rfl
    refine pure_ (i := 1) (N := some 63) (v := ?_) (a' := ?_) #[true, true, false, false, false, false, false, false, false, false, false, false, false, false, false, false, false, false] rfl rfl (by kernel_rfl) (fun _ _ _ h => h) (Or.inl ⟨by rfl, ?_⟩) ?_ ?_
    rotate_left
    · intro w'
      go_simp
      with_reducible rfl
    rotate_left
    · simp only [Act.put, List.setIfInBounds_toArray, List.set_cons_zero, List.set_cons_succ, i64_w, i32_w]
      rfl
    refine pure_ (i := 2) (N := some 64) (v := ?_) (a' := ?_) #[true, true, true, false, false, false, false, false, false, false, false, false, false, false, false, false, false, false] rfl rfl (by kernel_rfl) (fun _ _ _ h => h) (Or.inl ⟨by rfl, ?_⟩) ?_ ?_
    rotate_left
    · intro w'
      go_simp
      with_reducible rfl
    rotate_left
    · simp only [Act.put, List.setIfInBounds_toArray, List.set_cons_zero, List.set_cons_succ, i64_w, i32_w]
      rfl
    refine pure_ (i := 3) (N := some 65) (v := ?_) (a' := ?_) #[true, true, true, true, false, false, false, false, false, false, false, false, false, false, false, false, false, false] rfl rfl (by kernel_rfl) (fun _ _ _ h => h) (Or.inl ⟨by rfl, ?_⟩) ?_ ?_
    rotate_left
    · intro w'
      go_simp
      with_reducible rfl
    rotate_left
    · simp only [Act.put, List.setIfInBounds_toArray, List.set_cons_zero, List.set_cons_succ, i64_w, i32_w]
      rfl
    refine pure_ (i := 4) (N := some 66) (v := ?_) (a' := ?_) #[true, true, true, true, true, false, false, false, false, false, false, false, false, false, false, false, false, false] rfl rfl (by kernel_rfl) (fun _ _ _ h => h) (Or.inl ⟨by rfl, ?_⟩) ?_ ?_
    rotate_left
    · intro w'
      go_simp
      with_reducible rfl
    rotate_left
    · simp only [Act.put, List.setIfInBounds_toArray, List.set_cons_zero, List.set_cons_succ, i64_w, i32_w]
      rfl
    refine pure_ (i := 8) (N := some 70) (v := ?_) (a' := ?_) #[true, true, true, true, true, false, false, false, true, false, false, false, false, false, false, false, false, false] rfl rfl (by kernel_rfl) (fun _ _ _ h => h) (Or.inl ⟨by rfl, ?_⟩) ?_ ?_
    rotate_left
    · intro w'
      go_simp
      with_reducible rfl
    rotate_left
    · simp only [Act.put, List.setIfInBounds_toArray, List.set_cons_zero, List.set_cons_succ, i64_w, i32_w]
      rfl
    refine pure_ (i := 9) (N := some 71) (v := ?_) (a' := ?_) #[true, true, true, true, true, false, false, false, true, true, false, false, false, false, false, false, false, false] rfl rfl (by kernel_rfl) (fun _ _ _ h => h) (Or.inl ⟨by rfl, ?_⟩) ?_ ?_
    rotate_left
    · intro w'
      go_simp
      with_reducible rfl
    rotate_left
    · simp only [Act.put, List.setIfInBounds_toArray, List.set_cons_zero, List.set_cons_succ, i64_w, i32_w]
      rfl
    refine pure_ (i := 10) (N := some 72) (v := ?_) (a' := ?_) #[true, true, true, true, true, false, false, false, true, true, true, false, false, false, false, false, false, false] rfl rfl (by kernel_rfl) (fun _ _ _ h => h) (Or.inl ⟨by rfl, ?_⟩) ?_ ?_
    rotate_left
    · intro w'
      go_simp
      with_reducible rfl
    rotate_left
    · simp only [Act.put, List.setIfInBounds_toArray, List.set_cons_zero, List.set_cons_succ, i64_w, i32_w]
      rfl
    refine pure_ (i := 11) (N := some 73) (v := ?_) (a' := ?_) #[true, true, true, true, true, false, false, false, true, true, true, true, false, false, false, false, false, false] rfl rfl (by kernel_rfl) (fun _ _ _ h => h) (Or.inl ⟨by rfl, ?_⟩) ?_ ?_
    rotate_left
    · intro w'
      go_simp
      with_reducible rfl
    rotate_left
    · simp only [Act.put, List.setIfInBounds_toArray, List.set_cons_zero, List.set_cons_succ, i64_w, i32_w]
      rfl
    refine one_ (i := 5) (N := some 67) #[true, true, true, true, true, true, false, false, true, true, true, true, false, false, false, false, false, false] rfl rfl (by kernel_rfl) (by decide) (fun K hK => ?_)
    refine value_ (w1 := ?_) (v := ?_) (by rfl) rfl ?_ ?_
    rotate_left 2
    · go_simp
      constructor
      · rfl
      · rfl
    refine hK.out _ _ trivial (fun hHeld => ?_)
    clear hK K
    refine norm_ (a' := ?_) ?_ ?_
    rotate_left
    · show Act.put _ (some 67) _ = _
      simp only [Act.put, List.setIfInBounds_toArray, List.set_cons_zero, List.set_cons_succ, i64_w, i32_w]
      rfl
    refine one_ (i := 6) (N := some 68) #[true, true, true, true, true, true, true, false, true, true, true, true, false, false, false, false, false, false] rfl rfl (by kernel_rfl) (by decide) (fun K hK => ?_)
    refine value_ (w1 := ?_) (v := ?_) (by rfl) rfl ?_ ?_
    rotate_left 2
    · go_simp
      constructor
      · rfl
      · rfl
    refine hK.out _ _ trivial (fun hHeld => ?_)
    clear hK K
    refine norm_ (a' := ?_) ?_ ?_
    rotate_left
    · show Act.put _ (some 68) _ = _
      simp only [Act.put, List.setIfInBounds_toArray, List.set_cons_zero, List.set_cons_succ, i64_w, i32_w]
      rfl
    refine pure_ (i := 7) (N := some 69) (v := ?_) (a' := ?_) #[true, true, true, true, true, true, true, true, true, true, true, true, false, false, false, false, false, false] rfl rfl (by kernel_rfl) (fun _ _ _ h => h) (Or.inl ⟨by rfl, ?_⟩) ?_ ?_
    rotate_left
    · intro w'
      go_simp
      with_reducible rfl
    rotate_left
    · simp only [Act.put, List.setIfInBounds_toArray, List.set_cons_zero, List.set_cons_succ, i64_w, i32_w]
      rfl
    refine pure_ (i := 12) (N := some 74) (v := ?_) (a' := ?_) #[true, true, true, true, true, true, true, true, true, true, true, true, true, false, false, false, false, false] rfl rfl (by kernel_rfl) (fun _ _ _ h => h) (Or.inl ⟨by rfl, ?_⟩) ?_ ?_
    rotate_left
    · intro w'
      go_simp
      with_reducible rfl
    rotate_left
    · simp only [Act.put, List.setIfInBounds_toArray, List.set_cons_zero, List.set_cons_succ, i64_w, i32_w]
      rfl
    refine one_ (i := 13) (N := some 75) #[true, true, true, true, true, true, true, true, true, true, true, true, true, true, false, false, false, false] rfl rfl (by kernel_rfl) (by decide) (fun K hK => ?_)
    refine goes_ Try.func18 (by kernel_rfl) rfl #[.string (s.extract 0 q ++ strOfNums [IntKind.u8.wrap c0] ++ s.extract (q + 1) s.size)] (by rfl) rfl rfl (by simp only [List.map_toArray, List.map_cons, List.map_nil]; rfl) ?_
    with_reducible refine (Decode_any _ _).mono ?_
    rintro e w3 ⟨v3, rfl, hb3⟩
    refine ⟨_, rfl, ?_⟩
    refine hK.out _ _ trivial (fun hHeld => ?_)
    clear hK K
    refine norm_ (a' := ?_) ?_ ?_
    rotate_left
    · show Act.put _ (some 75) _ = _
      simp only [Act.put, List.setIfInBounds_toArray, List.set_cons_zero, List.set_cons_succ, i64_w, i32_w]
      rfl
    refine pure_ (i := 14) (N := some 61) (v := ?_) (a' := ?_) #[true, true, true, true, true, true, true, true, true, true, true, true, true, true, true, false, false, false] rfl rfl (by kernel_rfl) (fun _ _ _ h => h) (Or.inl ⟨by rfl, ?_⟩) ?_ ?_
    rotate_left
    · intro w'
      go_simp
      with_reducible rfl
    rotate_left
    · simp only [Act.put, List.setIfInBounds_toArray, List.set_cons_zero, List.set_cons_succ, i64_w, i32_w]
      rfl
    refine pure_ (i := 15) (N := some 76) (v := ?_) (a' := ?_) #[true, true, true, true, true, true, true, true, true, true, true, true, true, true, true, true, false, false] rfl rfl (by kernel_rfl) (fun _ _ _ h => h) (Or.inl ⟨by rfl, ?_⟩) ?_ ?_
    rotate_left
    · intro w'
      go_simp
      with_reducible rfl
    rotate_left
    · simp only [Act.put, List.setIfInBounds_toArray, List.set_cons_zero, List.set_cons_succ, i64_w, i32_w]
      rfl
    refine pure_ (i := 16) (N := some 77) (v := ?_) (a' := ?_) #[true, true, true, true, true, true, true, true, true, true, true, true, true, true, true, true, true, false] rfl rfl (by kernel_rfl) (fun _ _ _ h => h) (Or.inl ⟨by rfl, ?_⟩) ?_ ?_
    rotate_left
    · intro w'
      go_simp
      with_reducible rfl
    rotate_left
    · simp only [Act.put, List.setIfInBounds_toArray, List.set_cons_zero, List.set_cons_succ, i64_w, i32_w]
      rfl
    refine pure_ (i := 17) (N := some 8) (v := ?_) (a' := ?_) #[true, true, true, true, true, true, true, true, true, true, true, true, true, true, true, true, true, true] rfl rfl (by kernel_rfl) (fun _ _ _ h => h) (Or.inl ⟨by rfl, ?_⟩) ?_ ?_
    rotate_left
    · intro w'
      go_simp
      with_reducible rfl
    rotate_left
    · simp only [Act.put, List.setIfInBounds_toArray, List.set_cons_zero, List.set_cons_succ, i64_w, i32_w]
      rfl
    refine done_ (by kernel_rfl) ?_
    go_wp2_with fail
    go_ret
    refine ⟨?_, ?_⟩
    · have hne := spoil_last Hv.out s Hs.out q hq hq5 hq6 c0 y h0 hyb hy0 hy1 hc0 hcb
      show Ending.returned (Value.bool ((dec (s.extract 0 q ++ strOfNums [IntKind.u8.wrap c0] ++ s.extract (q + 1) s.size)).2.2.2.2 != 0)) = Ending.returned (Value.bool true)
      rw [hne]
    · exact HB3.out.trans ((((Below.refl w.heap.size w2).alloc HB3.out.size _).drew).trans (hb3.mono (by simp; exact Nat.le_succ_of_le HB3.out.size)))

theorem AdvSpoiled_walk (id seq age x y : Int) (A : Option Addr) (c : Nat) (ls : List S28) (w : World) (hn : ls.length ≤ c) (hx : (Lit.int .i64 x).wf = true) (hy0 : 0 ≤ y) (hy1 : y ≤ 255)
   (hK : Kd.C k28 w A ls.length ls) : Calls Try.prog 3 #[.agg #[.int .i64 id, .int .i64 seq, .int .i64 age, .slice A ls.length c], .int .i64 x, .int .u8 y] w fun e w' => e = .returned (.bool true) ∧ Below w.heap.size w w' := by
  rcases chk_cases id seq age (ls.take 4) with hv | hv
  · by_cases h0 : y = 0
    · exact AdvSpoiled_y0 id seq age x y A c ls w hn hx hy0 hy1 hK hv (beq_iff_eq.mpr h0)
    have h0 := beq_eq_false_iff_ne.mpr h0
    by_cases h5 : wrap64 ((IntKind.u64.wrap x).tmod ((10 + 3 * (ls.take 4).length : Nat) : Int)) = 5
    · exact AdvSpoiled_q5 id seq age x y A c ls w hn hx hy0 hy1 hK hv h0 h5
    by_cases h6 : wrap64 ((IntKind.u64.wrap x).tmod ((10 + 3 * (ls.take 4).length : Nat) : Int)) = 6
    · exact AdvSpoiled_q6 id seq age x y A c ls w hn hx hy0 hy1 hK hv h0 h6
    by_cases hy : y = 255
    · exact AdvSpoiled_y255 id seq age x y A c ls w hn hx hy0 hy1 hK hv h0 h5 h6 (beq_iff_eq.mpr hy)
    · exact AdvSpoiled_main id seq age x y A c ls w hn hx hy0 hy1 hK hv h0 h5 h6 (beq_eq_false_iff_ne.mpr hy)
  · exact AdvSpoiled_bad id seq age x y A c ls w hn hx hy0 hy1 hK hv

end Go.Proofs.Ytaneaabmgnanbaa.M
