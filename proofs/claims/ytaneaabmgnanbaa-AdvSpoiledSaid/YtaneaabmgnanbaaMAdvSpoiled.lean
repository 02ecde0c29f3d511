/- Proved: AdvSpoiled: a byte of an encoded advertisement that is changed by less than 255, other than those of Age, is noticed. No condition. -/
import Derived.Test.YtaneaabmgnanbaaMAdvBack
namespace Go.Proofs.Ytaneaabmgnanbaa.M
open Go.RowKit Go.Proofs.YtaneaabmgnanbaaW.PrintWords Go.Proofs.YtaneaabmgnanbaaW.PrintLast Go.Proofs.YtaneaabmgnanbaaW.PrintMore Go.Proofs.Ytaneaabmgnanbaa.PAdvBack
set_option linter.unusedVariables false
set_option linter.unusedSimpArgs false

attribute [local go_sem] max2_int min2_int max_two min_two

set_option maxHeartbeats 1000000 in
set_option maxRecDepth 100000 in
theorem AdvSpoiled_bad (id seq age x y : Int) (A : Option Addr) (c : Nat) (ls : List S28) (w : World) (hn : ls.length ≤ c) (hx : (Lit.int .i64 x).wf = true) (hy0 : 0 ≤ y) (hy1 : y ≤ 255)
   (hK : Kd.C k28 w A ls.length ls) (hbad : chk id seq age (ls.take 4) ≠ 0) : Calls Try.prog 3 #[.agg #[.int .i64 id, .int .i64 seq, .int .i64 age, .slice A ls.length c], .int .i64 x, .int .u8 y] w fun e w' => e = .returned (.bool true) ∧ Below w.heap.size w w' := by
  have hu22 := Try.underlying22
  have hu24 := Try.underlying24
  obtain ⟨k0, hk0⟩ := advLives_ok
  have Hk0 := Lib.hid hk0
  clear hk0
  have HK := C_take 4 hK
  have hLc : (ls.take 4).length ≤ c := by rw [List.length_take]; omega
  obtain ⟨L, HL⟩ : ∃ L, Hid (L = ls.take 4) := ⟨_, Lib.hid rfl⟩
  rw [← HL.out] at HK hLc hbad
  obtain ⟨k1, henc⟩ := Encode_bad id seq age L hbad
  obtain ⟨k2, hch⟩ := Check_ends id seq age L
  obtain ⟨er, Her⟩ : ∃ er, Hid (er = chk id seq age L) := ⟨_, Lib.hid rfl⟩
  rw [← Her.out] at henc hch hbad
  have HK := Lib.hid HK
  have Henc := Lib.hid henc
  have Hch := Lib.hid hch
  have heb : (er != 0) = true := bne_iff_ne.mpr hbad
  clear hK henc hch hbad hx
  go_enter Try.func3, Try.ntmps3
  go_wp2_with fail
  refine (patchbaykeep2_advLives.calls k0 true _ Hk0.out).mono ?_
  rintro e w1 ⟨rfl, hb1⟩
  have hx1 := blk_keep hb1 (blk_alloc w _)
  have HL1 := Lib.hid hb1.size
  obtain ⟨_, _, _, q1, f1⟩ := blk_cells4 hx1
  have HX1 := Lib.hid (blk_set hx1 3 (.slice A L.length c))
  have HB2 := Lib.hid (Below.setCell (((Below.refl w.heap.size w).alloc (Nat.le_refl _) (.cells #[.int .i64 id, .int .i64 seq, .int .i64 age, .slice A ls.length c] 24)).trans (hb1.mono (by simp))) (p := ⟨w.heap.size, 3, none⟩) (by simp) (.slice A L.length c))
  clear hb1 hx1
  go_wp2_with fail
  refine (some15_any A ls L c 4 HL hn w1).mono ?_
  rintro e w1' ⟨rfl, rfl⟩
  go_wp2_with fail
  refine (adv_Encode.calls k1 id seq age A c L _ _ _ (Kd.C_below HK.out HB2.out) hLc Henc.out).mono ?_
  rintro e w2 ⟨rfl, hb2⟩
  have HX2 := Lib.hid (blk_keep hb2 HX1.out)
  have HB3 := Lib.hid (HB2.out.trans (hb2.mono (HB2.out.size)))
  have HL2 := Lib.hid hb2.size
  obtain ⟨p20, p21, p22, p23, p24⟩ := blk_cells4 HX2.out
  clear hb2
  go_wp2_with fail
  refine (adv_Check.calls k2 id seq age A c L er _ (Kd.C_below HK.out HB3.out) hLc Hch.out).mono ?_
  rintro e w3 ⟨rfl, hb3⟩
  have HB4 := Lib.hid (HB3.out.trans (hb3.mono (HB3.out.size)))
  clear hb3
  go_wp2_with fail
  go_ret
  exact ⟨rfl, HB4.out⟩

theorem place (x : Int) (n : Nat) (h1 : 10 ≤ n) (h2 : n ≤ 1000) (hx : (Lit.int .i64 x).wf = true) : ∃ q : Nat, wrap64 ((IntKind.u64.wrap x).tmod (n : Int)) = (q : Int) ∧ q < n := by
  have e : IntKind.u64.wrap x = x % 18446744073709551616 := by simp [IntKind.wrap, IntKind.bits, IntKind.signed]
  have h0 : 0 ≤ (IntKind.u64.wrap x) := by rw [e]; omega
  have hr : 0 ≤ (IntKind.u64.wrap x) % (n : Int) := Int.emod_nonneg _ (by omega)
  have hl : (IntKind.u64.wrap x) % (n : Int) < n := Int.emod_lt_of_pos _ (by omega)
  refine ⟨((IntKind.u64.wrap x) % (n : Int)).toNat, ?_, by omega⟩
  rw [Int.tmod_eq_emod_of_nonneg h0, wrap_in _ (by omega) (by omega)]
  omega
set_option maxHeartbeats 1000000 in
set_option maxRecDepth 100000 in
theorem AdvSpoiled_y0 (id seq age x y : Int) (A : Option Addr) (c : Nat) (ls : List S28) (w : World) (hn : ls.length ≤ c) (hx : (Lit.int .i64 x).wf = true) (hy0 : 0 ≤ y) (hy1 : y ≤ 255)
   (hK : Kd.C k28 w A ls.length ls) (hv : chk id seq age (ls.take 4) = 0) (h0 : (y == 0) = true) : Calls Try.prog 3 #[.agg #[.int .i64 id, .int .i64 seq, .int .i64 age, .slice A ls.length c], .int .i64 x, .int .u8 y] w fun e w' => e = .returned (.bool true) ∧ Below w.heap.size w w' := by
  have hu22 := Try.underlying22
  have hu24 := Try.underlying24
  obtain ⟨k0, hk0⟩ := advLives_ok
  have Hk0 := Lib.hid hk0
  clear hk0
  have HK := C_take 4 hK
  have hLc : (ls.take 4).length ≤ c := by rw [List.length_take]; omega
  obtain ⟨L, HL⟩ : ∃ L, Hid (L = ls.take 4) := ⟨_, Lib.hid rfl⟩
  rw [← HL.out] at HK hLc hv
  have hv := chk_zero hv
  obtain ⟨k1, henc⟩ := Encode_ok id seq age L hv
  obtain ⟨k2, hch⟩ := Check_ends id seq age L
  rw [chk_of_valid hv] at hch
  obtain ⟨s, Hs⟩ : ∃ s, Hid (s = strOfNums (encL id seq age L)) := ⟨_, Lib.hid rfl⟩
  have hsz : s.size = 10 + 3 * L.length := by rw [Hs.out, strOfNums_size, encL_length]
  rw [← Hs.out] at henc
  have HKK := Lib.hid HK
  clear HK
  have HK := Lib.hid HKK.out
  have Henc := Lib.hid henc
  have Hch := Lib.hid hch
  have hs1 : 10 ≤ s.size := by omega
  have hs2 : s.size ≤ 1000 := by have := hv.len; omega
  have Hsz := Lib.hid hsz
  have Hv := Lib.hid hv
  obtain ⟨q, hqe, hq⟩ := place x s.size hs1 hs2 hx
  clear hK henc hch hsz hv hx HKK

  go_enter Try.func3, Try.ntmps3
  go_wp2_with fail
  refine (patchbaykeep2_advLives.calls k0 true _ Hk0.out).mono ?_
  rintro e w1 ⟨rfl, hb1⟩
  have hx1 := blk_keep hb1 (blk_alloc w _)
  have HL1 := Lib.hid hb1.size
  obtain ⟨_, _, _, q1, f1⟩ := blk_cells4 hx1
  have HX1 := Lib.hid (blk_set hx1 3 (.slice A L.length c))
  have HB2 := Lib.hid (Below.setCell (((Below.refl w.heap.size w).alloc (Nat.le_refl _) (.cells #[.int .i64 id, .int .i64 seq, .int .i64 age, .slice A ls.length c] 24)).trans (hb1.mono (by simp))) (p := ⟨w.heap.size, 3, none⟩) (by simp) (.slice A L.length c))
  clear hb1 hx1
  go_wp2_with fail
  refine (some15_any A ls L c 4 HL hn w1).mono ?_
  rintro e w1' ⟨rfl, rfl⟩
  go_wp2_with fail
  refine (adv_Encode.calls k1 id seq age A c L _ _ _ (Kd.C_below HK.out HB2.out) hLc Henc.out).mono ?_
  rintro e w2 ⟨rfl, hb2⟩
  have HX2 := Lib.hid (blk_keep hb2 HX1.out)
  have HB3 := Lib.hid (HB2.out.trans (hb2.mono (HB2.out.size)))
  have HL2 := Lib.hid hb2.size
  obtain ⟨p20, p21, p22, p23, p24⟩ := blk_cells4 HX2.out
  clear hb2
  go_wp2_with fail
  refine (adv_Check.calls k2 id seq age A c L 0 _ (Kd.C_below HK.out HB3.out) hLc Hch.out).mono ?_
  rintro e w3 ⟨rfl, hb3⟩
  have HB4 := Lib.hid (HB3.out.trans (hb3.mono (HB3.out.size)))
  clear hb3
  go_wp2_with fail
  go_ret
  exact ⟨rfl, HB4.out⟩
set_option maxHeartbeats 1000000 in
set_option maxRecDepth 100000 in
theorem AdvSpoiled_q5 (id seq age x y : Int) (A : Option Addr) (c : Nat) (ls : List S28) (w : World) (hn : ls.length ≤ c) (hx : (Lit.int .i64 x).wf = true) (hy0 : 0 ≤ y) (hy1 : y ≤ 255)
   (hK : Kd.C k28 w A ls.length ls) (hv : chk id seq age (ls.take 4) = 0) (h0 : (y == 0) = false) (hp : wrap64 ((IntKind.u64.wrap x).tmod ((10 + 3 * (ls.take 4).length : Nat) : Int)) = 5) : Calls Try.prog 3 #[.agg #[.int .i64 id, .int .i64 seq, .int .i64 age, .slice A ls.length c], .int .i64 x, .int .u8 y] w fun e w' => e = .returned (.bool true) ∧ Below w.heap.size w w' := by
  have hu22 := Try.underlying22
  have hu24 := Try.underlying24
  obtain ⟨k0, hk0⟩ := advLives_ok
  have Hk0 := Lib.hid hk0
  clear hk0
  have HK := C_take 4 hK
  have hLc : (ls.take 4).length ≤ c := by rw [List.length_take]; omega
  obtain ⟨L, HL⟩ : ∃ L, Hid (L = ls.take 4) := ⟨_, Lib.hid rfl⟩
  rw [← HL.out] at HK hLc hv
  have hv := chk_zero hv
  obtain ⟨k1, henc⟩ := Encode_ok id seq age L hv
  obtain ⟨k2, hch⟩ := Check_ends id seq age L
  rw [chk_of_valid hv] at hch
  obtain ⟨s, Hs⟩ : ∃ s, Hid (s = strOfNums (encL id seq age L)) := ⟨_, Lib.hid rfl⟩
  have hsz : s.size = 10 + 3 * L.length := by rw [Hs.out, strOfNums_size, encL_length]
  rw [← Hs.out] at henc
  have HKK := Lib.hid HK
  clear HK
  have HK := Lib.hid HKK.out
  have Henc := Lib.hid henc
  have Hch := Lib.hid hch
  have hs1 : 10 ≤ s.size := by omega
  have hs2 : s.size ≤ 1000 := by have := hv.len; omega
  have Hsz := Lib.hid hsz
  have Hv := Lib.hid hv
  obtain ⟨q, hqe, hq⟩ := place x s.size hs1 hs2 hx
  clear hK henc hch hsz hv hx HKK
  have hq5 : q = 5 := by
    rw [← HL.out, ← Hsz.out] at hp
    omega
  clear hp
  subst hq5

  go_enter Try.func3, Try.ntmps3
  go_wp2_with fail
  refine (patchbaykeep2_advLives.calls k0 true _ Hk0.out).mono ?_
  rintro e w1 ⟨rfl, hb1⟩
  have hx1 := blk_keep hb1 (blk_alloc w _)
  have HL1 := Lib.hid hb1.size
  obtain ⟨_, _, _, q1, f1⟩ := blk_cells4 hx1
  have HX1 := Lib.hid (blk_set hx1 3 (.slice A L.length c))
  have HB2 := Lib.hid (Below.setCell (((Below.refl w.heap.size w).alloc (Nat.le_refl _) (.cells #[.int .i64 id, .int .i64 seq, .int .i64 age, .slice A ls.length c] 24)).trans (hb1.mono (by simp))) (p := ⟨w.heap.size, 3, none⟩) (by simp) (.slice A L.length c))
  clear hb1 hx1
  go_wp2_with fail
  refine (some15_any A ls L c 4 HL hn w1).mono ?_
  rintro e w1' ⟨rfl, rfl⟩
  go_wp2_with fail
  refine (adv_Encode.calls k1 id seq age A c L _ _ _ (Kd.C_below HK.out HB2.out) hLc Henc.out).mono ?_
  rintro e w2 ⟨rfl, hb2⟩
  have HX2 := Lib.hid (blk_keep hb2 HX1.out)
  have HB3 := Lib.hid (HB2.out.trans (hb2.mono (HB2.out.size)))
  have HL2 := Lib.hid hb2.size
  obtain ⟨p20, p21, p22, p23, p24⟩ := blk_cells4 HX2.out
  clear hb2
  go_wp2_with fail
  refine (adv_Check.calls k2 id seq age A c L 0 _ (Kd.C_below HK.out HB3.out) hLc Hch.out).mono ?_
  rintro e w3 ⟨rfl, hb3⟩
  have HB4 := Lib.hid (HB3.out.trans (hb3.mono (HB3.out.size)))
  clear hb3
  go_wp2_with fail
  go_ret
  exact ⟨rfl, HB4.out⟩
set_option maxHeartbeats 1000000 in
set_option maxRecDepth 100000 in
theorem AdvSpoiled_q6 (id seq age x y : Int) (A : Option Addr) (c : Nat) (ls : List S28) (w : World) (hn : ls.length ≤ c) (hx : (Lit.int .i64 x).wf = true) (hy0 : 0 ≤ y) (hy1 : y ≤ 255)
   (hK : Kd.C k28 w A ls.length ls) (hv : chk id seq age (ls.take 4) = 0) (h0 : (y == 0) = false) (hp : wrap64 ((IntKind.u64.wrap x).tmod ((10 + 3 * (ls.take 4).length : Nat) : Int)) = 6) : Calls Try.prog 3 #[.agg #[.int .i64 id, .int .i64 seq, .int .i64 age, .slice A ls.length c], .int .i64 x, .int .u8 y] w fun e w' => e = .returned (.bool true) ∧ Below w.heap.size w w' := by
  have hu22 := Try.underlying22
  have hu24 := Try.underlying24
  obtain ⟨k0, hk0⟩ := advLives_ok
  have Hk0 := Lib.hid hk0
  clear hk0
  have HK := C_take 4 hK
  have hLc : (ls.take 4).length ≤ c := by rw [List.length_take]; omega
  obtain ⟨L, HL⟩ : ∃ L, Hid (L = ls.take 4) := ⟨_, Lib.hid rfl⟩
  rw [← HL.out] at HK hLc hv
  have hv := chk_zero hv
  obtain ⟨k1, henc⟩ := Encode_ok id seq age L hv
  obtain ⟨k2, hch⟩ := Check_ends id seq age L
  rw [chk_of_valid hv] at hch
  obtain ⟨s, Hs⟩ : ∃ s, Hid (s = strOfNums (encL id seq age L)) := ⟨_, Lib.hid rfl⟩
  have hsz : s.size = 10 + 3 * L.length := by rw [Hs.out, strOfNums_size, encL_length]
  rw [← Hs.out] at henc
  have HKK := Lib.hid HK
  clear HK
  have HK := Lib.hid HKK.out
  have Henc := Lib.hid henc
  have Hch := Lib.hid hch
  have hs1 : 10 ≤ s.size := by omega
  have hs2 : s.size ≤ 1000 := by have := hv.len; omega
  have Hsz := Lib.hid hsz
  have Hv := Lib.hid hv
  obtain ⟨q, hqe, hq⟩ := place x s.size hs1 hs2 hx
  clear hK henc hch hsz hv hx HKK
  have hq5 : q = 6 := by
    rw [← HL.out, ← Hsz.out] at hp
    omega
  clear hp
  subst hq5

  go_enter Try.func3, Try.ntmps3
  go_wp2_with fail
  refine (patchbaykeep2_advLives.calls k0 true _ Hk0.out).mono ?_
  rintro e w1 ⟨rfl, hb1⟩
  have hx1 := blk_keep hb1 (blk_alloc w _)
  have HL1 := Lib.hid hb1.size
  obtain ⟨_, _, _, q1, f1⟩ := blk_cells4 hx1
  have HX1 := Lib.hid (blk_set hx1 3 (.slice A L.length c))
  have HB2 := Lib.hid (Below.setCell (((Below.refl w.heap.size w).alloc (Nat.le_refl _) (.cells #[.int .i64 id, .int .i64 seq, .int .i64 age, .slice A ls.length c] 24)).trans (hb1.mono (by simp))) (p := ⟨w.heap.size, 3, none⟩) (by simp) (.slice A L.length c))
  clear hb1 hx1
  go_wp2_with fail
  refine (some15_any A ls L c 4 HL hn w1).mono ?_
  rintro e w1' ⟨rfl, rfl⟩
  go_wp2_with fail
  refine (adv_Encode.calls k1 id seq age A c L _ _ _ (Kd.C_below HK.out HB2.out) hLc Henc.out).mono ?_
  rintro e w2 ⟨rfl, hb2⟩
  have HX2 := Lib.hid (blk_keep hb2 HX1.out)
  have HB3 := Lib.hid (HB2.out.trans (hb2.mono (HB2.out.size)))
  have HL2 := Lib.hid hb2.size
  obtain ⟨p20, p21, p22, p23, p24⟩ := blk_cells4 HX2.out
  clear hb2
  go_wp2_with fail
  refine (adv_Check.calls k2 id seq age A c L 0 _ (Kd.C_below HK.out HB3.out) hLc Hch.out).mono ?_
  rintro e w3 ⟨rfl, hb3⟩
  have HB4 := Lib.hid (HB3.out.trans (hb3.mono (HB3.out.size)))
  clear hb3
  go_wp2_with fail
  go_ret
  exact ⟨rfl, HB4.out⟩

end Go.Proofs.Ytaneaabmgnanbaa.M
