/- Own lemmas: the walk of AdvAnyOrder. -/
import Derived.Test.YtaneaabmgnanbaaMord
import Derived.Test.YtaneaabmgnanbaaMidx
import Derived.LoopTactic
import Derived.RegionTactic
import Derived.BigRegion
namespace Go.Proofs.Ytaneaabmgnanbaa.M
open Go.RowKit Go.Proofs.YtaneaabmgnanbaaW.PrintWords Go.Proofs.YtaneaabmgnanbaaW.PrintLast Go.Proofs.YtaneaabmgnanbaaW.PrintMore Go.Proofs.Ytaneaabmgnanbaa.PAdvBack
set_option linter.unusedVariables false
set_option linter.unusedSimpArgs false

theorem some23_five (A : Option Addr) (ls L : List S24) (c : Nat) (hL : Hid (L = ls.take 5)) (hn : ls.length ≤ c) (w : World) : Calls Try.prog 23 #[.slice A ls.length c, .int .i64 5] w fun e w' => e = .returned (.slice A L.length c) ∧ w = w' := some23_any A ls L c 5 hL hn w
theorem list_le (d : Db) : (listOf d).length ≤ 16 := by
  unfold listOf listTo
  rw [List.length_map]
  exact Nat.le_trans (List.length_filter_le _ _) (by simp)
set_option maxHeartbeats 4000000 in
set_option maxRecDepth 100000 in
theorem AdvAnyOrder_walk (A Ab : Option Addr) (c cb : Nat) (l : List S24) (bs : List Int) (w : World) (hlc : l.length ≤ c) (hbs : bs.length * 8 ≤ 140737488351232) (hC : Kd.C k24 w A l.length l) (hCb : Kd.C (Kd.int .i64) w Ab bs.length bs) :
    Calls Try.prog 7 #[.slice A l.length c, .slice Ab bs.length cb] w fun e w' => e = .returned (.bool true) ∧ Below w.heap.size w w' := by
  have hu43 := Try.underlying43
  have hu24 := Try.underlying24
  have hu56 := Try.underlying56
  have hu47 := Try.underlying47
  obtain ⟨k0, hk0⟩ := advLives_ok
  have Hk0 := Lib.hid hk0
  obtain ⟨L, HL⟩ : ∃ L, Hid (L = l.take 5) := ⟨_, Lib.hid rfl⟩
  have HCL : Hid (Kd.C k24 w A L.length L) := by rw [HL.out]; exact Lib.hid (take_C 5 hC)
  have hLl : L.length ≤ 5 := by rw [HL.out, List.length_take]; omega
  have hLc : L.length ≤ c := by rw [HL.out, List.length_take]; omega
  have HCB := Lib.hid hCb
  have HLC := Lib.hid hlc
  clear hk0 hC hlc hCb
  obtain ⟨n, Hn⟩ : ∃ n, Hid (n = L.length) := ⟨_, Lib.hid rfl⟩
  rw [← Hn.out] at hLl hLc HCL
  go_enter Try.func7, Try.ntmps7
  go_wp2_with fail
  refine (patchbaykeep2_advLives.calls k0 true _ Hk0.out).mono ?_
  rintro e w1 ⟨rfl, hb1⟩
  have HB1 := Lib.hid hb1
  clear hb1
  go_wp2_with fail
  refine (some23_five A l L c HL HLC.out w1).mono ?_
  rintro e w2 ⟨rfl, rfl⟩
  rw [← Hn.out]
  go_wp2_with fail
  go_loopw [17] (fun i wr => ∃ k : Nat, k ≤ n ∧ i = .int .i64 k ∧ Hid (Below w.heap.size w wr) ∧ Hid (∀ i', i' < k → ∀ j, j < i' → ¬ Same (L.getD i' z24) (L.getD j z24))) (fun i _ => n - (intOf i).toNat)
  case atStart => exact ⟨0, Nat.zero_le _, rfl, HB1, Lib.hid (fun _ h => absurd h (Nat.not_lt_zero _))⟩
  case round =>
    obtain ⟨k, hk, rfl, HBr, HS⟩ := hrel
    by_cases hlt : k < n
    · obtain ⟨ad, rfl, hcA⟩ := C24_cell (by rw [← Hn.out]; exact Kd.C_below HCL.out HBr.out) (by rw [← Hn.out]; omega)
      obtain ⟨x, Hx⟩ : ∃ v, Hid (v = L.getD k z24) := ⟨_, Lib.hid rfl⟩
      obtain ⟨C1, d1, a0, a1, a2, a3, ale, aC⟩ := hcA k (by rw [← Hn.out]; exact hlt)
      rw [← Hx.out] at a0 a1 a2 a3 ale aC
      have hbe := below_alloc (Below.refl wr.heap.size wr) (.cells #[.int .i64 x.f0, .int .i64 x.f1, .int .i64 x.f2, .slice C1 x.f3.length d1] 24)
      have HBE := Lib.hid (below_self HBr.out hbe)
      have HXE := Lib.hid (blk_alloc wr (.cells #[.int .i64 x.f0, .int .i64 x.f1, .int .i64 x.f2, .slice C1 x.f3.length d1] 24))
      have AC := Lib.hid (Kd.C_below aC hbe)
      have ALE := Lib.hid ale
      clear hcA ale aC hbe
      have hkc : k ≤ c := by omega
      go_upto_region 7 with (fail)
      obtain ⟨xb, Hxb⟩ : ∃ b, Hid (b = wr.heap.size) := ⟨_, Lib.hid rfl⟩
      rw [← Hxb.out] at HXE
      rw [← Hxb.out]
      generalize wr.alloc (.cells #[.int .i64 x.f0, .int .i64 x.f1, .int .i64 x.f2, .slice C1 x.f3.length d1] 24) = w2 at HBE HXE AC ⊢
      clear a0 a1 a2 a3
      go_wp2_with fail
      go_loopw [26] (fun i wq => ∃ j : Nat, j ≤ k ∧ i = .int .i64 j ∧ Hid (Below w.heap.size w wq) ∧ Hid (Below w2.heap.size w2 wq) ∧ Hid (∀ j', j' < j → ¬ Same x (L.getD j' z24))) (fun i _ => k - (intOf i).toNat)
      case atStart => exact ⟨0, Nat.zero_le _, rfl, HBE, Lib.hid (Below.refl _ _), Lib.hid (fun _ h => absurd h (Nat.not_lt_zero _))⟩
      case round =>
        obtain ⟨j, hj, rfl, HBq, HBx, HSq⟩ := hrel
        by_cases hlj : j < k
        · obtain ⟨ad', e, hcA⟩ := C24_cell (by rw [← Hn.out]; exact Kd.C_below HCL.out HBq.out) (by rw [← Hn.out]; omega)
          obtain rfl : ad = ad' := by injection e
          obtain ⟨y, Hy⟩ : ∃ v, Hid (v = L.getD j z24) := ⟨_, Lib.hid rfl⟩
          obtain ⟨C2, d2, b0, b1, b2, b3, ble, bC⟩ := hcA j (by rw [← Hn.out]; omega)
          rw [← Hy.out] at b0 b1 b2 b3 ble bC
          have hbe := below_alloc (Below.refl wr.heap.size wr) (.cells #[.int .i64 y.f0, .int .i64 y.f1, .int .i64 y.f2, .slice C2 y.f3.length d2] 24)
          have HBE2 := Lib.hid (below_self HBq.out hbe)
          have HBX2 := Lib.hid (below_self HBx.out hbe)
          have HYE := Lib.hid (blk_alloc wr (.cells #[.int .i64 y.f0, .int .i64 y.f1, .int .i64 y.f2, .slice C2 y.f3.length d2] 24))
          have HXE2 := Lib.hid (blk_keep HBX2.out HXE.out)
          have BC := Lib.hid (Kd.C_below bC hbe)
          have AC2 := Lib.hid (Kd.C_below AC.out HBX2.out)
          have BLE := Lib.hid ble
          clear hcA ble bC hbe e
          go_upto_region 10 with (fail)
          obtain ⟨yb, Hyb⟩ : ∃ b, Hid (b = wr.heap.size) := ⟨_, Lib.hid rfl⟩
          rw [← Hyb.out] at HYE
          rw [← Hyb.out]
          generalize wr.alloc (.cells #[.int .i64 y.f0, .int .i64 y.f1, .int .i64 y.f2, .slice C2 y.f3.length d2] 24) = w3 at HBE2 HBX2 HYE HXE2 BC AC2 ⊢
          clear b0 b1 b2 b3
          obtain ⟨p0, p1, p2, p3, pf⟩ := blk_cells4 HXE2.out
          have hpl := blk_lt HXE2.out
          obtain ⟨q0, q1, q2, q3, qf⟩ := blk_cells4 HYE.out
          have hql := blk_lt HYE.out
          go_wp2_with fail
          refine (Newer_any x y C1 C2 d1 d2 w3 ALE.out BLE.out AC2 BC).mono ?_
          obtain ⟨ra, Hra⟩ : ∃ v, Hid (v = (NewerP x y).1) := ⟨_, Lib.hid rfl⟩
          obtain ⟨rb, Hrb⟩ : ∃ v, Hid (v = (NewerP x y).2) := ⟨_, Lib.hid rfl⟩
          rw [← Hra.out, ← Hrb.out]
          rintro e w4 ⟨rfl, hb4⟩
          have HB4 := Lib.hid (below_self HBE2.out hb4)
          have HBX4 := Lib.hid (below_self HBX2.out hb4)
          clear hb4 p0 p1 p2 p3 pf q0 q1 q2 q3 qf
          by_cases he : (rb == 0 && ra == 0) = true
          · obtain ⟨h1, h2⟩ : rb = 0 ∧ ra = 0 := by simpa using he
            subst h1
            subst h2
            go_wp2_with fail
            go_ret
            exact ⟨rfl, HB4.out⟩
          · have hns : ¬ Same x y := NewerP_same (by rw [← Hra.out, ← Hrb.out]; simpa using he)
            have HNS := Lib.hid (fun j' (h : j' < j + 1) => show ¬ Same x (L.getD j' z24) from by
              rcases Nat.lt_succ_iff_lt_or_eq.1 h with h | h
              · exact HSq.out j' h
              · rw [h, ← Hy.out]; exact hns)
            clear hns
            by_cases h1 : rb = 0
            · subst h1
              have h2 : ra ≠ 0 := fun h => he (by rw [h]; rfl)
              have d2 : (ra == 0) = false := by simpa using h2
              clear he h2
              go_wp2_with fail
              go_round
              case rel => exact ⟨j + 1, by omega, by go_num, HB4, HBX4, HNS⟩
              case measure => simp [intOf]; omega
            · have d2 : (rb == 0) = false := by simpa using h1
              clear he h1
              go_wp2_with fail
              go_round
              case rel => exact ⟨j + 1, by omega, by go_num, HB4, HBX4, HNS⟩
              case measure => simp [intOf]; omega
        · have hjk : j = k := by omega
          subst hjk
          have HS2 := Lib.hid (fun i' (h : i' < j + 1) => show ∀ j', j' < i' → ¬ Same (L.getD i' z24) (L.getD j' z24) from by
            rcases Nat.lt_succ_iff_lt_or_eq.1 h with h | h
            · exact HS.out i' h
            · rw [h, ← Hx.out]; exact HSq.out)
          go_wp2_with fail
          go_round
          case rel => exact ⟨j + 1, by omega, by go_num, HBq, HS2⟩
          case measure => simp [intOf]; omega
    · have hkn : k = n := by omega
      subst hkn
      have HDIF := Lib.hid (pairs_mem (l := L) (by rw [← Hn.out]; exact HS.out))
      clear HS
      go_wp2_with fail
      rw [Hn.out]
      refine (base21 A c L wr (by rw [← Hn.out]; omega) (Lib.hid (Kd.C_below (by rw [← Hn.out]; exact HCL.out) HBr.out))).mono ?_
      rintro e w2 ⟨rfl, hbd, hb⟩
      have HD2 := Lib.hid hbd
      have HB2 := Lib.hid (below_self HBr.out hb)
      clear hbd hb
      obtain ⟨d, Hd⟩ : ∃ d, Hid (d = dbOf L) := ⟨_, Lib.hid rfl⟩
      have HOK : Hid (DbOk d) := by rw [Hd.out]; exact Lib.hid (dbOf_ok L)
      go_wp2_with fail
      refine (List27 wr.heap.size d HOK.out w2 (by rw [Hd.out]; exact HD2)).mono ?_
      rintro e w3 ⟨v3, rfl, hR3, hb⟩
      obtain ⟨A3, c3, rfl, hl3, hC3⟩ := Kd.R_reads hR3
      have HC3 := Lib.hid hC3
      have HB3 := Lib.hid (below_self HB2.out hb)
      clear hb hl3 hC3 hR3
      go_wp2_with fail
      refine (mixed28 A Ab c cb L bs w w3 (by rw [← Hn.out]; omega) HB3.out (by omega) (by rw [← Hn.out]; exact HCL) (Lib.hid (Kd.C_below HCB.out HB3.out))).mono ?_
      rintro e w4 ⟨v4, M, rfl, hp4, hR4, hb⟩
      obtain ⟨A4, c4, rfl, hl4, hC4⟩ := Kd.R_reads hR4
      have HB4 := Lib.hid (below_self HB3.out hb)
      have HC4 := Lib.hid (fx_C hC4 HB4.out)
      have HP4 := Lib.hid hp4
      have HC34 := Lib.hid (Kd.C_below HC3.out hb)
      clear hb hl4 hC4 hR4 hp4 HC3
      go_wp2_with fail
      refine (base21 A4 c4 M w4 (by rw [HP4.out.length_eq, ← Hn.out]; omega) HC4).mono ?_
      rw [dbOf_perm HP4.out HDIF.out, ← Hd.out]
      rintro e w5 ⟨rfl, hbd, hb⟩
      have HD5 := Lib.hid hbd
      have HB5 := Lib.hid (below_self HB4.out hb)
      have HC5 := Lib.hid (Kd.C_below HC34.out hb)
      clear hbd hb
      go_wp2_with fail
      refine (List27 w4.heap.size d HOK.out w5 HD5).mono ?_
      rintro e w6 ⟨v6, rfl, hR6, hb⟩
      obtain ⟨A6, c6, rfl, hl6, hC6⟩ := Kd.R_reads hR6
      have HC6 := Lib.hid hC6
      have HB6 := Lib.hid (below_self HB5.out hb)
      have HC56 := Lib.hid (Kd.C_below HC5.out hb)
      clear hb hl6 hC6 hR6
      go_wp2_with fail
      refine (EqualFunc26 A3 A6 c3 c6 (listOf d) w6 (by have := list_le d; omega) (list_len HOK.out) HC56 HC6).mono ?_
      rintro e w7 ⟨rfl, hb⟩
      have HB7 := Lib.hid (below_self HB6.out hb)
      go_wp2_with fail
      go_ret
      exact ⟨rfl, HB7.out⟩

end Go.Proofs.Ytaneaabmgnanbaa.M
