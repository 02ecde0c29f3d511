/- Own lemmas: the walk of AreaBounds. -/
import Derived.Test.YtaaohfhcimndmaaMalives
import Derived.LoopTactic
import Derived.BigQuiet
import Derived.RegionTactic
import Derived.BigRegion
namespace Go.Proofs.Ytaaohfhcimndmaa.M
open Go.RowKit Go.Proofs.YtaaohfhcimndmaaW.PrintWords Go.Proofs.YtaaohfhcimndmaaW.PrintLast Go.Proofs.YtaaohfhcimndmaaW.PrintMore 
set_option linter.unusedVariables false
set_option linter.unusedSimpArgs false

open Go.Proofs.Ytaaohfhcimndmaa.PAreaAnnounced

set_option maxHeartbeats 4000000 in
set_option maxRecDepth 100000 in
theorem AreaBounds_walk (a : Int) (A : Option Addr) (c : Nat) (es : List S59) (u f : Int) (w : World) (hle : es.length ≤ c) (hK : Kd.C k59 w A es.length es) :
    Calls Try.prog 9 #[.agg #[.int .i64 a, .slice A es.length c], .int .i64 u, .int .i64 f] w fun e w' => e = .returned (.bool true) ∧ Below w.heap.size w w' := by
  have hu25 := Try.underlying25
  have hu53 := Try.underlying53
  have hu55 := Try.underlying55
  have hu59 := Try.underlying59
  have HK := Lib.hid hK
  have HLE := Lib.hid hle
  obtain ⟨hN1, hN8, _⟩ := fitN_range a
  have har : wrap64 ((IntKind.u64.wrap u).tmod 3) = fitV 3 u := fitV_eq (N := 3) (by omega) (by omega) u
  have hr3 := fitV_range (N := 3) (by omega) u
  obtain ⟨ar, Har⟩ : ∃ v, Hid (v = fitV 3 u) := ⟨_, Lib.hid rfl⟩
  rw [← Har.out] at har hr3
  clear hK hle
  go_enter Try.func9, Try.ntmps9
  go_wp2_with fail
  have HX := Lib.hid (blk_alloc w (.cells #[.int .i64 a, .slice A es.length c] 55))
  have HB := Lib.hid (below_alloc (Below.refl w.heap.size w) (.cells #[.int .i64 a, .slice A es.length c] 55))
  obtain ⟨p, Hp⟩ : ∃ b, Hid (b = w.heap.size) := ⟨_, Lib.hid rfl⟩
  have HPW := Lib.hid (show w.heap.size ≤ p from by rw [Hp.out]; omega)
  rw [← Hp.out] at HX
  refine (alives25 _).mono ?_
  rw [← Hp.out]
  rintro e w0 ⟨rfl, hb0⟩
  have HB0 := Lib.hid (below_self HB.out hb0)
  have HX0 := Lib.hid (blk_keep hb0 HX.out)
  clear hb0
  go_wp2_with fail
  refine (lives18 _).mono ?_
  rintro e w1 ⟨rfl, hb1⟩
  have HB1 := Lib.hid (below_self HB0.out hb1)
  have HX1 := Lib.hid (blk_keep hb1 HX0.out)
  clear hb1
  obtain ⟨x0, x1, xf⟩ := blk_cells2 HX1.out
  have hxl := blk_lt HX1.out
  go_wp2_with fail
  refine (parted26 a 8 es A c w1 (by omega) HLE.out (Lib.hid (Kd.C_below HK.out HB1.out))).mono ?_
  rintro e w2 ⟨A1, c1, rfl, hl1, hR1, hb2⟩
  obtain ⟨N, HN⟩ : ∃ n, Hid (n = fitN a) := ⟨_, Lib.hid rfl⟩
  rw [← HN.out] at hN1 hN8 hl1 hR1
  rw [← HN.out]
  obtain ⟨L, HL⟩ : ∃ l, Hid (l = (es.take 8).map (fitA N)) := ⟨_, Lib.hid rfl⟩
  rw [← HL.out] at hl1 hR1
  rw [← HL.out]
  have hLl : L.length ≤ 8 := by rw [HL.out, List.length_map, List.length_take]; omega
  have HOK : Hid (AOk N L) := by rw [HL.out]; exact Lib.hid (fitA_ok hN1 hN8 (by rw [List.length_take]; omega))
  have HB2 := Lib.hid (below_self HB1.out hb2)
  have HX2 := Lib.hid (blk_keep hb2 HX1.out)
  clear hb2 x0 x1 xf hxl
  obtain ⟨x0, x1, xf⟩ := blk_cells2 HX2.out
  have hxl := blk_lt HX2.out
  have HR1 := Lib.hid hR1
  have HL1 := Lib.hid hl1
  clear hl1 hR1
  go_upto_region 4 with (fail)
  have HX3 := Lib.hid (blk_set (blk_set HX2.out 0 (.int .i64 N)) 1 (.slice A1 L.length c1))
  have HB3 := Lib.hid (Below.setCell (Below.setCell HB2.out (p := ⟨p, 0, none⟩) HPW.out (.int .i64 N)) (p := ⟨p, 1, none⟩) HPW.out (.slice A1 L.length c1))
  have HR3 := Lib.hid (Kd.R_set (Kd.R_set HR1.out HX2.out (by decide) 0 (.int .i64 N)) (blk_set HX2.out 0 (.int .i64 N)) (by decide) 1 (.slice A1 L.length c1))
  clear x0 x1 xf hxl
  generalize (w2.setCell ⟨p, 0, none⟩ (.int .i64 N)).setCell ⟨p, 1, none⟩ (.slice A1 L.length c1) = w3 at HX3 HB3 HR3 ⊢
  have HC3 := Lib.hid (Kd.R_reads' HR3.out).2.2
  obtain ⟨x0, x1, xf⟩ := blk_cells2 HX3.out
  have hxl := blk_lt HX3.out
  have hel := HOK.out.len
  go_wp2_with fail
  refine (flat27 N L A1 c1 w3 hel HL1.out HC3).mono ?_
  rintro e w4 ⟨A2, c2, rfl, hl2, hC2, hb⟩
  have HB4 := Lib.hid (below_self HB3.out hb)
  have HX4 := Lib.hid (blk_keep hb HX3.out)
  have HC4 := Lib.hid (Kd.C_below HC3.out hb)
  clear hb hl2 hC2 x0 x1 xf hxl
  go_wp2_with fail
  refine (node20 N f A2 (fl L).length c2 w4 hN1 hN8).mono ?_
  rintro e w5 ⟨rfl, hb⟩
  have hf0 := fitV_range hN1 f
  obtain ⟨s, hsv⟩ : ∃ v : Nat, fitV N f = v := ⟨(fitV N f).toNat, by omega⟩
  rw [hsv]
  have hsn : s < N := by omega
  have HB5 := Lib.hid (below_self HB4.out hb)
  have HX5 := Lib.hid (blk_keep hb HX4.out)
  have HC5 := Lib.hid (Kd.C_below HC4.out hb)
  clear hb hf0 hsv
  obtain ⟨x0, x1, xf⟩ := blk_cells2 HX5.out
  have hxl := blk_lt HX5.out
  go_wp2_with fail
  refine (Acosts28 N s L A1 c1 w5 HOK.out hsn HL1.out HC5).mono ?_
  rintro e w6 ⟨GO, cO, O, rfl, hcO, hA, hrow, hb⟩
  have HA := Lib.hid hA
  have HO6 := Lib.hid hrow
  have HB6 := Lib.hid (below_self HB5.out hb)
  have HX6 := Lib.hid (blk_keep hb HX5.out)
  have HC6 := Lib.hid (Kd.C_below HC5.out hb)
  clear hb hA hrow x0 x1 xf hxl
  obtain ⟨x0, x1, xf⟩ := blk_cells2 HX6.out
  have hxl := blk_lt HX6.out
  go_wp2_with fail
  refine (flat27 N L A1 c1 w6 hel HL1.out HC6).mono ?_
  rintro e w7 ⟨A3, c3, rfl, hl3, hC3, hb⟩
  have HB7 := Lib.hid (below_self HB6.out hb)
  have HX7 := Lib.hid (blk_keep hb HX6.out)
  have HC7 := Lib.hid (Kd.C_below HC6.out hb)
  have HO7 := Lib.hid (HO6.out.keep hb)
  have HL7 := Lib.hid hl3
  have HF7 := Lib.hid hC3
  clear hb hl3 hC3 x0 x1 xf hxl
  go_wp2_with fail
  refine (Costs21 N s (fl L) A3 c3 w7 HOK.out.fl hsn HL7.out HF7).mono ?_
  rintro e w8 ⟨GD, cost, rfl, hD, _, hGc, hb⟩
  have HD := Lib.hid hD
  have HD8 := Lib.hid (RowAt.whole hGc)
  have HB8 := Lib.hid (below_self HB7.out hb)
  have HX8 := Lib.hid (blk_keep hb HX7.out)
  have HC8 := Lib.hid (Kd.C_below HC7.out hb)
  have HO8 := Lib.hid (HO7.out.keep hb)
  clear hb hD hGc
  obtain ⟨x0, x1, xf⟩ := blk_cells2 HX8.out
  have hxl := blk_lt HX8.out
  go_wp2_with fail
  refine (Inside30 N s ar L A1 c1 w8 HOK.out hsn hr3.1 (by omega) HL1.out HC8).mono ?_
  rintro e w9 ⟨GI, ins, rfl, hI, hGc, hb⟩
  have HI := Lib.hid hI
  have HI9 := Lib.hid (RowAt.whole hGc)
  have HB9 := Lib.hid (below_self HB8.out hb)
  have HX9 := Lib.hid (blk_keep hb HX8.out)
  have HO9 := Lib.hid (HO8.out.keep hb)
  have HD9 := Lib.hid (HD8.out.keep hb)
  clear hb hI hGc x0 x1 xf hxl
  obtain ⟨x0, x1, xf⟩ := blk_cells2 HX9.out
  have hxl := blk_lt HX9.out
  go_wp2_with fail
  clear x0 x1 xf hxl
  go_loopw [83] (fun v wr => ∃ k : Nat, k ≤ N ∧ v = .int .i64 k ∧ Hid (Below w9.heap.size w9 wr)) (fun v _ => N - (intOf v).toNat)
  case atStart => exact ⟨0, Nat.zero_le _, rfl, Lib.hid (Below.refl _ _)⟩
  case round =>
    obtain ⟨k, hk, rfl, HBr⟩ := hrel
    by_cases hlt : k < N
    · obtain ⟨vc, Hvc⟩ : ∃ v, Hid (v = rd O k) := ⟨_, Lib.hid rfl⟩
      obtain ⟨va, Hva⟩ : ∃ v, Hid (v = rd cost k) := ⟨_, Lib.hid rfl⟩
      obtain ⟨vi, Hvi⟩ : ∃ v, Hid (v = rd ins k) := ⟨_, Lib.hid rfl⟩
      have g1 := (HO9.out.keep HBr.out).cell (i := k) (by rw [HA.out.l]; exact hlt)
      have g2 := (HD9.out.keep HBr.out).cell (i := k) (by rw [HD.out.cl]; exact hlt)
      have g3 := (HI9.out.keep HBr.out).cell (i := k) (by rw [HI.out.cl]; exact hlt)
      rw [← Hvc.out] at g1
      rw [← Hva.out] at g2
      rw [← Hvi.out] at g3
      have hkn : (k : Int) < N := by omega
      have hk1 : 0 ≤ vc → 0 ≤ va ∧ va ≤ vc := fun h => by
        rw [Hva.out, Hvc.out]
        exact HD.out.min (HA.out.up k (by omega) hkn (by rw [← Hvc.out]; exact h))
      have hk2 : 0 ≤ vi → 0 ≤ vc ∧ vc ≤ vi := fun h => by
        rw [Hvi.out, Hvc.out]
        exact HA.out.in_ ar k _ hr3.1 (by omega) (HI.out.cr k (by omega) hkn (by rw [← Hvi.out]; exact h)) (by omega) hkn
      by_cases h0 : 0 ≤ vc
      · obtain ⟨h1, h2⟩ := hk1 h0
        have d0 : decide (vc ≥ 0) = true := decide_eq_true h0
        have d1 : decide (va < 0) = false := decide_eq_false (by omega)
        have d2 : decide (va > vc) = false := decide_eq_false (by omega)
        have d4 : decide (vc < 0) = false := decide_eq_false (by omega)
        by_cases h3 : 0 ≤ vi
        · obtain ⟨h4, h5⟩ := hk2 h3
          have d3 : decide (vi ≥ 0) = true := decide_eq_true h3
          have d5 : decide (vc > vi) = false := decide_eq_false (by omega)
          clear hk1 hk2
          go_wp2_with fail
          go_round
          case rel => exact ⟨k + 1, by omega, by go_num, HBr⟩
          case measure => simp [intOf]; omega
        · have d3 : decide (vi ≥ 0) = false := decide_eq_false h3
          clear hk1 hk2
          go_wp2_with fail
          go_round
          case rel => exact ⟨k + 1, by omega, by go_num, HBr⟩
          case measure => simp [intOf]; omega
      · have h3 : ¬ 0 ≤ vi := fun h => h0 (hk2 h).1
        have d0 : decide (vc ≥ 0) = false := decide_eq_false h0
        have d3 : decide (vi ≥ 0) = false := decide_eq_false h3
        clear hk1 hk2
        go_wp2_with fail
        go_round
        case rel => exact ⟨k + 1, by omega, by go_num, HBr⟩
        case measure => simp [intOf]; omega
    · go_wp2_with fail
      go_ret
      exact ⟨rfl, below_self HB9.out HBr.out⟩

end Go.Proofs.Ytaaohfhcimndmaa.M
