/- Own lemmas: area.Costs. -/
import Derived.Test.YtaaohfhcimndmaaMapure
import Derived.LoopTactic
import Derived.BigQuiet
import Derived.RegionTactic
import Derived.BigRegion
namespace Go.Proofs.Ytaaohfhcimndmaa.M
open Go.RowKit Go.Proofs.YtaaohfhcimndmaaW.PrintWords Go.Proofs.YtaaohfhcimndmaaW.PrintLast Go.Proofs.YtaaohfhcimndmaaW.PrintMore 
set_option linter.unusedVariables false
set_option linter.unusedSimpArgs false

open Go.Proofs.Ytaaohfhcimndmaa.PAreaAnnounced
theorem start_rd {n s : Nat} (hs : s < n) {v : Int} (v0 : 0 ≤ v) (vn : v < n) : rd ((List.replicate n (-1)).set s 0) v = if v = s then 0 else -1 := by
  have := rd_set (cost := List.replicate n (-1)) (i := (s : Int)) (c := 0) (v := v) (by omega) (by simp; omega) v0
  simp only [Int.toNat_natCast] at this
  rw [this]
  split
  · rfl
  · unfold rd
    rw [List.getD_eq_getElem?_getD, List.getElem?_replicate, if_pos (by omega)]
    rfl
theorem start_up {n s : Nat} (es : List S59) (hs : s < n) : Up n es s 0 ((List.replicate n (-1)).set s 0) := by
  refine ⟨by simp, fun v v0 vn => ?_, fun v v0 vn => ?_, fun v v0 vn => ?_⟩
  all_goals rw [start_rd hs v0 vn]
  all_goals split
  · omega
  · omega
  · omega
  · omega
  · rename_i h; intro _; rw [h]; exact .start
  · intro h; omega
/-- part, as it is called. -/
theorem part50 (n : Nat) (a : Int) (es : List S59) (A : Option Addr) (c : Nat) (w : World) (hl : es.length ≤ 256) (hle : es.length ≤ c) (HK : Hid (Kd.C k59 w A es.length es)) :
    Calls Try.prog 50 #[.agg #[.int .i64 n, .slice A es.length c], .int .i64 a] w fun e w' => ∃ A1 c1, e = .returned (.agg #[.int .i64 n, .slice A1 (pt es a).length c1]) ∧ (pt es a).length ≤ c1 ∧ Kd.C k46 w' A1 (pt es a).length (pt es a) ∧ Below w.heap.size w w' := by
  refine (area_part.calls (es.length + 1) n A c es a n (pt es a) w HK.out hle (part_f hl a n)).mono ?_
  rintro e w' ⟨v, rfl, hR, hb⟩
  obtain ⟨A1, c1, rfl, h1, h2⟩ := Kd.R_reads hR
  exact ⟨A1, c1, rfl, h1, h2, hb⟩
/-- flat, as it is called. -/
theorem flat27 (n : Nat) (es : List S59) (A : Option Addr) (c : Nat) (w : World) (hl : es.length ≤ 256) (hle : es.length ≤ c) (HK : Hid (Kd.C k59 w A es.length es)) :
    Calls Try.prog 27 #[.agg #[.int .i64 n, .slice A es.length c]] w fun e w' => ∃ A1 c1, e = .returned (.agg #[.int .i64 n, .slice A1 (fl es).length c1]) ∧ (fl es).length ≤ c1 ∧ Kd.C k46 w' A1 (fl es).length (fl es) ∧ Below w.heap.size w w' := by
  refine (patchbaykeep2_flat.calls (es.length + 1) n A c es n (fl es) w HK.out hle (flat_f hl n)).mono ?_
  rintro e w' ⟨v, rfl, hR, hb⟩
  obtain ⟨A1, c1, rfl, h1, h2⟩ := Kd.R_reads hR
  exact ⟨A1, c1, rfl, h1, h2, hb⟩
theorem Up.lo' {n : Nat} {es : List S59} {s : Int} {X : Nat} {F : List Int} (h : Up n es s X F) : ∀ v : Int, 0 ≤ v → v < n → -1 ≤ rd F v := h.lo
set_option maxHeartbeats 8000000 in
set_option maxRecDepth 100000 in
theorem Acosts28 (n s : Nat) (es : List S59) (A : Option Addr) (c : Nat) (w : World) (hg : AOk n es) (hs : s < n) (hle : es.length ≤ c) (HK : Hid (Kd.C k59 w A es.length es)) :
    Calls Try.prog 28 #[.agg #[.int .i64 n, .slice A es.length c], .int .i64 s] w fun e w' => ∃ G cg O, e = .returned (.tuple #[.slice (some ⟨G, 0, none⟩) n cg, .int .i64 0]) ∧ n ≤ cg ∧ Ac n es s O ∧ RowAt w' G O ∧ Below w.heap.size w w' := by
  have hu25 := Try.underlying25
  have hu53 := Try.underlying53
  have hu55 := Try.underlying55
  have HG := Lib.hid hg
  have hn1 := hg.n1
  have hn16 := hg.n16
  have hel := hg.len
  have HF := Lib.hid (acheck_f hg)
  have HLE := Lib.hid hle
  clear hg hle
  go_enter Try.func28, Try.ntmps28
  go_wp2_with fail
  have HX := Lib.hid (blk_alloc w (.cells #[.int .i64 n, .slice A es.length c] 55))
  have HB := Lib.hid (below_alloc (Below.refl w.heap.size w) (.cells #[.int .i64 n, .slice A es.length c] 55))
  obtain ⟨p, Hp⟩ : ∃ b, Hid (b = w.heap.size) := ⟨_, Lib.hid rfl⟩
  rw [← Hp.out] at HX
  refine (area_Check.calls (es.length + 2) n A c es 0 _ (Kd.C_below HK.out HB.out) HLE.out HF.out).mono ?_
  rw [← Hp.out]
  rintro e w1 ⟨rfl, hb⟩
  have HX1 := Lib.hid (blk_keep hb HX.out)
  have HB1 := Lib.hid (below_self HB.out hb)
  clear hb
  obtain ⟨x0, x1, xf⟩ := blk_cells2 HX1.out
  have hxl := blk_lt HX1.out
  have hsn : (s : Int) < n := by omega
  have hsge : decide (n ≤ s) = false := decide_eq_false (by omega)
  go_upto_region 6 with (fail)
  have hbe := below_alloc (Below.refl w1.heap.size w1) (.cells #[.int .i64 (-1)] 3)
  obtain ⟨y0, y1, yf⟩ := blk_cells2 (blk_keep hbe HX1.out)
  have hyl := blk_lt (blk_keep hbe HX1.out)
  go_wp2_with fail
  have HX2 := Lib.hid (blk_keep hbe HX1.out)
  have HB2 := Lib.hid (below_self HB1.out hbe)
  clear hbe x0 x1 xf hxl y0 y1 yf hyl
  refine (Repeat42 w1.heap.size (-1) n _ hn1 hn16 (blk_cell (blk_alloc w1 (.cells #[.int .i64 (-1)] 3)) 0)).mono ?_
  generalize w1.alloc (.cells #[.int .i64 (-1)] 3) = w2 at HX2 HB2 ⊢
  rintro e w3 ⟨P, rfl, hPl, hPc, hb⟩
  rw [← nums_rep] at hPc
  have HPW := Lib.hid (show w.heap.size ≤ P from Nat.le_trans HB2.out.size hPl)
  have HPX := Lib.hid (show p ≠ P from Nat.ne_of_lt (Nat.lt_of_lt_of_le (blk_lt HX2.out) hPl))
  have HX3 := Lib.hid (blk_keep hb HX2.out)
  have HB3 := Lib.hid (below_self HB2.out hb)
  have HP3 := Lib.hid (RowAt.whole hPc)
  clear hb hPl hPc
  have q0 := HP3.out.cell (i := s) (by simp; omega)
  have qf := HP3.out.free s
  have ql := HP3.out.lt
  go_upto_region 8 with (fail)
  obtain ⟨start, Hst⟩ : ∃ l : List Int, Hid (l = (List.replicate n (-1)).set s 0) := ⟨_, Lib.hid rfl⟩
  have HP4 : Hid (RowAt (w3.setCell ⟨P, s, none⟩ (.int .i64 0)) P start) := by rw [Hst.out]; exact Lib.hid (HP3.out.set (i := s) (by simp; omega) 0)
  have HX4 := Lib.hid ((Below.heap_setCell w3 ⟨P, s, none⟩ (.int .i64 0) _ HPX.out).trans HX3.out)
  have HB4 := Lib.hid (Below.setCell HB3.out (p := ⟨P, s, none⟩) HPW.out (.int .i64 0))
  have HUS : Hid (Up n es s 0 start) := by rw [Hst.out]; exact Lib.hid (start_up es hs)
  have HSS : Hid (rd start s = 0) := by rw [Hst.out]; exact Lib.hid (by rw [start_rd hs (by omega) (by omega), if_pos rfl])
  clear q0 qf ql
  generalize w3.setCell ⟨P, s, none⟩ (.int .i64 0) = w4 at HP4 HX4 HB4 ⊢
  go_wp2_with fail
  refine (Clone47n n P n start w4 HUS.out.l hn1 (by omega) HP4).mono ?_
  rintro e w5 ⟨G0, g0, rfl, hg0, _, hrow, hb⟩
  have HR5 := Lib.hid hrow
  have HP5 := Lib.hid (HP4.out.keep hb)
  have HX5 := Lib.hid (blk_keep hb HX4.out)
  have HB5 := Lib.hid (below_self HB4.out hb)
  clear hrow hb
  go_wp2_with fail
  go_loopw [8, 9] (fun v8 v9 wr => ∃ (k G cg : Nat) (F : List Int), 1 ≤ k ∧ k ≤ 16 ∧ n ≤ cg ∧ v8 = .slice (some ⟨G, 0, none⟩) n cg ∧ v9 = .int .i64 k ∧ Hid (Up n es s 1048560 F) ∧ Hid (Under n F start) ∧ Hid (Wys n es start F k) ∧ Hid (RowAt wr G F) ∧ Hid (Below w5.heap.size w5 wr)) (fun _ v9 _ => 16 - (intOf v9).toNat)
  case atStart => exact ⟨1, G0, g0, start, Nat.le_refl _, by omega, hg0, rfl, rfl, Lib.hid (HUS.out.mono (by omega)), Lib.hid (Under.refl _ _), Lib.hid (Wys.start _ _ _ _), HR5, Lib.hid (Below.refl _ _)⟩
  case round =>
    obtain ⟨k, G, cg, F, hk1, hk, hcg, rfl, rfl, HUF, HUN, HWY, HRr, HBr⟩ := hrel
    have HXr := Lib.hid (blk_keep HBr.out HX5.out)
    have HPr := Lib.hid (HP5.out.keep HBr.out)
    have HBw := Lib.hid (below_self HB5.out HBr.out)
    by_cases hlt : k < 16
    · obtain ⟨x0, x1, xf⟩ := blk_cells2 HXr.out
      have hxl := blk_lt HXr.out
      go_wp2_with fail
      refine (part50 n k es A c wr hel HLE.out (Lib.hid (Kd.C_below HK.out HBw.out))).mono ?_
      rintro e w6 ⟨A1, c1, rfl, hle1, hC1, hb⟩
      have HB6 := Lib.hid (below_self HBr.out hb)
      have HR6 := Lib.hid (HRr.out.keep hb)
      have HP6 := Lib.hid (HPr.out.keep hb)
      have HC6 := Lib.hid hC1
      have HL6 := Lib.hid hle1
      clear hb hC1 hle1 x0 x1 xf hxl
      go_wp2_with fail
      refine (spread49 n 0 P n (pt es k) A1 c1 start w6 (HG.out.pt k) HL6.out (by omega) HUS.out.l (Nat.le_refl _) HUS.out.lo HUS.out.hi HC6 HP6).mono ?_
      rintro e w7 ⟨g7, c7, ys, rfl, hc7, _, hrow, hSp, hb⟩
      have HSp := Lib.hid hSp
      have HY7 := Lib.hid hrow
      have HB7 := Lib.hid (below_self HB6.out hb)
      have HR7 := Lib.hid (HR6.out.keep hb)
      clear hb hSp hrow
      go_wp2_with fail
      refine (merge48 n G g7 cg c7 F ys w7 hn1 hn16 HUF.out.l HSp.out.yl hcg hc7 HR7 HY7).mono ?_
      rintro e w8 ⟨g8, c8, rfl, hc8, _, hrow, hb⟩
      have HR8 := Lib.hid hrow
      have HB8 := Lib.hid (below_self HB7.out hb)
      clear hb hrow
      have HUY := Lib.hid (Sp.up HUS.out HSp.out)
      have HUM := Lib.hid (Up.mrg HUF.out (HUY.out.mono (by omega)))
      have HWY2 := Lib.hid (HWY.out.step HSp.out (mrg_left HUF.out HUY.out) (mrg_right HUF.out HUY.out))
      have HUN2 := Lib.hid (Under.trans (mrg_left HUF.out HUY.out) HUN.out)
      go_wp2_with fail
      go_round
      case rel => exact ⟨k + 1, g8, c8, _, by omega, by omega, hc8, rfl, by go_num, HUM, HUN2, HWY2, HR8, HB8⟩
      case measure => simp [intOf]; omega
    · obtain rfl : k = 16 := by omega
      go_wp2_with fail
      refine (Clone47n n G cg F wr HUF.out.l hn1 (by omega) HRr).mono ?_
      rintro e w6 ⟨G2, c2, rfl, hc2, hG2, hrow, hb⟩
      have HGW := Lib.hid (show w.heap.size ≤ G2 from Nat.le_trans HBw.out.size hG2)
      have HGX := Lib.hid (show p ≠ G2 from Nat.ne_of_lt (Nat.lt_of_lt_of_le (blk_lt HXr.out) hG2))
      have HGF := Lib.hid (show G ≠ G2 from Nat.ne_of_lt (Nat.lt_of_lt_of_le HRr.out.lt hG2))
      have HX6 := Lib.hid (blk_keep hb HXr.out)
      have HR6 := Lib.hid (HRr.out.keep hb)
      have HS6 := Lib.hid hrow
      have HB6 := Lib.hid (below_self HBw.out hb)
      clear hb hrow hG2
      go_wp2_with fail
      go_loopw [53] (fun v wq => ∃ (j : Nat) (zs : List Int), j ≤ n ∧ v = .int .i64 j ∧ zs.length = n ∧ Hid (∀ i : Nat, i < n → rd zs i = if i < j then (if inA es 0 i = true then rd F i else -1) else rd F i) ∧ Hid (wq.heap[p]? = some (.cells #[.int .i64 n, .slice A es.length c] 55 (0, 0))) ∧ Hid (RowAt wq G F) ∧ Hid (RowAt wq G2 zs) ∧ Hid (Below w.heap.size w wq)) (fun v _ => n - (intOf v).toNat)
      case atStart => exact ⟨0, F, Nat.zero_le _, rfl, HUF.out.l, Lib.hid (fun i hi => by rw [if_neg (by omega)]), HX6, HR6, HS6, HB6⟩
      case round =>
        obtain ⟨j, zs, hj, rfl, hzl, HZ, HXq, HRq, HSq, HBq⟩ := hrel
        by_cases hlj : j < n
        · obtain ⟨x0, x1, xf⟩ := blk_cells2 HXq.out
          have hxl := blk_lt HXq.out
          go_wp2_with fail
          refine (in51 n A c es 0 j wr (by omega) (Lib.hid (Kd.C_below HK.out HBq.out))).mono ?_
          obtain ⟨b, Hb⟩ : ∃ b, Hid (b = inA es 0 j) := ⟨_, Lib.hid rfl⟩
          rw [← Hb.out]
          rintro e w7 ⟨rfl, hb⟩
          have HX7 := Lib.hid (blk_keep hb HXq.out)
          have HR7 := Lib.hid (HRq.out.keep hb)
          have HS7 := Lib.hid (HSq.out.keep hb)
          have HB7 := Lib.hid (below_self HBq.out hb)
          clear hb x0 x1 xf hxl
          cases b with
          | true =>
            have HZ2 : Hid (∀ i : Nat, i < n → rd zs i = if i < j + 1 then (if inA es 0 i = true then rd F i else -1) else rd F i) := Lib.hid (fun i hi => by
              rw [HZ.out i hi]
              by_cases e : i = j
              · subst e
                rw [if_neg (show ¬ i < i by omega), if_pos (show i < i + 1 by omega), ← Hb.out, if_pos rfl]
              · by_cases e2 : i < j
                · rw [if_pos e2, if_pos (show i < j + 1 by omega)]
                · rw [if_neg e2, if_neg (show ¬ i < j + 1 by omega)])
            go_wp2_with fail
            go_round
            case rel => exact ⟨j + 1, zs, by omega, by go_num, hzl, HZ2, HX7, HR7, HS7, HB7⟩
            case measure => simp [intOf]; omega
          | false =>
            have HZ2 : Hid (∀ i : Nat, i < n → rd (zs.set j (-1)) i = if i < j + 1 then (if inA es 0 i = true then rd F i else -1) else rd F i) := Lib.hid (fun i hi => by
              rw [rd_setn zs (by omega)]
              by_cases e : i = j
              · subst e
                rw [if_pos rfl, if_pos (show i < i + 1 by omega), ← Hb.out, if_neg (by simp)]
              · rw [if_neg e, HZ.out i hi]
                by_cases e2 : i < j
                · rw [if_pos e2, if_pos (show i < j + 1 by omega)]
                · rw [if_neg e2, if_neg (show ¬ i < j + 1 by omega)])
            have s0 := HS7.out.cell (i := j) (by omega)
            have sf := HS7.out.free j
            have sl := HS7.out.lt
            have hjn : (j : Int) < n := by omega
            go_wp2_with fail
            have HS8 := Lib.hid (HS7.out.set (i := j) (by omega) (-1))
            have HX8 := Lib.hid ((Below.heap_setCell w7 ⟨G2, j, none⟩ (.int .i64 (-1)) _ HGX.out).trans HX7.out)
            have HR8 := Lib.hid (HR7.out.other (p := ⟨G2, j, none⟩) HGF.out (.int .i64 (-1)))
            have HB8 := Lib.hid (Below.setCell HB7.out (p := ⟨G2, j, none⟩) HGW.out (.int .i64 (-1)))
            go_round
            case rel => exact ⟨j + 1, zs.set j (-1), by omega, by go_num, by rw [List.length_set]; exact hzl, HZ2, HX8, HR8, HS8, HB8⟩
            case measure => simp [intOf]; omega
        · have HZE : Hid (∀ v : Int, 0 ≤ v → v < n → rd zs v = if inA es 0 v = true then rd F v else -1) := Lib.hid (fun v v0 vn => by
            obtain ⟨i, rfl⟩ := Int.eq_ofNat_of_zero_le v0
            rw [HZ.out i (by omega), if_pos (by omega)])
          have HUZ : Hid (Up n es s 1048560 zs) := Lib.hid ⟨hzl, fun v v0 vn => by rw [HZE.out v v0 vn]; split; exact HUF.out.lo v v0 vn; omega, fun v v0 vn => by rw [HZE.out v v0 vn]; split; exact HUF.out.hi v v0 vn; omega, fun v v0 vn h => by
            rw [HZE.out v v0 vn] at h ⊢
            split at h
            · rename_i hi; rw [if_pos hi]; exact HUF.out.up v v0 vn h
            · omega⟩
          obtain ⟨x0, x1, xf⟩ := blk_cells2 HXq.out
          have hxl := blk_lt HXq.out
          go_wp2_with fail
          refine (part50 n 0 es A c wr hel HLE.out (Lib.hid (Kd.C_below HK.out HBq.out))).mono ?_
          rintro e w7 ⟨A1, c1, rfl, hle1, hC1, hb⟩
          have HX7 := Lib.hid (blk_keep hb HXq.out)
          have HB7 := Lib.hid (below_self HBq.out hb)
          have HR7 := Lib.hid (HRq.out.keep hb)
          have HS7 := Lib.hid (HSq.out.keep hb)
          have HC7 := Lib.hid hC1
          have HL7 := Lib.hid hle1
          clear hb hC1 hle1 x0 x1 xf hxl
          go_wp2_with fail
          refine (spread49 n 1048560 G2 c2 (pt es 0) A1 c1 zs w7 (HG.out.pt 0) HL7.out (by omega) hzl hc2 HUZ.out.lo HUZ.out.hi HC7 HS7).mono ?_
          rintro e w8 ⟨GS, cS, S, rfl, hcS, _, hrow, hSp, hb⟩
          have HSp := Lib.hid hSp
          have HS8 := Lib.hid hrow
          have HX8 := Lib.hid (blk_keep hb HX7.out)
          have HB8 := Lib.hid (below_self HB7.out hb)
          have HR8 := Lib.hid (HR7.out.keep hb)
          clear hb hSp hrow
          have HUSS := Lib.hid (Sp.up HUZ.out HSp.out)
          go_wp2_with fail
          refine (merge48 n G GS cg cS F S w8 hn1 hn16 HUF.out.l HSp.out.yl hcg hcS HR8 HS8).mono ?_
          rintro e w9 ⟨G9, c9, rfl, hc9, _, hrow, hb⟩
          have HO9 := Lib.hid hrow
          have HS9 := Lib.hid (HS8.out.keep hb)
          have HX9 := Lib.hid (blk_keep hb HX8.out)
          have HB9 := Lib.hid (below_self HB8.out hb)
          clear hb hrow
          have HUO := Lib.hid (Up.mrg (HUF.out.mono (Y := 3145680) (by omega)) (HUSS.out.mono (Y := 3145680) (by omega)))
          have HOF := Lib.hid (mrg_left HUF.out HUSS.out)
          have HOS := Lib.hid (mrg_right HUF.out HUSS.out)
          go_wp2_with fail
          go_loopw [12, 13] (fun v8 v9 wt => ∃ (k G cg : Nat) (O : List Int), 1 ≤ k ∧ k ≤ 16 ∧ n ≤ cg ∧ v8 = .slice (some ⟨G, 0, none⟩) n cg ∧ v9 = .int .i64 k ∧ Hid (Up n es s 3145680 O) ∧ Hid (Under n O F) ∧ Hid (Under n O S) ∧ Hid (Wys n es S O k) ∧ Hid (RowAt wt G O) ∧ Hid (Below w9.heap.size w9 wt)) (fun _ v9 _ => 16 - (intOf v9).toNat)
          case atStart => exact ⟨1, G9, c9, _, Nat.le_refl _, by omega, hc9, rfl, rfl, HUO, HOF, HOS, Lib.hid (Wys.start _ _ _ _), HO9, Lib.hid (Below.refl _ _)⟩
          case round =>
            obtain ⟨k, Go_, co, O, hk1, hk, hco, rfl, rfl, HUO2, HOF2, HOS2, HWO, HOr, HBt⟩ := hrel
            have HXt := Lib.hid (blk_keep HBt.out HX9.out)
            have HSt := Lib.hid (HS9.out.keep HBt.out)
            have HBu := Lib.hid (below_self HB9.out HBt.out)
            by_cases hlt : k < 16
            · obtain ⟨x0, x1, xf⟩ := blk_cells2 HXt.out
              have hxl := blk_lt HXt.out
              go_wp2_with fail
              refine (part50 n k es A c wr hel HLE.out (Lib.hid (Kd.C_below HK.out HBu.out))).mono ?_
              rintro e w10 ⟨A1, c1, rfl, hle1, hC1, hb⟩
              have HB10 := Lib.hid (below_self HBt.out hb)
              have HR10 := Lib.hid (HOr.out.keep hb)
              have HS10 := Lib.hid (HSt.out.keep hb)
              have HC10 := Lib.hid hC1
              have HL10 := Lib.hid hle1
              clear hb hC1 hle1 x0 x1 xf hxl
              go_wp2_with fail
              refine (spread49 n 2097120 GS cS (pt es k) A1 c1 S w10 (HG.out.pt k) HL10.out (by omega) HSp.out.yl hcS HUSS.out.lo (fun v v0 vn => by have := HUSS.out.hi v v0 vn; omega) HC10 HS10).mono ?_
              rintro e w11 ⟨g11, c11, ys, rfl, hc11, _, hrow, hSp, hb⟩
              have HSp2 := Lib.hid hSp
              have HY11 := Lib.hid hrow
              have HB11 := Lib.hid (below_self HB10.out hb)
              have HR11 := Lib.hid (HR10.out.keep hb)
              clear hb hSp hrow
              have HUY := Lib.hid (Sp.up (HUSS.out.mono (Y := 2097120) (by omega)) HSp2.out)
              go_wp2_with fail
              refine (merge48 n Go_ g11 co c11 O ys w11 hn1 hn16 HUO2.out.l HSp2.out.yl hco hc11 HR11 HY11).mono ?_
              rintro e w12 ⟨g12, c12, rfl, hc12, _, hrow, hb⟩
              have HR12 := Lib.hid hrow
              have HB12 := Lib.hid (below_self HB11.out hb)
              clear hb hrow
              have HUM := Lib.hid (Up.mrg HUO2.out (HUY.out.mono (Y := 3145680) (by omega)))
              have hml := mrg_left HUO2.out HUY.out
              have hmr := mrg_right HUO2.out HUY.out
              have HWY2 := Lib.hid (HWO.out.step HSp2.out hml hmr)
              have HOF3 := Lib.hid (Under.trans hml HOF2.out)
              have HOS3 := Lib.hid (Under.trans hml HOS2.out)
              clear hml hmr
              go_wp2_with fail
              go_round
              case rel => exact ⟨k + 1, g12, c12, _, by omega, by omega, hc12, rfl, by go_num, HUM, HOF3, HOS3, HWY2, HR12, HB12⟩
              case measure => simp [intOf]; omega
            · obtain rfl : k = 16 := by omega
              go_wp2_with fail
              go_ret2
              exact ⟨Go_, co, O, rfl, hco, Ac.make (by omega) (by omega) HSS.out HWY.out HUN.out HZE.out HSp.out HOF2.out HOS2.out HWO.out HUO2.out, HOr.out, HBu.out⟩

end Go.Proofs.Ytaaohfhcimndmaa.M
