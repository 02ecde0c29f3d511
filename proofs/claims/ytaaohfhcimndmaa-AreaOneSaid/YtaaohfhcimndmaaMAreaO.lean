/- Own lemmas: the walk of AreaOne. -/
import Derived.Test.YtaaohfhcimndmaaMalives
import Derived.LoopTactic
import Derived.BigQuiet
import Derived.RegionTactic
import Derived.BigRegion
namespace Go.Proofs.Ytaaohfhcimndmaa.M
open Go.RowKit Go.Proofs.YtaaohfhcimndmaaW.PrintWords Go.Proofs.YtaaohfhcimndmaaW.PrintLast Go.Proofs.YtaaohfhcimndmaaW.PrintMore 
set_option linter.unusedVariables false
set_option linter.unusedSimpArgs false

open Go.Proofs.Ytaaohfhcimndmaa.PAreaAnnounced
def setA (a : Int) (e : S59) : S59 := ⟨a, e.f1, e.f2, e.f3⟩
theorem setA_ok {n : Nat} {L : List S59} (h : AOk n L) {a : Int} (a0 : 0 ≤ a) (a1 : a < 16) : AOk n (L.map (setA a)) := by
  refine ⟨h.n1, h.n16, by rw [List.length_map]; exact h.len, fun e he => ?_⟩
  obtain ⟨x, hx, rfl⟩ := List.mem_map.1 he
  obtain ⟨_, _, h1⟩ := h.ok x hx
  exact ⟨a0, a1, h1⟩
theorem pt_all (L : List S59) (a : Int) : pt (L.map (setA a)) a = fl (L.map (setA a)) := by
  unfold pt fl
  congr 1
  rw [List.filter_eq_self]
  intro e he
  obtain ⟨x, hx, rfl⟩ := List.mem_map.1 he
  simp [setA]
theorem one_same {n : Nat} {L : List S59} {a s : Int} {O D : List Int} (a0 : 0 ≤ a) (a1 : a < 16) (hA : Ac n (L.map (setA a)) s O) (hD : Dist n (fl (L.map (setA a))) s D) : O = D := by
  have h1 := hA.l
  have h2 := hD.cl
  refine List.ext_getElem (by omega) (fun i hi hj => ?_)
  have key : rd O i = rd D i := by
    have l1 := hA.lo i (by omega) (by omega)
    have l2 := hD.clo i (by omega) (by omega)
    rcases Int.lt_or_le (rd D i) 0 with h | h
    · rcases Int.lt_or_le (rd O i) 0 with h' | h'
      · omega
      · have := hD.min (hA.up i (by omega) (by omega) h')
        omega
    · have hr := hD.cr i (by omega) (by omega) h
      rw [← pt_all] at hr
      have h3 := hA.in_ a i _ a0 a1 hr (by omega) (by omega)
      have := hD.min (hA.up i (by omega) (by omega) h3.1)
      omega
  simpa [rd, List.getD_eq_getElem?_getD, hi, hj] using key
theorem Equal29n (n : Nat) (A B : Option Addr) (c d : Nat) (xs ys : List Int) (w : World) (hx : xs.length = n) (hy : ys.length = n) (hb : n ≤ 1000000) (hc : n ≤ c) (hd : n ≤ d) (hA : Kd.C (Kd.int .i64) w A xs.length xs) (hB : Kd.C (Kd.int .i64) w B ys.length ys) :
    Calls Try.prog 29 #[.slice A n c, .slice B n d] w fun e w' => e = .returned (.bool (decide (xs = ys))) ∧ Drawn0 w w' := by
  have := Equal29 A B c d xs ys w (by omega) (by omega) (by omega) hA hB
  rwa [hx, hy] at this
theorem R59_set {W : World} {g n cap base : Nat} {ok : Nat → Prop} {xs : List S59} (h : Kd.R k59 59 W base ok (.slice (some ⟨g, 0, none⟩) n cap) xs) {i : Nat} (hi : i < xs.length) (a : Int) :
    Kd.R k59 59 (W.setCell ⟨g, i * 4, none⟩ (.int .i64 a)) base ok (.slice (some ⟨g, 0, none⟩) n cap) (xs.set i (setA a (xs.getD i z59))) ∧ W.grownBy (W.setCell ⟨g, i * 4, none⟩ (.int .i64 a)) (some g) := by
  obtain ⟨hn, hle, hC⟩ := Kd.R_reads' h
  obtain ⟨ad, e, hcell⟩ := C59_cell hC (by omega)
  obtain rfl : ⟨g, 0, none⟩ = ad := by injection e
  obtain ⟨c0, c1, c2, c3⟩ := hcell i hi
  rw [add_plain] at c0 c1 c2 c3
  exact Kd.R_seg (d := k59) h (i : Int) (by omega) (by omega) (c := [.int .i64 (xs.getD i z59).f0, .int .i64 (xs.getD i z59).f1, .int .i64 (xs.getD i z59).f2, .int .i64 (xs.getD i z59).f3]) (seg := [.int .i64 a]) (j := 0) rfl (fun j u hu => by
    rcases j with _ | _ | _ | _ | j
    · simp at hu; subst hu; exact c0
    · simp at hu; subst hu; exact c1
    · simp at hu; subst hu; exact c2
    · simp at hu; subst hu; exact c3
    · simp at hu) (show 0 + 1 ≤ 4 from by decide) (x' := setA a (xs.getD i z59)) (okp := fun _ => False) (k59_mkM _ _ _ (setA a (xs.getD i z59))) (fun _ hk => hk.elim)

set_option maxHeartbeats 1000000 in
set_option maxRecDepth 100000 in
theorem AreaOne_walk (a : Int) (A : Option Addr) (c : Nat) (es : List S59) (u f : Int) (w : World) (hle : es.length ≤ c) (hK : Kd.C k59 w A es.length es) :
    Calls Try.prog 8 #[.agg #[.int .i64 a, .slice A es.length c], .int .i64 u, .int .i64 f] w fun e w' => e = .returned (.bool true) ∧ Below w.heap.size w w' := by
  have hu25 := Try.underlying25
  have hu53 := Try.underlying53
  have hu55 := Try.underlying55
  have hu59 := Try.underlying59
  have HK := Lib.hid hK
  have HLE := Lib.hid hle
  obtain ⟨hN1, hN8, _⟩ := fitN_range a
  have har : wrap64 ((IntKind.u64.wrap u).tmod 3) = fitV 3 u := fitV_eq (N := 3) (by omega) (by omega) u
  have hr3 := fitV_range (N := 3) (by omega) u
  obtain ⟨ar, Har⟩ : ∃ v, Hid (v = fitV 3 u) := ⟨_, Lib.hid rfl⟩
  rw [← Har.out] at har hr3
  clear hK hle
  go_enter Try.func8, Try.ntmps8
  go_wp2_with fail
  have HX := Lib.hid (blk_alloc w (.cells #[.int .i64 a, .slice A es.length c] 55))
  have HB := Lib.hid (below_alloc (Below.refl w.heap.size w) (.cells #[.int .i64 a, .slice A es.length c] 55))
  obtain ⟨p, Hp⟩ : ∃ b, Hid (b = w.heap.size) := ⟨_, Lib.hid rfl⟩
  have HPW := Lib.hid (show w.heap.size ≤ p from by rw [Hp.out]; omega)
  rw [← Hp.out] at HX
  refine (alives25 _).mono ?_
  rw [← Hp.out]
  rintro e w0 ⟨rfl, hb0⟩
  have HB0 := Lib.hid (below_self HB.out hb0)
  have HX0 := Lib.hid (blk_keep hb0 HX.out)
  clear hb0
  go_wp2_with fail
  refine (lives18 _).mono ?_
  rintro e w1 ⟨rfl, hb1⟩
  have HB1 := Lib.hid (below_self HB0.out hb1)
  have HX1 := Lib.hid (blk_keep hb1 HX0.out)
  clear hb1
  obtain ⟨x0, x1, xf⟩ := blk_cells2 HX1.out
  have hxl := blk_lt HX1.out
  go_wp2_with fail
  refine (parted26 a 8 es A c w1 (by omega) HLE.out (Lib.hid (Kd.C_below HK.out HB1.out))).mono ?_
  rintro e w2 ⟨A1, c1, rfl, hl1, hR1, hb2⟩
  obtain ⟨N, HN⟩ : ∃ n, Hid (n = fitN a) := ⟨_, Lib.hid rfl⟩
  rw [← HN.out] at hN1 hN8 hl1 hR1
  rw [← HN.out]
  obtain ⟨L, HL⟩ : ∃ l, Hid (l = (es.take 8).map (fitA N)) := ⟨_, Lib.hid rfl⟩
  rw [← HL.out] at hl1 hR1
  rw [← HL.out]
  have hLl : L.length ≤ 8 := by rw [HL.out, List.length_map, List.length_take]; omega
  have HOK : Hid (AOk N L) := by rw [HL.out]; exact Lib.hid (fitA_ok hN1 hN8 (by rw [List.length_take]; omega))
  have HB2 := Lib.hid (below_self HB1.out hb2)
  have HX2 := Lib.hid (blk_keep hb2 HX1.out)
  clear hb2 x0 x1 xf hxl
  obtain ⟨x0, x1, xf⟩ := blk_cells2 HX2.out
  have hxl := blk_lt HX2.out
  have HR1 := Lib.hid hR1
  have HL1 := Lib.hid hl1
  clear hl1 hR1
  go_upto_region 4 with (fail)
  have HX3 := Lib.hid (blk_set (blk_set HX2.out 0 (.int .i64 N)) 1 (.slice A1 L.length c1))
  have HB3 := Lib.hid (Below.setCell (Below.setCell HB2.out (p := ⟨p, 0, none⟩) HPW.out (.int .i64 N)) (p := ⟨p, 1, none⟩) HPW.out (.slice A1 L.length c1))
  have HR3 := Lib.hid (Kd.R_set (Kd.R_set HR1.out HX2.out (by decide) 0 (.int .i64 N)) (blk_set HX2.out 0 (.int .i64 N)) (by decide) 1 (.slice A1 L.length c1))
  clear x0 x1 xf hxl
  generalize (w2.setCell ⟨p, 0, none⟩ (.int .i64 N)).setCell ⟨p, 1, none⟩ (.slice A1 L.length c1) = w3 at HX3 HB3 HR3 ⊢
  have HC3 := Lib.hid (Kd.R_reads' HR3.out).2.2

  obtain ⟨x0, x1, xf⟩ := blk_cells2 HX3.out
  have hxl := blk_lt HX3.out
  go_wp2_with fail
  clear x0 x1 xf hxl
  go_loopw [23] (fun v wr => ∃ (k : Nat) (M : List S59), k ≤ L.length ∧ v = .int .i64 k ∧ M.length = L.length ∧ Hid (∀ i, i < L.length → M.getD i z59 = if i < k then setA ar (L.getD i z59) else L.getD i z59) ∧ Hid (wr.heap[p]? = some (.cells #[.int .i64 N, .slice A1 L.length c1] 55 (0, 0))) ∧ Hid (Below w.heap.size w wr) ∧ Hid (Kd.R k59 59 wr w1.heap.size (fun k => w1.heap.size ≤ k) (.slice A1 L.length c1) M)) (fun v _ => L.length - (intOf v).toNat)
  case atStart => exact ⟨0, L, Nat.zero_le _, rfl, rfl, Lib.hid (fun i hi => by rw [if_neg (by omega)]), HX3, HB3, HR3⟩
  case round =>
    obtain ⟨k, M, hk, rfl, hML, HM, HXr, HBr, HRr⟩ := hrel
    by_cases hlt : k < L.length
    · obtain ⟨g, cap, e, hgb, hgl, cs, hcs⟩ := Kd.R_form HRr.out (by omega)
      rw [hML] at e
      injection e with e1 e2 e3
      subst e1
      subst e3
      obtain ⟨hz, hle1, hC⟩ := Kd.R_reads' HRr.out
      clear hz e2
      obtain ⟨ad, e, hcell⟩ := C59_cell hC (by omega)
      obtain rfl : ⟨g, 0, none⟩ = ad := by injection e
      obtain ⟨k0, hk0⟩ := hcell k (by omega)
      clear hk0
      rw [add_plain] at k0
      have kf := blk_free hcs (k * 4)
      obtain ⟨x0, x1, xf⟩ := blk_cells2 HXr.out
      have hxl := blk_lt HXr.out
      have HGW := Lib.hid (show w.heap.size ≤ g from Nat.le_trans HB1.out.size hgb)
      have HGX := Lib.hid (show p ≠ g from fun h => by
        subst h
        have := HXr.out.symm.trans hcs
        simp at this)
      have hkl : (k : Int) < L.length := by omega
      obtain ⟨q0, Hq0⟩ : ∃ v, Hid (v = (M.getD k z59).f0) := ⟨_, Lib.hid rfl⟩
      rw [← Hq0.out] at k0
      clear hC hcell e hcs
      go_wp2_with fail
      have hset := R59_set HRr.out (i := k) (by omega) ar
      have HR7 := Lib.hid hset.1
      have HX7 := Lib.hid ((Below.heap_setCell wr ⟨g, k * 4, none⟩ (.int .i64 ar) _ HGX.out).trans HXr.out)
      have HB7 := Lib.hid (Below.setCell HBr.out (p := ⟨g, k * 4, none⟩) HGW.out (.int .i64 ar))
      have HM7 : Hid (∀ i, i < L.length → (M.set k (setA ar (M.getD k z59))).getD i z59 = if i < k + 1 then setA ar (L.getD i z59) else L.getD i z59) := Lib.hid (fun i hi => by
        have hmk := HM.out k hlt
        rw [if_neg (show ¬ k < k by omega)] at hmk
        by_cases e : i = k
        · subst e
          rw [if_pos (show i < i + 1 by omega), hmk]
          simp [List.getD_eq_getElem?_getD, List.getElem?_set, show i < M.length by omega]
        · have : (M.set k (setA ar (M.getD k z59))).getD i z59 = M.getD i z59 := by
            simp [List.getD_eq_getElem?_getD, List.getElem?_set_ne (fun h : k = i => e h.symm)]
          rw [this, HM.out i hi]
          by_cases e2 : i < k
          · rw [if_pos e2, if_pos (show i < k + 1 by omega)]
          · rw [if_neg e2, if_neg (show ¬ i < k + 1 by omega)])
      go_round
      case rel => exact ⟨k + 1, _, by omega, by go_num, by rw [List.length_set]; exact hML, HM7, HX7, HB7, HR7⟩
      case measure => simp [intOf]; omega
    · have hme : M = L.map (setA ar) := by
        refine List.ext_getElem (by rw [List.length_map]; exact hML) (fun i h1 h2 => ?_)
        have h3 := HM.out i (by omega)
        rw [if_pos (by omega)] at h3
        have h4 : i < L.length := by omega
        simpa [List.getD_eq_getElem?_getD, h1, h4] using h3
      have HOKM : Hid (AOk N M) := by rw [hme]; exact Lib.hid (setA_ok HOK.out hr3.1 (by omega))
      have HME := Lib.hid hme
      obtain ⟨hz, hl4, hC4⟩ := Kd.R_reads' HRr.out
      clear hz
      have HC4 := Lib.hid hC4
      rw [← hML] at HXr hl4
      have HL1 := Lib.hid hl4
      clear hme hC4 hl4 hML
      obtain ⟨x0, x1, xf⟩ := blk_cells2 HXr.out
      have hxl := blk_lt HXr.out
      have hel := HOKM.out.len
      go_wp2_with fail
      refine (flat27 N M A1 c1 wr hel HL1.out HC4).mono ?_
      rintro e w4 ⟨A2, c2, rfl, hl2, hC2, hb⟩
      have HB4 := Lib.hid (below_self HBr.out hb)
      have HX4 := Lib.hid (blk_keep hb HXr.out)
      have HC4 := Lib.hid (Kd.C_below HC4.out hb)
      clear hb hl2 hC2 x0 x1 xf hxl
      go_wp2_with fail
      refine (node20 N f A2 (fl M).length c2 w4 hN1 hN8).mono ?_
      rintro e w5 ⟨rfl, hb⟩
      have hf0 := fitV_range hN1 f
      obtain ⟨s, hsv⟩ : ∃ v : Nat, fitV N f = v := ⟨(fitV N f).toNat, by omega⟩
      rw [hsv]
      have hsn : s < N := by omega
      have HB5 := Lib.hid (below_self HB4.out hb)
      have HX5 := Lib.hid (blk_keep hb HX4.out)
      have HC5 := Lib.hid (Kd.C_below HC4.out hb)
      clear hb hf0 hsv
      obtain ⟨x0, x1, xf⟩ := blk_cells2 HX5.out
      have hxl := blk_lt HX5.out
      go_wp2_with fail
      refine (Acosts28 N s M A1 c1 w5 HOKM.out hsn HL1.out HC5).mono ?_
      rintro e w6 ⟨GO, cO, O, rfl, hcO, hA, hrow, hb⟩
      have HA := Lib.hid hA
      have HO6 := Lib.hid hrow
      have HB6 := Lib.hid (below_self HB5.out hb)
      have HX6 := Lib.hid (blk_keep hb HX5.out)
      have HC6 := Lib.hid (Kd.C_below HC5.out hb)
      clear hb hA hrow x0 x1 xf hxl
      obtain ⟨x0, x1, xf⟩ := blk_cells2 HX6.out
      have hxl := blk_lt HX6.out
      go_wp2_with fail
      refine (flat27 N M A1 c1 w6 hel HL1.out HC6).mono ?_
      rintro e w7 ⟨A3, c3, rfl, hl3, hC3, hb⟩
      have HB7 := Lib.hid (below_self HB6.out hb)
      have HX7 := Lib.hid (blk_keep hb HX6.out)
      have HC7 := Lib.hid (Kd.C_below HC6.out hb)
      have HO7 := Lib.hid (HO6.out.keep hb)
      have HL7 := Lib.hid hl3
      have HF7 := Lib.hid hC3
      clear hb hl3 hC3 x0 x1 xf hxl
      go_wp2_with fail
      refine (Costs21 N s (fl M) A3 c3 w7 HOKM.out.fl hsn HL7.out HF7).mono ?_
      rintro e w8 ⟨GD, cost, rfl, hD, _, hGc, hb⟩
      have HD := Lib.hid hD
      have HD8 := Lib.hid (RowAt.whole hGc)
      have HB8 := Lib.hid (below_self HB7.out hb)
      have HX8 := Lib.hid (blk_keep hb HX7.out)
      have HC8 := Lib.hid (Kd.C_below HC7.out hb)
      have HO8 := Lib.hid (HO7.out.keep hb)
      clear hb hD hGc
      obtain ⟨x0, x1, xf⟩ := blk_cells2 HX8.out
      have hxl := blk_lt HX8.out
      go_wp2_with fail
      clear x0 x1 xf hxl
      have HEQ := Lib.hid (one_same hr3.1 (by omega) (by rw [← HME.out]; exact HA.out) (by rw [← HME.out]; exact HD.out))
      have hN0 : 0 < N := by omega
      refine (Equal29n N (some ⟨GO, 0, none⟩) (some ⟨GD, 0, none⟩) cO N O cost w8 HA.out.l HD.out.cl (by omega) hcO (Nat.le_refl _) (HO8.out.C (by rw [HA.out.l]; omega)) (HD8.out.C (by rw [HD.out.cl]; omega))).mono ?_
      rw [decide_eq_true HEQ.out]
      rintro e w9 ⟨rfl, hb⟩
      have HB9 := Lib.hid (below_self HB8.out hb.below)
      clear hb
      go_wp2_with fail
      go_ret
      exact ⟨rfl, HB9.out⟩

end Go.Proofs.Ytaaohfhcimndmaa.M
