import Derived.Test.YtaneaabmgnanbaaKMlost
import Derived.LoopTactic
import Derived.RegionTactic
import Derived.BigRegion
import Derived.BigQuiet
import Derived.Deep.WholeRow
import Derived.Deep.MidRow
namespace Go.Proofs.Ytaneaabmgnanbaa.M
open Go.RowKit Go.Proofs.YtaneaabmgnanbaaW.PrintWords Go.Proofs.YtaneaabmgnanbaaW.PrintLast Go.Proofs.YtaneaabmgnanbaaW.PrintMore Go.Proofs.Ytaneaabmgnanbaa.PAdvBack
open Go.Proofs.Ytaneaabmgnanbaa.Rd (S129 z129 k129 k129_open k129_mk k129_mkM info129 flood_read.f)
set_option linter.unusedVariables false
set_option linter.unusedSimpArgs false
theorem some31_any (A : Option Addr) (ls L : List Int) (c m : Nat) (hL : Hid (L = ls.take m)) (hn : ls.length ≤ c) (w : World) : Calls Try.prog 31 #[.slice A ls.length c, .int .i64 m] w fun e w' => e = .returned (.slice A L.length c) ∧ w = w' := by
 have hu := Try.underlying56
 have hL := hL.out
 subst hL
 rw [List.length_take]
 by_cases h : ls.length ≤ m
 · have e : min m ls.length = ls.length := Nat.min_eq_right h
   rw [e]
   go_enter Try.func31, Try.ntmps31
   go_wp2
   go_ret
   exact ⟨rfl, rfl⟩
 · have e : min m ls.length = m := Nat.min_eq_left (by omega)
   rw [e]
   go_enter Try.func31, Try.ntmps31
   go_wp2
   go_ret
   exact ⟨rfl, rfl⟩
theorem new1_db : (newR 1).db.2 1 = true := by decide +kernel
theorem new2_db : (newR 2).db.2 2 = true := by decide +kernel
theorem new2_only : ∀ j, j < 16 → (newR 2).db.2 j = true → j = 2 := by decide +kernel
theorem kx1 : Kx (newR 1) 1 := kx_new (by omega) new1_db
theorem kx2 : Kx (newR 2) 2 := kx_new (by omega) new2_db
def fkA (l : List S24) : Rt := sentR (dnP (knownR (sentR (upP (newR 1) 5 11 1)) 5 (l.take 2)) 5)
theorem knA (l : List S24) : Kn (knownR (sentR (upP (newR 1) 5 11 1)) 5 (l.take 2)) 5 1 := kn_known (by omega) (by omega) _ _ (kn_up kx1 (by omega) 11 1)
theorem fkA_ok (l : List S24) : Kx (fkA l) 1 := kx_dn (knA l) (by omega)
set_option maxHeartbeats 4000000 in
set_option maxRecDepth 100000 in
theorem FloodLost_walk (A : Option Addr) (ca : Nat) (l : List S24) (B : Option Addr) (cb : Nat) (m : List Int) (w : World) (hla : l.length ≤ ca) (hC : Kd.C k24 w A l.length l) (hlb : m.length ≤ cb) (hD : Kd.C (Kd.int .i64) w B m.length m) :
 Calls Try.prog 12 #[.slice A l.length ca, .slice B m.length cb] w fun e w' => e = .returned (.bool true) ∧ Below w.heap.size w w' := by
 have hu65 := Try.underlying65
 have hu72 := Try.underlying72
 have hu43 := Try.underlying43
 have hu56 := Try.underlying56
 have HLA := Lib.hid hC
 obtain ⟨M, HM⟩ : ∃ M, Hid (M = m.take 6) := ⟨_, Lib.hid rfl⟩
 have hMl : M.length ≤ 1000 := by rw [HM.out, List.length_take]; omega
 have HLM : Hid (∀ W, Below w.heap.size w W → Kd.C (Kd.int .i64) W B M.length M) := Lib.hid (by rw [HM.out]; exact fun W hW => Kd.C_below (take_C 6 hD) hW)
 have HKA := Lib.hid (knA l)
 have HXA := Lib.hid (fkA_ok l)
 have HFL := Lib.hid (flS_ok (fkA_ok l) kx2 new2_only M)
 clear hC hD
 go_enter Try.func12, Try.ntmps12
 go_wp2_with fail
 refine (floodLives30 w).mono ?_
 rintro e w0 ⟨rfl, hb⟩
 have HB0 := Lib.hid hb
 clear hb
 go_wp2_with fail
 refine (floodNew29 1 w0 (by omega)).mono ?_
 rintro e w1 ⟨pA, qA, rfl, h1, h2, h3, h4, h5⟩
 have HPA := Lib.hid (Nat.le_trans HB0.out.size h1)
 have HQA := Lib.hid (Nat.le_trans HB0.out.size h2)
 have HCA := Lib.hid h3
 have HDA := Lib.hid h4
 have HB1 := Lib.hid (below_self HB0.out h5)
 clear h1 h2 h3 h4 h5
 go_wp2_with fail
 refine (floodNew29 2 w1 (by omega)).mono ?_
 rintro e w2 ⟨pB, qB, rfl, h1, h2, h3, h4, h5⟩
 have HC : Hid (TkC w w2.heap.size pA qA pB qB) := Lib.hid ⟨Nat.ne_of_lt (Nat.lt_of_lt_of_le HCA.out.lt h1), Nat.ne_of_lt (Nat.lt_of_lt_of_le HDA.out.lt h2), ⟨HPA.out, Nat.lt_of_lt_of_le HCA.out.lt h5.size⟩, ⟨HQA.out, Nat.lt_of_lt_of_le HDA.out.lt h5.size⟩, ⟨Nat.le_trans HB1.out.size h1, h3.lt⟩, ⟨Nat.le_trans HB1.out.size h2, h4.lt⟩⟩
 have HT := Lib.hid (twoNew (w := w) HCA.out HDA.out h3 h4 h5)
 have HB2 := Lib.hid (below_self HB1.out h5)
 clear h1 h2 h3 h4 h5
 go_wp2_with fail
 refine (Up32 pA qA 5 11 1 (newR 1) w2 w (by omega) (by omega) (by omega) (by decide) (idle1.down 5 (by omega)) (upX_one idle1 (by omega) 11 1) idle1.ok (Lib.hid HT.out.CA) (Lib.hid HT.out.DA) HB2 HC.out.pa.1 HC.out.qa.1).mono ?_
 rintro e w3 ⟨v3, rfl, hR, hC, hD, hK, hB⟩
 obtain ⟨A3, c3, rfl, _, _⟩ := Kd.R_reads hR
 have HT3 : Hid (TwoAt w3 pA qA pB qB (sentR (upP (newR 1) 5 11 1)) (newR 2)) := Lib.hid (HT.out.setA HC.out.p HC.out.q hC hD hK)
 have HB3 := Lib.hid hB
 clear hR hC hD hK hB
 go_wp2_with fail
 refine (known40 pA qA 5 A ca l _ w3 w (by omega) (kn_up kx1 (by omega) 11 1).ri hla HLA (Lib.hid HT3.out.CA) (Lib.hid HT3.out.DA) HB3 HC.out.pa.1 HC.out.qa.1).mono ?_
 rintro e w5 ⟨rfl, hC, hD, hK, hB⟩
 have HT5 := Lib.hid (HT3.out.setA HC.out.p HC.out.q hC hD hK)
 have HB5 := Lib.hid hB
 clear hC hD hK hB
 go_wp2_with fail
 refine (Down33 pA qA 5 _ w5 w (by omega) HKA.out.ri.up (zero_one HKA.out.ri.inv.one (by omega) HKA.out.ri.up) HKA.out.ri.inv.ok (Lib.hid HT5.out.CA) (Lib.hid HT5.out.DA) HB5 HC.out.pa.1 HC.out.qa.1).mono ?_
 rintro e w7 ⟨v7, rfl, hR, hC, hD, hK, hB⟩
 obtain ⟨A7, c7, rfl, _, _⟩ := Kd.R_reads hR
 have HT7 : Hid (TwoAt w7 pA qA pB qB (fkA l) (newR 2)) := Lib.hid (HT5.out.setA HC.out.p HC.out.q hC hD hK)
 have HB7 := Lib.hid hB
 clear hR hC hD hK hB
 go_wp2_with fail
 refine (some31_any B m M cb 6 HM hlb w7).mono ?_
 rintro e w8 ⟨rfl, rfl⟩
 go_wp2_with fail
 refine (meet38 2 pA qA pB qB 0 3 1 2 (fkA l) (newR 2) B cb M w7 w (by omega) (by omega) (by omega) hMl HXA.out.idle idle2 (by omega) (by omega) (by rw [HXA.out.id]; decide) (by decide) ⟨(HFL.out 0 (by omega)).1, (HFL.out 0 (by omega)).2.1⟩ (TkC.of HC.out HT7.out) HLM HT7.out HB7.out).mono ?_
 rintro e w9 ⟨rfl, hT, hb⟩
 have HT9 : Hid (TwoAt w9 pA qA pB qB (flS M (fkA l) (newR 2) 0).a (flS M (fkA l) (newR 2) 0).b) := Lib.hid hT
 have HB9 := Lib.hid hb
 clear hT hb
 obtain ⟨fl, Hfl⟩ : ∃ f, Hid (f = flS M (fkA l) (newR 2)) := ⟨_, Lib.hid rfl⟩
 rw [← Hfl.out] at HT9 HFL
 have HFS : Hid (∀ k, fl (k + 1) = itr [] 0 3 2 (tkS (fl k) (5 * ((k : Int) + 1)) 0 3)) := Lib.hid (by rw [Hfl.out]; exact fun k => rfl)
 go_wp2_with fail
 go_loopw [7] (fun v7 wr => ∃ (k : Nat) (nw : Int), k ≤ 4 ∧ nw = 5 * ((k : Int) + 1) ∧ v7 = .int .i64 nw ∧ Hid (TwoAt wr pA qA pB qB (fl k).a (fl k).b) ∧ Hid (Below w.heap.size w wr)) (fun v _ => 40 - (intOf v).toNat)
 case atStart => exact ⟨0, 5, by omega, by omega, rfl, HT9, HB9⟩
 case round =>
  obtain ⟨k, nw, hk, hnw, rfl, HTr, HBr⟩ := hrel
  obtain ⟨s, Hs⟩ : ∃ s, Hid (s = fl k) := ⟨_, Lib.hid rfl⟩
  rw [← Hs.out] at HTr
  have hfk := HFL.out k (by omega)
  rw [← Hs.out] at hfk
  obtain ⟨f1, f2, ⟨f3, f4, f5⟩, f6, f7, f8⟩ := hfk
  have HE1 := Lib.hid f1
  have HPO := Lib.hid f3
  have HO1 := Lib.hid f4
  have HO2 := Lib.hid f5
  have HN1 := Lib.hid f6
  have HN2 := Lib.hid f7
  have HDN := Lib.hid f8
  clear f1 f2 f3 f4 f5 f6 f7 f8
  by_cases hlt : k < 4
  · have hle : nw ≤ 20 := by omega
    have hn5 : 5 ≤ nw := by omega
    have HTK := Lib.hid (tkS_ok HPO.out (now := nw) (by omega) (by omega))
    have HS1 := Lib.hid (tk_snt (i := 0) (by omega) HPO.out.a HO1.out nw)
    have HS2 := Lib.hid (tk_snt (i := 3) (by omega) HPO.out.b HO2.out nw)
    have hnx := HFS.out k
    rw [← Hs.out, ← hnw] at hnx
    have HEN := Lib.hid (HFL.out (k + 1) (by omega))
    rw [hnx] at HEN
    have HNX := Lib.hid hnx
    clear hnx
    have HNW := Lib.hid hnw
    clear hnw
    go_wp2_with fail
    refine (Tick37 pA qA nw s.a wr w (by omega) (by omega) (by rw [HN1.out, HNW.out]; omega) HPO.out.a.inv.ok (Lib.hid HTr.out.CA) (Lib.hid HTr.out.DA) HBr HC.out.pa.1 HC.out.qa.1).mono ?_
    rw [HS1.out]
    rintro e w10 ⟨v10, rfl, hR, hC, hD, hK, hB⟩
    have HTt : Hid (TwoAt w10 pA qA pB qB (sentR (tkR s.a nw)) s.b) := Lib.hid (HTr.out.setA HC.out.p HC.out.q hC hD hK)
    have HBt := Lib.hid hB
    have HR10 := Lib.hid hR
    have HSZ := Lib.hid hK.1
    clear hR hC hD hK hB
    go_wp2_with fail
    refine (Tick37 pB qB nw s.b w10 w (by omega) (by omega) (by rw [HN2.out, HNW.out]; omega) HPO.out.b.inv.ok (Lib.hid HTt.out.CB) (Lib.hid HTt.out.DB) HBt HC.out.pb.1 HC.out.qb.1).mono ?_
    rw [HS2.out]
    rintro e w11 ⟨v11, rfl, hR, hC, hD, hK, hB⟩
    have HT11 : Hid (TwoAt w11 pA qA pB qB (tkS s nw 0 3).a (tkS s nw 0 3).b) := Lib.hid (HTt.out.setB HC.out.p HC.out.q hC hD hK)
    have HB11 := Lib.hid hB
    have HRB : Hid (Row w11 wr.heap.size v11 (tkS s nw 0 3).bk) := Lib.hid (Kd.R_mono (Kd.R_lower hR HSZ.out) (fun k hk => Nat.le_trans HSZ.out hk))
    have HRA : Hid (Row w11 wr.heap.size v10 (tkS s nw 0 3).o) := Lib.hid (Row.keep2 HR10.out hK HTr.out.CB.lt HTr.out.DB.lt)
    have HZ11 := Lib.hid (Nat.le_trans HSZ.out hK.1)
    clear hR hC hD hK hB
    go_wp2_with fail
    refine (talk41 2 wr.heap.size pA qA pB qB 0 3 (tkS s nw 0 3) v10 v11 none 0 [] w11 w (by omega) (by omega) (by omega) (by simp) HTK.out ⟨HEN.out.1, HEN.out.2.1⟩ rfl (TkC.of HC.out HTr.out) HZ11.out (Lib.hid (fun W _ => Kd.C_nil (Kd.int .i64) W)) HT11.out HB11.out HRA.out HRB.out).mono ?_
    rintro e w12 ⟨rfl, hT, hb⟩
    have HT12 : Hid (TwoAt w12 pA qA pB qB (fl (k + 1)).a (fl (k + 1)).b) := Lib.hid (by rw [HNX.out]; exact hT)
    have HB12 := Lib.hid hb
    clear hT hb
    go_wp2_with fail
    go_round
    case rel => exact ⟨k + 1, nw + 5, by omega, by have := HNW.out; omega, by go_num, HT12, HB12⟩
    case measure => simp [intOf]; omega
  · have hgt : ¬ nw ≤ 20 := by omega
    have hk4 : 0 < k := by omega
    obtain ⟨T, hV, hDn⟩ := HDN.out hk4
    have HEND := Lib.hid (Dn.pair hV hDn)
    clear hV hDn
    obtain ⟨ra, Hra⟩ : ∃ r, Hid (r = s.a) := ⟨_, Lib.hid rfl⟩
    obtain ⟨rb, Hrb⟩ : ∃ r, Hid (r = s.b) := ⟨_, Lib.hid rfl⟩
    have HLI : Hid (listOf ra.db = listOf rb.db) := Lib.hid (by rw [Hra.out, Hrb.out]; exact HEND.out.2.2.1)
    have HRSA : Hid (rests ra = true) := Lib.hid (by rw [Hra.out]; exact HEND.out.2.2.2.1)
    have HRSB : Hid (rests rb = true) := Lib.hid (by rw [Hrb.out]; exact HEND.out.2.2.2.2)
    have HRA : Hid (DbOk ra.db) := Lib.hid (by rw [Hra.out]; exact HPO.out.a.inv.ok.db)
    have HRB : Hid (DbOk rb.db) := Lib.hid (by rw [Hrb.out]; exact HPO.out.b.inv.ok.db)
    rw [← Hra.out, ← Hrb.out] at HTr
    go_wp2_with fail
    refine (List34 pA qA ra wr HRA.out (Lib.hid HTr.out.CA) (Lib.hid HTr.out.DA)).mono ?_
    rintro e w10 ⟨v, rfl, hR, hb⟩
    obtain ⟨E8, e8, rfl, _, hC8⟩ := Kd.R_reads hR
    have HC8 := Lib.hid hC8
    have HT10 := Lib.hid (HTr.out.below hb)
    have HB10 := Lib.hid (below_self HBr.out hb)
    clear hR hb hC8
    go_wp2_with fail
    refine (List34 pB qB rb w10 HRB.out (Lib.hid HT10.out.CB) (Lib.hid HT10.out.DB)).mono ?_
    rintro e w11 ⟨v, rfl, hR, hb⟩
    obtain ⟨E9, e9, rfl, _, hC9⟩ := Kd.R_reads hR
    have HC9 : Hid (Kd.C k24 w11 E9 (listOf ra.db).length (listOf ra.db)) := Lib.hid (by rw [HLI.out]; exact hC9)
    have HC8b := Lib.hid (Kd.C_below HC8.out hb)
    have HT11 := Lib.hid (HT10.out.below hb)
    have HB11 := Lib.hid (below_self HB10.out hb)
    clear hR hb hC9
    rw [← HLI.out]
    go_wp2_with fail
    refine (EqualFunc26 E8 E9 e8 e9 (listOf ra.db) w11 (by have := list_le ra.db; omega) (list_len HRA.out) HC8b HC9).mono ?_
    rintro e w12 ⟨rfl, hb⟩
    have HT12 := Lib.hid (HT11.out.below hb)
    have HB12 := Lib.hid (below_self HB11.out hb)
    clear hb
    go_wp2_with fail
    refine (Rests36 pA qA ra w12 (Lib.hid HT12.out.CA)).mono ?_
    rw [HRSA.out]
    rintro e w13 ⟨rfl, hb⟩
    have HT13 := Lib.hid (HT12.out.below hb)
    have HB13 := Lib.hid (below_self HB12.out hb)
    clear hb
    go_wp2_with fail
    refine (Rests36 pB qB rb w13 (Lib.hid HT13.out.CB)).mono ?_
    rw [HRSB.out]
    rintro e w14 ⟨rfl, hb⟩
    have HB14 := Lib.hid (below_self HB13.out hb)
    clear hb
    go_wp2_with fail
    go_ret
    exact ⟨rfl, HB14.out⟩
end Go.Proofs.Ytaneaabmgnanbaa.M
