import Derived.Test.YtaneaabmgnanbaaKMFd
import Derived.LoopTactic
import Derived.RegionTactic
import Derived.BigRegion
import Derived.BigQuiet
import Derived.Deep.WholeRow
import Derived.Deep.MidRow
namespace Go.Proofs.Ytaneaabmgnanbaa.M
open Go.RowKit Go.Proofs.YtaneaabmgnanbaaW.PrintWords Go.Proofs.YtaneaabmgnanbaaW.PrintLast Go.Proofs.YtaneaabmgnanbaaW.PrintMore Go.Proofs.Ytaneaabmgnanbaa.PAdvBack
open Go.Proofs.Ytaneaabmgnanbaa.Rd (S129 z129 k129 k129_open k129_mk k129_mkM info129 flood_read.f)
set_option linter.unusedVariables false
set_option linter.unusedSimpArgs false
theorem new1_db : (newR 1).db.2 1 = true := by decide +kernel
theorem new2_db : (newR 2).db.2 2 = true := by decide +kernel
theorem kx1 : Kx (newR 1) 1 := kx_new (by omega) new1_db
theorem kx2 : Kx (newR 2) 2 := kx_new (by omega) new2_db
def fkA (l : List S24) : Rt := sentR (dnP (knownR (sentR (upP (newR 1) 5 11 1)) 5 (l.take 2)) 5)
def fkB (l : List S24) : Rt := sentR (dnP (knownR (sentR (upP (newR 2) 6 12 1)) 6 (l.take 2)) 6)
theorem knA (l : List S24) : Kn (knownR (sentR (upP (newR 1) 5 11 1)) 5 (l.take 2)) 5 1 := kn_known (by omega) (by omega) _ _ (kn_up kx1 (by omega) 11 1)
theorem knB (l : List S24) : Kn (knownR (sentR (upP (newR 2) 6 12 1)) 6 (l.take 2)) 6 2 := kn_known (by omega) (by omega) _ _ (kn_up kx2 (by omega) 12 1)
theorem fkA_ok (l : List S24) : Kx (fkA l) 1 := kx_dn (knA l) (by omega)
theorem fkB_ok (l : List S24) : Kx (fkB l) 2 := kx_dn (knB l) (by omega)
set_option maxHeartbeats 4000000 in
set_option maxRecDepth 100000 in
theorem FloodTwo_walk (A : Option Addr) (ca : Nat) (l : List S24) (B : Option Addr) (cb : Nat) (m : List S24) (w : World) (hla : l.length ≤ ca) (hC : Kd.C k24 w A l.length l) (hlb : m.length ≤ cb) (hD : Kd.C k24 w B m.length m) :
 Calls Try.prog 11 #[.slice A l.length ca, .slice B m.length cb] w fun e w' => e = .returned (.bool true) ∧ Below w.heap.size w w' := by
 have hu65 := Try.underlying65
 have hu72 := Try.underlying72
 have hu43 := Try.underlying43
 have HLA := Lib.hid hC
 have HLB := Lib.hid hD
 have HKA := Lib.hid (knA l)
 have HKB := Lib.hid (knB m)
 have HXA := Lib.hid (fkA_ok l)
 have HXB := Lib.hid (fkB_ok m)
 clear hC hD
 go_enter Try.func11, Try.ntmps11
 go_wp2_with fail
 refine (floodLives30 w).mono ?_
 rintro e w0 ⟨rfl, hb⟩
 have HB0 := Lib.hid hb
 clear hb
 go_wp2_with fail
 refine (floodNew29 1 w0 (by omega)).mono ?_
 rintro e w1 ⟨pA, qA, rfl, h1, h2, h3, h4, h5⟩
 have HPA := Lib.hid (Nat.le_trans HB0.out.size h1)
 have HQA := Lib.hid (Nat.le_trans HB0.out.size h2)
 have HCA := Lib.hid h3
 have HDA := Lib.hid h4
 have HB1 := Lib.hid (below_self HB0.out h5)
 clear h1 h2 h3 h4 h5
 go_wp2_with fail
 refine (floodNew29 2 w1 (by omega)).mono ?_
 rintro e w2 ⟨pB, qB, rfl, h1, h2, h3, h4, h5⟩
 have HC : Hid (TkC w w2.heap.size pA qA pB qB) := Lib.hid ⟨Nat.ne_of_lt (Nat.lt_of_lt_of_le HCA.out.lt h1), Nat.ne_of_lt (Nat.lt_of_lt_of_le HDA.out.lt h2), ⟨HPA.out, Nat.lt_of_lt_of_le HCA.out.lt h5.size⟩, ⟨HQA.out, Nat.lt_of_lt_of_le HDA.out.lt h5.size⟩, ⟨Nat.le_trans HB1.out.size h1, h3.lt⟩, ⟨Nat.le_trans HB1.out.size h2, h4.lt⟩⟩
 have HT := Lib.hid (twoNew (w := w) HCA.out HDA.out h3 h4 h5)
 have HB2 := Lib.hid (below_self HB1.out h5)
 clear h1 h2 h3 h4 h5
 go_wp2_with fail
 refine (Up32 pA qA 5 11 1 (newR 1) w2 w (by omega) (by omega) (by omega) (by decide) (idle1.down 5 (by omega)) (upX_one idle1 (by omega) 11 1) idle1.ok (Lib.hid HT.out.CA) (Lib.hid HT.out.DA) HB2 HC.out.pa.1 HC.out.qa.1).mono ?_
 rintro e w3 ⟨v3, rfl, hR, hC, hD, hK, hB⟩
 obtain ⟨A3, c3, rfl, _, _⟩ := Kd.R_reads hR
 have HT3 : Hid (TwoAt w3 pA qA pB qB (sentR (upP (newR 1) 5 11 1)) (newR 2)) := Lib.hid (HT.out.setA HC.out.p HC.out.q hC hD hK)
 have HB3 := Lib.hid hB
 clear hR hC hD hK hB
 go_wp2_with fail
 refine (Up32 pB qB 6 12 1 (newR 2) w3 w (by omega) (by omega) (by omega) (by decide) (idle2.down 6 (by omega)) (upX_one idle2 (by omega) 12 1) idle2.ok (Lib.hid HT3.out.CB) (Lib.hid HT3.out.DB) HB3 HC.out.pb.1 HC.out.qb.1).mono ?_
 rintro e w4 ⟨v4, rfl, hR, hC, hD, hK, hB⟩
 obtain ⟨A4, c4, rfl, _, _⟩ := Kd.R_reads hR
 have HT4 : Hid (TwoAt w4 pA qA pB qB (sentR (upP (newR 1) 5 11 1)) (sentR (upP (newR 2) 6 12 1))) := Lib.hid (HT3.out.setB HC.out.p HC.out.q hC hD hK)
 have HB4 := Lib.hid hB
 clear hR hC hD hK hB
 go_wp2_with fail
 refine (known40 pA qA 5 A ca l _ w4 w (by omega) (kn_up kx1 (by omega) 11 1).ri hla HLA (Lib.hid HT4.out.CA) (Lib.hid HT4.out.DA) HB4 HC.out.pa.1 HC.out.qa.1).mono ?_
 rintro e w5 ⟨rfl, hC, hD, hK, hB⟩
 have HT5 := Lib.hid (HT4.out.setA HC.out.p HC.out.q hC hD hK)
 have HB5 := Lib.hid hB
 clear hC hD hK hB
 go_wp2_with fail
 refine (known40 pB qB 6 B cb m _ w5 w (by omega) (kn_up kx2 (by omega) 12 1).ri hlb HLB (Lib.hid HT5.out.CB) (Lib.hid HT5.out.DB) HB5 HC.out.pb.1 HC.out.qb.1).mono ?_
 rintro e w6 ⟨rfl, hC, hD, hK, hB⟩
 have HT6 := Lib.hid (HT5.out.setB HC.out.p HC.out.q hC hD hK)
 have HB6 := Lib.hid hB
 clear hC hD hK hB
 go_wp2_with fail
 refine (Down33 pA qA 5 _ w6 w (by omega) HKA.out.ri.up (zero_one HKA.out.ri.inv.one (by omega) HKA.out.ri.up) HKA.out.ri.inv.ok (Lib.hid HT6.out.CA) (Lib.hid HT6.out.DA) HB6 HC.out.pa.1 HC.out.qa.1).mono ?_
 rintro e w7 ⟨v7, rfl, hR, hC, hD, hK, hB⟩
 obtain ⟨A7, c7, rfl, _, _⟩ := Kd.R_reads hR
 have HT7 := Lib.hid (HT6.out.setA HC.out.p HC.out.q hC hD hK)
 have HB7 := Lib.hid hB
 clear hR hC hD hK hB
 go_wp2_with fail
 refine (Down33 pB qB 6 _ w7 w (by omega) HKB.out.ri.up (zero_one HKB.out.ri.inv.one (by omega) HKB.out.ri.up) HKB.out.ri.inv.ok (Lib.hid HT7.out.CB) (Lib.hid HT7.out.DB) HB7 HC.out.pb.1 HC.out.qb.1).mono ?_
 rintro e w8 ⟨v8, rfl, hR, hC, hD, hK, hB⟩
 obtain ⟨A8, c8, rfl, _, _⟩ := Kd.R_reads hR
 have HT8 : Hid (TwoAt w8 pA qA pB qB (fkA l) (fkB m)) := Lib.hid (HT7.out.setB HC.out.p HC.out.q hC hD hK)
 have HB8 := Lib.hid hB
 clear hR hC hD hK hB
 have HEND := Lib.hid (two_end HXA.out HXB.out (by omega) (by omega) (by omega) (pa := 0) (pb := 3) (by omega) (by omega) 1 2)
 have HOK := Lib.hid (itr_ok (lost := []) (pa := 0) (pb := 3) (by omega) (by omega) (mtS_ok HXA.out.idle HXB.out.idle (pa := 0) (pb := 3) (by omega) (by omega) 1 2) 3).1
 go_wp2_with fail
 refine (meet38 3 pA qA pB qB 0 3 1 2 (fkA l) (fkB m) none 0 [] w8 w (by omega) (by omega) (by omega) (by simp) HXA.out.idle HXB.out.idle (by omega) (by omega) (by rw [HXA.out.id]; decide) (by rw [HXB.out.id]; decide) ⟨HEND.out.1, HEND.out.2.1⟩ (TkC.of HC.out HT8.out) (Lib.hid (fun W _ => Kd.C_nil (Kd.int .i64) W)) HT8.out HB8.out).mono ?_
 rintro e w9 ⟨rfl, hT, hb⟩
 have HT9 := Lib.hid hT
 have HB9 := Lib.hid hb
 clear hT hb
 obtain ⟨ra, Hra⟩ : ∃ r, Hid (r = (itr [] 0 3 3 (mtS (fkA l) (fkB m) 1 2 0 3)).a) := ⟨_, Lib.hid rfl⟩
 obtain ⟨rb, Hrb⟩ : ∃ r, Hid (r = (itr [] 0 3 3 (mtS (fkA l) (fkB m) 1 2 0 3)).b) := ⟨_, Lib.hid rfl⟩
 have HLI : Hid (listOf ra.db = listOf rb.db) := Lib.hid (by rw [Hra.out, Hrb.out]; exact HEND.out.2.2.1)
 have HRSA : Hid (rests ra = true) := Lib.hid (by rw [Hra.out]; exact HEND.out.2.2.2.1)
 have HRSB : Hid (rests rb = true) := Lib.hid (by rw [Hrb.out]; exact HEND.out.2.2.2.2)
 have HRA : Hid (DbOk ra.db) := Lib.hid (by rw [Hra.out]; exact HOK.out.a.inv.ok.db)
 have HRB : Hid (DbOk rb.db) := Lib.hid (by rw [Hrb.out]; exact HOK.out.b.inv.ok.db)
 rw [← Hra.out, ← Hrb.out] at HT9
 go_wp2_with fail
 refine (List34 pA qA ra w9 HRA.out (Lib.hid HT9.out.CA) (Lib.hid HT9.out.DA)).mono ?_
 rintro e w10 ⟨v, rfl, hR, hb⟩
 obtain ⟨E8, e8, rfl, _, hC8⟩ := Kd.R_reads hR
 have HC8 := Lib.hid hC8
 have HT10 := Lib.hid (HT9.out.below hb)
 have HB10 := Lib.hid (below_self HB9.out hb)
 clear hR hb hC8
 go_wp2_with fail
 refine (List34 pB qB rb w10 HRB.out (Lib.hid HT10.out.CB) (Lib.hid HT10.out.DB)).mono ?_
 rintro e w11 ⟨v, rfl, hR, hb⟩
 obtain ⟨E9, e9, rfl, _, hC9⟩ := Kd.R_reads hR
 have HC9 : Hid (Kd.C k24 w11 E9 (listOf ra.db).length (listOf ra.db)) := Lib.hid (by rw [HLI.out]; exact hC9)
 have HC8b := Lib.hid (Kd.C_below HC8.out hb)
 have HT11 := Lib.hid (HT10.out.below hb)
 have HB11 := Lib.hid (below_self HB10.out hb)
 clear hR hb hC9
 rw [← HLI.out]
 go_wp2_with fail
 refine (EqualFunc26 E8 E9 e8 e9 (listOf ra.db) w11 (by have := list_le ra.db; omega) (list_len HRA.out) HC8b HC9).mono ?_
 rintro e w12 ⟨rfl, hb⟩
 have HT12 := Lib.hid (HT11.out.below hb)
 have HB12 := Lib.hid (below_self HB11.out hb)
 clear hb
 go_wp2_with fail
 refine (Rests36 pA qA ra w12 (Lib.hid HT12.out.CA)).mono ?_
 rw [HRSA.out]
 rintro e w13 ⟨rfl, hb⟩
 have HT13 := Lib.hid (HT12.out.below hb)
 have HB13 := Lib.hid (below_self HB12.out hb)
 clear hb
 go_wp2_with fail
 refine (Rests36 pB qB rb w13 (Lib.hid HT13.out.CB)).mono ?_
 rw [HRSB.out]
 rintro e w14 ⟨rfl, hb⟩
 have HB14 := Lib.hid (below_self HB13.out hb)
 clear hb
 go_wp2_with fail
 go_ret
 exact ⟨rfl, HB14.out⟩
end Go.Proofs.Ytaneaabmgnanbaa.M
