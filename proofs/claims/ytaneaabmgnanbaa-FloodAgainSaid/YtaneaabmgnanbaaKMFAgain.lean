import Derived.Test.YtaneaabmgnanbaaKMFc
import Derived.LoopTactic
import Derived.RegionTactic
import Derived.BigRegion
import Derived.BigQuiet
import Derived.Deep.WholeRow
import Derived.Deep.MidRow
namespace Go.Proofs.Ytaneaabmgnanbaa.M
open Go.RowKit Go.Proofs.YtaneaabmgnanbaaW.PrintWords Go.Proofs.YtaneaabmgnanbaaW.PrintLast Go.Proofs.YtaneaabmgnanbaaW.PrintMore Go.Proofs.Ytaneaabmgnanbaa.PAdvBack
open Go.Proofs.Ytaneaabmgnanbaa.Rd (S129 z129 k129 k129_open k129_mk k129_mkM info129 flood_read.f)
set_option linter.unusedVariables false
set_option linter.unusedSimpArgs false
deriving instance DecidableEq for S28
deriving instance DecidableEq for S24
def fgS : Nat → Rt × Rt
 | 0 => (newR 1, newR 2)
 | k + 1 => (sentR (dnP (itr [] 0 3 3 (mtS (fgS k).1 (fgS k).2 1 2 0 3)).a 0), sentR (dnP (itr [] 0 3 3 (mtS (fgS k).1 (fgS k).2 1 2 0 3)).b 3))
def fgM (k : Nat) : Pr := itr [] 0 3 3 (mtS (fgS k).1 (fgS k).2 1 2 0 3)
def fgE (k : Nat) : Pr := itr [] 7 3 4 (mtS (newR 1) (fgS k).2 1 2 7 3)
theorem fgS_succ (k : Nat) : fgS (k + 1) = (sentR (dnP (fgM k).a 0), sentR (dnP (fgM k).b 3)) := rfl
theorem oneUp_other {r : Rt} {i : Nat} (ho : OneUp r) (hi : i < 8) (hu : (r.port i).up = true) : ∀ m, m < 8 → ((zeroP r i).port m).up = false := fun m hm => by
 show (upd r.port i zPrt m : Prt).up = false
 by_cases e : m = i
 · rw [e, upd_self]; rfl
 · rw [upd_ne _ _ e]
   cases h : (r.port m).up with
   | false => rfl
   | true => exact absurd (ho m hm i hi h hu) e
theorem zero_one {r : Rt} {i : Nat} (ho : OneUp r) (hi : i < 8) (hu : (r.port i).up = true) : OneUp (zeroP r i) := fun a ha b hb h1 _ => by
 rw [oneUp_other ho hi hu a ha] at h1; cases h1
theorem dn_idle {r : Rt} {i : Nat} (hi : i < 8) (h : RI r i) : Idle (sentR (dnP r i)) := by
 have h1 : RtOk (zeroP r i) := ⟨h.inv.ok.id, h.inv.ok.seq, h.inv.ok.now, h.inv.ok.db⟩
 have h2 := own_ok h1
 have hU : Ups (zeroP r i) (dnP r i) := ups_own _
 refine ⟨⟨h2.id, h2.seq, h2.now, h2.db⟩, fun m hm => ?_, fun _ _ _ _ => rfl, ?_⟩
 · show ((dnP r i).port m).up = false
   rw [hU m]; exact oneUp_other h.inv.one hi h.up m hm
 · show (dnP r i).db.2 (dnP r i).id.toNat = true
   exact put_has (d := (zeroP r i).db) h.inv.own
theorem TkC.of {w0 w : World} {b0 pA qA pB qB : Nat} {a b : Rt} (h : TkC w0 b0 pA qA pB qB) (T : TwoAt w pA qA pB qB a b) : TkC w0 w.heap.size pA qA pB qB := ⟨h.p, h.q, ⟨h.pa.1, T.CA.lt⟩, ⟨h.qa.1, T.DA.lt⟩, ⟨h.pb.1, T.CB.lt⟩, ⟨h.qb.1, T.DB.lt⟩⟩
theorem fg_end : ∀ k, k < 4 → (fgM k).o.length = 0 ∧ (fgM k).bk.length = 0 := by decide +kernel
theorem fgE_end : ∀ k, k < 5 → (fgE k).o.length = 0 ∧ (fgE k).bk.length = 0 := by decide +kernel
theorem fgE_list : ∀ k, k < 5 → listOf (fgE k).b.db = listOf (fgE k).a.db := by decide +kernel
theorem fgE_edges : ∀ k, k < 5 → (edgesOf (fgE k).b.db 16).length = 2 := by decide +kernel
theorem fg_ends {k : Nat} (h : k < 4) : (fgM k).o = [] ∧ (fgM k).bk = [] := ⟨List.eq_nil_of_length_eq_zero (fg_end k h).1, List.eq_nil_of_length_eq_zero (fg_end k h).2⟩
theorem fgE_ends {k : Nat} (h : k < 5) : (fgE k).o = [] ∧ (fgE k).bk = [] := ⟨List.eq_nil_of_length_eq_zero (fgE_end k h).1, List.eq_nil_of_length_eq_zero (fgE_end k h).2⟩
theorem fgS_idle : ∀ k, Idle (fgS k).1 ∧ Idle (fgS k).2
 | 0 => ⟨idle1, idle2⟩
 | k + 1 => by
  obtain ⟨h1, h2⟩ := fgS_idle k
  have h := (itr_ok (lost := []) (pa := 0) (pb := 3) (by omega) (by omega) (mtS_ok h1 h2 (pa := 0) (pb := 3) (by omega) (by omega) 1 2) 3).1
  rw [fgS_succ]
  exact ⟨dn_idle (by omega) h.a, dn_idle (by omega) h.b⟩
theorem fgM_ok (k : Nat) : PrOk 0 3 (fgM k) := (itr_ok (lost := []) (pa := 0) (pb := 3) (by omega) (by omega) (mtS_ok (fgS_idle k).1 (fgS_idle k).2 (pa := 0) (pb := 3) (by omega) (by omega) 1 2) 3).1
theorem fgE_ok (k : Nat) : PrOk 7 3 (fgE k) := (itr_ok (lost := []) (pa := 7) (pb := 3) (by omega) (by omega) (mtS_ok idle1 (fgS_idle k).2 (pa := 7) (pb := 3) (by omega) (by omega) 1 2) 4).1
theorem fgS_ids : ∀ k, k < 5 → (fgS k).1.id = 1 ∧ (fgS k).2.id = 2 := by decide +kernel
theorem and_range (x : Int) {m : Nat} (hm : m < 9223372036854775808) : 0 ≤ bits .and .i64 x (m : Int) ∧ bits .and .i64 x (m : Int) ≤ m := by
 have h : bits .and .i64 x (m : Int) = IntKind.i64.wrap ((BitVec.ofInt 64 x &&& BitVec.ofInt 64 (m : Int)).toNat : Int) := rfl
 have h2 : (BitVec.ofInt 64 x &&& BitVec.ofInt 64 (m : Int)).toNat ≤ m := by
  rw [BitVec.toNat_and]
  refine Nat.le_trans Nat.and_le_right ?_
  rw [BitVec.ofInt_natCast, BitVec.toNat_ofNat]
  exact Nat.mod_le _ _
 rw [h, IntKind.wrap_i64]
 omega
set_option maxHeartbeats 4000000 in
set_option maxRecDepth 100000 in
theorem FloodAgain_walk (n : Int) (w : World) : Calls Try.prog 10 #[.int .i64 n] w fun e w' => e = .returned (.bool true) ∧ Below w.heap.size w w' := by
 have hu65 := Try.underlying65
 have hu72 := Try.underlying72
 go_enter Try.func10, Try.ntmps10
 go_wp2_with fail
 refine (floodLives30 w).mono ?_
 rintro e w0 ⟨rfl, hb⟩
 have HB0 := Lib.hid hb
 clear hb
 go_wp2_with fail
 refine (floodNew29 1 w0 (by omega)).mono ?_
 rintro e w1 ⟨pA, qA, rfl, h1, h2, h3, h4, h5⟩
 have HPA := Lib.hid (Nat.le_trans HB0.out.size h1)
 have HQA := Lib.hid (Nat.le_trans HB0.out.size h2)
 have HCA := Lib.hid h3
 have HDA := Lib.hid h4
 have HB1 := Lib.hid (below_self HB0.out h5)
 clear h1 h2 h3 h4 h5
 go_wp2_with fail
 refine (floodNew29 2 w1 (by omega)).mono ?_
 rintro e w2 ⟨pB, qB, rfl, h1, h2, h3, h4, h5⟩
 have HC : Hid (TkC w w2.heap.size pA qA pB qB) := Lib.hid ⟨Nat.ne_of_lt (Nat.lt_of_lt_of_le HCA.out.lt h1), Nat.ne_of_lt (Nat.lt_of_lt_of_le HDA.out.lt h2), ⟨HPA.out, Nat.lt_of_lt_of_le HCA.out.lt h5.size⟩, ⟨HQA.out, Nat.lt_of_lt_of_le HDA.out.lt h5.size⟩, ⟨Nat.le_trans HB1.out.size h1, h3.lt⟩, ⟨Nat.le_trans HB1.out.size h2, h4.lt⟩⟩
 have HT := Lib.hid (twoNew (w := w) HCA.out HDA.out h3 h4 h5)
 have HB2 := Lib.hid (below_self HB1.out h5)
 clear h1 h2 h3 h4 h5
 have hmr := and_range n (m := 3) (by omega)
 obtain ⟨mm, hm⟩ : ∃ x, bits .and .i64 n 3 = x := ⟨_, rfl⟩
 have hmr2 : 0 ≤ mm ∧ mm ≤ 3 := by rw [← hm]; exact hmr
 obtain ⟨hm0, hm1⟩ := hmr2
 clear hmr
 go_wp2_with fail
 go_loopw [19] (fun v19 wr => ∃ k : Nat, (k : Int) ≤ 1 + mm ∧ v19 = .int .i64 k ∧ Hid (TwoAt wr pA qA pB qB (fgS k).1 (fgS k).2) ∧ Hid (Below w.heap.size w wr)) (fun v _ => 30 - (intOf v).toNat)
 case atStart => exact ⟨0, by omega, rfl, HT, HB2⟩
 case round =>
  obtain ⟨k, hk, rfl, HTr, HBr⟩ := hrel
  by_cases hlt : (k : Int) < 1 + mm
  · have hk4 : k < 4 := by omega
    have HI1 := Lib.hid (fgS_idle k).1
    have HI2 := Lib.hid (fgS_idle k).2
    obtain ⟨hi1, hi2⟩ := fgS_ids k (by omega)
    have HN1 := Lib.hid hi1
    have HN2 := Lib.hid hi2
    clear hi1 hi2
    go_wp2_with fail
    refine (meet38 3 pA qA pB qB 0 3 1 2 (fgS k).1 (fgS k).2 none 0 [] wr w (by omega) (by omega) (by omega) (by simp) HI1.out HI2.out (by omega) (by omega) (by rw [HN1.out]; decide) (by rw [HN2.out]; decide) (fg_ends hk4) (TkC.of HC.out HTr.out) (Lib.hid (fun W _ => Kd.C_nil (Kd.int .i64) W)) HTr.out HBr.out).mono ?_
    rintro e w3 ⟨rfl, hT, hb⟩
    have HT3 : Hid (TwoAt w3 pA qA pB qB (fgM k).a (fgM k).b) := Lib.hid hT
    have HB3 := Lib.hid hb
    have HM := Lib.hid (fgM_ok k)
    clear hT hb
    go_wp2_with fail
    refine (Down33 pA qA 0 (fgM k).a w3 w (by omega) HM.out.a.up (zero_one HM.out.a.inv.one (by omega) HM.out.a.up) HM.out.a.inv.ok (Lib.hid HT3.out.CA) (Lib.hid HT3.out.DA) HB3 HPA.out HQA.out).mono ?_
    rintro e w4 ⟨v4, rfl, hR4, hC4, hD4, hK4, hB4⟩
    obtain ⟨A4, c4, rfl, _, _⟩ := Kd.R_reads hR4
    have HT4 := Lib.hid (HT3.out.setA HC.out.p HC.out.q hC4 hD4 hK4)
    have HB4 := Lib.hid hB4
    clear hR4 hC4 hD4 hK4 hB4
    go_wp2_with fail
    refine (Down33 pB qB 3 (fgM k).b w4 w (by omega) HM.out.b.up (zero_one HM.out.b.inv.one (by omega) HM.out.b.up) HM.out.b.inv.ok (Lib.hid HT4.out.CB) (Lib.hid HT4.out.DB) HB4 HC.out.pb.1 HC.out.qb.1).mono ?_
    rintro e w5 ⟨v5, rfl, hR5, hC5, hD5, hK5, hB5⟩
    obtain ⟨A5, c5, rfl, _, _⟩ := Kd.R_reads hR5
    have HT5 : Hid (TwoAt w5 pA qA pB qB (fgS (k + 1)).1 (fgS (k + 1)).2) := Lib.hid (HT4.out.setB HC.out.p HC.out.q hC5 hD5 hK5)
    have HB5 := Lib.hid hB5
    clear hR5 hC5 hD5 hK5 hB5
    go_wp2_with fail
    go_round
    case rel => exact ⟨k + 1, by omega, by go_num, HT5, HB5⟩
    case measure => simp [intOf]; omega
  · have hk5 : k < 5 := by omega
    have HI2 := Lib.hid (fgS_idle k).2
    obtain ⟨hi1, hi2⟩ := fgS_ids k (by omega)
    have HN2 := Lib.hid hi2
    clear hi1 hi2
    go_wp2_with fail
    refine (floodNew29 1 wr (by omega)).mono ?_
    rintro e w6 ⟨pC, qC, rfl, h1, h2, h3, h4, h5⟩
    have T6 := HTr.out.below h5
    have HTc : Hid (TwoAt w6 pC qC pB qB (newR 1) (fgS k).2) := Lib.hid ⟨h3, h4, T6.CB, T6.DB⟩
    have HCc : Hid (TkC w w6.heap.size pC qC pB qB) := Lib.hid ⟨Ne.symm (Nat.ne_of_lt (Nat.lt_of_lt_of_le HTr.out.CB.lt h1)), Ne.symm (Nat.ne_of_lt (Nat.lt_of_lt_of_le HTr.out.DB.lt h2)), ⟨Nat.le_trans HBr.out.size h1, h3.lt⟩, ⟨Nat.le_trans HBr.out.size h2, h4.lt⟩, ⟨HC.out.pb.1, T6.CB.lt⟩, ⟨HC.out.qb.1, T6.DB.lt⟩⟩
    have HB6 := Lib.hid (below_self HBr.out h5)
    clear h1 h2 h3 h4 h5 T6
    go_wp2_with fail
    refine (meet38 4 pC qC pB qB 7 3 1 2 (newR 1) (fgS k).2 none 0 [] w6 w (by omega) (by omega) (by omega) (by simp) idle1 HI2.out (by omega) (by omega) (by decide) (by rw [HN2.out]; decide) (fgE_ends hk5) HCc.out (Lib.hid (fun W _ => Kd.C_nil (Kd.int .i64) W)) HTc.out HB6.out).mono ?_
    rintro e w7 ⟨rfl, hT, hb⟩
    have HT7 : Hid (TwoAt w7 pC qC pB qB (fgE k).a (fgE k).b) := Lib.hid hT
    have HB7 := Lib.hid hb
    have HM := Lib.hid (fgE_ok k)
    have HLI := Lib.hid (fgE_list k hk5)
    have HED := Lib.hid (fgE_edges k hk5)
    obtain ⟨ra, Hra⟩ : ∃ r, Hid (r = (fgE k).a) := ⟨_, Lib.hid rfl⟩
    obtain ⟨rb, Hrb⟩ : ∃ r, Hid (r = (fgE k).b) := ⟨_, Lib.hid rfl⟩
    rw [← Hra.out, ← Hrb.out] at HT7 HLI
    rw [← Hrb.out] at HED
    have HRA : Hid (DbOk ra.db) := Lib.hid (by rw [Hra.out]; exact HM.out.a.inv.ok.db)
    have HRB : Hid (DbOk rb.db) := Lib.hid (by rw [Hrb.out]; exact HM.out.b.inv.ok.db)
    clear hT hb
    go_wp2_with fail
    refine (List34 pB qB rb w7 HRB.out (Lib.hid HT7.out.CB) (Lib.hid HT7.out.DB)).mono ?_
    rintro e w8 ⟨v, rfl, hR, hb⟩
    obtain ⟨A8, c8, rfl, _, hC8⟩ := Kd.R_reads hR
    have HC8 := Lib.hid hC8
    have HT8 := Lib.hid (HT7.out.below hb)
    have HB8 := Lib.hid (below_self HB7.out hb)
    clear hR hb hC8
    go_wp2_with fail
    refine (List34 pC qC ra w8 HRA.out (Lib.hid HT8.out.CA) (Lib.hid HT8.out.DA)).mono ?_
    rintro e w9 ⟨v, rfl, hR, hb⟩
    obtain ⟨A9, c9, rfl, _, hC9⟩ := Kd.R_reads hR
    have HC9 : Hid (Kd.C k24 w9 A9 (listOf rb.db).length (listOf rb.db)) := Lib.hid (by rw [HLI.out]; exact hC9)
    have HC8b := Lib.hid (Kd.C_below HC8.out hb)
    have HT9 := Lib.hid (HT8.out.below hb)
    have HB9 := Lib.hid (below_self HB8.out hb)
    clear hR hb hC9
    rw [← HLI.out]
    go_wp2_with fail
    refine (EqualFunc26 A8 A9 c8 c9 (listOf rb.db) w9 (by have := list_le rb.db; omega) (list_len HRB.out) HC8b HC9).mono ?_
    rintro e w10 ⟨rfl, hb⟩
    have HT10 := Lib.hid (HT9.out.below hb)
    have HB10 := Lib.hid (below_self HB9.out hb)
    clear hb
    go_wp2_with fail
    refine (Graph39 pB qB rb w10 HRB.out (Lib.hid HT10.out.CB) (Lib.hid HT10.out.DB)).mono ?_
    rintro e w11 ⟨A, c, rfl, hb⟩
    rw [HED.out]
    have HB11 := Lib.hid (below_self HB10.out hb)
    clear hb
    have hfl := fld46_1 2 A c w11
    go_wp2_with fail
    go_ret
    exact ⟨rfl, HB11.out⟩
end Go.Proofs.Ytaneaabmgnanbaa.M
