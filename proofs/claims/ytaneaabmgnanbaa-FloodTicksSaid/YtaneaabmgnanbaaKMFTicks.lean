import Derived.Test.YtaneaabmgnanbaaKMFc
import Derived.LoopTactic
import Derived.RegionTactic
import Derived.BigRegion
import Derived.BigQuiet
import Derived.Deep.WholeRow
import Derived.Deep.MidRow
namespace Go.Proofs.Ytaneaabmgnanbaa.M
open Go.RowKit Go.Proofs.YtaneaabmgnanbaaW.PrintWords Go.Proofs.YtaneaabmgnanbaaW.PrintLast Go.Proofs.YtaneaabmgnanbaaW.PrintMore Go.Proofs.Ytaneaabmgnanbaa.PAdvBack
open Go.Proofs.Ytaneaabmgnanbaa.Rd (S129 z129 k129 k129_open k129_mk k129_mkM info129 flood_read.f)
set_option linter.unusedVariables false
set_option linter.unusedSimpArgs false
def tk0 : Rt := upP (newR 1) 4 2 1
def tks : Nat → Rt
 | 0 => sentR tk0
 | k + 1 => sentR (tkR (tks k) ((k : Int) + 1))
def touts (k : Nat) : List Snt := sntTo (tkR (tks k) ((k : Int) + 1)) nil129 8
def encS (x : Snt) : Int × List Int := (x.port, encMsg x.l x.k)
def tfirst : List Snt := sends tk0 4 []
def tx0 : Snt := tfirst.headD ⟨0, [], []⟩
theorem tfirst_one : tfirst.length = 1 := by decide +kernel
theorem tfirst_eq : tfirst = [tx0] := by
 have h := tfirst_one
 unfold tx0
 match tfirst, h with
 | [x], _ => rfl
theorem trests : rests (tks 0) = false := by decide +kernel
theorem touts_all : (List.range 20).all (fun k => decide ((touts k).map encS = if (k + 1) % 5 = 0 then [encS tx0] else [])) = true := by decide +kernel
theorem touts_ok {k : Nat} (h : k < 20) : (touts k).map encS = if (k + 1) % 5 = 0 then [encS tx0] else [] := of_decide_eq_true (List.all_eq_true.1 touts_all k (List.mem_range.2 h))
theorem tks_db : ∀ k, (tks k).db = tk0.db
 | 0 => rfl
 | k + 1 => tks_db k
theorem tk0_ri : RI (tks 0) 4 := (upP_ok idle1 (by omega) 2 1).1
theorem rtok_tk {r : Rt} (h : RtOk r) {now : Int} (h0 : 0 ≤ now) (h1 : now ≤ 1000000000) : RtOk (sentR (tkR r now)) := ⟨h.id, h.seq, ⟨h0, h1⟩, h.db⟩
theorem now_tk (r : Rt) (now : Int) : (sentR (tkR r now)).now = now := rfl
theorem tk0_now : (tks 0).now = 0 := by
 show (upP (newR 1) 4 2 1).now = 0
 unfold upP
 rw [(postAll_keeps 4 _ _).1]; rfl
theorem tks_succ (k : Nat) : tks (k + 1) = sentR (tkR (tks k) ((k : Int) + 1)) := rfl
theorem tks_ok (k : Nat) : k ≤ 1000 → RtOk (tks k) ∧ (tks k).now = k := by
 induction k with
 | zero => intro _; exact ⟨tk0_ri.inv.ok, tk0_now⟩
 | succ k ih =>
  intro h
  obtain ⟨h1, h2⟩ := ih (by omega)
  rw [tks_succ]
  have hk : (k : Int) + 1 ≤ 1000000000 := by omega
  have hk0 : 0 ≤ (k : Int) + 1 := by omega
  generalize hm : (k : Int) + 1 = m at hk hk0 ⊢
  refine ⟨rtok_tk h1 hk0 hk, ?_⟩
  rw [now_tk, ← hm]; omega
theorem and_range (x : Int) {m : Nat} (hm : m < 9223372036854775808) : 0 ≤ bits .and .i64 x (m : Int) ∧ bits .and .i64 x (m : Int) ≤ m := by
 have h : bits .and .i64 x (m : Int) = IntKind.i64.wrap ((BitVec.ofInt 64 x &&& BitVec.ofInt 64 (m : Int)).toNat : Int) := rfl
 have h2 : (BitVec.ofInt 64 x &&& BitVec.ofInt 64 (m : Int)).toNat ≤ m := by
  rw [BitVec.toNat_and]
  refine Nat.le_trans Nat.and_le_right ?_
  rw [BitVec.ofInt_natCast, BitVec.toNat_ofNat]
  exact Nat.mod_le _ _
 rw [h, IntKind.wrap_i64]
 omega
set_option maxHeartbeats 4000000 in
set_option maxRecDepth 100000 in
theorem FloodTicks_walk (n : Int) (w : World) : Calls Try.prog 9 #[.int .i64 n] w fun e w' => e = .returned (.bool true) ∧ Below w.heap.size w w' := by
 have hu65 := Try.underlying65
 have hu72 := Try.underlying72
 go_enter Try.func9, Try.ntmps9
 go_wp2_with fail
 refine (floodNew29 1 w (by omega)).mono ?_
 rintro e w1 ⟨p, q, rfl, h1, h2, h3, h4, h5⟩
 have HPA := Lib.hid h1
 have HQA := Lib.hid h2
 have HCA := Lib.hid h3
 have HDA := Lib.hid h4
 have HB1 := Lib.hid h5
 clear h1 h2 h3 h4 h5
 go_wp2_with fail
 refine (floodLives30 w1).mono ?_
 rintro e w2 ⟨rfl, hb⟩
 have HC2 := Lib.hid (HCA.out.below hb)
 have HD2 := Lib.hid (HDA.out.below hb)
 have HB2 := Lib.hid (below_self HB1.out hb)
 clear hb
 have HUP := Lib.hid (upP_ok idle1 (i := 4) (by omega) 2 1)
 go_wp2_with fail
 refine (Up32 p q 4 2 1 (newR 1) w2 w (by omega) (by omega) (by omega) (by decide) (idle1.down 4 (by omega)) (upX_one idle1 (by omega) 2 1) idle1.ok HC2 HD2 HB2 HPA.out HQA.out).mono ?_
 rw [HUP.out.2.2]
 rintro e w3 ⟨v1, rfl, hR1, hC1, hD1, hK1, hB1⟩
 have hR1' : Kd.R k72 72 w3 w2.heap.size (fun b => w2.heap.size ≤ b) v1 [tx0] := by
  have := hR1
  rwa [show sends (upP (newR 1) 4 2 1) 4 [] = [tx0] from tfirst_eq] at this
 obtain ⟨A1, c1, rfl, _, _⟩ := Kd.R_reads hR1'
 have HR3 := Lib.hid hR1'
 have HC3 : Hid (RtC w3 p q (tks 0) noAck) := Lib.hid hC1
 have HD3 : Hid (BaseAt w3 q tk0.db.1 tk0.db.2) := Lib.hid hD1
 have HB3 := Lib.hid hB1
 have HPL := Lib.hid HC2.out.lt
 have HQL := Lib.hid HD2.out.lt
 have HTR := Lib.hid trests
 clear hR1 hR1' hC1 hD1 hK1 hB1
 go_wp2_with fail
 refine (Rests36 p q (tks 0) w3 HC3).mono ?_
 rw [HTR.out]
 rintro e w4 ⟨rfl, hb⟩
 have HC4 := Lib.hid (HC3.out.below hb)
 have HD4 := Lib.hid (HD3.out.below hb)
 have HB4 := Lib.hid (below_self HB3.out hb)
 have HR4 := Lib.hid (Kd.R_below HR3.out hb)
 clear hb
 have hmr := and_range n (m := 15) (by omega)
 obtain ⟨mm, hm⟩ : ∃ x, bits .and .i64 n 15 = x := ⟨_, rfl⟩
 have hmr2 : 0 ≤ mm ∧ mm ≤ 15 := by rw [← hm]; exact hmr
 obtain ⟨hm0, hm1⟩ := hmr2
 clear hmr
 go_wp2_with fail
 go_loopw [6] (fun v6 wr => ∃ k : Nat, (k : Int) ≤ 5 + mm ∧ v6 = .int .i64 ((k : Int) + 1) ∧ Hid (RtC wr p q (tks k) noAck) ∧ Hid (BaseAt wr q tk0.db.1 tk0.db.2) ∧ Hid (Below w.heap.size w wr) ∧ Hid (Row wr w2.heap.size (.slice A1 1 c1) [tx0])) (fun v _ => 30 - (intOf v).toNat)
 case atStart => exact ⟨0, by omega, rfl, HC4, HD4, HB4, HR4⟩
 case round =>
  obtain ⟨k, hk, rfl, HCr, HDr, HBr, HRr⟩ := hrel
  by_cases hlt : (k : Int) + 1 ≤ 5 + mm
  · have hk20 : k < 20 := by omega
    have HTO := Lib.hid (touts_ok hk20)
    obtain ⟨hok, hnow⟩ := tks_ok k (by omega)
    have HOK := Lib.hid hok
    have HNW := Lib.hid hnow
    clear hok hnow
    go_wp2_with fail
    refine (Tick37 p q ((k : Int) + 1) (tks k) wr w (by omega) (by omega) (by rw [HNW.out]; omega) HOK.out HCr (Lib.hid (by rw [tks_db k]; exact HDr.out)) HBr HPA.out HQA.out).mono ?_
    rintro e w5 ⟨v5, rfl, hR5, hC5, hD5, hK5, hB5⟩
    obtain ⟨os, Hos⟩ : ∃ x, Hid (x = touts k) := ⟨_, Lib.hid rfl⟩
    have hR5' : Kd.R k72 72 w5 wr.heap.size (fun b => wr.heap.size ≤ b) v5 os := by rw [Hos.out]; exact hR5
    rw [← Hos.out] at HTO
    obtain ⟨A5, c5, rfl, _, hC5c⟩ := Kd.R_reads hR5'
    have HOC := Lib.hid hC5c
    have HC5 : Hid (RtC w5 p q (tks (k + 1)) noAck) := Lib.hid hC5
    have HD5 : Hid (BaseAt w5 q tk0.db.1 tk0.db.2) := Lib.hid (by rw [tks_db k] at hD5; exact hD5)
    have HB5 := Lib.hid hB5
    have HR5 := Lib.hid (Row.keep2 HRr.out hK5 HPL.out HQL.out)
    clear hR5 hR5' hC5 hD5 hK5 hB5 hC5c
    by_cases h5 : (k + 1) % 5 = 0
    · have hone : os.map encS = [encS tx0] := by rw [HTO.out, if_pos h5]
      have hlen : os.length = 1 := by have := congrArg List.length hone; simpa using this
      obtain ⟨x5, hx5⟩ := List.length_eq_one_iff.1 hlen
      subst hx5
      have hxe : encS x5 = encS tx0 := by simpa using hone
      have hrem : ((k : Int) + 1) % 5 = 0 := by omega
      have hxp : x5.port = tx0.port := congrArg Prod.fst hxe
      have hxm : encMsg x5.l x5.k = encMsg tx0.l tx0.k := congrArg Prod.snd hxe
      obtain ⟨ad5, rfl, e0, e1⟩ := C72_one HOC.out
      obtain ⟨ad1, rfl, f0, f1⟩ := C72_one (Kd.R_reads' HR5.out).2.2
      rw [hxp] at e0
      rw [hxm] at e1
      obtain ⟨st, Hst⟩ : ∃ x', Hid (x' = strOfNums (encMsg tx0.l tx0.k)) := ⟨_, Lib.hid rfl⟩
      obtain ⟨pt, Hpt⟩ : ∃ x', Hid (x' = tx0.port) := ⟨_, Lib.hid rfl⟩
      rw [← Hst.out] at e1 f1
      rw [← Hpt.out] at e0 f0
      clear hone hxe hxp hxm h5
      go_upto_region 11 with (fail)
      go_quiet (fail)
      have hdn := pw_below_drewN (Below.refl w5.heap.size w5) nq
      go_wp2_with fail
      go_round
      case rel => exact ⟨k + 1, by omega, by go_num, Lib.hid (HC5.out.below hdn), Lib.hid (HD5.out.below hdn), Lib.hid (below_self HB5.out hdn), Lib.hid (Kd.R_below HR5.out hdn)⟩
      case measure => simp [intOf]; omega
    · have hnone : os = [] := by
       have : os.map encS = [] := by rw [HTO.out, if_neg h5]
       exact List.map_eq_nil_iff.1 this
      subst hnone
      have hrem : ¬ ((k : Int) + 1) % 5 = 0 := by omega
      have hrem2 : (((k : Int) + 1) % 5 == 0) = false := by simpa using hrem
      clear h5
      go_upto_region 11 with (fail)
      go_quiet (fail)
      have hdn := pw_below_drewN (Below.refl w5.heap.size w5) nq
      go_wp2_with fail
      go_round
      case rel => exact ⟨k + 1, by omega, by go_num, Lib.hid (HC5.out.below hdn), Lib.hid (HD5.out.below hdn), Lib.hid (below_self HB5.out hdn), Lib.hid (Kd.R_below HR5.out hdn)⟩
      case measure => simp [intOf]; omega
  · go_wp2_with fail
    go_ret
    exact ⟨rfl, HBr.out⟩
end Go.Proofs.Ytaneaabmgnanbaa.M
