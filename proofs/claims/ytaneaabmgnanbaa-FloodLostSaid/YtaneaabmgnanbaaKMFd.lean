import Derived.Test.YtaneaabmgnanbaaKMFc
import Derived.LoopTactic
import Derived.RegionTactic
import Derived.BigRegion
import Derived.BigQuiet
import Derived.Deep.WholeRow
import Derived.Deep.MidRow
section
namespace Go.Proofs.Ytaneaabmgnanbaa.M
open Go.RowKit Go.Proofs.YtaneaabmgnanbaaW.PrintWords Go.Proofs.YtaneaabmgnanbaaW.PrintLast Go.Proofs.YtaneaabmgnanbaaW.PrintMore Go.Proofs.Ytaneaabmgnanbaa.PAdvBack
open Go.Proofs.Ytaneaabmgnanbaa.Rd (S129 z129 k129 k129_open k129_mk k129_mkM info129 flood_read.f)
set_option linter.unusedVariables false
set_option linter.unusedSimpArgs false
theorem and_range (x : Int) {m : Nat} (hm : m < 9223372036854775808) : 0 ≤ bits .and .i64 x (m : Int) ∧ bits .and .i64 x (m : Int) ≤ m := by
 have h : bits .and .i64 x (m : Int) = IntKind.i64.wrap ((BitVec.ofInt 64 x &&& BitVec.ofInt 64 (m : Int)).toNat : Int) := rfl
 have h2 : (BitVec.ofInt 64 x &&& BitVec.ofInt 64 (m : Int)).toNat ≤ m := by
  rw [BitVec.toNat_and]
  refine Nat.le_trans Nat.and_le_right ?_
  rw [BitVec.ofInt_natCast, BitVec.toNat_ofNat]
  exact Nat.mod_le _ _
 rw [h, IntKind.wrap_i64]
 omega
def kAdv (a : S24) : S24 := ⟨3 + bits .and .i64 a.f0 7, 1 + bits .and .i64 a.f1 15, 0, []⟩
theorem kAdv_chk (a : S24) : Chk (kAdv a) = 0 := by
 have h1 := and_range a.f0 (m := 7) (by omega)
 have h2 := and_range a.f1 (m := 15) (by omega)
 exact chk_of_valid ⟨by show (0 : Int) ≤ 3 + _; exact Int.add_nonneg (by decide) h1.1, by show (3 : Int) + _ < 16; exact Int.lt_of_le_of_lt (Int.add_le_add_left h1.2 3) (by decide), by show (1 : Int) ≤ 1 + _; exact Int.le_add_of_nonneg_right h2.1, by show (1 : Int) + _ ≤ 1073741824; exact Int.le_trans (Int.add_le_add_left h2.2 1) (by decide), Int.le_refl 0, by show (0 : Int) ≤ 3600; decide, by simp [kAdv], fun x hx => absurd hx (by simp [kAdv]), fun j hj => absurd hj (by simp [kAdv])⟩
def knownR (r : Rt) (i : Nat) (l : List S24) : Rt := l.foldl (fun r a => sentR (inR r i [kAdv a] [])) r
theorem known_snoc (r : Rt) (i : Nat) (l : List S24) {k : Nat} (hk : k < l.length) : knownR r i (l.take (k + 1)) = sentR (inR (knownR r i (l.take k)) i [kAdv (l.getD k z24)] []) := by
 unfold knownR
 rw [List.take_add_one, List.foldl_append, List.getElem?_eq_getElem hk]
 simp [List.getD_eq_getElem?_getD, hk]
theorem kMsg_ok (a : S24) : SntOk ⟨0, [kAdv a], []⟩ := ⟨fun x hx => by rw [List.mem_singleton.1 hx]; exact kAdv_chk a, fun y hy => absurd hy List.not_mem_nil, by simp, by simp⟩
theorem known_ri {i : Nat} (hi : i < 8) : ∀ (l : List S24) (r : Rt), RI r i → RI (knownR r i l) i
 | [], r, h => h
 | a :: l, r, h => known_ri hi l _ (inS_ok hi h (kMsg_ok a)).1
theorem known_str (x : S24) (es : List Int) (h : es = encL x.f0 x.f1 x.f2 x.f3) (h3 : x.f3 = []) : (⟨#[65]⟩ : ByteArray) ++ strOfNums [10] ++ strOfNums es = strOfNums (encMsg [x] []) := by
 have e : encMsg [x] [] = [65] ++ [10] ++ es := by
  unfold encMsg encA
  subst h
  simp [h3]
 rw [e]
 apply ByteArray.ext
 simp [strOfNums, ByteArray.data_append]
set_option maxHeartbeats 2000000 in
set_option maxRecDepth 100000 in
theorem known40 (p q i : Nat) (A : Option Addr) (c : Nat) (l : List S24) (r : Rt) (w w0 : World) (hi : i < 8) (h : RI r i) (hl : l.length ≤ c) (HKC : Hid (Kd.C k24 w0 A l.length l)) (H : Hid (RtC w p q r noAck)) (HD : Hid (BaseAt w q r.db.1 r.db.2)) (HB0 : Hid (Below w0.heap.size w0 w)) (hp0 : w0.heap.size ≤ p) (hq0 : w0.heap.size ≤ q) :
 Calls Try.prog 40 #[.pointer (some ⟨p, 0, none⟩), .int .i64 i, .slice A l.length c] w fun e w' => e = .returned (.bool true) ∧ RtC w' p q (knownR r i (l.take 2)) noAck ∧ BaseAt w' q (knownR r i (l.take 2)).db.1 (knownR r i (l.take 2)).db.2 ∧ Keep2 w w' p q ∧ Below w0.heap.size w0 w' := by
 have hu43 := Try.underlying43
 have hu24 := Try.underlying24
 have hu36 := Try.underlying36
 have HP0 := Lib.hid hp0
 have HQ0 := Lib.hid hq0
 have HRI := Lib.hid h
 obtain ⟨L, HL⟩ : ∃ L, Hid (L = l.take 2) := ⟨_, Lib.hid rfl⟩
 have hLn : L.length ≤ 2 := by rw [HL.out, List.length_take]; omega
 have hLl : L.length ≤ l.length := by rw [HL.out, List.length_take]; omega
 have HCL : Hid (Kd.C k24 w0 A L.length L) := Lib.hid (by rw [HL.out]; exact take_C 2 HKC.out)
 rw [← HL.out]
 clear h hp0 hq0
 go_enter Try.func40, Try.ntmps40
 go_wp2_with fail
 refine (some23_any A l L c 2 HL hl w).mono ?_
 rintro e w1 ⟨rfl, rfl⟩
 go_wp2_with fail
 go_loopw [16] (fun v wr => ∃ k : Nat, k ≤ L.length ∧ v = .int .i64 k ∧ Hid (RtC wr p q (knownR r i (L.take k)) noAck) ∧ Hid (BaseAt wr q (knownR r i (L.take k)).db.1 (knownR r i (L.take k)).db.2) ∧ Hid (Keep2 w wr p q) ∧ Hid (Below w0.heap.size w0 wr)) (fun v _ => L.length - (intOf v).toNat)
 case atStart => exact ⟨0, Nat.zero_le _, rfl, H, HD, Lib.hid (Keep2.of_below p q (Below.refl _ _)), HB0⟩
 case round =>
  obtain ⟨k, hk, rfl, HCr, HDr, HKr, HBr⟩ := hrel
  by_cases hlt : k < L.length
  · obtain ⟨ad, rfl, hcell⟩ := C24_cell (Kd.C_below HCL.out HBr.out) (by omega)
    obtain ⟨v, Hv⟩ : ∃ v, Hid (v = L.getD k z24) := ⟨_, Lib.hid rfl⟩
    obtain ⟨B, cb, hc0, hc1, hc2, hc3, hle, hCv⟩ := hcell k hlt
    rw [← Hv.out] at hc0 hc1 hc2 hc3 hle hCv
    clear hCv hle hcell
    obtain ⟨x, Hx⟩ : ∃ x, Hid (x = kAdv v) := ⟨_, Lib.hid rfl⟩
    obtain ⟨m7, h7⟩ : ∃ m, bits .and .i64 v.f0 7 = m := ⟨_, rfl⟩
    obtain ⟨m15, h15⟩ : ∃ m, bits .and .i64 v.f1 15 = m := ⟨_, rfl⟩
    have b7 : 0 ≤ m7 ∧ m7 ≤ 7 := by rw [← h7]; exact and_range v.f0 (m := 7) (by omega)
    have b15 : 0 ≤ m15 ∧ m15 ≤ 15 := by rw [← h15]; exact and_range v.f1 (m := 15) (by omega)
    obtain ⟨b70, b71⟩ := b7
    obtain ⟨b150, b151⟩ := b15
    have HEX : Hid (x = ⟨3 + m7, 1 + m15, 0, []⟩) := Lib.hid (by rw [Hx.out]; unfold kAdv; rw [h7, h15])
    have HCHK : Hid (Chk x = 0) := Lib.hid (by rw [Hx.out]; exact kAdv_chk v)
    obtain ⟨k0, hk0⟩ := Encode_ok x.f0 x.f1 x.f2 x.f3 (chk_zero HCHK.out)
    obtain ⟨es, Hes⟩ : ∃ l, Hid (l = encL x.f0 x.f1 x.f2 x.f3) := ⟨_, Lib.hid rfl⟩
    rw [← Hes.out, HEX.out] at hk0
    have HK0 : Hid (adv_Encode.f k0 (3 + m7) (1 + m15) 0 [] = _) := Lib.hid hk0
    have HESL : Hid (es.length = 10) := Lib.hid (by rw [Hes.out, encL_length, HEX.out]; rfl)
    have HEB := Lib.hid (show ∀ c ∈ es, Byte c from by rw [Hes.out]; exact encL_byte _ _ _ _)
    have hss : (strOfNums es).size = 10 := by rw [strOfNums_size, HESL.out]
    obtain ⟨st, Hst⟩ : ∃ s, Hid (s = strOfNums es) := ⟨_, Lib.hid rfl⟩
    rw [← Hst.out] at HK0 hss
    clear hk0
    go_wp2_with fail
    have HBa := Lib.hid (below_alloc (Below.refl wr.heap.size wr) (.cells #[.int .i64 (3 + m7), .int .i64 (1 + m15), .int .i64 0, .slice none 0 0] 24))
    generalize wr.alloc (.cells #[.int .i64 (3 + m7), .int .i64 (1 + m15), .int .i64 0, .slice none 0 0] 24) = w1 at HBa ⊢
    have hnil : Kd.C k28 w1 none 0 [] := Kd.C_nil k28 w1
    have hK0 := HK0.out
    have hcall := adv_Encode.calls k0 (3 + m7) (1 + m15) 0 none 0 [] st 0 w1 hnil (Nat.le_refl 0) hK0
    refine hcall.mono ?_
    rintro e w2 ⟨rfl, hb⟩
    have HB2 := Lib.hid (below_self HBa.out hb)
    clear hb HBa hnil hK0 hcall h7 h15
    have hcv : (convert 36 9 (.slice (some ⟨w2.heap.size, 0, none⟩) 1 1)).run Try.prog (w2.alloc (.cells #[.int .u8 10] 5)) = .ok (.string (strOfNums [10])) (w2.alloc (.cells #[.int .u8 10] 5)) :=
     Kd.C_string Try.underlying36 Try.underlying5 Try.underlying9 (C_bytes [10] (by simp) (blk_alloc w2 (.cells #[.int .u8 10] 5)))
    go_wp2_with fail
    clear hcv
    have hb3 := below_self HB2.out (below_alloc (Below.refl w2.heap.size w2) (.cells #[.int .u8 10] 5))
    generalize w2.alloc (.cells #[.int .u8 10] 5) = w3 at hb3 ⊢
    have HC3 := Lib.hid (HCr.out.below hb3)
    have HD3 := Lib.hid (HDr.out.below hb3)
    have HK3 := Lib.hid (HKr.out.trans (Keep2.of_below p q hb3))
    have HB3 := Lib.hid (below_self HBr.out hb3)
    clear hb3
    have HRK := Lib.hid (known_ri hi (L.take k) r HRI.out)
    have hstr : (⟨#[65]⟩ : ByteArray) ++ strOfNums [10] ++ st = strOfNums (encMsg [x] []) := by
     rw [Hst.out, known_str x es (by rw [Hes.out]) (by rw [HEX.out])]
    rw [hstr]
    have hread := read_msg [x] [] (fun a ha => by rw [List.mem_singleton.1 ha]; exact HCHK.out) (fun y hy => absurd hy List.not_mem_nil) (by simp) (by simp)
    refine (In62 p q i _ [x] [] (knownR r i (L.take k)) w3 w0 hi HRK.out.up HRK.out.inv hread (by simp) (by simp) (fun a ha => by rw [List.mem_singleton.1 ha]; exact HCHK.out) (fun y hy => absurd hy List.not_mem_nil) HC3 HD3 HB3 HP0.out HQ0.out).mono ?_
    have hnx : sentR (inR (knownR r i (L.take k)) i [x] []) = knownR r i (L.take (k + 1)) := by
     rw [known_snoc r i L hlt, Hx.out, Hv.out]
    have hdx : (inR (knownR r i (L.take k)) i [x] []).db = (knownR r i (L.take (k + 1))).db := by rw [← hnx]; rfl
    rw [hnx, hdx]
    rintro e w4 ⟨v4, rfl, hR4, hC4, hD4, hK4, hB4⟩
    obtain ⟨A4, c4, rfl, _, _⟩ := Kd.R_reads hR4
    have HC4 := Lib.hid hC4
    have HD4 := Lib.hid hD4
    have HK4 := Lib.hid (HK3.out.trans hK4)
    have HB4 := Lib.hid hB4
    clear hR4 hC4 hD4 hK4 hB4 hnx hdx hstr hread
    go_wp2_with fail
    go_round
    case rel => exact ⟨k + 1, by omega, by go_num, HC4, HD4, HK4, HB4⟩
    case measure => simp [intOf]; omega
  · go_wp2_with fail
    go_ret
    obtain rfl : k = L.length := by omega
    rw [List.take_length] at HCr HDr
    exact ⟨rfl, HCr.out, HDr.out, HKr.out, HBr.out⟩
end Go.Proofs.Ytaneaabmgnanbaa.M
end
section
namespace Go.Proofs.Ytaneaabmgnanbaa.M
open Go.RowKit Go.Proofs.YtaneaabmgnanbaaW.PrintWords Go.Proofs.YtaneaabmgnanbaaW.PrintLast Go.Proofs.YtaneaabmgnanbaaW.PrintMore Go.Proofs.Ytaneaabmgnanbaa.PAdvBack
open Go.Proofs.Ytaneaabmgnanbaa.Rd (S129 z129 k129 k129_open k129_mk k129_mkM info129 flood_read.f)
set_option linter.unusedVariables false
set_option linter.unusedSimpArgs false
structure Vw where
 has : Bool
 adv : S24
 wait : Int
 send : Bool
def vw (r : Rt) (i j : Nat) : Vw := ⟨r.db.2 j, r.db.1 j, (r.port i).wait j, (r.port i).send j⟩
def nrV (v : Vw) (a : S24) : Int := if v.has = true then newerP a v.adv else 1
def takeV (v : Vw) (now : Int) (a : S24) : Vw × Bool :=
 if 0 < nrV v a then (⟨true, a, 0, false⟩, true)
 else if nrV v a < 0 then (⟨v.has, v.adv, now + 5, true⟩, false)
 else if 0 < v.wait ∧ v.send = false then (⟨v.has, v.adv, 0, v.send⟩, false)
 else (⟨v.has, v.adv, 0, false⟩, true)
def ackV (v : Vw) (s : Int) : Vw := if v.has = true ∧ v.adv.f1 = s ∧ v.send = false then ⟨v.has, v.adv, 0, v.send⟩ else v
theorem put_new {d : Db} {a : S24} (hc : Chk a = 0) (h : 0 < putN d a) : put d a = setDb d a.f0.toNat a := by
 unfold put
 rw [if_pos ⟨hc, fun hd => by unfold putN at h; rwa [if_pos hd] at h⟩]
theorem putN_eq (r : Rt) (i : Nat) (a : S24) : putN r.db a = nrV (vw r i a.f0.toNat) a := rfl
structure SmR (r r' : Rt) (i : Nat) : Prop where
 id : r'.id = r.id
 now : r'.now = r.now
 up : Ups r r'
 port : ∀ m, m < 8 → m ≠ i → r'.port m = r.port m
theorem SmR.refl (r : Rt) (i : Nat) : SmR r r i := ⟨rfl, rfl, Ups.refl r, fun _ _ _ => rfl⟩
theorem SmR.trans {a b c : Rt} {i : Nat} (h : SmR a b i) (k : SmR b c i) : SmR a c i := ⟨k.id.trans h.id, k.now.trans h.now, h.up.trans k.up, fun m hm hn => (k.port m hm hn).trans (h.port m hm hn)⟩
theorem smr_sP (r : Rt) (i : Nat) (x : Prt) (h : x.up = (r.port i).up) : SmR r (r.sP i x) i := ⟨rfl, rfl, ups_sP h, fun m _ hn => upd_ne _ _ hn⟩
theorem smr_flood (r : Rt) (i j : Nat) (ho : OneUp r) (hi : i < 8) (hu : (r.port i).up = true) (but : Int) : SmR r (floodTo r j but 8) i := ⟨rfl, rfl, ups_flood _ _ _ _, fun m hm hn => by
 show (if m < 8 ∧ (r.port m).up = true ∧ (m : Int) ≠ but then _ else r.port m : Prt) = r.port m
 rw [if_neg (fun h => hn (ho m hm i hi h.2.1 hu))]⟩
theorem flood_but (r : Rt) (i j : Nat) : (floodTo r j (i : Int) 8).port i = r.port i := by
 show (if i < 8 ∧ (r.port i).up = true ∧ (i : Int) ≠ (i : Int) then _ else r.port i : Prt) = r.port i
 rw [if_neg (fun h => h.2.2 rfl)]
theorem vw_sP (r : Rt) (i : Nat) (x : Prt) (j : Nat) : vw (r.sP i x) i j = ⟨r.db.2 j, r.db.1 j, x.wait j, x.send j⟩ := by
 show Vw.mk _ _ ((upd r.port i x i).wait j) ((upd r.port i x i).send j) = _
 rw [upd_self]; rfl
theorem take_view {r : Rt} {ks : List S129} {i : Nat} {a : S24} (hi : i < 8) (ho : OneUp r) (hu : (r.port i).up = true) (hc : Chk a = 0) (hid : a.f0 ≠ r.id) :
 (∀ j, vw (takeP r ks i a).1 i j = if j = a.f0.toNat then (takeV (vw r i j) r.now a).1 else vw r i j) ∧ (takeP r ks i a).2 = (if (takeV (vw r i a.f0.toNat) r.now a).2 = true then ks ++ [⟨a.f0, a.f1⟩] else ks) ∧ SmR r (takeP r ks i a).1 i := by
 unfold takeP
 rw [if_neg (fun h => hid h.1)]
 rw [putN_eq r i a]
 generalize hn : a.f0.toNat = n
 unfold takeV
 by_cases h1 : 0 < nrV (vw r i n) a
 · rw [if_pos h1, if_pos h1]
   have hput : put r.db a = setDb r.db n a := by rw [← hn]; exact put_new hc (by rw [putN_eq r i a, hn]; exact h1)
   rw [hput]
   refine ⟨fun j => ?_, rfl, ?_⟩
   · show Vw.mk _ _ (((floodTo _ n (i : Int) 8).port i).wait j) (((floodTo _ n (i : Int) 8).port i).send j) = _
     rw [flood_but]
     show Vw.mk (if j = n then true else r.db.2 j) (if j = n then a else r.db.1 j) ((upd r.port i ((r.port i).off n) i).wait j) ((upd r.port i ((r.port i).off n) i).send j) = _
     rw [upd_self]
     show Vw.mk (if j = n then true else r.db.2 j) (if j = n then a else r.db.1 j) (upd (r.port i).wait n 0 j) (upd (r.port i).send n false j) = _
     by_cases e : j = n
     · subst e
       rw [if_pos rfl, if_pos rfl, if_pos rfl, upd_self, upd_self, if_pos h1]
     · rw [if_neg e, if_neg e, if_neg e, upd_ne _ _ e, upd_ne _ _ e]; rfl
   · have h3 : SmR r ((r.sDb (setDb r.db n a)).sP i ((r.port i).off n)) i := ⟨rfl, rfl, ups_sP (r := r.sDb (setDb r.db n a)) rfl, fun m _ hm => upd_ne _ _ hm⟩
     exact h3.trans (smr_flood _ i n (h3.up.one ho) hi (by rw [h3.up i]; exact hu) _)
 · rw [if_neg h1, if_neg h1]
   by_cases h2 : nrV (vw r i n) a < 0
   · rw [if_pos h2, if_pos h2]
     refine ⟨fun j => ?_, rfl, smr_sP _ _ _ rfl⟩
     show vw (r.sP i (((r.port i).sSend n true).sWait n (r.now + 5))) i j = _
     rw [vw_sP]
     show Vw.mk (r.db.2 j) (r.db.1 j) (upd (r.port i).wait n (r.now + 5) j) (upd (r.port i).send n true j) = _
     by_cases e : j = n
     · subst e
       rw [if_pos rfl, upd_self, upd_self, if_neg h1, if_pos h2]; rfl
     · rw [if_neg e, upd_ne _ _ e, upd_ne _ _ e]; rfl
   · rw [if_neg h2, if_neg h2]
     by_cases h3 : 0 < (vw r i n).wait ∧ (vw r i n).send = false
     · have h3' : 0 < (r.port i).wait n ∧ (r.port i).send n = false := h3
       rw [if_pos h3, if_pos h3']
       refine ⟨fun j => ?_, rfl, smr_sP _ _ _ rfl⟩
       show vw (r.sP i ((r.port i).sWait n 0)) i j = _
       rw [vw_sP]
       show Vw.mk (r.db.2 j) (r.db.1 j) (upd (r.port i).wait n 0 j) ((r.port i).send j) = _
       by_cases e : j = n
       · subst e
         rw [if_pos rfl, upd_self, if_neg h1, if_neg h2, if_pos h3]; rfl
       · rw [if_neg e, upd_ne _ _ e]; rfl
     · have h3' : ¬ (0 < (r.port i).wait n ∧ (r.port i).send n = false) := h3
       rw [if_neg h3, if_neg h3']
       refine ⟨fun j => ?_, rfl, smr_sP _ _ _ rfl⟩
       show vw (r.sP i ((r.port i).off n)) i j = _
       rw [vw_sP]
       show Vw.mk (r.db.2 j) (r.db.1 j) (upd (r.port i).wait n 0 j) (upd (r.port i).send n false j) = _
       by_cases e : j = n
       · subst e
         rw [if_pos rfl, upd_self, upd_self, if_neg h1, if_neg h2, if_neg h3]; rfl
       · rw [if_neg e, upd_ne _ _ e, upd_ne _ _ e]; rfl
theorem ack_view (r : Rt) (i : Nat) (y : S129) : (∀ j, vw (ackP r i y) i j = if j = y.f0.toNat then ackV (vw r i j) y.f1 else vw r i j) ∧ SmR r (ackP r i y) i := by
 unfold ackP
 generalize y.f0.toNat = n
 by_cases h : r.db.2 n = true ∧ (r.db.1 n).f1 = y.f1 ∧ (r.port i).send n = false
 · rw [if_pos h]
   refine ⟨fun j => ?_, smr_sP _ _ _ rfl⟩
   rw [vw_sP]
   show Vw.mk (r.db.2 j) (r.db.1 j) (upd (r.port i).wait n 0 j) ((r.port i).send j) = _
   by_cases e : j = n
   · subst e
     rw [if_pos rfl, upd_self]
     unfold ackV
     rw [if_pos (show (vw r i j).has = true ∧ (vw r i j).adv.f1 = y.f1 ∧ (vw r i j).send = false from h)]; rfl
   · rw [if_neg e, upd_ne _ _ e]; rfl
 · rw [if_neg h]
   refine ⟨fun j => ?_, SmR.refl _ _⟩
   by_cases e : j = n
   · subst e
     rw [if_pos rfl]
     unfold ackV
     rw [if_neg (show ¬ ((vw r i j).has = true ∧ (vw r i j).adv.f1 = y.f1 ∧ (vw r i j).send = false) from h)]
   · rw [if_neg e]
def fmL {α : Type} (f : Nat → Option α) (n : Nat) : List α := (List.range n).filterMap f
theorem fmL_succ {α : Type} (f : Nat → Option α) (n : Nat) : fmL f (n + 1) = fmL f n ++ (f n).toList := by
 unfold fmL
 rw [List.range_succ, List.filterMap_append]
 cases h : f n <;> simp [h]
def tkO (v : Vw) (now : Int) : Option S24 → Vw × Option S129
 | none => (v, none)
 | some a => ((takeV v now a).1, if (takeV v now a).2 = true then some ⟨a.f0, a.f1⟩ else none)
def akO (v : Vw) : Option S129 → Vw
 | none => v
 | some y => ackV v y.f1
structure FOk (f : Nat → Option S24) (id : Int) : Prop where
 at_ : ∀ j, j < 16 → ∀ a, f j = some a → a.f0 = (j : Int)
 chk : ∀ j, j < 16 → ∀ a, f j = some a → Chk a = 0
 ne : ∀ j, j < 16 → ∀ a, f j = some a → a.f0 ≠ id
def GOk (g : Nat → Option S129) : Prop := ∀ j, j < 16 → ∀ y, g j = some y → y.f0 = (j : Int)
theorem takeAll_view {r : Rt} {i : Nat} {f : Nat → Option S24} (hi : i < 8) (ho : OneUp r) (hu : (r.port i).up = true) (hf : FOk f r.id) : ∀ n, n ≤ 16 →
 (∀ j, vw (takeAll r [] i (fmL f n)).1 i j = if j < n then (tkO (vw r i j) r.now (f j)).1 else vw r i j) ∧ (takeAll r [] i (fmL f n)).2 = fmL (fun j => (tkO (vw r i j) r.now (f j)).2) n ∧ SmR r (takeAll r [] i (fmL f n)).1 i
 | 0, _ => ⟨fun j => by rw [if_neg (Nat.not_lt_zero _)]; rfl, rfl, SmR.refl _ _⟩
 | n + 1, hn => by
  obtain ⟨h1, h2, h3⟩ := takeAll_view hi ho hu hf n (by omega)
  rw [fmL_succ f n, fmL_succ (fun j => (tkO (vw r i j) r.now (f j)).2) n]
  cases hfn : f n with
  | none =>
   simp only [Option.toList_none, List.append_nil]
   refine ⟨fun j => ?_, by rw [h2]; simp [tkO], h3⟩
   rw [h1 j]
   by_cases e : j = n
   · subst e; rw [if_neg (Nat.lt_irrefl _), if_pos (Nat.lt_succ_self _), hfn]; rfl
   · by_cases e2 : j < n
     · rw [if_pos e2, if_pos (by omega)]
     · rw [if_neg e2, if_neg (by omega)]
  | some a =>
   have ha := hf.at_ n (by omega) a hfn
   have han : a.f0.toNat = n := by rw [ha]; rfl
   have hk : ∀ (R : Rt) (k : List S129), takeAll R k i (fmL f n ++ [a]) = takeP (takeAll R k i (fmL f n)).1 (takeAll R k i (fmL f n)).2 i a := fun R k => by
    unfold takeAll; rw [List.foldl_append]; rfl
   simp only [Option.toList_some]
   rw [hk]
   obtain ⟨g1, g2, g3⟩ := take_view (r := (takeAll r [] i (fmL f n)).1) (ks := (takeAll r [] i (fmL f n)).2) (i := i) (a := a) hi (h3.up.one ho) (by rw [h3.up i]; exact hu) (hf.chk n (by omega) a hfn) (by rw [h3.id]; exact hf.ne n (by omega) a hfn)
   refine ⟨fun j => ?_, ?_, h3.trans g3⟩
   · rw [g1 j, han, h3.now, h1 j]
     by_cases e : j = n
     · subst e; rw [if_pos rfl, if_neg (Nat.lt_irrefl _), if_pos (Nat.lt_succ_self _), hfn]; rfl
     · rw [if_neg e]
       by_cases e2 : j < n
       · rw [if_pos e2, if_pos (by omega)]
       · rw [if_neg e2, if_neg (by omega)]
   · rw [g2, han, h3.now, h1 n, if_neg (Nat.lt_irrefl _), h2]
     show _ = _ ++ (if (takeV (vw r i n) r.now a).2 = true then some (⟨a.f0, a.f1⟩ : S129) else none).toList
     split <;> simp
theorem ackAll_view {r : Rt} {i : Nat} {g : Nat → Option S129} (hg : GOk g) : ∀ n, n ≤ 16 →
 (∀ j, vw (ackAll r i (fmL g n)) i j = if j < n then akO (vw r i j) (g j) else vw r i j) ∧ SmR r (ackAll r i (fmL g n)) i
 | 0, _ => ⟨fun j => by rw [if_neg (Nat.not_lt_zero _)]; rfl, SmR.refl _ _⟩
 | n + 1, hn => by
  obtain ⟨h1, h3⟩ := ackAll_view (r := r) (i := i) hg n (by omega)
  rw [fmL_succ g n]
  cases hgn : g n with
  | none =>
   simp only [Option.toList_none, List.append_nil]
   refine ⟨fun j => ?_, h3⟩
   rw [h1 j]
   by_cases e : j = n
   · subst e; rw [if_neg (Nat.lt_irrefl _), if_pos (Nat.lt_succ_self _), hgn]; rfl
   · by_cases e2 : j < n
     · rw [if_pos e2, if_pos (by omega)]
     · rw [if_neg e2, if_neg (by omega)]
  | some y =>
   have hyn : y.f0.toNat = n := by rw [hg n (by omega) y hgn]; rfl
   simp only [Option.toList_some]
   have hk : ackAll r i (fmL g n ++ [y]) = ackP (ackAll r i (fmL g n)) i y := by unfold ackAll; rw [List.foldl_append]; rfl
   rw [hk]
   obtain ⟨g1, g3⟩ := ack_view (ackAll r i (fmL g n)) i y
   refine ⟨fun j => ?_, h3.trans g3⟩
   rw [g1 j, hyn, h1 j]
   by_cases e : j = n
   · subst e; rw [if_pos rfl, if_neg (Nat.lt_irrefl _), if_pos (Nat.lt_succ_self _), hgn]; rfl
   · rw [if_neg e]
     by_cases e2 : j < n
     · rw [if_pos e2, if_pos (by omega)]
     · rw [if_neg e2, if_neg (by omega)]
end Go.Proofs.Ytaneaabmgnanbaa.M
end
section
namespace Go.Proofs.Ytaneaabmgnanbaa.M
open Go.RowKit Go.Proofs.YtaneaabmgnanbaaW.PrintWords Go.Proofs.YtaneaabmgnanbaaW.PrintLast Go.Proofs.YtaneaabmgnanbaaW.PrintMore Go.Proofs.Ytaneaabmgnanbaa.PAdvBack
open Go.Proofs.Ytaneaabmgnanbaa.Rd (S129 z129 k129 k129_open k129_mk k129_mkM info129 flood_read.f)
set_option linter.unusedVariables false
set_option linter.unusedSimpArgs false
def outV (v : Vw) : Option S24 := if (v.send && v.has) = true then some v.adv else none
def clrV (v : Vw) : Vw := ⟨v.has, v.adv, v.wait, false⟩
def inV (v : Vw) (now : Int) (f : Option S24) (g : Option S129) : Vw := akO (tkO v now f).1 g
def msg (i : Nat) (f : Nat → Option S24) (g : Nat → Option S129) : List Snt := if encMsg (fmL f 16) (fmL g 16) = [] then [] else [⟨i, fmL f 16, fmL g 16⟩]
theorem fmL_congr {α : Type} {f g : Nat → Option α} {n : Nat} (h : ∀ j, j < n → f j = g j) : fmL f n = fmL g n := by
 unfold fmL
 induction n with
 | zero => rfl
 | succ n ih =>
  rw [List.range_succ, List.filterMap_append, List.filterMap_append, ih (fun j hj => h j (by omega))]
  simp [List.filterMap_cons, h n (Nat.lt_succ_self n)]
theorem msg_congr {i : Nat} {f f' : Nat → Option S24} {g g' : Nat → Option S129} (h : ∀ j, j < 16 → f j = f' j) (k : ∀ j, j < 16 → g j = g' j) : msg i f g = msg i f' g' := by
 unfold msg
 rw [fmL_congr h, fmL_congr k]
theorem encMsg_nil {l : List S24} {k : List S129} : encMsg l k = [] ↔ l = [] ∧ k = [] := by
 constructor
 · intro h
   unfold encMsg at h
   obtain ⟨h1, h2⟩ := List.append_eq_nil_iff.1 h
   refine ⟨?_, ?_⟩
   · cases l with
     | nil => rfl
     | cons a l => rw [List.flatMap_cons] at h1; unfold encA at h1; simp at h1
   · cases k with
     | nil => rfl
     | cons a l => rw [List.flatMap_cons] at h2; unfold encK at h2; simp at h2
 · rintro ⟨rfl, rfl⟩; rfl
theorem fmL_nil {α : Type} {f : Nat → Option α} {n : Nat} : fmL f n = [] ↔ ∀ j, j < n → f j = none := by
 unfold fmL
 rw [List.filterMap_eq_nil_iff]
 exact ⟨fun h j hj => h j (List.mem_range.2 hj), fun h j hj => h j (List.mem_range.1 hj)⟩
theorem msg_none {i : Nat} {f : Nat → Option S24} {g : Nat → Option S129} (h : ∀ j, j < 16 → f j = none) (k : ∀ j, j < 16 → g j = none) : msg i f g = [] := by
 unfold msg
 rw [if_pos (encMsg_nil.2 ⟨fmL_nil.2 h, fmL_nil.2 k⟩)]
theorem advsTo_fmL (r : Rt) (i : Nat) : advsTo r.db (r.port i) 16 = fmL (fun j => outV (vw r i j)) 16 := by
 unfold advsTo fmL
 generalize List.range 16 = l
 induction l with
 | nil => rfl
 | cons a l ih =>
  rw [List.filterMap_cons, List.filter_cons]
  by_cases hc : ((r.port i).send a && r.db.2 a) = true
  · rw [if_pos hc, List.map_cons, ih, show outV (vw r i a) = some (r.db.1 a) from if_pos hc]
  · rw [if_neg hc, ih, show outV (vw r i a) = none from if_neg hc]
theorem sends_msg (r : Rt) (i : Nat) (g : Nat → Option S129) : sends r i (fmL g 16) = msg i (fun j => outV (vw r i j)) g := by
 unfold sends sntAt msg
 rw [advsTo_fmL, upd_self]
theorem vw_sent (r : Rt) (i j : Nat) : vw (sentR r) i j = clrV (vw r i j) := rfl
def Oth (r : Rt) (i : Nat) : Prop := ∀ m, m < 8 → m ≠ i → ∀ j, j < 16 → (r.port m).wait j ≤ 0
theorem Oth.smr {r r' : Rt} {i : Nat} (h : Oth r i) (k : SmR r r' i) : Oth r' i := fun m hm hn j hj => by rw [k.port m hm hn]; exact h m hm hn j hj
theorem inS_view {r : Rt} {i : Nat} {f : Nat → Option S24} {g : Nat → Option S129} (p : Int) (hi : i < 8) (h : RI r i) (hf : FOk f r.id) (hg : GOk g) :
 (∀ j, j < 16 → vw (inS r i ⟨p, fmL f 16, fmL g 16⟩).1 i j = clrV (inV (vw r i j) r.now (f j) (g j))) ∧ (inS r i ⟨p, fmL f 16, fmL g 16⟩).2 = msg i (fun j => outV (inV (vw r i j) r.now (f j) (g j))) (fun j => (tkO (vw r i j) r.now (f j)).2) ∧ (inS r i ⟨p, fmL f 16, fmL g 16⟩).1.id = r.id ∧ (inS r i ⟨p, fmL f 16, fmL g 16⟩).1.now = r.now ∧ (Oth r i → Oth (inS r i ⟨p, fmL f 16, fmL g 16⟩).1 i) := by
 obtain ⟨h1, h2, h3⟩ := takeAll_view hi h.inv.one h.up hf 16 (Nat.le_refl _)
 obtain ⟨g1, g3⟩ := ackAll_view (r := (takeAll r [] i (fmL f 16)).1) (i := i) hg 16 (Nat.le_refl _)
 have hv : ∀ j, j < 16 → vw (inR r i (fmL f 16) (fmL g 16)) i j = inV (vw r i j) r.now (f j) (g j) := fun j hj => by
  unfold inR
  rw [g1 j, if_pos hj, h1 j, if_pos hj]; rfl
 have hs : SmR r (inR r i (fmL f 16) (fmL g 16)) i := h3.trans g3
 refine ⟨fun j hj => ?_, ?_, hs.id, hs.now, fun ho => ?_⟩
 · show vw (sentR (inR r i (fmL f 16) (fmL g 16))) i j = _
   rw [vw_sent, hv j hj]
 · show sends (inR r i (fmL f 16) (fmL g 16)) i (inA r i (fmL f 16)) = _
   unfold inA
   rw [h2, sends_msg]
   exact msg_congr (fun j hj => by rw [hv j hj]) (fun _ _ => rfl)
 · exact fun m hm hn j hj => (ho.smr hs) m hm hn j hj
structure DvOk (r r' : Rt) (i : Nat) (m' : List Snt) (F : Nat → Option S24) (G : Nat → Option S129) (V : Nat → Vw) : Prop where
 v : ∀ j, j < 16 → vw r' i j = clrV (V j)
 m : m' = msg i F G
 id : r'.id = r.id
 now : r'.now = r.now
 oth : Oth r i → Oth r' i
theorem clrV_id {v : Vw} (h : v.send = false) : clrV v = v := by unfold clrV; rw [← h]
theorem outV_off {v : Vw} (h : v.send = false) : outV v = none := by unfold outV; rw [h]; rfl
theorem dlv_view {lost : List Int} {r : Rt} {i p : Nat} {f : Nat → Option S24} {g : Nat → Option S129} (k : Nat) (hi : i < 8) (h : RI r i) (hf : FOk f r.id) (hg : GOk g) (hs : ∀ j, j < 16 → (vw r i j).send = false) :
 DvOk r (dlv lost r i (msg p f g) k).1 i (dlv lost r i (msg p f g) k).2.1 (fun j => if lostAt lost k = true then none else outV (inV (vw r i j) r.now (f j) (g j))) (fun j => if lostAt lost k = true then none else (tkO (vw r i j) r.now (f j)).2) (fun j => if lostAt lost k = true then vw r i j else inV (vw r i j) r.now (f j) (g j)) := by
 by_cases hm : encMsg (fmL f 16) (fmL g 16) = []
 · obtain ⟨e1, e2⟩ := encMsg_nil.1 hm
   have f0 := fmL_nil.1 e1
   have g0 := fmL_nil.1 e2
   have hmsg : msg p f g = [] := by unfold msg; rw [if_pos hm]
   rw [hmsg]
   have hin : ∀ j, j < 16 → inV (vw r i j) r.now (f j) (g j) = vw r i j := fun j hj => by rw [f0 j hj, g0 j hj]; rfl
   refine ⟨fun j hj => ?_, ?_, rfl, rfl, fun ho => ho⟩
   · show vw r i j = clrV (if lostAt lost k = true then vw r i j else inV (vw r i j) r.now (f j) (g j))
     rw [hin j hj, ite_self, clrV_id (hs j hj)]
   · show ([] : List Snt) = _
     rw [msg_none]
     · intro j hj
       show (if lostAt lost k = true then none else outV (inV (vw r i j) r.now (f j) (g j))) = none
       rw [hin j hj, outV_off (hs j hj), ite_self]
     · intro j hj
       show (if lostAt lost k = true then none else (tkO (vw r i j) r.now (f j)).2) = none
       rw [f0 j hj]
       exact ite_self _
 · have hmsg : msg p f g = [⟨p, fmL f 16, fmL g 16⟩] := by unfold msg; rw [if_neg hm]
   rw [hmsg]
   cases hl : lostAt lost k with
   | true =>
    have e : dlv lost r i [(⟨p, fmL f 16, fmL g 16⟩ : Snt)] k = (r, [], k + 1) := by
     show (if lostAt lost k = true then (r, ([] : List Snt), k + 1) else _) = _
     rw [if_pos hl]
    rw [e]
    refine ⟨fun j hj => ?_, ?_, rfl, rfl, fun ho => ho⟩
    · show vw r i j = clrV (if true = true then vw r i j else _)
      rw [if_pos rfl, clrV_id (hs j hj)]
    · show ([] : List Snt) = _
      rw [msg_none] <;> (intro j _; exact if_pos rfl)
   | false =>
    have e : dlv lost r i [(⟨p, fmL f 16, fmL g 16⟩ : Snt)] k = ((inS r i ⟨p, fmL f 16, fmL g 16⟩).1, (inS r i ⟨p, fmL f 16, fmL g 16⟩).2, k + 1) := by
     show (if lostAt lost k = true then _ else _) = _
     rw [if_neg (by rw [hl]; simp)]
    rw [e]
    obtain ⟨a1, a2, a3, a4, a5⟩ := inS_view (p : Int) hi h hf hg
    refine ⟨fun j hj => ?_, ?_, a3, a4, a5⟩
    · rw [a1 j hj]; rfl
    · exact a2
structure P1 where
 a : Vw
 b : Vw
 fo : Option S24
 go : Option S129
 fb : Option S24
 gb : Option S129
def st1 (na nb : Int) (lo lb : Bool) (t : P1) : P1 where
 a := clrV (if lb = true then t.a else inV t.a na t.fb t.gb)
 b := clrV (if lo = true then t.b else inV t.b nb t.fo t.go)
 fo := if lb = true then none else outV (inV t.a na t.fb t.gb)
 go := if lb = true then none else (tkO t.a na t.fb).2
 fb := if lo = true then none else outV (inV t.b nb t.fo t.go)
 gb := if lo = true then none else (tkO t.b nb t.fo).2
structure PV (pa pb : Nat) (s : Pr) (T : Nat → P1) : Prop where
 ok : PrOk pa pb s
 va : ∀ j, j < 16 → vw s.a pa j = (T j).a
 vb : ∀ j, j < 16 → vw s.b pb j = (T j).b
 sa : ∀ j, j < 16 → (T j).a.send = false
 sb : ∀ j, j < 16 → (T j).b.send = false
 o : s.o = msg pa (fun j => (T j).fo) (fun j => (T j).go)
 bk : s.bk = msg pb (fun j => (T j).fb) (fun j => (T j).gb)
 fo : ∀ j, j < 16 → ∀ x, (T j).fo = some x → x.f0 = (j : Int) ∧ Chk x = 0
 fb : ∀ j, j < 16 → ∀ x, (T j).fb = some x → x.f0 = (j : Int) ∧ Chk x = 0
 go : GOk (fun j => (T j).go)
 gb : GOk (fun j => (T j).gb)
 oa : Oth s.a pa
 ob : Oth s.b pb
def NeO (s : Pr) (T : Nat → P1) : Prop := ∀ j : Nat, j < 16 → ((j : Int) = s.b.id → (T j).fo = none) ∧ ((j : Int) = s.a.id → (T j).fb = none)
theorem tkO_id {v : Vw} {now : Int} {f : Option S24} {y : S129} (h : (tkO v now f).2 = some y) : ∃ a, f = some a ∧ y.f0 = a.f0 := by
 cases f with
 | none => cases h
 | some a =>
  have h' : (if (takeV v now a).2 = true then some (⟨a.f0, a.f1⟩ : S129) else none) = some y := h
  split at h'
  · injection h' with h'; exact ⟨a, rfl, by rw [← h']⟩
  · cases h'
theorem stp_view {lost : List Int} {pa pb : Nat} {s : Pr} {T : Nat → P1} (ha : pa < 8) (hb : pb < 8) (h : PV pa pb s T) (hne : NeO s T) :
 ∃ lo lb : Bool, (lost = [] → lo = false ∧ lb = false) ∧ PV pa pb (stp lost pa pb s) (fun j => st1 s.a.now s.b.now lo lb (T j)) ∧ (stp lost pa pb s).a.id = s.a.id ∧ (stp lost pa pb s).b.id = s.b.id ∧ (stp lost pa pb s).a.now = s.a.now ∧ (stp lost pa pb s).b.now = s.b.now := by
 have hOK := (stp_ok (lost := lost) ha hb h.ok).1
 have Fo : FOk (fun j => (T j).fo) s.b.id := ⟨fun j hj x hx => (h.fo j hj x hx).1, fun j hj x hx => (h.fo j hj x hx).2, fun j hj x hx e => by
  have := (hne j hj).1 (by rw [← (h.fo j hj x hx).1]; exact e)
  rw [show (T j).fo = some x from hx] at this; cases this⟩
 have Fb : FOk (fun j => (T j).fb) s.a.id := ⟨fun j hj x hx => (h.fb j hj x hx).1, fun j hj x hx => (h.fb j hj x hx).2, fun j hj x hx e => by
  have := (hne j hj).2 (by rw [← (h.fb j hj x hx).1]; exact e)
  rw [show (T j).fb = some x from hx] at this; cases this⟩
 have D := dlv_view (lost := lost) (p := pa) s.k hb h.ok.b Fo h.go (fun j hj => by rw [h.vb j hj]; exact h.sb j hj)
 rw [← h.o] at D
 have E := dlv_view (lost := lost) (p := pb) (dlv lost s.b pb s.o s.k).2.2 ha h.ok.a Fb h.gb (fun j hj => by rw [h.va j hj]; exact h.sa j hj)
 rw [← h.bk] at E
 refine ⟨lostAt lost s.k, lostAt lost (dlv lost s.b pb s.o s.k).2.2, ?_, ?_, E.id, D.id, E.now, D.now⟩
 · rintro rfl
   exact ⟨rfl, rfl⟩
 generalize lostAt lost s.k = lo at D ⊢
 generalize lostAt lost (dlv lost s.b pb s.o s.k).2.2 = lb at E ⊢
 have hva : ∀ j, j < 16 → vw (stp lost pa pb s).a pa j = (st1 s.a.now s.b.now lo lb (T j)).a := fun j hj => by
  refine (E.v j hj).trans ?_
  show clrV (if lb = true then vw s.a pa j else inV (vw s.a pa j) s.a.now (T j).fb (T j).gb) = _
  rw [h.va j hj]; rfl
 have hvb : ∀ j, j < 16 → vw (stp lost pa pb s).b pb j = (st1 s.a.now s.b.now lo lb (T j)).b := fun j hj => by
  refine (D.v j hj).trans ?_
  show clrV (if lo = true then vw s.b pb j else inV (vw s.b pb j) s.b.now (T j).fo (T j).go) = _
  rw [h.vb j hj]; rfl
 have hdb : ∀ (v : Vw) (x : S24), outV v = some x → v.has = true ∧ v.adv = x := fun v x hx => by
  unfold outV at hx
  split at hx
  · rename_i hh
    injection hx with hx
    exact ⟨(Bool.and_eq_true_iff.1 hh).2, hx⟩
  · cases hx
 refine ⟨hOK, hva, hvb, fun _ _ => rfl, fun _ _ => rfl, ?_, ?_, fun j hj x hx => ?_, fun j hj x hx => ?_, fun j hj y hy => ?_, fun j hj y hy => ?_, E.oth h.oa, D.oth h.ob⟩
 · refine E.m.trans (msg_congr (fun j hj => ?_) (fun j hj => ?_))
   · show (if lb = true then none else outV (inV (vw s.a pa j) s.a.now (T j).fb (T j).gb)) = _
     rw [h.va j hj]; rfl
   · show (if lb = true then none else (tkO (vw s.a pa j) s.a.now (T j).fb).2) = _
     rw [h.va j hj]; rfl
 · refine D.m.trans (msg_congr (fun j hj => ?_) (fun j hj => ?_))
   · show (if lo = true then none else outV (inV (vw s.b pb j) s.b.now (T j).fo (T j).go)) = _
     rw [h.vb j hj]; rfl
   · show (if lo = true then none else (tkO (vw s.b pb j) s.b.now (T j).fo).2) = _
     rw [h.vb j hj]; rfl
 · have hx' : (if lb = true then none else outV (inV (T j).a s.a.now (T j).fb (T j).gb)) = some x := hx
   cases lb with
   | true => cases hx'
   | false =>
    obtain ⟨e1, e2⟩ := hdb _ _ hx'
    have ev : vw (stp lost pa pb s).a pa j = clrV (inV (T j).a s.a.now (T j).fb (T j).gb) := hva j hj
    have k1 : (stp lost pa pb s).a.db.2 j = true := (congrArg Vw.has ev).trans e1
    have k2 : (stp lost pa pb s).a.db.1 j = x := (congrArg Vw.adv ev).trans e2
    have := (hOK.a.inv.ok.db j).1 k1
    rw [k2] at this
    exact ⟨this.2, this.1⟩
 · have hx' : (if lo = true then none else outV (inV (T j).b s.b.now (T j).fo (T j).go)) = some x := hx
   cases lo with
   | true => cases hx'
   | false =>
    obtain ⟨e1, e2⟩ := hdb _ _ hx'
    have ev : vw (stp lost pa pb s).b pb j = clrV (inV (T j).b s.b.now (T j).fo (T j).go) := hvb j hj
    have k1 : (stp lost pa pb s).b.db.2 j = true := (congrArg Vw.has ev).trans e1
    have k2 : (stp lost pa pb s).b.db.1 j = x := (congrArg Vw.adv ev).trans e2
    have := (hOK.b.inv.ok.db j).1 k1
    rw [k2] at this
    exact ⟨this.2, this.1⟩
 · have hy' : (if lb = true then none else (tkO (T j).a s.a.now (T j).fb).2) = some y := hy
   cases lb with
   | true => cases hy'
   | false =>
    obtain ⟨x, e1, e2⟩ := tkO_id hy'
    rw [e2]; exact (h.fb j hj x e1).1
 · have hy' : (if lo = true then none else (tkO (T j).b s.b.now (T j).fo).2) = some y := hy
   cases lo with
   | true => cases hy'
   | false =>
    obtain ⟨x, e1, e2⟩ := tkO_id hy'
    rw [e2]; exact (h.fo j hj x e1).1
end Go.Proofs.Ytaneaabmgnanbaa.M
end
section
namespace Go.Proofs.Ytaneaabmgnanbaa.M
open Go.RowKit Go.Proofs.YtaneaabmgnanbaaW.PrintWords Go.Proofs.YtaneaabmgnanbaaW.PrintLast Go.Proofs.YtaneaabmgnanbaaW.PrintMore Go.Proofs.Ytaneaabmgnanbaa.PAdvBack
open Go.Proofs.Ytaneaabmgnanbaa.Rd (S129 z129 k129 k129_open k129_mk k129_mkM info129 flood_read.f)
set_option linter.unusedVariables false
set_option linter.unusedSimpArgs false
theorem put_other {d : Db} {a : S24} {j : Nat} (h : j ≠ a.f0.toNat) : (put d a).2 j = d.2 j ∧ (put d a).1 j = d.1 j := by
 unfold put
 split
 · exact ⟨if_neg h, if_neg h⟩
 · exact ⟨rfl, rfl⟩
theorem post_view (r : Rt) (i n j : Nat) : vw (post r i n) i j = if j = n then ⟨r.db.2 j, r.db.1 j, r.now + 5, true⟩ else vw r i j := by
 show vw (r.sP i (((r.port i).sSend n true).sWait n (r.now + 5))) i j = _
 rw [vw_sP]
 show Vw.mk (r.db.2 j) (r.db.1 j) (upd (r.port i).wait n (r.now + 5) j) (upd (r.port i).send n true j) = _
 by_cases e : j = n
 · subst e; rw [if_pos rfl, upd_self, upd_self]
 · rw [if_neg e, upd_ne _ _ e, upd_ne _ _ e]; rfl
theorem smr_post (r : Rt) (i n : Nat) : SmR r (post r i n) i := smr_sP _ _ _ rfl
theorem postAll_smr (i : Nat) : ∀ (l : List S24) (r : Rt), SmR r (postAll r i l) i
 | [], r => SmR.refl r i
 | a :: l, r => (smr_post r i _).trans (postAll_smr i l (post r i a.f0.toNat))
theorem postAll_view (i j : Nat) : ∀ (l : List S24) (r : Rt), ((∃ a ∈ l, a.f0.toNat = j) → vw (postAll r i l) i j = ⟨r.db.2 j, r.db.1 j, r.now + 5, true⟩) ∧ ((¬ ∃ a ∈ l, a.f0.toNat = j) → vw (postAll r i l) i j = vw r i j)
 | [], r => ⟨fun h => by obtain ⟨a, h, _⟩ := h; exact absurd h List.not_mem_nil, fun _ => rfl⟩
 | a :: l, r => by
  obtain ⟨h1, h2⟩ := postAll_view i j l (post r i a.f0.toNat)
  have hp := post_view r i a.f0.toNat j
  by_cases hl : ∃ b ∈ l, b.f0.toNat = j
  · refine ⟨fun _ => h1 hl, fun h => ?_⟩
    obtain ⟨b, hb, e⟩ := hl
    exact absurd ⟨b, List.mem_cons_of_mem _ hb, e⟩ h
  · refine ⟨fun h => ?_, fun h => ?_⟩
    · obtain ⟨b, hb, e⟩ := h
      rcases List.mem_cons.1 hb with rfl | hb
      · refine (h2 hl).trans ?_
        rw [hp, if_pos e.symm]
      · exact absurd ⟨b, hb, e⟩ hl
    · refine (h2 hl).trans ?_
      rw [hp, if_neg (fun e => h ⟨a, List.mem_cons_self, e.symm⟩)]
theorem mem_listOf {d : Db} (hd : DbOk d) {j : Nat} (hj : j < 16) : (∃ a ∈ listOf d, a.f0.toNat = j) ↔ d.2 j = true := by
 unfold listOf listTo
 constructor
 · rintro ⟨a, ha, e⟩
   obtain ⟨k, hk, rfl⟩ := List.mem_map.1 ha
   have h2 := (List.mem_filter.1 hk).2
   have := ((hd k).1 h2).2
   rw [this] at e
   have : k = j := by simpa using e
   rw [← this]; exact h2
 · intro h
   exact ⟨d.1 j, List.mem_map.2 ⟨j, List.mem_filter.2 ⟨List.mem_range.2 hj, h⟩, rfl⟩, by rw [((hd j).1 h).2]; rfl⟩
def Zer (r : Rt) : Prop := ∀ m, m < 8 → ∀ j, j < 16 → (r.port m).wait j ≤ 0
theorem up_view {r : Rt} (h : Idle r) {i : Nat} (hi : i < 8) (peer cost : Int) :
 (∀ j, j < 16 → vw (upP r i peer cost) i j = if (put r.db (ownAdv (upX r i peer cost))).2 j = true then ⟨true, (put r.db (ownAdv (upX r i peer cost))).1 j, r.now + 5, true⟩ else ⟨false, (put r.db (ownAdv (upX r i peer cost))).1 j, (r.port i).wait j, false⟩)
 ∧ (upP r i peer cost).db = put r.db (ownAdv (upX r i peer cost)) ∧ (upP r i peer cost).now = r.now ∧ (upP r i peer cost).id = r.id ∧ (∀ m, m < 8 → m ≠ i → (upP r i peer cost).port m = r.port m) := by
 have hX : RtOk (upX r i peer cost) := ⟨h.ok.id, h.ok.seq, h.ok.now, h.ok.db⟩
 have hone := upX_one h hi peer cost
 have hup : ((upX r i peer cost).port i).up = true := by show (upd r.port i _ i : Prt).up = true; rw [upd_self]; rfl
 have hS1 : SmR (((upX r i peer cost).sSeq (ownSeq (upX r i peer cost).seq)).sDb (put (upX r i peer cost).db (ownAdv (upX r i peer cost)))) (upR r i peer cost) i := smr_flood (((upX r i peer cost).sSeq (ownSeq (upX r i peer cost).seq)).sDb (put (upX r i peer cost).db (ownAdv (upX r i peer cost)))) i _ hone hi hup (-1)
 have hS2 := postAll_smr i (listOf (upR r i peer cost).db) (upR r i peer cost)
 obtain ⟨k1, k2, k3, _⟩ := postAll_keeps i (listOf (upR r i peer cost).db) (upR r i peer cost)
 have hdb : (upR r i peer cost).db = put r.db (ownAdv (upX r i peer cost)) := rfl
 have hdk : DbOk (put r.db (ownAdv (upX r i peer cost))) := put_ok h.ok.db _
 refine ⟨fun j hj => ?_, k2.trans hdb, k1, k3, fun m hm hn => ?_⟩
 · obtain ⟨a1, a2⟩ := postAll_view i j (listOf (upR r i peer cost).db) (upR r i peer cost)
   rw [mem_listOf (d := (upR r i peer cost).db) hdk hj] at a1 a2
   rw [hdb] at a1 a2
   by_cases hd : (put r.db (ownAdv (upX r i peer cost))).2 j = true
   · rw [if_pos hd]
     refine (a1 hd).trans ?_
     rw [hd]; rfl
   · rw [if_neg hd]
     refine (a2 hd).trans ?_
     have hjo : j ≠ r.id.toNat := fun e => hd (by rw [e]; exact put_has h.own)
     have hf : (put r.db (ownAdv (upX r i peer cost))).2 j = false := by simpa using hd
     show Vw.mk ((put r.db (ownAdv (upX r i peer cost))).2 j) _ (((upR r i peer cost).port i).wait j) (((upR r i peer cost).port i).send j) = _
     rw [hf]
     have hp : (upR r i peer cost).port i = (((upX r i peer cost).port i).sSend r.id.toNat true).sWait r.id.toNat (r.now + 5) := if_pos ⟨hi, hup, by omega⟩
     rw [hp]
     have hpx : (upX r i peer cost).port i = ((((r.port i).sUp true).sPeer peer).sCost cost) := upd_self _ _ _
     rw [hpx]
     show Vw.mk false _ (upd (r.port i).wait r.id.toNat (r.now + 5) j) (upd (r.port i).send r.id.toNat true j) = _
     rw [upd_ne _ _ hjo, upd_ne _ _ hjo, h.quiet i hi j hj]
     rfl
 · exact (hS2.port m hm hn).trans ((hS1.port m hm hn).trans (upd_ne _ _ hn))
def v0 (d : Db) (now : Int) (wt : Nat → Int) (j : Nat) : Vw := if d.2 j = true then ⟨true, d.1 j, now + 5, true⟩ else ⟨false, d.1 j, wt j, false⟩
def t0 (da db : Db) (now : Int) (wa wb : Nat → Int) (j : Nat) : P1 := ⟨clrV (v0 da now wa j), clrV (v0 db now wb j), outV (v0 da now wa j), none, outV (v0 db now wb j), none⟩
theorem v0_out {d : Db} (hd : DbOk d) {now : Int} {wt : Nat → Int} {j : Nat} {x : S24} (h : outV (v0 d now wt j) = some x) : x.f0 = (j : Int) ∧ Chk x = 0 := by
 unfold v0 at h
 split at h
 · rename_i hh
   have e : d.1 j = x := by injection h
   rw [← e]
   exact ⟨((hd j).1 hh).2, ((hd j).1 hh).1⟩
 · cases h
theorem mtS_view {a b : Rt} (hA : Idle a) (hB : Idle b) {pa pb : Nat} (hpa : pa < 8) (hpb : pb < 8) (ida idb : Int) (hn : a.now = b.now) (za : Zer a) (zb : Zer b) :
 PV pa pb (mtS a b ida idb pa pb) (t0 (put a.db (ownAdv (upX a pa idb 3))) (put b.db (ownAdv (upX b pb ida 3))) a.now (fun j => (a.port pa).wait j) (fun j => (b.port pb).wait j)) := by
 obtain ⟨a1, a2, a3, a4, a5⟩ := up_view hA hpa idb 3
 obtain ⟨b1, b2, b3, b4, b5⟩ := up_view hB hpb ida 3
 have hda : DbOk (put a.db (ownAdv (upX a pa idb 3))) := put_ok hA.ok.db _
 have hdb : DbOk (put b.db (ownAdv (upX b pb ida 3))) := put_ok hB.ok.db _
 have A1 : ∀ j, j < 16 → vw (upP a pa idb 3) pa j = v0 (put a.db (ownAdv (upX a pa idb 3))) a.now (fun j => (a.port pa).wait j) j := a1
 have B1 : ∀ j, j < 16 → vw (upP b pb ida 3) pb j = v0 (put b.db (ownAdv (upX b pb ida 3))) a.now (fun j => (b.port pb).wait j) j := fun j hj => by rw [hn]; exact b1 j hj
 refine ⟨mtS_ok hA hB hpa hpb ida idb, fun j hj => ?_, fun j hj => ?_, fun _ _ => rfl, fun _ _ => rfl, ?_, ?_, fun j hj x hx => v0_out hda hx, fun j hj x hx => v0_out hdb hx, fun _ _ _ h => (by cases h), fun _ _ _ h => (by cases h), fun m hm hn j hj => ?_, fun m hm hn j hj => ?_⟩
 · exact (vw_sent _ _ _).trans (by rw [A1 j hj]; rfl)
 · exact (vw_sent _ _ _).trans (by rw [B1 j hj]; rfl)
 · have := sends_msg (upP a pa idb 3) pa (fun _ => none)
   rw [show fmL (fun _ => (none : Option S129)) 16 = [] from rfl] at this
   exact this.trans (msg_congr (fun j hj => by rw [A1 j hj]; rfl) (fun _ _ => rfl))
 · have := sends_msg (upP b pb ida 3) pb (fun _ => none)
   rw [show fmL (fun _ => (none : Option S129)) 16 = [] from rfl] at this
   exact this.trans (msg_congr (fun j hj => by rw [B1 j hj]; rfl) (fun _ _ => rfl))
 · show ((upP a pa idb 3).port m).wait j ≤ 0
   rw [a5 m hm hn]; exact za m hm j hj
 · show ((upP b pb ida 3).port m).wait j ≤ 0
   rw [b5 m hm hn]; exact zb m hm j hj
end Go.Proofs.Ytaneaabmgnanbaa.M
end
section
namespace Go.Proofs.Ytaneaabmgnanbaa.M
open Go.RowKit Go.Proofs.YtaneaabmgnanbaaW.PrintWords Go.Proofs.YtaneaabmgnanbaaW.PrintLast Go.Proofs.YtaneaabmgnanbaaW.PrintMore Go.Proofs.Ytaneaabmgnanbaa.PAdvBack
open Go.Proofs.Ytaneaabmgnanbaa.Rd (S129 z129 k129 k129_open k129_mk k129_mkM info129 flood_read.f)
set_option linter.unusedVariables false
set_option linter.unusedSimpArgs false
def vI (n : Int) (h : Bool) (x : S24) (wt : Int) : Vw := if h = true then ⟨true, x, n + 5, true⟩ else ⟨false, x, wt, false⟩
def tI (n : Int) (hx hy : Bool) (x y : S24) (wa wb : Int) : P1 := ⟨clrV (vI n hx x wa), clrV (vI n hy y wb), outV (vI n hx x wa), none, outV (vI n hy y wb), none⟩
def s1 (n : Int) (t : P1) : P1 := st1 n n false false t
structure Fin3 (n : Int) (hx hy : Bool) (t : P1) : Prop where
 fo : hx = false → t.fo = none ∧ (s1 n t).fo = none ∧ (s1 n (s1 n t)).fo = none
 fb : hy = false → t.fb = none ∧ (s1 n t).fb = none ∧ (s1 n (s1 n t)).fb = none
 e : (s1 n (s1 n (s1 n t))).fo = none ∧ (s1 n (s1 n (s1 n t))).go = none ∧ (s1 n (s1 n (s1 n t))).fb = none ∧ (s1 n (s1 n (s1 n t))).gb = none
 has : (s1 n (s1 n (s1 n t))).a.has = (s1 n (s1 n (s1 n t))).b.has
 adv : (s1 n (s1 n (s1 n t))).a.has = true → (s1 n (s1 n (s1 n t))).a.adv = (s1 n (s1 n (s1 n t))).b.adv
 wa : (s1 n (s1 n (s1 n t))).a.wait ≤ 0
 wb : (s1 n (s1 n (s1 n t))).b.wait ≤ 0
theorem three (n : Int) (h5 : 0 < n + 5) (hx hy : Bool) (x y : S24) (wa wb : Int) (hwa : wa ≤ 0) (hwb : wb ≤ 0) (heq : hx = true → hy = true → newerP x y = 0 → x = y) : Fin3 n hx hy (tI n hx hy x y wa wb) := by
 have hr := newerP_refl
 have h6 : ¬ n + 5 ≤ 0 := by omega
 cases hx with
 | false =>
  cases hy with
  | false => constructor <;> simp [tI, vI, s1, st1, inV, tkO, takeV, nrV, akO, ackV, outV, clrV, hwa, hwb]
  | true => constructor <;> simp [tI, vI, s1, st1, inV, tkO, takeV, nrV, akO, ackV, outV, clrV, hr, hwa, hwb, h5]
 | true =>
  cases hy with
  | false => constructor <;> simp [tI, vI, s1, st1, inV, tkO, takeV, nrV, akO, ackV, outV, clrV, hr, hwa, hwb, h5]
  | true =>
   have hneg := newerP_neg x y
   by_cases h1 : 0 < newerP x y
   · have h2 : ¬ 0 < newerP y x := by omega
     have h3 : newerP y x < 0 := by omega
     constructor <;> simp [tI, vI, s1, st1, inV, tkO, takeV, nrV, akO, ackV, outV, clrV, hr, hwa, hwb, h5, h1, h2, h3]
   · by_cases h2 : newerP x y < 0
     · have h3 : 0 < newerP y x := by omega
       constructor <;> simp [tI, vI, s1, st1, inV, tkO, takeV, nrV, akO, ackV, outV, clrV, hr, hwa, hwb, h5, h1, h2, h3]
     · have e := heq rfl rfl (by omega)
       subst e
       constructor <;> simp [tI, vI, s1, st1, inV, tkO, takeV, nrV, akO, ackV, outV, clrV, hr, hwa, hwb, h5]
theorem rests_of {r : Rt} (h : Zer r) : rests r = true := by
 unfold rests anyW
 rw [Bool.not_eq_true', List.any_eq_false]
 intro i hi
 rw [List.mem_range] at hi
 rw [Bool.not_eq_true, List.any_eq_false]
 intro j hj
 rw [List.mem_range] at hj
 have := h i hi j hj
 simp only [decide_eq_true_eq]
 omega
theorem list_eq {da db : Db} (h : ∀ j, j < 16 → da.2 j = db.2 j ∧ (da.2 j = true → da.1 j = db.1 j)) : listOf da = listOf db := by
 unfold listOf listTo
 have e : (List.range 16).filter da.2 = (List.range 16).filter db.2 := List.filter_congr (fun j hj => (h j (List.mem_range.1 hj)).1)
 rw [← e]
 exact List.map_congr_left (fun j hj => (h j (List.mem_range.1 (List.mem_filter.1 hj).1)).2 (List.mem_filter.1 hj).2)
theorem meet_two {a b : Rt} (hA : Idle a) (hB : Idle b) {pa pb : Nat} (hpa : pa < 8) (hpb : pb < 8) (ida idb : Int) (ha0 : a.now = 0) (hb0 : b.now = 0) (za : Zer a) (zb : Zer b)
 (hda : ∀ j, j < 16 → (put a.db (ownAdv (upX a pa idb 3))).2 j = true → (put b.db (ownAdv (upX b pb ida 3))).2 j = true → newerP ((put a.db (ownAdv (upX a pa idb 3))).1 j) ((put b.db (ownAdv (upX b pb ida 3))).1 j) = 0 → (put a.db (ownAdv (upX a pa idb 3))).1 j = (put b.db (ownAdv (upX b pb ida 3))).1 j)
 (hab : ∀ j : Nat, j < 16 → (j : Int) = b.id → (put a.db (ownAdv (upX a pa idb 3))).2 j = false) (hba : ∀ j : Nat, j < 16 → (j : Int) = a.id → (put b.db (ownAdv (upX b pb ida 3))).2 j = false) :
 (itr [] pa pb 3 (mtS a b ida idb pa pb)).o = [] ∧ (itr [] pa pb 3 (mtS a b ida idb pa pb)).bk = [] ∧ listOf (itr [] pa pb 3 (mtS a b ida idb pa pb)).a.db = listOf (itr [] pa pb 3 (mtS a b ida idb pa pb)).b.db ∧ rests (itr [] pa pb 3 (mtS a b ida idb pa pb)).a = true ∧ rests (itr [] pa pb 3 (mtS a b ida idb pa pb)).b = true := by
 have V0 := mtS_view hA hB hpa hpb ida idb (by rw [ha0, hb0]) za zb
 have hi0 : (mtS a b ida idb pa pb).a.id = a.id ∧ (mtS a b ida idb pa pb).b.id = b.id := ⟨(up_view hA hpa idb 3).2.2.2.1, (up_view hB hpb ida 3).2.2.2.1⟩
 have hn0 : (mtS a b ida idb pa pb).a.now = 0 ∧ (mtS a b ida idb pa pb).b.now = 0 := ⟨(up_view hA hpa idb 3).2.2.1.trans ha0, (up_view hB hpb ida 3).2.2.1.trans hb0⟩
 rw [ha0] at V0
 have F : ∀ j, j < 16 → Fin3 0 ((put a.db (ownAdv (upX a pa idb 3))).2 j) ((put b.db (ownAdv (upX b pb ida 3))).2 j) (t0 (put a.db (ownAdv (upX a pa idb 3))) (put b.db (ownAdv (upX b pb ida 3))) 0 (fun j => (a.port pa).wait j) (fun j => (b.port pb).wait j) j) := fun j hj =>
  three 0 (by omega) _ _ _ _ _ _ (za pa hpa j hj) (zb pb hpb j hj) (hda j hj)
 generalize t0 (put a.db (ownAdv (upX a pa idb 3))) (put b.db (ownAdv (upX b pb ida 3))) 0 (fun j => (a.port pa).wait j) (fun j => (b.port pb).wait j) = T at V0 F
 generalize mtS a b ida idb pa pb = s at V0 hi0 hn0 ⊢
 obtain ⟨i1, i2⟩ := hi0
 obtain ⟨n1, n2⟩ := hn0
 obtain ⟨_, _, hl, V1, j1, j2, m1, m2⟩ := stp_view (lost := []) hpa hpb V0 (fun j hj => ⟨fun e => ((F j hj).fo (hab j hj (e.trans i2))).1, fun e => ((F j hj).fb (hba j hj (e.trans i1))).1⟩)
 obtain ⟨rfl, rfl⟩ := hl rfl
 rw [n1, n2] at V1
 obtain ⟨_, _, hl, V2, k1, k2, l1, l2⟩ := stp_view (lost := []) hpa hpb V1 (fun j hj => ⟨fun e => ((F j hj).fo (hab j hj (e.trans (j2.trans i2)))).2.1, fun e => ((F j hj).fb (hba j hj (e.trans (j1.trans i1)))).2.1⟩)
 obtain ⟨rfl, rfl⟩ := hl rfl
 rw [m1, m2, n1, n2] at V2
 obtain ⟨_, _, hl, V3, o1, o2, q1, q2⟩ := stp_view (lost := []) hpa hpb V2 (fun j hj => ⟨fun e => ((F j hj).fo (hab j hj (e.trans (k2.trans (j2.trans i2))))).2.2, fun e => ((F j hj).fb (hba j hj (e.trans (k1.trans (j1.trans i1))))).2.2⟩)
 obtain ⟨rfl, rfl⟩ := hl rfl
 rw [l1, l2, m1, m2, n1, n2] at V3
 show (stp [] pa pb (stp [] pa pb (stp [] pa pb s))).o = [] ∧ _
 refine ⟨?_, ?_, ?_, ?_, ?_⟩
 · rw [V3.o]; exact msg_none (fun j hj => (F j hj).e.1) (fun j hj => (F j hj).e.2.1)
 · show (stp [] pa pb (stp [] pa pb (stp [] pa pb s))).bk = []
   rw [V3.bk]; exact msg_none (fun j hj => (F j hj).e.2.2.1) (fun j hj => (F j hj).e.2.2.2)
 · show listOf (stp [] pa pb (stp [] pa pb (stp [] pa pb s))).a.db = listOf (stp [] pa pb (stp [] pa pb (stp [] pa pb s))).b.db
   refine list_eq (fun j hj => ?_)
   have ea := V3.va j hj
   have eb := V3.vb j hj
   have A2 := congrArg Vw.has ea
   have B2 := congrArg Vw.has eb
   have A3 := congrArg Vw.adv ea
   have B3 := congrArg Vw.adv eb
   refine ⟨A2.trans ((F j hj).has.trans B2.symm), fun h => A3.trans (((F j hj).adv (A2.symm.trans h)).trans B3.symm)⟩
 · refine rests_of (fun m hm j hj => ?_)
   by_cases e : m = pa
   · subst e
     have := congrArg Vw.wait (V3.va j hj)
     exact Int.le_trans (Int.le_of_eq this) (F j hj).wa
   · exact V3.oa m hm e j hj
 · refine rests_of (fun m hm j hj => ?_)
   by_cases e : m = pb
   · subst e
     have := congrArg Vw.wait (V3.vb j hj)
     exact Int.le_trans (Int.le_of_eq this) (F j hj).wb
   · exact V3.ob m hm e j hj
end Go.Proofs.Ytaneaabmgnanbaa.M
end
section
namespace Go.Proofs.Ytaneaabmgnanbaa.M
open Go.RowKit Go.Proofs.YtaneaabmgnanbaaW.PrintWords Go.Proofs.YtaneaabmgnanbaaW.PrintLast Go.Proofs.YtaneaabmgnanbaaW.PrintMore Go.Proofs.Ytaneaabmgnanbaa.PAdvBack
open Go.Proofs.Ytaneaabmgnanbaa.Rd (S129 z129 k129 k129_open k129_mk k129_mkM info129 flood_read.f)
set_option linter.unusedVariables false
set_option linter.unusedSimpArgs false
theorem oneUp_other {r : Rt} {i : Nat} (ho : OneUp r) (hi : i < 8) (hu : (r.port i).up = true) : ∀ m, m < 8 → ((zeroP r i).port m).up = false := fun m hm => by
 show (upd r.port i zPrt m : Prt).up = false
 by_cases e : m = i
 · rw [e, upd_self]; rfl
 · rw [upd_ne _ _ e]
   cases h : (r.port m).up with
   | false => rfl
   | true => exact absurd (ho m hm i hi h hu) e
theorem zero_one {r : Rt} {i : Nat} (ho : OneUp r) (hi : i < 8) (hu : (r.port i).up = true) : OneUp (zeroP r i) := fun a ha b hb h1 _ => by
 rw [oneUp_other ho hi hu a ha] at h1; cases h1
theorem dn_idle {r : Rt} {i : Nat} (hi : i < 8) (h : RI r i) : Idle (sentR (dnP r i)) := by
 have h1 : RtOk (zeroP r i) := ⟨h.inv.ok.id, h.inv.ok.seq, h.inv.ok.now, h.inv.ok.db⟩
 have h2 := own_ok h1
 have hU : Ups (zeroP r i) (dnP r i) := ups_own _
 refine ⟨⟨h2.id, h2.seq, h2.now, h2.db⟩, fun m hm => ?_, fun _ _ _ _ => rfl, ?_⟩
 · show ((dnP r i).port m).up = false
   rw [hU m]; exact oneUp_other h.inv.one hi h.up m hm
 · show (dnP r i).db.2 (dnP r i).id.toNat = true
   exact put_has (d := (zeroP r i).db) h.inv.own
theorem TkC.of {w0 w : World} {b0 pA qA pB qB : Nat} {a b : Rt} (h : TkC w0 b0 pA qA pB qB) (T : TwoAt w pA qA pB qB a b) : TkC w0 w.heap.size pA qA pB qB := ⟨h.p, h.q, ⟨h.pa.1, T.CA.lt⟩, ⟨h.qa.1, T.DA.lt⟩, ⟨h.pb.1, T.CB.lt⟩, ⟨h.qb.1, T.DB.lt⟩⟩
def PlD (d : Db) (own : Nat) : Prop := ∀ j, j < 16 → d.2 j = true → j ≠ own → 3 ≤ j ∧ (d.1 j).f2 = 0 ∧ (d.1 j).f3 = []
theorem PlD.put {d : Db} {own : Nat} (h : PlD d own) {a : S24} (ha : a.f0 = (own : Int)) : PlD (put d a) own := fun j hj h1 h2 => by
 have hn : j ≠ a.f0.toNat := by rw [ha]; exact h2
 obtain ⟨e1, e2⟩ := put_other (d := d) hn
 rw [e1] at h1
 rw [e2]
 exact h j hj h1 h2
structure Kx (r : Rt) (own : Nat) : Prop where
 idle : Idle r
 zer : Zer r
 id : r.id = (own : Int)
 now : r.now = 0
 db : PlD r.db own
structure Kn (r : Rt) (i own : Nat) : Prop where
 ri : RI r i
 id : r.id = (own : Int)
 now : r.now = 0
 oth : Oth r i
 db : PlD r.db own
theorem kx_new {i : Nat} (hi : i < 16) (ho : (newR i).db.2 i = true) : Kx (newR i) i where
 idle := newR_idle i hi ho
 zer := fun m _ j _ => by rw [newR_port]; exact Int.le_refl 0
 id := rfl
 now := rfl
 db := PlD.put (d := noDb) (fun j _ h _ => (by cases h)) rfl
theorem kn_up {r : Rt} {own i : Nat} (h : Kx r own) (hi : i < 8) (peer cost : Int) : Kn (sentR (upP r i peer cost)) i own := by
 obtain ⟨_, h2, h3, h4, h5⟩ := up_view h.idle hi peer cost
 refine ⟨(upP_ok h.idle hi peer cost).1, h4.trans h.id, h3.trans h.now, fun m hm hn j hj => ?_, ?_⟩
 · show ((upP r i peer cost).port m).wait j ≤ 0
   rw [h5 m hm hn]; exact h.zer m hm j hj
 · show PlD (upP r i peer cost).db own
   rw [h2]
   exact h.db.put h.id
theorem takeV_db (v : Vw) (now : Int) (a : S24) : ((takeV v now a).1.has = v.has ∧ (takeV v now a).1.adv = v.adv) ∨ ((takeV v now a).1.has = true ∧ (takeV v now a).1.adv = a) := by
 unfold takeV
 split
 · exact .inr ⟨rfl, rfl⟩
 · split
   · exact .inl ⟨rfl, rfl⟩
   · split
     · exact .inl ⟨rfl, rfl⟩
     · exact .inl ⟨rfl, rfl⟩
theorem kn_in {r : Rt} {own i : Nat} (h : Kn r i own) (ho : own < 3) (hi : i < 8) (a : S24) : Kn (sentR (inR r i [kAdv a] [])) i own := by
 have h1 := and_range a.f0 (m := 7) (by omega)
 have hid : (kAdv a).f0 ≠ r.id := by
  rw [h.id]
  show (3 + bits .and .i64 a.f0 7 : Int) ≠ (own : Int)
  have : (0 : Int) ≤ bits .and .i64 a.f0 7 := h1.1
  omega
 obtain ⟨v1, _, v3⟩ := take_view (ks := []) hi h.ri.inv.one h.ri.up (kAdv_chk a) hid
 refine ⟨(inS_ok hi h.ri (kMsg_ok a)).1, v3.id.trans h.id, v3.now.trans h.now, fun m hm hn j hj => (h.oth.smr v3) m hm hn j hj, fun j hj e1 e2 => ?_⟩
 have hv := v1 j
 have e1' : (vw (takeP r [] i (kAdv a)).1 i j).has = true := e1
 show 3 ≤ j ∧ (vw (takeP r [] i (kAdv a)).1 i j).adv.f2 = 0 ∧ (vw (takeP r [] i (kAdv a)).1 i j).adv.f3 = []
 rw [hv] at e1' ⊢
 by_cases e : j = (kAdv a).f0.toNat
 · rw [if_pos e] at e1' ⊢
   rcases takeV_db (vw r i j) r.now (kAdv a) with ⟨g1, g2⟩ | ⟨g1, g2⟩
   · rw [g2]
     rw [g1] at e1'
     exact h.db j hj e1' e2
   · rw [g2]
     refine ⟨?_, rfl, rfl⟩
     rw [e]
     show 3 ≤ (3 + bits .and .i64 a.f0 7 : Int).toNat
     have : (0 : Int) ≤ bits .and .i64 a.f0 7 := h1.1
     omega
 · rw [if_neg e] at e1' ⊢
   exact h.db j hj e1' e2
theorem kn_known {own i : Nat} (ho : own < 3) (hi : i < 8) : ∀ (l : List S24) (r : Rt), Kn r i own → Kn (knownR r i l) i own
 | [], r, h => h
 | a :: l, r, h => kn_known ho hi l _ (kn_in h ho hi a)
theorem kx_dn {r : Rt} {own i : Nat} (h : Kn r i own) (hi : i < 8) : Kx (sentR (dnP r i)) own := by
 refine ⟨dn_idle hi h.ri, fun m hm j hj => ?_, h.id, h.now, ?_⟩
 · show ((dnP r i).port m).wait j ≤ 0
   have e : (dnP r i).port m = (zeroP r i).port m := by
    show (if m < 8 ∧ ((zeroP r i).port m).up = true ∧ (m : Int) ≠ -1 then _ else (zeroP r i).port m : Prt) = _
    rw [if_neg]
    rintro ⟨_, h2, _⟩
    rw [oneUp_other h.ri.inv.one hi h.ri.up m hm] at h2
    cases h2
   rw [e]
   show (upd r.port i zPrt m : Prt).wait j ≤ 0
   by_cases e : m = i
   · rw [e, upd_self]; exact Int.le_refl 0
   · rw [upd_ne _ _ e]; exact h.oth m hm e j hj
 · show PlD (put (zeroP r i).db (ownAdv (zeroP r i))) own
   exact PlD.put (d := (zeroP r i).db) h.db h.id
theorem two_end {a b : Rt} {oa ob : Nat} (hA : Kx a oa) (hB : Kx b ob) (h1 : oa < 3) (h2 : ob < 3) (hne : oa ≠ ob) {pa pb : Nat} (hpa : pa < 8) (hpb : pb < 8) (ida idb : Int) :
 (itr [] pa pb 3 (mtS a b ida idb pa pb)).o = [] ∧ (itr [] pa pb 3 (mtS a b ida idb pa pb)).bk = [] ∧ listOf (itr [] pa pb 3 (mtS a b ida idb pa pb)).a.db = listOf (itr [] pa pb 3 (mtS a b ida idb pa pb)).b.db ∧ rests (itr [] pa pb 3 (mtS a b ida idb pa pb)).a = true ∧ rests (itr [] pa pb 3 (mtS a b ida idb pa pb)).b = true := by
 have PA : PlD (put a.db (ownAdv (upX a pa idb 3))) oa := hA.db.put hA.id
 have PB : PlD (put b.db (ownAdv (upX b pb ida 3))) ob := hB.db.put hB.id
 have DA : DbOk (put a.db (ownAdv (upX a pa idb 3))) := put_ok hA.idle.ok.db _
 have DB : DbOk (put b.db (ownAdv (upX b pb ida 3))) := put_ok hB.idle.ok.db _
 refine meet_two hA.idle hB.idle hpa hpb ida idb hA.now hB.now hA.zer hB.zer ?_ ?_ ?_
 · generalize put a.db (ownAdv (upX a pa idb 3)) = da at PA DA ⊢
   generalize put b.db (ownAdv (upX b pb ida 3)) = db at PB DB ⊢
   intro j hj ha hb hz
   by_cases ea : j = oa
   · have := (PB j hj hb (by omega)).1; omega
   by_cases eb : j = ob
   · have := (PA j hj ha (by omega)).1; omega
   obtain ⟨_, a2, a3⟩ := PA j hj ha ea
   obtain ⟨_, b2, b3⟩ := PB j hj hb eb
   have a0 := ((DA j).1 ha).2
   have b0 := ((DB j).1 hb).2
   generalize da.1 j = x at *
   generalize db.1 j = y at *
   obtain ⟨x0, x1, x2, x3⟩ := x
   obtain ⟨y0, y1, y2, y3⟩ := y
   simp only at a0 a2 a3 b0 b2 b3
   subst a0 a2 a3 b0 b2 b3
   have e1 : x1 = y1 := by
    unfold newerP or3 cmpI at hz
    simp only at hz
    by_cases l1 : x1 < y1
    · rw [if_pos l1, if_pos (by decide)] at hz; cases hz
    · by_cases l2 : y1 < x1
      · rw [if_neg l1, if_pos l2, if_pos (by decide)] at hz; cases hz
      · omega
   rw [e1]
 · intro j hj e
   rw [hB.id] at e
   have : j = ob := by omega
   cases h : (put a.db (ownAdv (upX a pa idb 3))).2 j with
   | false => rfl
   | true => have := (PA j hj h (by omega)).1; omega
 · intro j hj e
   rw [hA.id] at e
   have : j = oa := by omega
   cases h : (put b.db (ownAdv (upX b pb ida 3))).2 j with
   | false => rfl
   | true => have := (PB j hj h (by omega)).1; omega
end Go.Proofs.Ytaneaabmgnanbaa.M
end
