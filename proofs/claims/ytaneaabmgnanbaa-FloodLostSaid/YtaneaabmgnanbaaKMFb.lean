import Derived.Test.YtaneaabmgnanbaaKMFa
import Derived.LoopTactic
import Derived.RegionTactic
import Derived.BigRegion
import Derived.BigQuiet
import Derived.Deep.WholeRow
import Derived.Deep.MidRow
import Derived.StillTailTactics
import Derived.Deep.DeepCutAuto
import Derived.Deep.RegionWith
section
namespace Go.Proofs.Ytaneaabmgnanbaa.M
open Go.RowKit Go.Proofs.YtaneaabmgnanbaaW.PrintWords Go.Proofs.YtaneaabmgnanbaaW.PrintLast Go.Proofs.YtaneaabmgnanbaaW.PrintMore Go.Proofs.Ytaneaabmgnanbaa.PAdvBack
open Go.Proofs.Ytaneaabmgnanbaa.Rd (S129 z129 k129 k129_open k129_mk k129_mkM info129 flood_read.f)
set_option linter.unusedVariables false
set_option linter.unusedSimpArgs false
def Prt.off (x : Prt) (j : Nat) : Prt := (x.sWait j 0).sSend j false
def takeP (r : Rt) (ks : List S129) (i : Nat) (a : S24) : Rt × List S129 :=
 if a.f0 = r.id ∧ 0 < newerP a (r.db.1 a.f0.toNat) then (own ((r.sSeq a.f1).sDb (put r.db a)), ks)
 else if 0 < putN r.db a then (floodTo ((r.sDb (put r.db a)).sP i ((r.port i).off a.f0.toNat)) a.f0.toNat i 8, ks ++ [⟨a.f0, a.f1⟩])
 else if putN r.db a < 0 then (post r i a.f0.toNat, ks)
 else if 0 < (r.port i).wait a.f0.toNat ∧ (r.port i).send a.f0.toNat = false then (r.sP i ((r.port i).sWait a.f0.toNat 0), ks)
 else (r.sP i ((r.port i).off a.f0.toNat), ks ++ [⟨a.f0, a.f1⟩])
structure TS (w0 ws wr : World) (p q i : Nat) (r : Rt) (v : Value) (ks : List S129) : Prop where
 C : RtC wr p q r (upd noAck i v)
 D : BaseAt wr q r.db.1 r.db.2
 R : Kd.R k129 129 wr ws.heap.size (fun b => ws.heap.size ≤ b) v ks
 K : Keep2 ws wr p q
 B : Below w0.heap.size w0 wr
section
variable {w0 ws wr w1 : World} {p q i : Nat} {r r' : Rt} {v : Value} {ks : List S129}
theorem TS.below (s : TS w0 ws wr p q i r v ks) (h : Below wr.heap.size wr w1) : TS w0 ws w1 p q i r v ks :=
 ⟨s.C.below h, s.D.below h, Kd.R_below s.R h, s.K.trans (Keep2.of_below p q h), below_self s.B h⟩
theorem TS.keepP (s : TS w0 ws wr p q i r v ks) (C : RtC w1 p q r' (upd noAck i v)) (hd : r'.db = r.db) (hk : KeepBut wr w1 p none) (hb : Below w0.heap.size w0 w1) (hp : p < ws.heap.size) : TS w0 ws w1 p q i r' v ks :=
 ⟨C, by rw [hd]; exact BaseAt.router s.D s.C hk, Kd.R_keep s.R hk (fun b hb => by omega), s.K.trans (Keep2.of_p q hk), hb⟩
theorem TS.keepQ (s : TS w0 ws wr p q i r v ks) {d : Db} (D : BaseAt w1 q d.1 d.2) (hk : KeepBut wr w1 q none) (hb : Below w0.heap.size w0 w1) (hq : q < ws.heap.size) : TS w0 ws w1 p q i (r.sDb d) v ks :=
 ⟨(s.C.move (hk.2 p s.C.lt (s.C.ne s.D) (by simp))).sDb d, D, Kd.R_keep s.R hk (fun b hb => by omega), s.K.trans (Keep2.of_q p hk), hb⟩
theorem TS.keep2 (s : TS w0 ws wr p q i r v ks) (C : RtC w1 p q r' (upd noAck i v)) (D : BaseAt w1 q r'.db.1 r'.db.2) (hk : Keep2 wr w1 p q) (hb : Below w0.heap.size w0 w1) (hp : p < ws.heap.size) (hq : q < ws.heap.size) : TS w0 ws w1 p q i r' v ks :=
 ⟨C, D, Kd.R_step s.R (fun b hb hlt => hk.2 b hlt (fun e => by rcases e with e | e <;> omega)), s.K.trans hk, hb⟩
structure TS' (w0 ws wr : World) (p q i : Nat) (r : Rt) (v : Value) : Prop where
 C : RtC wr p q r (upd noAck i v)
 D : BaseAt wr q r.db.1 r.db.2
 K : Keep2 ws wr p q
 B : Below w0.heap.size w0 wr
theorem TS.grown129 (s : TS w0 ws wr p q i r v ks) (hg : wr.grownBy w1 v.ownBlock) (h0 : w0.heap.size ≤ ws.heap.size) : TS' w0 ws w1 p q i r v :=
 ⟨s.C.grown s.R hg (by decide), by
  obtain ⟨cs, hq, _⟩ := s.D
  exact s.D.side ⟨hg.size, fun b cs hb => hg.block b (blk_lt hb) (Kd.R_ne s.R hb (by decide))⟩ (hg.block q (blk_lt hq) (Kd.R_ne s.R hq (by decide))),
  ⟨Nat.le_trans s.K.1 hg.size, fun b hb hn => (hg.block b (Nat.lt_of_lt_of_le hb s.K.1) (fun e => by have := s.R.1 b e.symm; omega)).trans (s.K.2 b hb hn)⟩, s.B.grown hg s.B.size (fun b hb => Nat.le_trans h0 (s.R.1 b hb))⟩
theorem TS'.acked {v' : Value} {ks' : List S129} (s : TS' w0 ws wr p q i r v) (hi : i < 8) (hR : Kd.R k129 129 wr ws.heap.size (fun b => ws.heap.size ≤ b) v' ks') (hp0 : w0.heap.size ≤ p) (hp : p < ws.heap.size) : TS w0 ws (wr.setCell ⟨p, 4 + i * 36 + 35, none⟩ v') p q i r v' ks' :=
 ⟨by have := s.C.setAcks hi v'; rwa [upd_upd] at this, BaseAt.router s.D s.C ((KeepBut.refl wr p none).set_ _ v'), Kd.R_keep hR ((KeepBut.refl wr p none).set_ _ v') (fun b hb => by omega), s.K.trans (Keep2.of_p q ((KeepBut.refl wr p none).set_ _ v')), s.B.setCell (p := ⟨p, 4 + i * 36 + 35, none⟩) hp0 v'⟩
theorem vone_upd (i : Nat) (A : Option Addr) (n c : Nat) : ∀ m, m < 8 → (upd noAck i (.slice A n c) m).oneCell' = true := fun m _ => by
 unfold upd
 split <;> rfl
theorem put_stays {d : Db} (hd : DbOk d) {a : S24} (hn : ¬ 0 < putN d a) : put d a = d := by
 unfold put
 rw [if_neg]
 rintro ⟨h1, h2⟩
 unfold putN at hn
 cases hh : d.2 a.f0.toNat with
 | true => rw [if_pos hh] at hn; exact hn (h2 hh)
 | false => rw [if_neg (by rw [hh]; simp)] at hn; omega
theorem sets4_R24 {α : Type} {d : Kd α} {base : Nat} {ok : Nat → Prop} {v : Value} {xs : List α} {w : World} {g e : Nat} {cs : Array Value} (h : d.R e w base ok v xs) (hG : w.heap[g]? = some (.cells cs 24 (0, 0))) (x y z u : Value) (ht : ∀ q, q ∈ e :: d.E → q ≠ 24 := by decide) : d.R e ((((w.setCell ⟨g, 0, none⟩ x).setCell ⟨g, 1, none⟩ y).setCell ⟨g, 2, none⟩ z).setCell ⟨g, 3, none⟩ u) base ok v xs :=
 Kd.R_set (Kd.R_set (Kd.R_set (Kd.R_set h hG ht 0 x) (blk_set hG 0 x) ht 1 y) (blk_set (blk_set hG 0 x) 1 y) ht 2 z) (blk_set (blk_set (blk_set hG 0 x) 1 y) 2 z) ht 3 u
end
end Go.Proofs.Ytaneaabmgnanbaa.M
end
section
namespace Go.Proofs.Ytaneaabmgnanbaa.M
open Go.RowKit Go.Proofs.YtaneaabmgnanbaaW.PrintWords Go.Proofs.YtaneaabmgnanbaaW.PrintLast Go.Proofs.YtaneaabmgnanbaaW.PrintMore Go.Proofs.Ytaneaabmgnanbaa.PAdvBack
open Go.Proofs.Ytaneaabmgnanbaa.Rd (S129 z129 k129 k129_open k129_mk k129_mkM info129 flood_read.f)
set_option linter.unusedVariables false
set_option linter.unusedSimpArgs false
set_option maxHeartbeats 4000000 in
set_option maxRecDepth 100000 in
theorem take79 (p q i : Nat) (a : S24) (A : Option Addr) (ca : Nat) (r : Rt) (v : Value) (ks : List S129) (w ws w0 : World) (hi : i < 8) (hca : a.f3.length ≤ ca) (hv : Chk a = 0) (hok : RtOk r) (ho : OneUp r) (hown : r.db.2 r.id.toNat = true) (hkl : ks.length ≤ 1000) (hp : p < ws.heap.size) (hq : q < ws.heap.size) (hp0 : w0.heap.size ≤ p) (hq0 : w0.heap.size ≤ q) (HKC : Hid (∀ W, Keep2 w W p q → Kd.C k28 W A a.f3.length a.f3)) (S : TS w0 ws w p q i r v ks) :
 Calls Try.prog 79 #[.pointer (some ⟨p, 0, none⟩), .int .i64 i, .agg #[.int .i64 a.f0, .int .i64 a.f1, .int .i64 a.f2, .slice A a.f3.length ca]] w fun e w' => e = .returned (.tuple #[]) ∧ ∃ v', TS w0 ws w' p q i (takeP r ks i a).1 v' (takeP r ks i a).2 := by
 have hu103 := Try.underlying103
 have hu104 := Try.underlying104
 have hu106 := Try.underlying106
 have hu24 := Try.underlying24
 have hu91 := Try.underlying91
 have hu100 := Try.underlying100
 have hu129 := Try.underlying129
 have hV := chk_zero hv
 have hl16 := hV.len
 have hj16 := hV.id1
 have hj0 := hV.id0
 have HVAL := Lib.hid hv
 have HOK := Lib.hid hok
 have HO := Lib.hid ho
 have HOWN := Lib.hid hown
 have HPP := Lib.hid (Nat.le_trans hp0 (Nat.le_of_lt hp))
 have HP := Lib.hid hp
 have HQ := Lib.hid hq
 have HP0 := Lib.hid hp0
 have HQ0 := Lib.hid hq0
 have HCA := Lib.hid hca
 have hi8 : (i : Int) < 8 := by omega
 obtain ⟨Av, cv, rfl, _, _⟩ := Kd.R_reads S.R
 clear hv hok ho hown hp hq hp0 hq0 hca hV
 obtain ⟨x0, Hx0⟩ : ∃ x, Hid (x = a.f0) := ⟨_, Lib.hid rfl⟩
 obtain ⟨x1, Hx1⟩ : ∃ x, Hid (x = a.f1) := ⟨_, Lib.hid rfl⟩
 obtain ⟨x2, Hx2⟩ : ∃ x, Hid (x = a.f2) := ⟨_, Lib.hid rfl⟩
 obtain ⟨xl, Hxl⟩ : ∃ x, Hid (x = a.f3) := ⟨_, Lib.hid rfl⟩
 rw [← Hx0.out] at hj16 hj0
 rw [← Hxl.out] at HKC HCA hl16
 rw [← Hx0.out, ← Hx1.out, ← Hx2.out, ← Hxl.out]
 obtain ⟨j, HJ⟩ : ∃ n : Nat, Hid (x0 = (n : Int)) := ⟨x0.toNat, Lib.hid (by omega)⟩
 have hjn : j < 16 := by have := HJ.out; omega
 have hjj : (j : Int) < 16 := by omega
 obtain rfl : x0 = (j : Int) := HJ.out
 clear HJ
 have hAj : a.f0.toNat = j := by rw [← Hx0.out]; exact Int.toNat_natCast j
 have HAJ := Lib.hid hAj
 clear hAj
 have hb1 := below_alloc (Below.refl w.heap.size w) (.cells #[.int .i64 j, .int .i64 x1, .int .i64 x2, .slice A xl.length ca] 24)
 have S1 := S.below hb1
 have HX1 := Lib.hid (blk_alloc w (.cells #[.int .i64 j, .int .i64 x1, .int .i64 x2, .slice A xl.length ca] 24))
 have HC1 := Lib.hid (HKC.out _ (Keep2.of_below p q hb1))
 have HKW1 := Lib.hid (Keep2.of_below p q hb1)
 clear hb1
 obtain ⟨ga, Hga⟩ : ∃ g, Hid (g = w.heap.size) := ⟨_, Lib.hid rfl⟩
 have hpl := S1.C.lt
 go_enter Try.func79, Try.ntmps79
 go_upto_region 2 with (fail)
 rw [← Hga.out] at HX1
 rw [← Hga.out]
 generalize w.alloc (.cells #[.int .i64 j, .int .i64 x1, .int .i64 x2, .slice A xl.length ca] 24) = w1 at S1 HX1 HC1 HKW1 hpl ⊢
 obtain ⟨p0, p1, p2, p3, pf⟩ := blk_cells4 HX1.out
 have hgl := blk_lt HX1.out
 obtain ⟨ci, cq, cn, cb⟩ := S1.C.ids
 obtain ⟨rid, HRID⟩ : ∃ x, Hid (x = r.id) := ⟨_, Lib.hid rfl⟩
 rw [← HRID.out] at ci
 by_cases hid : (j : Int) = rid
 · subst hid
   have HID := HRID
   go_quiet (fail)
   have hdn := pw_below_drewN (Below.refl w1.heap.size w1) nq
   have S2 := S1.below hdn
   have HX2 := Lib.hid (blk_keep hdn HX1.out)
   have HC2 := Lib.hid (Kd.C_below HC1.out hdn)
   have HKW2 := Lib.hid (HKW1.out.trans (Keep2.of_below p q hdn))
   clear hdn p0 p1 p2 p3 pf hgl ci cq cn cb hpl
   generalize w1.drewN nq = w2 at S2 HX2 HC2 HKW2 ⊢
   have hrid : r.id.toNat = j := by rw [← HID.out]; exact Int.toNat_natCast j
   rw [hrid] at HOWN
   obtain ⟨mv, Hmv⟩ : ∃ m : S24, Hid (m = r.db.1 j) := ⟨_, Lib.hid rfl⟩
   have hmc := ((HOK.out.db j).1 HOWN.out).1
   rw [← Hmv.out] at hmc
   have HMC := Lib.hid hmc
   have hml := (chk_zero hmc).len
   clear hmc hrid
   go_upto_region 3 with (fail)
   have hpl : p < w2.heap.size := S2.C.lt
   have HGET := Lib.hid (fun (W : World) (hb : Below w2.heap.size w2 W) => by
    have := Get_yes q r.db j W hjn (by rw [← Hmv.out]; omega) (Lib.hid (S2.below hb).D) HOWN.out
    rw [← Hmv.out] at this
    exact this)
   have Bq := Lib.hid (below_drew (Below.refl w2.heap.size w2))
   have hpl : p < w2.drew.heap.size := S2.C.lt
   have s0 : w2.drew.cell? ⟨p, 3, none⟩ = some (.pointer (some ⟨q, 0, none⟩)) := S2.C.ids.2.2.2
   have s1 : w2.drew.cell? ⟨p, 0, none⟩ = some (.int .i64 j) := by rw [HID.out]; exact S2.C.ids.1
   refine start_ (n := 15) (S := fun w' => w'.cell? ⟨p, 3, none⟩ = some (.pointer (some ⟨q, 0, none⟩)) ∧ w'.cell? ⟨p, 0, none⟩ = some (.int .i64 j)) (ds := [13]) #[false, false, false, false, false, false, false, false, false, false, false, false, false, false, false] (by kernel_rfl) rfl rfl ⟨s0, s1⟩ (fun hHeld => ?_)
   generalize w2.drew = wd at HGET Bq hpl s0 s1 hHeld ⊢
   refine pure_ (i := 0) (N := some 26) (v := ?_) (a' := ?_) #[true, false, false, false, false, false, false, false, false, false, false, false, false, false, false] rfl rfl (by kernel_rfl) (fun _ _ _ h => h) (Or.inl ⟨by rfl, ?_⟩) ?_ ?_
   rotate_left
   · intro w'
     go_simp
     with_reducible rfl
   rotate_left
   · simp only [Act.put, List.setIfInBounds_toArray, List.set_cons_zero, List.set_cons_succ, i64_w, i32_w]
     rfl
   refine pure_ (i := 1) (N := some 27) (v := ?_) (a' := ?_) #[true, true, false, false, false, false, false, false, false, false, false, false, false, false, false] rfl rfl (by kernel_rfl) (fun _ _ _ h => h) (Or.inl ⟨by rfl, ?_⟩) ?_ ?_
   rotate_left
   · intro w'
     go_simp
     with_reducible rfl
   rotate_left
   · simp only [Act.put, List.setIfInBounds_toArray, List.set_cons_zero, List.set_cons_succ, i64_w, i32_w]
     rfl
   refine pure_ (i := 2) (N := some 28) (v := ?_) (a' := ?_) #[true, true, true, false, false, false, false, false, false, false, false, false, false, false, false] rfl rfl (by kernel_rfl) (fun _ _ _ h => h) (Or.inl ⟨by rfl, ?_⟩) ?_ ?_
   rotate_left
   · intro w'
     go_simp
     with_reducible rfl
   rotate_left
   · simp only [Act.put, List.setIfInBounds_toArray, List.set_cons_zero, List.set_cons_succ, i64_w, i32_w]
     rfl
   refine pure_ (i := 4) (N := some 30) (v := ?_) (a' := ?_) #[true, true, true, false, true, false, false, false, false, false, false, false, false, false, false] rfl rfl (by kernel_rfl) (fun _ _ _ h => h) (Or.inl ⟨by rfl, ?_⟩) ?_ ?_
   rotate_left
   · intro w'
     go_simp
     with_reducible rfl
   rotate_left
   · simp only [Act.put, List.setIfInBounds_toArray, List.set_cons_zero, List.set_cons_succ, i64_w, i32_w]
     rfl
   refine pure_ (i := 5) (N := some 31) (v := ?_) (a' := ?_) #[true, true, true, false, true, true, false, false, false, false, false, false, false, false, false] rfl rfl (by kernel_rfl) (fun _ _ _ h => h) (Or.inl ⟨by rfl, ?_⟩) ?_ ?_
   rotate_left
   · intro w'
     go_simp
     with_reducible rfl
   rotate_left
   · simp only [Act.put, List.setIfInBounds_toArray, List.set_cons_zero, List.set_cons_succ, i64_w, i32_w]
     rfl
   refine pure_ (i := 6) (N := some 32) (v := ?_) (a' := ?_) #[true, true, true, false, true, true, true, false, false, false, false, false, false, false, false] rfl rfl (by kernel_rfl) (fun _ _ _ h => h) (Or.inl ⟨by rfl, ?_⟩) ?_ ?_
   rotate_left
   · intro w'
     go_simp
     with_reducible rfl
   rotate_left
   · simp only [Act.put, List.setIfInBounds_toArray, List.set_cons_zero, List.set_cons_succ, i64_w, i32_w]
     rfl
   refine take_ (i := 3) (N := some 29) (v := ?_) (a' := ?_) #[true, true, true, true, true, true, true, false, false, false, false, false, false, false, false] rfl rfl (by kernel_rfl) (fun _ _ _ h => h) (Or.inl ⟨by rfl, ?_⟩) hHeld ?_ ?_
   rotate_left
   · rintro w' ⟨s0, s1⟩
     go_simp
     with_reducible rfl
   rotate_left
   · simp only [Act.put, List.setIfInBounds_toArray, List.set_cons_zero, List.set_cons_succ, i64_w, i32_w]
     rfl
   refine take_ (i := 7) (N := some 33) (v := ?_) (a' := ?_) #[true, true, true, true, true, true, true, true, false, false, false, false, false, false, false] rfl rfl (by kernel_rfl) (fun _ _ _ h => h) (Or.inl ⟨by rfl, ?_⟩) hHeld ?_ ?_
   rotate_left
   · rintro w' ⟨s0, s1⟩
     go_simp
     with_reducible rfl
   rotate_left
   · simp only [Act.put, List.setIfInBounds_toArray, List.set_cons_zero, List.set_cons_succ, i64_w, i32_w]
     rfl
   refine join_ (σ := Option Addr × Nat × Nat) 2 #[true, true, true, true, true, true, true, true, true, true, true, true, true, false, false] (fun s => [(34, .tuple #[.agg #[.int .i64 mv.f0, .int .i64 mv.f1, .int .i64 mv.f2, .slice s.1 mv.f3.length s.2.1], .int .i64 0]), (25, .tuple #[.agg #[.int .i64 mv.f0, .int .i64 mv.f1, .int .i64 mv.f2, .slice s.1 mv.f3.length s.2.1], .int .i64 0]), (35, .agg #[.int .i64 mv.f0, .int .i64 mv.f1, .int .i64 mv.f2, .slice s.1 mv.f3.length s.2.1]), (36, .int .i64 0), (7, .pointer (some ⟨s.2.2, 0, none⟩))]) (fun s w' => Hid (Below w2.heap.size w2 w') ∧ Hid (w'.heap[s.2.2]? = some (.cells #[.int .i64 0, .int .i64 0, .int .i64 0, .slice none 0 0] 24 (0, 0))) ∧ Hid (w2.heap.size ≤ s.2.2) ∧ Hid (mv.f3.length ≤ s.2.1) ∧ Hid (Kd.R k28 28 w' 0 (fun _ => True) (.slice s.1 mv.f3.length s.2.1) mv.f3)) ?_ ?_
   rotate_left
   · intro hCont
     refine two_ (i := 8) (j := 12) (Ni := some 34) (Nj := some 7) #[true, true, true, true, true, true, true, true, true, false, false, false, false, false, false] #[true, true, true, true, true, true, true, true, false, false, false, false, true, false, false] rfl rfl rfl rfl (by kernel_rfl) (by decide) (by decide) (fun K hK => ?_) (fun K hK => ?_)
     · skip
       refine goes_ Try.func76 (by kernel_rfl) rfl #[.pointer (some ⟨q, 0, none⟩), .int .i64 j] (by rfl) rfl rfl (by simp only [List.map_toArray, List.map_cons, List.map_nil]; rfl) ?_
       with_reducible refine (HGET.out _ Bq.out).mono ?_
       rintro e w5 ⟨A5, c5, rfl, hl5, hR5, hb5⟩
       refine ⟨_, rfl, ?_⟩
       have Bq := Lib.hid (below_self Bq.out hb5)
       have HL5 := Lib.hid hl5
       have HR5 := Lib.hid (Kd.R_mono (Kd.R_lower hR5 (Nat.zero_le _)) (fun k _ => (trivial : True)))
       clear hl5 hR5 hb5 s0 s1
       have s0 := (S2.below Bq.out).C.ids.2.2.2
       have s1 := (S2.below Bq.out).C.ids.1
       rw [← HID.out] at s1
       refine hK.out _ _ ⟨s0, s1⟩ (fun hHeld => ?_)
       clear hK K
       refine norm_ (a' := ?_) ?_ ?_
       rotate_left
       · show Act.put _ (some 34) _ = _
         simp only [Act.put, List.setIfInBounds_toArray, List.set_cons_zero, List.set_cons_succ, i64_w, i32_w]
         rfl
       refine pure_ (i := 9) (N := some 25) (v := ?_) (a' := ?_) #[true, true, true, true, true, true, true, true, true, true, false, false, false, false, false] rfl rfl (by kernel_rfl) (fun _ _ _ h => h) (Or.inl ⟨by rfl, ?_⟩) ?_ ?_
       rotate_left
       · intro w'
         go_simp
         with_reducible rfl
       rotate_left
       · simp only [Act.put, List.setIfInBounds_toArray, List.set_cons_zero, List.set_cons_succ, i64_w, i32_w]
         rfl
       refine pure_ (i := 10) (N := some 35) (v := ?_) (a' := ?_) #[true, true, true, true, true, true, true, true, true, true, true, false, false, false, false] rfl rfl (by kernel_rfl) (fun _ _ _ h => h) (Or.inl ⟨by rfl, ?_⟩) ?_ ?_
       rotate_left
       · intro w'
         go_simp
         with_reducible rfl
       rotate_left
       · simp only [Act.put, List.setIfInBounds_toArray, List.set_cons_zero, List.set_cons_succ, i64_w, i32_w]
         rfl
       refine pure_ (i := 11) (N := some 36) (v := ?_) (a' := ?_) #[true, true, true, true, true, true, true, true, true, true, true, true, false, false, false] rfl rfl (by kernel_rfl) (fun _ _ _ h => h) (Or.inl ⟨by rfl, ?_⟩) ?_ ?_
       rotate_left
       · intro w'
         go_simp
         with_reducible rfl
       rotate_left
       · simp only [Act.put, List.setIfInBounds_toArray, List.set_cons_zero, List.set_cons_succ, i64_w, i32_w]
         rfl
       refine one_ (i := 12) (N := some 7) #[true, true, true, true, true, true, true, true, true, true, true, true, true, false, false] rfl rfl (by kernel_rfl) (by decide) (fun K hK => ?_)
       refine value_ (w1 := ?_) (v := ?_) (by rfl) rfl ?_ ?_
       rotate_left 2
       · go_simp
         constructor
         · rfl
         · rfl
       have hbe := below_alloc (Below.refl (w5).heap.size w5) (.cells #[.int .i64 0, .int .i64 0, .int .i64 0, .slice none 0 0] 24)
       have HGS := Lib.hid (show w2.heap.size ≤ (w5).heap.size from Bq.out.size)
       have Bq := Lib.hid (below_self Bq.out hbe)
       have HGq := Lib.hid (blk_alloc w5 (.cells #[.int .i64 0, .int .i64 0, .int .i64 0, .slice none 0 0] 24))
       have HR5 := Lib.hid (Kd.R_below HR5.out hbe)
       clear hbe s0 s1
       have s0 := (S2.below Bq.out).C.ids.2.2.2
       have s1 := (S2.below Bq.out).C.ids.1
       rw [← HID.out] at s1
       refine hK.out _ _ ⟨s0, s1⟩ (fun hHeld => ?_)
       clear hK K
       refine norm_ (a' := ?_) ?_ ?_
       rotate_left
       · show Act.put _ (some 7) _ = _
         simp only [Act.put, List.setIfInBounds_toArray, List.set_cons_zero, List.set_cons_succ, i64_w, i32_w]
         rfl
       exact norm_ (by simp only [putAll, Act.put, List.setIfInBounds_toArray, List.set_cons_zero, List.set_cons_succ]) (hCont (A5, c5, w5.heap.size) _ ⟨Bq, HGq, HGS, HL5, HR5⟩)
     · skip
       refine value_ (w1 := ?_) (v := ?_) (by rfl) rfl ?_ ?_
       rotate_left 2
       · go_simp
         constructor
         · rfl
         · rfl
       have hbe := below_alloc (Below.refl (wd).heap.size wd) (.cells #[.int .i64 0, .int .i64 0, .int .i64 0, .slice none 0 0] 24)
       have HGS := Lib.hid (show w2.heap.size ≤ (wd).heap.size from Bq.out.size)
       have Bq := Lib.hid (below_self Bq.out hbe)
       have HGq := Lib.hid (blk_alloc wd (.cells #[.int .i64 0, .int .i64 0, .int .i64 0, .slice none 0 0] 24))
       clear hbe s0 s1
       have s0 := (S2.below Bq.out).C.ids.2.2.2
       have s1 := (S2.below Bq.out).C.ids.1
       rw [← HID.out] at s1
       refine hK.out _ _ ⟨s0, s1⟩ (fun hHeld => ?_)
       clear hK K
       refine norm_ (a' := ?_) ?_ ?_
       rotate_left
       · show Act.put _ (some 7) _ = _
         simp only [Act.put, List.setIfInBounds_toArray, List.set_cons_zero, List.set_cons_succ, i64_w, i32_w]
         rfl
       refine one_ (i := 8) (N := some 34) #[true, true, true, true, true, true, true, true, true, false, false, false, true, false, false] rfl rfl (by kernel_rfl) (by decide) (fun K hK => ?_)
       refine goes_ Try.func76 (by kernel_rfl) rfl #[.pointer (some ⟨q, 0, none⟩), .int .i64 j] (by rfl) rfl rfl (by simp only [List.map_toArray, List.map_cons, List.map_nil]; rfl) ?_
       with_reducible refine (HGET.out _ Bq.out).mono ?_
       rintro e w5 ⟨A5, c5, rfl, hl5, hR5, hb5⟩
       refine ⟨_, rfl, ?_⟩
       have Bq := Lib.hid (below_self Bq.out hb5)
       have HGq := Lib.hid (blk_keep hb5 HGq.out)
       have HL5 := Lib.hid hl5
       have HR5 := Lib.hid (Kd.R_mono (Kd.R_lower hR5 (Nat.zero_le _)) (fun k _ => (trivial : True)))
       clear hl5 hR5 hb5 s0 s1
       have s0 := (S2.below Bq.out).C.ids.2.2.2
       have s1 := (S2.below Bq.out).C.ids.1
       rw [← HID.out] at s1
       refine hK.out _ _ ⟨s0, s1⟩ (fun hHeld => ?_)
       clear hK K
       refine norm_ (a' := ?_) ?_ ?_
       rotate_left
       · show Act.put _ (some 34) _ = _
         simp only [Act.put, List.setIfInBounds_toArray, List.set_cons_zero, List.set_cons_succ, i64_w, i32_w]
         rfl
       refine pure_ (i := 9) (N := some 25) (v := ?_) (a' := ?_) #[true, true, true, true, true, true, true, true, true, true, false, false, true, false, false] rfl rfl (by kernel_rfl) (fun _ _ _ h => h) (Or.inl ⟨by rfl, ?_⟩) ?_ ?_
       rotate_left
       · intro w'
         go_simp
         with_reducible rfl
       rotate_left
       · simp only [Act.put, List.setIfInBounds_toArray, List.set_cons_zero, List.set_cons_succ, i64_w, i32_w]
         rfl
       refine pure_ (i := 10) (N := some 35) (v := ?_) (a' := ?_) #[true, true, true, true, true, true, true, true, true, true, true, false, true, false, false] rfl rfl (by kernel_rfl) (fun _ _ _ h => h) (Or.inl ⟨by rfl, ?_⟩) ?_ ?_
       rotate_left
       · intro w'
         go_simp
         with_reducible rfl
       rotate_left
       · simp only [Act.put, List.setIfInBounds_toArray, List.set_cons_zero, List.set_cons_succ, i64_w, i32_w]
         rfl
       refine pure_ (i := 11) (N := some 36) (v := ?_) (a' := ?_) #[true, true, true, true, true, true, true, true, true, true, true, true, true, false, false] rfl rfl (by kernel_rfl) (fun _ _ _ h => h) (Or.inl ⟨by rfl, ?_⟩) ?_ ?_
       rotate_left
       · intro w'
         go_simp
         with_reducible rfl
       rotate_left
       · simp only [Act.put, List.setIfInBounds_toArray, List.set_cons_zero, List.set_cons_succ, i64_w, i32_w]
         rfl
       exact norm_ (by simp only [putAll, Act.put, List.setIfInBounds_toArray, List.set_cons_zero, List.set_cons_succ]) (hCont (A5, c5, wd.heap.size) _ ⟨Bq, HGq, HGS, HL5, HR5⟩)
   rintro ⟨A5, c5, gx⟩ w6 ⟨Bq, HGq, HGS, HL5, HR5⟩
   have hgi := (S2.below Bq.out).C.ids.1
   rw [← HID.out] at hgi
   have hHeld : w6.cell? ⟨p, 3, none⟩ = some (.pointer (some ⟨q, 0, none⟩)) ∧ w6.cell? ⟨p, 0, none⟩ = some (.int .i64 j) := ⟨(S2.below Bq.out).C.ids.2.2.2, hgi⟩
   have hxl := blk_lt HGq.out
   obtain ⟨z0, z1, z2, z3, zf⟩ := blk_cells4 HGq.out
   dsimp only at hxl z0 z1 z2 z3 zf
   refine norm_ (a' := ?_) ?_ ?_
   rotate_left
   · simp only [putAll, Act.put, List.setIfInBounds_toArray, List.set_cons_zero, List.set_cons_succ]
     rfl
   refine last_ (i := 13) (N := none) #[true, true, true, true, true, true, true, true, true, true, true, true, true, true, false] rfl rfl (by kernel_rfl) (by decide) (fun K hK => ?_)
   refine skip_ (w1 := ?_) (by rfl) rfl ?_ ?_
   rotate_left
   · go_simp
     rfl
   refine hK.out _ _ ?_
   clear hK K
   refine pure_ (i := 14) (N := some 8) (v := ?_) (a' := ?_) #[true, true, true, true, true, true, true, true, true, true, true, true, true, true, true] rfl rfl (by kernel_rfl) (fun _ _ _ h => h) (Or.inl ⟨by rfl, ?_⟩) ?_ ?_
   rotate_left
   · intro w'
     go_simp
     with_reducible rfl
   rotate_left
   · simp only [Act.put, List.setIfInBounds_toArray, List.set_cons_zero, List.set_cons_succ, i64_w, i32_w]
     rfl
   refine done_ (by kernel_rfl) ?_
   have hb7 := sets4_below Bq.out HGS.out (.int .i64 mv.f0) (.int .i64 mv.f1) (.int .i64 mv.f2) (.slice A5 mv.f3.length c5)
   have hG7 := sets4_blk (x := .int .i64 mv.f0) (y := .int .i64 mv.f1) (z := .int .i64 mv.f2) (u := .slice A5 mv.f3.length c5) HGq.out
   have hR7 := sets4_R24 HR5.out HGq.out (.int .i64 mv.f0) (.int .i64 mv.f1) (.int .i64 mv.f2) (.slice A5 mv.f3.length c5)
   dsimp only at hb7 hG7 hR7 HL5 ⊢
   clear hxl z0 z1 z2 z3 zf s0 s1 hpl
   generalize (((w6.setCell ⟨gx, 0, none⟩ (.int .i64 mv.f0)).setCell ⟨gx, 1, none⟩ (.int .i64 mv.f1)).setCell ⟨gx, 2, none⟩ (.int .i64 mv.f2)).setCell ⟨gx, 3, none⟩ (.slice A5 mv.f3.length c5) = w7 at hb7 hG7 hR7 ⊢
   have S7 := S2.below hb7
   have HX7 := Lib.hid (blk_keep hb7 HX2.out)
   have HC7 := Lib.hid (Kd.C_below HC2.out hb7)
   have HKW7 := Lib.hid (HKW2.out.trans (Keep2.of_below p q hb7))
   have HM7 := Lib.hid (Kd.R_reads' hR7).2.2
   have HG7 := Lib.hid hG7
   clear hb7 hG7 hR7
   obtain ⟨p0, p1, p2, p3, pf⟩ := blk_cells4 HX7.out
   have hgl := blk_lt HX7.out
   obtain ⟨q0, q1, q2, q3, qf⟩ := blk_cells4 HG7.out
   have hxl := blk_lt HG7.out
   have HAE := Lib.hid (show (⟨(j : Int), x1, x2, xl⟩ : S24) = a from by rw [Hx0.out, Hx1.out, Hx2.out, Hxl.out])
   have HMI : Hid (mv.f0 = (j : Int)) := Lib.hid (by rw [Hmv.out]; exact ((HOK.out.db j).1 HOWN.out).2)
   obtain ⟨nn, Hnn⟩ : ∃ n, Hid (n = newerP a mv) := ⟨_, Lib.hid rfl⟩
   have HNP : Hid (NewerP (⟨(j : Int), x1, x2, xl⟩ : S24) mv = (nn, 0)) := Lib.hid (by
    rw [HAE.out, Hnn.out]
    exact NewerP_good HVAL.out HMC.out (by rw [HMI.out, Hx0.out]))
   go_wp2_with fail
   refine (Newer_any (⟨j, x1, x2, xl⟩ : S24) mv A A5 ca c5 w7 HCA.out HL5.out HC7 HM7).mono ?_
   rw [HNP.out]
   rintro e w8 ⟨rfl, hb8⟩
   dsimp only
   have S8 := S7.below hb8
   have HX8 := Lib.hid (blk_keep hb8 HX7.out)
   have HC8 := Lib.hid (Kd.C_below HC7.out hb8)
   have HKW8 := Lib.hid (HKW7.out.trans (Keep2.of_below p q hb8))
   clear hb8 p0 p1 p2 p3 pf hgl q0 q1 q2 q3 qf hxl hpl
   by_cases hnn : 0 < nn
   · have HTK2 : Hid (takeP r ks i a = (own ((r.sSeq x1).sDb (put r.db a)), ks)) := Lib.hid (by
      unfold takeP
      rw [if_pos ⟨by rw [← Hx0.out]; exact HID.out, by rw [HAJ.out, ← Hmv.out, ← Hnn.out]; exact hnn⟩, Hx1.out])
     have hV := chk_zero HVAL.out
     have hx1 : 0 ≤ x1 ∧ x1 ≤ 1073741824 := by rw [Hx1.out]; have h1 := hV.seq0; have h2 := hV.seq1; omega
     have HX1B := Lib.hid hx1
     clear hV hx1
     have hpl := S8.C.lt
     have hpf := S8.C.free
     obtain ⟨_, cq, _, _⟩ := S8.C.ids
     obtain ⟨p0, p1, p2, p3, pf⟩ := blk_cells4 HX8.out
     have hgl := blk_lt HX8.out
     go_upto_region 7 with (fail)
     have S9 := S8.keepP (S8.C.setSeq x1) rfl ((KeepBut.refl w8 p none).set_ 1 (.int .i64 x1)) (S8.B.setCell (p := ⟨p, 1, none⟩) HP0.out (.int .i64 x1)) HP.out
     have hk9 := (KeepBut.refl w8 p none).set_ 1 (.int .i64 x1)
     have hne : ga ≠ p := by obtain ⟨cs, hp', _⟩ := S8.C; exact blk_ne HX8.out hp' (by decide)
     have HX9 := Lib.hid (hk9.blk HX8.out hne (by simp))
     have HC9 := Lib.hid (HKC.out _ (HKW8.out.trans (Keep2.of_p q hk9)))
     clear hk9 hne hpl hpf cq p0 p1 p2 p3 pf hgl
     generalize w8.setCell ⟨p, 1, none⟩ (.int .i64 x1) = w9 at S9 HX9 HC9 ⊢
     obtain ⟨r9, Hr9⟩ : ∃ r9, Hid (r9 = r.sSeq x1) := ⟨_, Lib.hid rfl⟩
     rw [← Hr9.out] at S9
     have HDB9 : Hid (r9.db = r.db) := Lib.hid (by rw [Hr9.out]; rfl)
     have hpl := S9.C.lt
     obtain ⟨_, _, _, cb⟩ := S9.C.ids
     obtain ⟨p0, p1, p2, p3, pf⟩ := blk_cells4 HX9.out
     have hgl := blk_lt HX9.out
     go_still_tail 5, (by kernel_rfl)
     change wpList _ _ _ _ _ w9.drew
     have hbd := below_drew (Below.refl w9.heap.size w9)
     have S10 := S9.below hbd
     have HX10 := Lib.hid (blk_keep hbd HX9.out)
     have HC10 := Lib.hid (Kd.C_below HC9.out hbd)
     clear hbd p0 p1 p2 p3 pf hgl cb hpl
     generalize w9.drew = w10 at S10 HX10 HC10 ⊢
     have hpl := S10.C.lt
     obtain ⟨_, _, _, cb⟩ := S10.C.ids
     obtain ⟨p0, p1, p2, p3, pf⟩ := blk_cells4 HX10.out
     have hgl := blk_lt HX10.out
     go_wp2_with fail
     refine (Put_val (⟨j, x1, x2, xl⟩ : S24) A ca q r9.db w10 w0 (by rw [HDB9.out]; exact HOK.out.db) (by rw [HAE.out]; exact HVAL.out) HCA.out HC10 (Lib.hid S10.D) (Lib.hid S10.B) HQ0.out).mono ?_
     rw [HAE.out]
     rintro e w11 ⟨rfl, hD5, hB5, hK5⟩
     have S11 := S10.keepQ hD5 hK5 hB5 HQ.out
     clear hD5 hB5 hK5 p0 p1 p2 p3 pf hgl cb hpl
     obtain ⟨r11, Hr11⟩ : ∃ r11, Hid (r11 = r9.sDb (put r9.db a)) := ⟨_, Lib.hid rfl⟩
     rw [← Hr11.out] at S11
     have HO11 : Hid (OneUp r11) := Lib.hid (by rw [Hr11.out, Hr9.out]; exact HO.out)
     have HOK11 : Hid (RtOk r11) := Lib.hid (by rw [Hr11.out, HDB9.out, Hr9.out]; exact ⟨HOK.out.id, HX1B.out, HOK.out.now, put_ok HOK.out.db a⟩)
     have HE : Hid (own r11 = own ((r.sSeq x1).sDb (put r.db a))) := Lib.hid (by rw [Hr11.out, HDB9.out, Hr9.out])
     go_wp2_with fail
     refine (own56 p q r11 (upd noAck i (.slice Av ks.length cv)) w11 w0 HO11.out HOK11.out.id HOK11.out.seq HOK11.out.now HOK11.out.db (vone_upd i Av ks.length cv) (Lib.hid S11.C) (Lib.hid S11.D) (Lib.hid S11.B) HP0.out HQ0.out).mono ?_
     rintro e w12 ⟨rfl, hC12, hD12, hK12, hB12⟩
     have S12 := S11.keep2 hC12 hD12 hK12 hB12 HP.out HQ.out
     clear hC12 hD12 hK12 hB12
     go_wp2_with fail
     first | go_end0 | refine bodyPost_ret (results_none rfl _ _ _) rfl ?_
     refine ⟨rfl, .slice Av ks.length cv, ?_⟩
     rw [HTK2.out, ← HE.out]
     exact S12
   · have HTK : Hid (¬ (a.f0 = r.id ∧ 0 < newerP a (r.db.1 a.f0.toNat))) := Lib.hid (fun h => hnn (by rw [Hnn.out, Hmv.out, ← HAJ.out]; exact h.2))
     have S3 := S8
     have HX3 := HX8
     have HC3 := HC8
     obtain ⟨w3, HW3⟩ : ∃ w, Hid (w = w8) := ⟨_, Lib.hid rfl⟩
     rw [← HW3.out] at S3 HX3 HC3 ⊢
     clear S8 HX8 HC8
     clear HAE
     go_upto_region 9 with (fail)
     have hbd := below_drew (Below.refl w3.heap.size w3)
     have S4 := S3.below hbd
     have HX4 := Lib.hid (blk_keep hbd HX3.out)
     have HC4 := Lib.hid (Kd.C_below HC3.out hbd)
     clear hbd
     have hpl : p < w3.heap.size := S3.C.lt
     obtain ⟨p0, p1, p2, p3, pf⟩ := blk_cells4 HX4.out
     have hgl := blk_lt HX4.out
     obtain ⟨_, _, _, cb⟩ := S4.C.ids
     have HAE := Lib.hid (show (⟨(j : Int), x1, x2, xl⟩ : S24) = a from by rw [Hx0.out, Hx1.out, Hx2.out, Hxl.out])
     refine start_ (n := 11) (S := fun w' => w'.cell? ⟨p, 3, none⟩ = some (.pointer (some ⟨q, 0, none⟩)) ∧ w'.cell? ⟨ga, 0, none⟩ = some (.int .i64 j) ∧ w'.cell? ⟨ga, 1, none⟩ = some (.int .i64 x1) ∧ w'.cell? ⟨ga, 2, none⟩ = some (.int .i64 x2) ∧ w'.cell? ⟨ga, 3, none⟩ = some (.slice A xl.length ca)) (ds := [5]) #[false, false, false, false, false, false, false, false, false, false, false] (by kernel_rfl) rfl rfl ⟨cb, p0, p1, p2, p3⟩ (fun hHeld => ?_)
     generalize w3.drew = wd at S4 HX4 HC4 cb p0 p1 p2 p3 hHeld ⊢
     refine pure_ (i := 0) (N := some 59) (v := ?_) (a' := ?_) #[true, false, false, false, false, false, false, false, false, false, false] rfl rfl (by kernel_rfl) (fun _ _ _ h => h) (Or.inl ⟨by rfl, ?_⟩) ?_ ?_
     rotate_left
     · intro w'
       go_simp
       with_reducible rfl
     rotate_left
     · simp only [Act.put, List.setIfInBounds_toArray, List.set_cons_zero, List.set_cons_succ, i64_w, i32_w]
       rfl
     refine pure_ (i := 1) (N := some 60) (v := ?_) (a' := ?_) #[true, true, false, false, false, false, false, false, false, false, false] rfl rfl (by kernel_rfl) (fun _ _ _ h => h) (Or.inl ⟨by rfl, ?_⟩) ?_ ?_
     rotate_left
     · intro w'
       go_simp
       with_reducible rfl
     rotate_left
     · simp only [Act.put, List.setIfInBounds_toArray, List.set_cons_zero, List.set_cons_succ, i64_w, i32_w]
       rfl
     refine pure_ (i := 2) (N := some 61) (v := ?_) (a' := ?_) #[true, true, true, false, false, false, false, false, false, false, false] rfl rfl (by kernel_rfl) (fun _ _ _ h => h) (Or.inl ⟨by rfl, ?_⟩) ?_ ?_
     rotate_left
     · intro w'
       go_simp
       with_reducible rfl
     rotate_left
     · simp only [Act.put, List.setIfInBounds_toArray, List.set_cons_zero, List.set_cons_succ, i64_w, i32_w]
       rfl
     refine take_ (i := 3) (N := some 62) (v := ?_) (a' := ?_) #[true, true, true, true, false, false, false, false, false, false, false] rfl rfl (by kernel_rfl) (fun _ _ _ h => h) (Or.inl ⟨by rfl, ?_⟩) hHeld ?_ ?_
     rotate_left
     · rintro w' ⟨s0, s1, s2, s3, s4⟩
       go_simp
       with_reducible rfl
     rotate_left
     · simp only [Act.put, List.setIfInBounds_toArray, List.set_cons_zero, List.set_cons_succ, i64_w, i32_w]
       rfl
     refine take_ (i := 4) (N := some 63) (v := ?_) (a' := ?_) #[true, true, true, true, true, false, false, false, false, false, false] rfl rfl (by kernel_rfl) (fun _ _ _ h => h) (Or.inl ⟨by rfl, ?_⟩) hHeld ?_ ?_
     rotate_left
     · rintro w' ⟨s0, s1, s2, s3, s4⟩
       go_simp
       with_reducible rfl
     rotate_left
     · simp only [Act.put, List.setIfInBounds_toArray, List.set_cons_zero, List.set_cons_succ, i64_w, i32_w]
       rfl
     refine last_ (i := 5) (N := some 64) #[true, true, true, true, true, true, false, false, false, false, false] rfl rfl (by kernel_rfl) (by decide) (fun K hK => ?_)
     refine goes_ Try.func50 (by kernel_rfl) rfl #[.pointer (some ⟨q, 0, none⟩), .agg #[.int .i64 j, .int .i64 x1, .int .i64 x2, .slice A xl.length ca]] (by rfl) rfl rfl (by simp only [List.map_toArray, List.map_cons, List.map_nil]; rfl) ?_
     with_reducible refine (Put_val (⟨j, x1, x2, xl⟩ : S24) A ca q r.db wd w0 HOK.out.db (by rw [HAE.out]; exact HVAL.out) HCA.out HC4 (Lib.hid S4.D) (Lib.hid S4.B) HQ0.out).mono ?_
     rintro e w5 ⟨rfl, hD5, hB5, hK5⟩
     refine ⟨_, rfl, ?_⟩
     refine hK.out _ _ ?_
     clear hK K
     refine norm_ (a' := ?_) ?_ ?_
     rotate_left
     · show Act.put _ (some 64) _ = _
       simp only [Act.put, List.setIfInBounds_toArray, List.set_cons_zero, List.set_cons_succ, i64_w, i32_w]
       rfl
     refine pure_ (i := 6) (N := some 58) (v := ?_) (a' := ?_) #[true, true, true, true, true, true, true, false, false, false, false] rfl rfl (by kernel_rfl) (fun _ _ _ h => h) (Or.inl ⟨by rfl, ?_⟩) ?_ ?_
     rotate_left
     · intro w'
       go_simp
       with_reducible rfl
     rotate_left
     · simp only [Act.put, List.setIfInBounds_toArray, List.set_cons_zero, List.set_cons_succ, i64_w, i32_w]
       rfl
     refine pure_ (i := 7) (N := some 65) (v := ?_) (a' := ?_) #[true, true, true, true, true, true, true, true, false, false, false] rfl rfl (by kernel_rfl) (fun _ _ _ h => h) (Or.inl ⟨by rfl, ?_⟩) ?_ ?_
     rotate_left
     · intro w'
       go_simp
       with_reducible rfl
     rotate_left
     · simp only [Act.put, List.setIfInBounds_toArray, List.set_cons_zero, List.set_cons_succ, i64_w, i32_w]
       rfl
     refine pure_ (i := 8) (N := some 66) (v := ?_) (a' := ?_) #[true, true, true, true, true, true, true, true, true, false, false] rfl rfl (by kernel_rfl) (fun _ _ _ h => h) (Or.inl ⟨by rfl, ?_⟩) ?_ ?_
     rotate_left
     · intro w'
       go_simp
       with_reducible rfl
     rotate_left
     · simp only [Act.put, List.setIfInBounds_toArray, List.set_cons_zero, List.set_cons_succ, i64_w, i32_w]
       rfl
     refine pure_ (i := 9) (N := some 11) (v := ?_) (a' := ?_) #[true, true, true, true, true, true, true, true, true, true, false] rfl rfl (by kernel_rfl) (fun _ _ _ h => h) (Or.inl ⟨by rfl, ?_⟩) ?_ ?_
     rotate_left
     · intro w'
       go_simp
       with_reducible rfl
     rotate_left
     · simp only [Act.put, List.setIfInBounds_toArray, List.set_cons_zero, List.set_cons_succ, i64_w, i32_w]
       rfl
     refine pure_ (i := 10) (N := some 12) (v := ?_) (a' := ?_) #[true, true, true, true, true, true, true, true, true, true, true] rfl rfl (by kernel_rfl) (fun _ _ _ h => h) (Or.inl ⟨by rfl, ?_⟩) ?_ ?_
     rotate_left
     · intro w'
       go_simp
       with_reducible rfl
     rotate_left
     · simp only [Act.put, List.setIfInBounds_toArray, List.set_cons_zero, List.set_cons_succ, i64_w, i32_w]
       rfl
     refine done_ (by kernel_rfl) ?_
     obtain ⟨n, Hn0⟩ : ∃ n, Hid (n = putN r.db (⟨(j : Int), x1, x2, xl⟩ : S24)) := ⟨_, Lib.hid rfl⟩
     rw [← Hn0.out]
     rw [HAE.out] at hD5
     have Hn : Hid (n = putN r.db a) := Lib.hid (by rw [Hn0.out, HAE.out])
     have S5 := S4.keepQ hD5 hK5 hB5 HQ.out
     have HX5 : Hid (w5.heap[ga]? = some (.cells #[.int .i64 j, .int .i64 x1, .int .i64 x2, .slice A xl.length ca] 24 (0, 0))) := Lib.hid ((hK5.2 ga (blk_lt HX4.out) (by obtain ⟨cs, hq', _⟩ := S4.D; exact (blk_ne HX4.out hq' (by decide))) (by simp)).trans HX4.out)
     clear hD5 hB5 hK5 p0 p1 p2 p3 pf hgl cb hpl
     obtain ⟨r1, Hr1⟩ : ∃ r1, Hid (r1 = r.sDb (put r.db a)) := ⟨_, Lib.hid rfl⟩
     rw [← Hr1.out] at S5
     have HPT : Hid (r1.port = r.port) := Lib.hid (by rw [Hr1.out]; rfl)
     rcases (by omega : 0 < n ∨ n < 0 ∨ n = 0) with hn | hn | hn
     · have HTK2 : Hid (takeP r ks i a = (floodTo (r1.sP i ((r1.port i).off j)) j i 8, ks ++ [⟨a.f0, a.f1⟩])) := Lib.hid (by
        unfold takeP
        rw [if_neg HTK.out, if_pos (by rw [← Hn.out]; exact hn), HAJ.out, HPT.out, ← Hr1.out])
       go_upto_region 13 with (fail)
       have hbd := below_drew (Below.refl w5.heap.size w5)
       have S6 := S5.below hbd
       have HX6 := Lib.hid (blk_keep hbd HX5.out)
       clear hbd
       have hpl : p < w5.drew.heap.size := S6.C.lt
       obtain ⟨p0, _, _, _, pf⟩ := blk_cells4 HX6.out
       have hgl := blk_lt HX6.out
       have hpf := S6.C.free
       have wt := (S6.C.waits hi hjn).1
       have sd := ((S6.C.setWait hi hjn 0).waits hi hjn).2
       have q0 := blk_cell (((KeepBut.refl w5.drew p none).set_ (4 + i * 36 + 3 + j) (.int .i64 0)).blk HX6.out (by obtain ⟨cs, hp', _⟩ := S6.C; exact blk_ne HX6.out hp' (by decide)) (by simp)) 0
       refine start_ (n := 14) (S := fun w' => w'.cell? ⟨ga, 0, none⟩ = some (.int .i64 j)) (ds := [13]) #[false, false, false, false, false, false, false, false, false, false, false, false, false, false] (by kernel_rfl) rfl rfl (p0) (fun hHeld => ?_)
       generalize w5.drew = wd at S6 HX6 hpl p0 pf hgl hpf wt sd q0 hHeld ⊢
       refine pure_ (i := 0) (N := some 96) (v := ?_) (a' := ?_) #[true, false, false, false, false, false, false, false, false, false, false, false, false, false] rfl rfl (by kernel_rfl) (fun _ _ _ h => h) (Or.inl ⟨by rfl, ?_⟩) ?_ ?_
       rotate_left
       · intro w'
         go_simp
         with_reducible rfl
       rotate_left
       · simp only [Act.put, List.setIfInBounds_toArray, List.set_cons_zero, List.set_cons_succ, i64_w, i32_w]
         rfl
       refine pure_ (i := 1) (N := some 97) (v := ?_) (a' := ?_) #[true, true, false, false, false, false, false, false, false, false, false, false, false, false] rfl rfl (by kernel_rfl) (fun _ _ _ h => h) (Or.inl ⟨by rfl, ?_⟩) ?_ ?_
       rotate_left
       · intro w'
         go_simp
         with_reducible rfl
       rotate_left
       · simp only [Act.put, List.setIfInBounds_toArray, List.set_cons_zero, List.set_cons_succ, i64_w, i32_w]
         rfl
       refine pure_ (i := 3) (N := some 99) (v := ?_) (a' := ?_) #[true, true, false, true, false, false, false, false, false, false, false, false, false, false] rfl rfl (by kernel_rfl) (fun _ _ _ h => h) (Or.inl ⟨by rfl, ?_⟩) ?_ ?_
       rotate_left
       · intro w'
         go_simp
         with_reducible rfl
       rotate_left
       · simp only [Act.put, List.setIfInBounds_toArray, List.set_cons_zero, List.set_cons_succ, i64_w, i32_w]
         rfl
       refine pure_ (i := 4) (N := some 100) (v := ?_) (a' := ?_) #[true, true, false, true, true, false, false, false, false, false, false, false, false, false] rfl rfl (by kernel_rfl) (fun _ _ _ h => h) (Or.inl ⟨by rfl, ?_⟩) ?_ ?_
       rotate_left
       · intro w'
         go_simp
         with_reducible rfl
       rotate_left
       · simp only [Act.put, List.setIfInBounds_toArray, List.set_cons_zero, List.set_cons_succ, i64_w, i32_w]
         rfl
       refine pure_ (i := 6) (N := some 102) (v := ?_) (a' := ?_) #[true, true, false, true, true, false, true, false, false, false, false, false, false, false] rfl rfl (by kernel_rfl) (fun _ _ _ h => h) (Or.inl ⟨by rfl, ?_⟩) ?_ ?_
       rotate_left
       · intro w'
         go_simp
         with_reducible rfl
       rotate_left
       · simp only [Act.put, List.setIfInBounds_toArray, List.set_cons_zero, List.set_cons_succ, i64_w, i32_w]
         rfl
       refine pure_ (i := 7) (N := some 103) (v := ?_) (a' := ?_) #[true, true, false, true, true, false, true, true, false, false, false, false, false, false] rfl rfl (by kernel_rfl) (fun _ _ _ h => h) (Or.inl ⟨by rfl, ?_⟩) ?_ ?_
       rotate_left
       · intro w'
         go_simp
         with_reducible rfl
       rotate_left
       · simp only [Act.put, List.setIfInBounds_toArray, List.set_cons_zero, List.set_cons_succ, i64_w, i32_w]
         rfl
       refine pure_ (i := 10) (N := some 105) (v := ?_) (a' := ?_) #[true, true, false, true, true, false, true, true, false, false, true, false, false, false] rfl rfl (by kernel_rfl) (fun _ _ _ h => h) (Or.inl ⟨by rfl, ?_⟩) ?_ ?_
       rotate_left
       · intro w'
         go_simp
         with_reducible rfl
       rotate_left
       · simp only [Act.put, List.setIfInBounds_toArray, List.set_cons_zero, List.set_cons_succ, i64_w, i32_w]
         rfl
       refine pure_ (i := 11) (N := some 106) (v := ?_) (a' := ?_) #[true, true, false, true, true, false, true, true, false, false, true, true, false, false] rfl rfl (by kernel_rfl) (fun _ _ _ h => h) (Or.inl ⟨by rfl, ?_⟩) ?_ ?_
       rotate_left
       · intro w'
         go_simp
         with_reducible rfl
       rotate_left
       · simp only [Act.put, List.setIfInBounds_toArray, List.set_cons_zero, List.set_cons_succ, i64_w, i32_w]
         rfl
       refine take_ (i := 2) (N := some 98) (v := ?_) (a' := ?_) #[true, true, true, true, true, false, true, true, false, false, true, true, false, false] rfl rfl (by kernel_rfl) (fun _ _ _ h => h) (Or.inl ⟨by rfl, ?_⟩) hHeld ?_ ?_
       rotate_left
       · intro w' s0
         go_simp
         with_reducible rfl
       rotate_left
       · simp only [Act.put, List.setIfInBounds_toArray, List.set_cons_zero, List.set_cons_succ, i64_w, i32_w]
         rfl
       refine pure_ (i := 8) (N := some 104) (v := ?_) (a' := ?_) #[true, true, true, true, true, false, true, true, true, false, true, true, false, false] rfl rfl (by kernel_rfl) (fun _ _ _ h => h) (Or.inl ⟨by rfl, ?_⟩) ?_ ?_
       rotate_left
       · intro w'
         go_simp
         with_reducible rfl
       rotate_left
       · simp only [Act.put, List.setIfInBounds_toArray, List.set_cons_zero, List.set_cons_succ, i64_w, i32_w]
         rfl
       refine take_ (i := 5) (N := some 101) (v := ?_) (a' := ?_) #[true, true, true, true, true, true, true, true, true, false, true, true, false, false] rfl rfl (by kernel_rfl) (fun _ _ _ h => h) (Or.inl ⟨by rfl, ?_⟩) hHeld ?_ ?_
       rotate_left
       · intro w' s0
         go_simp
         with_reducible rfl
       rotate_left
       · simp only [Act.put, List.setIfInBounds_toArray, List.set_cons_zero, List.set_cons_succ, i64_w, i32_w]
         rfl
       refine one_ (i := 9) (N := none) #[true, true, true, true, true, true, true, true, true, true, true, true, false, false] rfl rfl (by kernel_rfl) (by decide) (fun K hK => ?_)
       refine skip_ (w1 := ?_) (by rfl) rfl ?_ ?_
       rotate_left
       · go_simp
         rfl
       refine hK.out _ _ (q0) (fun hHeld => ?_)
       clear hK K
       refine pure_ (i := 12) (N := some 107) (v := ?_) (a' := ?_) #[true, true, true, true, true, true, true, true, true, true, true, true, true, false] rfl rfl (by kernel_rfl) (fun _ _ _ h => h) (Or.inl ⟨by rfl, ?_⟩) ?_ ?_
       rotate_left
       · intro w'
         go_simp
         with_reducible rfl
       rotate_left
       · simp only [Act.put, List.setIfInBounds_toArray, List.set_cons_zero, List.set_cons_succ, i64_w, i32_w]
         rfl
       refine last_ (i := 13) (N := none) #[true, true, true, true, true, true, true, true, true, true, true, true, true, true] rfl rfl (by kernel_rfl) (by decide) (fun K hK => ?_)
       refine skip_ (w1 := ?_) (by rfl) rfl ?_ ?_
       rotate_left
       · go_simp
         rfl
       refine hK.out _ _ ?_
       clear hK K
       refine done_ (by kernel_rfl) ?_
       have hC7 := (S6.C.setWait hi hjn 0).setSend hi hjn false
       rw [Rt.sP_at, Rt.sP_sP] at hC7
       have S7 := S6.keepP hC7 rfl (((KeepBut.refl wd p none).set_ (4 + i * 36 + 3 + j) (.int .i64 0)).set_ (4 + i * 36 + 19 + j) (.bool false)) ((S6.B.setCell (p := ⟨p, 4 + i * 36 + 3 + j, none⟩) HP0.out (.int .i64 0)).setCell (p := ⟨p, 4 + i * 36 + 19 + j, none⟩) HP0.out (.bool false)) HP.out
       have HX7 := Lib.hid ((((KeepBut.refl wd p none).set_ (4 + i * 36 + 3 + j) (.int .i64 0)).set_ (4 + i * 36 + 19 + j) (.bool false)).blk HX6.out (by obtain ⟨cs, hp', _⟩ := S6.C; exact blk_ne HX6.out hp' (by decide)) (by simp))
       clear hC7 hpl p0 pf hgl hpf wt sd q0
       generalize (wd.setCell ⟨p, 4 + i * 36 + 3 + j, none⟩ (.int .i64 0)).setCell ⟨p, 4 + i * 36 + 19 + j, none⟩ (.bool false) = w7 at S7 HX7 ⊢
       obtain ⟨r7, Hr7⟩ : ∃ r7, Hid (r7 = r1.sP i ((r1.port i).off j)) := ⟨_, Lib.hid rfl⟩
       have S7 : TS w0 ws w7 p q i r7 (.slice Av ks.length cv) ks := by rw [Hr7.out]; exact S7
       have hpl := S7.C.lt
       have hn7 : 0 ≤ r7.now ∧ r7.now ≤ 1000000000 := by rw [Hr7.out, Hr1.out]; exact HOK.out.now
       obtain ⟨p0, p1, p2, p3, pf⟩ := blk_cells4 HX7.out
       have hgl := blk_lt HX7.out
       go_wp2_with fail
       refine (flood75 p q r7 (upd noAck i (.slice Av ks.length cv)) j i w7 w0 hjn hn7 (vone_upd i Av ks.length cv) (Lib.hid S7.C) (Lib.hid S7.B) HP0.out).mono ?_
       rintro e w8 ⟨rfl, hC8, hK8, hB8⟩
       have S8 := S7.keepP hC8 rfl hK8 hB8 HP.out
       have HX8 := Lib.hid (hK8.blk HX7.out (by obtain ⟨cs, hp', _⟩ := S7.C; exact blk_ne HX7.out hp' (by decide)) (by simp))
       clear hC8 hK8 hB8 p0 p1 p2 p3 pf hgl hpl
       go_upto_region 15 with (fail)
       have hbd := below_drew (Below.refl w8.heap.size w8)
       have S9 := S8.below hbd
       have HX9 := Lib.hid (blk_keep hbd HX8.out)
       clear hbd
       have hpl : p < w8.drew.heap.size := S9.C.lt
       obtain ⟨p0, p1, _, _, pf⟩ := blk_cells4 HX9.out
       have hgl := blk_lt HX9.out
       have pa : w8.drew.cell? ⟨p, 4 + i * 36 + 35, none⟩ = some (.slice Av ks.length cv) := by have := (S9.C.head hi).2.2.2; rwa [upd_self] at this
       refine start_ (n := 15) (S := fun w' => w'.cell? ⟨p, 4 + i * 36 + 35, none⟩ = some (.slice Av ks.length cv) ∧ w'.cell? ⟨ga, 0, none⟩ = some (.int .i64 j) ∧ w'.cell? ⟨ga, 1, none⟩ = some (.int .i64 x1)) (ds := [14]) #[false, false, false, false, false, false, false, false, false, false, false, false, false, false, false] (by kernel_rfl) rfl rfl ⟨pa, p0, p1⟩ (fun hHeld => ?_)
       generalize w8.drew = wd at S9 HX9 hpl p0 p1 pf hgl pa hHeld ⊢
       refine pure_ (i := 0) (N := some 113) (v := ?_) (a' := ?_) #[true, false, false, false, false, false, false, false, false, false, false, false, false, false, false] rfl rfl (by kernel_rfl) (fun _ _ _ h => h) (Or.inl ⟨by rfl, ?_⟩) ?_ ?_
       rotate_left
       · intro w'
         go_simp
         with_reducible rfl
       rotate_left
       · simp only [Act.put, List.setIfInBounds_toArray, List.set_cons_zero, List.set_cons_succ, i64_w, i32_w]
         rfl
       refine pure_ (i := 1) (N := some 114) (v := ?_) (a' := ?_) #[true, true, false, false, false, false, false, false, false, false, false, false, false, false, false] rfl rfl (by kernel_rfl) (fun _ _ _ h => h) (Or.inl ⟨by rfl, ?_⟩) ?_ ?_
       rotate_left
       · intro w'
         go_simp
         with_reducible rfl
       rotate_left
       · simp only [Act.put, List.setIfInBounds_toArray, List.set_cons_zero, List.set_cons_succ, i64_w, i32_w]
         rfl
       refine pure_ (i := 2) (N := some 115) (v := ?_) (a' := ?_) #[true, true, true, false, false, false, false, false, false, false, false, false, false, false, false] rfl rfl (by kernel_rfl) (fun _ _ _ h => h) (Or.inl ⟨by rfl, ?_⟩) ?_ ?_
       rotate_left
       · intro w'
         go_simp
         with_reducible rfl
       rotate_left
       · simp only [Act.put, List.setIfInBounds_toArray, List.set_cons_zero, List.set_cons_succ, i64_w, i32_w]
         rfl
       refine pure_ (i := 3) (N := some 116) (v := ?_) (a' := ?_) #[true, true, true, true, false, false, false, false, false, false, false, false, false, false, false] rfl rfl (by kernel_rfl) (fun _ _ _ h => h) (Or.inl ⟨by rfl, ?_⟩) ?_ ?_
       rotate_left
       · intro w'
         go_simp
         with_reducible rfl
       rotate_left
       · simp only [Act.put, List.setIfInBounds_toArray, List.set_cons_zero, List.set_cons_succ, i64_w, i32_w]
         rfl
       refine pure_ (i := 5) (N := some 118) (v := ?_) (a' := ?_) #[true, true, true, true, false, true, false, false, false, false, false, false, false, false, false] rfl rfl (by kernel_rfl) (fun _ _ _ h => h) (Or.inl ⟨by rfl, ?_⟩) ?_ ?_
       rotate_left
       · intro w'
         go_simp
         with_reducible rfl
       rotate_left
       · simp only [Act.put, List.setIfInBounds_toArray, List.set_cons_zero, List.set_cons_succ, i64_w, i32_w]
         rfl
       refine pure_ (i := 7) (N := some 120) (v := ?_) (a' := ?_) #[true, true, true, true, false, true, false, true, false, false, false, false, false, false, false] rfl rfl (by kernel_rfl) (fun _ _ _ h => h) (Or.inl ⟨by rfl, ?_⟩) ?_ ?_
       rotate_left
       · intro w'
         go_simp
         with_reducible rfl
       rotate_left
       · simp only [Act.put, List.setIfInBounds_toArray, List.set_cons_zero, List.set_cons_succ, i64_w, i32_w]
         rfl
       refine take_ (i := 4) (N := some 117) (v := ?_) (a' := ?_) #[true, true, true, true, true, true, false, true, false, false, false, false, false, false, false] rfl rfl (by kernel_rfl) (fun _ _ _ h => h) (Or.inl ⟨by rfl, ?_⟩) hHeld ?_ ?_
       rotate_left
       · rintro w' ⟨s0, s1, s2⟩
         go_simp
         with_reducible rfl
       rotate_left
       · simp only [Act.put, List.setIfInBounds_toArray, List.set_cons_zero, List.set_cons_succ, i64_w, i32_w]
         rfl
       refine take_ (i := 6) (N := some 119) (v := ?_) (a' := ?_) #[true, true, true, true, true, true, true, true, false, false, false, false, false, false, false] rfl rfl (by kernel_rfl) (fun _ _ _ h => h) (Or.inl ⟨by rfl, ?_⟩) hHeld ?_ ?_
       rotate_left
       · rintro w' ⟨s0, s1, s2⟩
         go_simp
         with_reducible rfl
       rotate_left
       · simp only [Act.put, List.setIfInBounds_toArray, List.set_cons_zero, List.set_cons_succ, i64_w, i32_w]
         rfl
       refine take_ (i := 8) (N := some 121) (v := ?_) (a' := ?_) #[true, true, true, true, true, true, true, true, true, false, false, false, false, false, false] rfl rfl (by kernel_rfl) (fun _ _ _ h => h) (Or.inl ⟨by rfl, ?_⟩) hHeld ?_ ?_
       rotate_left
       · rintro w' ⟨s0, s1, s2⟩
         go_simp
         with_reducible rfl
       rotate_left
       · simp only [Act.put, List.setIfInBounds_toArray, List.set_cons_zero, List.set_cons_succ, i64_w, i32_w]
         rfl
       refine pure_ (i := 9) (N := some 122) (v := ?_) (a' := ?_) #[true, true, true, true, true, true, true, true, true, true, false, false, false, false, false] rfl rfl (by kernel_rfl) (fun _ _ _ h => h) (Or.inl ⟨by rfl, ?_⟩) ?_ ?_
       rotate_left
       · intro w'
         go_simp
         with_reducible rfl
       rotate_left
       · simp only [Act.put, List.setIfInBounds_toArray, List.set_cons_zero, List.set_cons_succ, i64_w, i32_w]
         rfl
       refine one_ (i := 10) (N := some 123) #[true, true, true, true, true, true, true, true, true, true, true, false, false, false, false] rfl rfl (by kernel_rfl) (by decide) (fun K hK => ?_)
       refine value_ (w1 := ?_) (v := ?_) (by rfl) rfl ?_ ?_
       rotate_left 2
       · go_simp
         constructor
         · rfl
         · rfl
       have hbx := below_alloc (Below.refl wd.heap.size wd) (.cells #[.int .i64 j, .int .i64 x1] 129)
       have qa := pw_cell_below hbx pa
       have q0 := pw_cell_below hbx p0
       have q1 := pw_cell_below hbx p1
       clear hbx
       refine hK.out _ _ ⟨qa, q0, q1⟩ (fun hHeld => ?_)
       clear hK K
       refine norm_ (a' := ?_) ?_ ?_
       rotate_left
       · show Act.put _ (some 123) _ = _
         simp only [Act.put, List.setIfInBounds_toArray, List.set_cons_zero, List.set_cons_succ, i64_w, i32_w]
         rfl
       refine one_ (i := 11) (N := some 124) #[true, true, true, true, true, true, true, true, true, true, true, true, false, false, false] rfl rfl (by kernel_rfl) (by decide) (fun K hK => ?_)
       refine Kd.R_append_step k129 (w0 := wd) ws.heap.size (by rfl) (.tmp 117) (.tmp 123) 101 129 (.agg #[.int .i64 0, .int .i64 0]) 16 rfl Try.underlying101 info129 rfl (by decide) (by omega) (.slice Av ks.length cv) (ks) ((⟨j, x1⟩ : S129)) [.int .i64 j, .int .i64 x1] ((fun b => ws.heap.size ≤ b)) (fun _ => False) rfl rfl ?aP (fun _ hk => hk.elim) ?aF ?aO ?aB ?aS ?aL ?_
       (case aP => exact k129_mkM _ _ _ _)
       (case aF => exact fun b hb => Nat.le_trans S9.K.1 hb)
       (case aO => exact S9.R)
       (case aB => exact (Below.refl wd.heap.size wd).mono S9.K.1)
       (case aS => exact S9.K.1)
       (case aL => omega)
       intro v10 w10 ho hb hg hat
       obtain ⟨ks2, Hk2⟩ : ∃ l, Hid (l = ks ++ [(⟨j, x1⟩ : S129)]) := ⟨_, Lib.hid rfl⟩
       rw [← Hk2.out] at ho
       obtain ⟨A10, c10, rfl, hle10, _⟩ := Kd.R_reads ho
       have HR10 := Lib.hid ho
       have S10 := S9.grown129 hg HPP.out
       have HX10 := Lib.hid (blk_grown S9.R hg HX9.out (by decide))
       clear ho hb hg hat hle10
       have hpl10 := S10.C.lt
       have hpf10 := S10.C.free
       have ta : w10.cell? ⟨p, 4 + i * 36 + 35, none⟩ = some (.slice Av ks.length cv) := by have := (S10.C.head hi).2.2.2; rwa [upd_self] at this
       have t0 := blk_cell HX10.out 0
       have t1 := blk_cell HX10.out 1
       refine hK.out _ _ ⟨ta, t0, t1⟩ (fun hHeld => ?_)
       clear hK K
       refine norm_ (a' := ?_) ?_ ?_
       rotate_left
       · show Act.put _ (some 124) _ = _
         simp only [Act.put, List.setIfInBounds_toArray, List.set_cons_zero, List.set_cons_succ, i64_w, i32_w]
         rfl
       refine pure_ (i := 12) (N := some 125) (v := ?_) (a' := ?_) #[true, true, true, true, true, true, true, true, true, true, true, true, true, false, false] rfl rfl (by kernel_rfl) (fun _ _ _ h => h) (Or.inl ⟨by rfl, ?_⟩) ?_ ?_
       rotate_left
       · intro w'
         go_simp
         with_reducible rfl
       rotate_left
       · simp only [Act.put, List.setIfInBounds_toArray, List.set_cons_zero, List.set_cons_succ, i64_w, i32_w]
         rfl
       refine pure_ (i := 13) (N := some 126) (v := ?_) (a' := ?_) #[true, true, true, true, true, true, true, true, true, true, true, true, true, true, false] rfl rfl (by kernel_rfl) (fun _ _ _ h => h) (Or.inl ⟨by rfl, ?_⟩) ?_ ?_
       rotate_left
       · intro w'
         go_simp
         with_reducible rfl
       rotate_left
       · simp only [Act.put, List.setIfInBounds_toArray, List.set_cons_zero, List.set_cons_succ, i64_w, i32_w]
         rfl
       refine last_ (i := 14) (N := none) #[true, true, true, true, true, true, true, true, true, true, true, true, true, true, true] rfl rfl (by kernel_rfl) (by decide) (fun K hK => ?_)
       refine skip_ (w1 := ?_) (by rfl) rfl ?_ ?_
       rotate_left
       · go_simp
         rfl
       refine hK.out _ _ ?_
       clear hK K
       refine done_ (by kernel_rfl) ?_
       have S12 := S10.acked hi HR10.out HP0.out HP.out
       clear S10 ta t0 t1 hpl10 hpf10 HX10
       go_wp2_with fail
       go_end0
       refine ⟨rfl, .slice A10 ks2.length c10, ?_⟩
       rw [HTK2.out, ← Hr7.out, ← Hx0.out, ← Hx1.out, ← Hk2.out]
       exact S12
     · have hnn : ¬ 0 < n := by omega
       have HTK2 : Hid (takeP r ks i a = (post r i j, ks)) := Lib.hid (by
        unfold takeP
        rw [if_neg HTK.out, if_neg (by rw [← Hn.out]; exact hnn), if_pos (by rw [← Hn.out]; exact hn), HAJ.out])
       have HSM : Hid (r1 = r) := Lib.hid (by rw [Hr1.out, put_stays HOK.out.db (by rw [← Hn.out]; omega)]; rfl)
       have hn5 : 0 ≤ r1.now ∧ r1.now ≤ 1000000000 := by rw [HSM.out]; exact HOK.out.now
       have hpl := S5.C.lt
       obtain ⟨p0, p1, p2, p3, pf⟩ := blk_cells4 HX5.out
       have hgl := blk_lt HX5.out
       go_wp2_with fail
       refine (post57 p q r1 (upd noAck i (.slice Av ks.length cv)) i j w5 w0 hi hjn hn5 (Lib.hid S5.C) (Lib.hid S5.B) HP0.out).mono ?_
       rintro e w8 ⟨rfl, hC8, hK8, hB8⟩
       have S8 := S5.keepP hC8 rfl hK8 hB8 HP.out
       clear hC8 hK8 hB8 p0 p1 p2 p3 pf hgl hpl
       go_wp2_with fail
       go_end0
       refine ⟨rfl, .slice Av ks.length cv, ?_⟩
       rw [HTK2.out]
       rw [HSM.out] at S8
       exact S8
     · subst hn
       have HSM : Hid (r1 = r) := Lib.hid (by rw [Hr1.out, put_stays HOK.out.db (by rw [← Hn.out]; omega)]; rfl)
       have hpl : p < w5.heap.size := S5.C.lt
       obtain ⟨p0, p1, p2, p3, pf⟩ := blk_cells4 HX5.out
       have hgl := blk_lt HX5.out
       have hpf := S5.C.free
       obtain ⟨ct, cs⟩ := S5.C.waits hi hjn
       rw [HPT.out] at ct cs
       obtain ⟨wt, Hwt⟩ : ∃ x, Hid (x = (r.port i).wait j) := ⟨_, Lib.hid rfl⟩
       obtain ⟨sd, Hsd⟩ : ∃ x, Hid (x = (r.port i).send j) := ⟨_, Lib.hid rfl⟩
       rw [← Hwt.out] at ct
       rw [← Hsd.out] at cs
       by_cases hw : 0 < wt ∧ sd = false
       · obtain ⟨hw1, rfl⟩ := hw
         have HTK2 : Hid (takeP r ks i a = (r.sP i ((r.port i).sWait j 0), ks)) := Lib.hid (by
          unfold takeP
          rw [if_neg HTK.out, if_neg (by rw [← Hn.out]; omega), if_neg (by rw [← Hn.out]; omega), HAJ.out, if_pos ⟨by rw [← Hwt.out]; exact hw1, Hsd.out.symm⟩])
         go_upto_region 18 with (fail)
         go_quiet (fail)
         have hdn := pw_below_drewN (Below.refl w5.heap.size w5) nq
         have S5b := S5.below hdn
         have HX5b := Lib.hid (blk_keep hdn HX5.out)
         clear hdn p0 p1 p2 p3 pf hgl hpl hpf ct cs
         generalize w5.drewN nq = w5b at S5b HX5b ⊢
         go_upto_region 19 with (fail)
         have hbd := below_drew (Below.refl w5b.heap.size w5b)
         have S6 := S5b.below hbd
         have HX6 := Lib.hid (blk_keep hbd HX5b.out)
         clear hbd
         have hpl : p < w5b.drew.heap.size := S6.C.lt
         obtain ⟨p0, _, _, _, pf⟩ := blk_cells4 HX6.out
         have hgl := blk_lt HX6.out
         have hpf := S6.C.free
         have ct := (S6.C.waits hi hjn).1
         refine start_ (n := 7) (S := fun w' => w'.cell? ⟨ga, 0, none⟩ = some (.int .i64 j)) (ds := [6]) #[false, false, false, false, false, false, false] (by kernel_rfl) rfl rfl (p0) (fun hHeld => ?_)
         generalize w5b.drew = wd at S6 HX6 hpl p0 pf hgl hpf ct hHeld ⊢
         refine pure_ (i := 0) (N := some 154) (v := ?_) (a' := ?_) #[true, false, false, false, false, false, false] rfl rfl (by kernel_rfl) (fun _ _ _ h => h) (Or.inl ⟨by rfl, ?_⟩) ?_ ?_
         rotate_left
         · intro w'
           go_simp
           with_reducible rfl
         rotate_left
         · simp only [Act.put, List.setIfInBounds_toArray, List.set_cons_zero, List.set_cons_succ, i64_w, i32_w]
           rfl
         refine pure_ (i := 1) (N := some 155) (v := ?_) (a' := ?_) #[true, true, false, false, false, false, false] rfl rfl (by kernel_rfl) (fun _ _ _ h => h) (Or.inl ⟨by rfl, ?_⟩) ?_ ?_
         rotate_left
         · intro w'
           go_simp
           with_reducible rfl
         rotate_left
         · simp only [Act.put, List.setIfInBounds_toArray, List.set_cons_zero, List.set_cons_succ, i64_w, i32_w]
           rfl
         refine pure_ (i := 3) (N := some 157) (v := ?_) (a' := ?_) #[true, true, false, true, false, false, false] rfl rfl (by kernel_rfl) (fun _ _ _ h => h) (Or.inl ⟨by rfl, ?_⟩) ?_ ?_
         rotate_left
         · intro w'
           go_simp
           with_reducible rfl
         rotate_left
         · simp only [Act.put, List.setIfInBounds_toArray, List.set_cons_zero, List.set_cons_succ, i64_w, i32_w]
           rfl
         refine pure_ (i := 4) (N := some 158) (v := ?_) (a' := ?_) #[true, true, false, true, true, false, false] rfl rfl (by kernel_rfl) (fun _ _ _ h => h) (Or.inl ⟨by rfl, ?_⟩) ?_ ?_
         rotate_left
         · intro w'
           go_simp
           with_reducible rfl
         rotate_left
         · simp only [Act.put, List.setIfInBounds_toArray, List.set_cons_zero, List.set_cons_succ, i64_w, i32_w]
           rfl
         refine take_ (i := 2) (N := some 156) (v := ?_) (a' := ?_) #[true, true, true, true, true, false, false] rfl rfl (by kernel_rfl) (fun _ _ _ h => h) (Or.inl ⟨by rfl, ?_⟩) hHeld ?_ ?_
         rotate_left
         · intro w' s0
           go_simp
           with_reducible rfl
         rotate_left
         · simp only [Act.put, List.setIfInBounds_toArray, List.set_cons_zero, List.set_cons_succ, i64_w, i32_w]
           rfl
         refine pure_ (i := 5) (N := some 159) (v := ?_) (a' := ?_) #[true, true, true, true, true, true, false] rfl rfl (by kernel_rfl) (fun _ _ _ h => h) (Or.inl ⟨by rfl, ?_⟩) ?_ ?_
         rotate_left
         · intro w'
           go_simp
           with_reducible rfl
         rotate_left
         · simp only [Act.put, List.setIfInBounds_toArray, List.set_cons_zero, List.set_cons_succ, i64_w, i32_w]
           rfl
         refine last_ (i := 6) (N := none) #[true, true, true, true, true, true, true] rfl rfl (by kernel_rfl) (by decide) (fun K hK => ?_)
         refine skip_ (w1 := ?_) (by rfl) rfl ?_ ?_
         rotate_left
         · go_simp
           rfl
         refine hK.out _ _ ?_
         clear hK K
         refine done_ (by kernel_rfl) ?_
         have hC7 := S6.C.setWait hi hjn 0
         have S7 := S6.keepP hC7 rfl ((KeepBut.refl wd p none).set_ (4 + i * 36 + 3 + j) (.int .i64 0)) (S6.B.setCell (p := ⟨p, 4 + i * 36 + 3 + j, none⟩) HP0.out (.int .i64 0)) HP.out
         go_wp2_with fail
         go_end0
         refine ⟨rfl, .slice Av ks.length cv, ?_⟩
         rw [HTK2.out, ← HSM.out]
         exact S7
       · have HTK2 : Hid (takeP r ks i a = (r1.sP i ((r1.port i).off j), ks ++ [⟨a.f0, a.f1⟩])) := Lib.hid (by
          unfold takeP
          rw [if_neg HTK.out, if_neg (by rw [← Hn.out]; omega), if_neg (by rw [← Hn.out]; omega), HAJ.out, if_neg (fun h => hw ⟨by rw [Hwt.out]; exact h.1, by rw [Hsd.out]; exact h.2⟩), HSM.out])
         by_cases hw1 : 0 < wt
         · obtain rfl : sd = true := by
            cases sd with
            | true => rfl
            | false => exact absurd ⟨hw1, rfl⟩ hw
           clear hw
           go_upto_region 18 with (fail)
           go_quiet (fail)
           have hdn := pw_below_drewN (Below.refl w5.heap.size w5) nq
           have S5b := S5.below hdn
           have HX5b := Lib.hid (blk_keep hdn HX5.out)
           clear hdn p0 p1 p2 p3 pf hgl hpl hpf ct cs
           generalize w5.drewN nq = w5b at S5b HX5b ⊢
           go_upto_region 10 with (fail)
           have hbd := below_drew (Below.refl w5b.heap.size w5b)
           have S6 := S5b.below hbd
           have HX6 := Lib.hid (blk_keep hbd HX5b.out)
           clear hbd
           have hpl : p < w5b.drew.heap.size := S6.C.lt
           obtain ⟨p0, _, _, _, pf⟩ := blk_cells4 HX6.out
           have hgl := blk_lt HX6.out
           have hpf := S6.C.free
           have wt := (S6.C.waits hi hjn).1
           have sd := ((S6.C.setWait hi hjn 0).waits hi hjn).2
           have q0 := blk_cell (((KeepBut.refl w5b.drew p none).set_ (4 + i * 36 + 3 + j) (.int .i64 0)).blk HX6.out (by obtain ⟨cs, hp', _⟩ := S6.C; exact blk_ne HX6.out hp' (by decide)) (by simp)) 0
           refine start_ (n := 14) (S := fun w' => w'.cell? ⟨ga, 0, none⟩ = some (.int .i64 j)) (ds := [13]) #[false, false, false, false, false, false, false, false, false, false, false, false, false, false] (by kernel_rfl) rfl rfl (p0) (fun hHeld => ?_)
           generalize w5b.drew = wd at S6 HX6 hpl p0 pf hgl hpf wt sd q0 hHeld ⊢
           refine pure_ (i := 0) (N := some 67) (v := ?_) (a' := ?_) #[true, false, false, false, false, false, false, false, false, false, false, false, false, false] rfl rfl (by kernel_rfl) (fun _ _ _ h => h) (Or.inl ⟨by rfl, ?_⟩) ?_ ?_
           rotate_left
           · intro w'
             go_simp
             with_reducible rfl
           rotate_left
           · simp only [Act.put, List.setIfInBounds_toArray, List.set_cons_zero, List.set_cons_succ, i64_w, i32_w]
             rfl
           refine pure_ (i := 1) (N := some 68) (v := ?_) (a' := ?_) #[true, true, false, false, false, false, false, false, false, false, false, false, false, false] rfl rfl (by kernel_rfl) (fun _ _ _ h => h) (Or.inl ⟨by rfl, ?_⟩) ?_ ?_
           rotate_left
           · intro w'
             go_simp
             with_reducible rfl
           rotate_left
           · simp only [Act.put, List.setIfInBounds_toArray, List.set_cons_zero, List.set_cons_succ, i64_w, i32_w]
             rfl
           refine pure_ (i := 3) (N := some 70) (v := ?_) (a' := ?_) #[true, true, false, true, false, false, false, false, false, false, false, false, false, false] rfl rfl (by kernel_rfl) (fun _ _ _ h => h) (Or.inl ⟨by rfl, ?_⟩) ?_ ?_
           rotate_left
           · intro w'
             go_simp
             with_reducible rfl
           rotate_left
           · simp only [Act.put, List.setIfInBounds_toArray, List.set_cons_zero, List.set_cons_succ, i64_w, i32_w]
             rfl
           refine pure_ (i := 4) (N := some 71) (v := ?_) (a' := ?_) #[true, true, false, true, true, false, false, false, false, false, false, false, false, false] rfl rfl (by kernel_rfl) (fun _ _ _ h => h) (Or.inl ⟨by rfl, ?_⟩) ?_ ?_
           rotate_left
           · intro w'
             go_simp
             with_reducible rfl
           rotate_left
           · simp only [Act.put, List.setIfInBounds_toArray, List.set_cons_zero, List.set_cons_succ, i64_w, i32_w]
             rfl
           refine pure_ (i := 6) (N := some 73) (v := ?_) (a' := ?_) #[true, true, false, true, true, false, true, false, false, false, false, false, false, false] rfl rfl (by kernel_rfl) (fun _ _ _ h => h) (Or.inl ⟨by rfl, ?_⟩) ?_ ?_
           rotate_left
           · intro w'
             go_simp
             with_reducible rfl
           rotate_left
           · simp only [Act.put, List.setIfInBounds_toArray, List.set_cons_zero, List.set_cons_succ, i64_w, i32_w]
             rfl
           refine pure_ (i := 7) (N := some 74) (v := ?_) (a' := ?_) #[true, true, false, true, true, false, true, true, false, false, false, false, false, false] rfl rfl (by kernel_rfl) (fun _ _ _ h => h) (Or.inl ⟨by rfl, ?_⟩) ?_ ?_
           rotate_left
           · intro w'
             go_simp
             with_reducible rfl
           rotate_left
           · simp only [Act.put, List.setIfInBounds_toArray, List.set_cons_zero, List.set_cons_succ, i64_w, i32_w]
             rfl
           refine pure_ (i := 10) (N := some 76) (v := ?_) (a' := ?_) #[true, true, false, true, true, false, true, true, false, false, true, false, false, false] rfl rfl (by kernel_rfl) (fun _ _ _ h => h) (Or.inl ⟨by rfl, ?_⟩) ?_ ?_
           rotate_left
           · intro w'
             go_simp
             with_reducible rfl
           rotate_left
           · simp only [Act.put, List.setIfInBounds_toArray, List.set_cons_zero, List.set_cons_succ, i64_w, i32_w]
             rfl
           refine pure_ (i := 11) (N := some 77) (v := ?_) (a' := ?_) #[true, true, false, true, true, false, true, true, false, false, true, true, false, false] rfl rfl (by kernel_rfl) (fun _ _ _ h => h) (Or.inl ⟨by rfl, ?_⟩) ?_ ?_
           rotate_left
           · intro w'
             go_simp
             with_reducible rfl
           rotate_left
           · simp only [Act.put, List.setIfInBounds_toArray, List.set_cons_zero, List.set_cons_succ, i64_w, i32_w]
             rfl
           refine take_ (i := 2) (N := some 69) (v := ?_) (a' := ?_) #[true, true, true, true, true, false, true, true, false, false, true, true, false, false] rfl rfl (by kernel_rfl) (fun _ _ _ h => h) (Or.inl ⟨by rfl, ?_⟩) hHeld ?_ ?_
           rotate_left
           · intro w' s0
             go_simp
             with_reducible rfl
           rotate_left
           · simp only [Act.put, List.setIfInBounds_toArray, List.set_cons_zero, List.set_cons_succ, i64_w, i32_w]
             rfl
           refine pure_ (i := 8) (N := some 75) (v := ?_) (a' := ?_) #[true, true, true, true, true, false, true, true, true, false, true, true, false, false] rfl rfl (by kernel_rfl) (fun _ _ _ h => h) (Or.inl ⟨by rfl, ?_⟩) ?_ ?_
           rotate_left
           · intro w'
             go_simp
             with_reducible rfl
           rotate_left
           · simp only [Act.put, List.setIfInBounds_toArray, List.set_cons_zero, List.set_cons_succ, i64_w, i32_w]
             rfl
           refine take_ (i := 5) (N := some 72) (v := ?_) (a' := ?_) #[true, true, true, true, true, true, true, true, true, false, true, true, false, false] rfl rfl (by kernel_rfl) (fun _ _ _ h => h) (Or.inl ⟨by rfl, ?_⟩) hHeld ?_ ?_
           rotate_left
           · intro w' s0
             go_simp
             with_reducible rfl
           rotate_left
           · simp only [Act.put, List.setIfInBounds_toArray, List.set_cons_zero, List.set_cons_succ, i64_w, i32_w]
             rfl
           refine one_ (i := 9) (N := none) #[true, true, true, true, true, true, true, true, true, true, true, true, false, false] rfl rfl (by kernel_rfl) (by decide) (fun K hK => ?_)
           refine skip_ (w1 := ?_) (by rfl) rfl ?_ ?_
           rotate_left
           · go_simp
             rfl
           refine hK.out _ _ (q0) (fun hHeld => ?_)
           clear hK K
           refine pure_ (i := 12) (N := some 78) (v := ?_) (a' := ?_) #[true, true, true, true, true, true, true, true, true, true, true, true, true, false] rfl rfl (by kernel_rfl) (fun _ _ _ h => h) (Or.inl ⟨by rfl, ?_⟩) ?_ ?_
           rotate_left
           · intro w'
             go_simp
             with_reducible rfl
           rotate_left
           · simp only [Act.put, List.setIfInBounds_toArray, List.set_cons_zero, List.set_cons_succ, i64_w, i32_w]
             rfl
           refine last_ (i := 13) (N := none) #[true, true, true, true, true, true, true, true, true, true, true, true, true, true] rfl rfl (by kernel_rfl) (by decide) (fun K hK => ?_)
           refine skip_ (w1 := ?_) (by rfl) rfl ?_ ?_
           rotate_left
           · go_simp
             rfl
           refine hK.out _ _ ?_
           clear hK K
           refine done_ (by kernel_rfl) ?_
           have hC7 := (S6.C.setWait hi hjn 0).setSend hi hjn false
           rw [Rt.sP_at, Rt.sP_sP] at hC7
           have S7 := S6.keepP hC7 rfl (((KeepBut.refl wd p none).set_ (4 + i * 36 + 3 + j) (.int .i64 0)).set_ (4 + i * 36 + 19 + j) (.bool false)) ((S6.B.setCell (p := ⟨p, 4 + i * 36 + 3 + j, none⟩) HP0.out (.int .i64 0)).setCell (p := ⟨p, 4 + i * 36 + 19 + j, none⟩) HP0.out (.bool false)) HP.out
           have HX7 := Lib.hid ((((KeepBut.refl wd p none).set_ (4 + i * 36 + 3 + j) (.int .i64 0)).set_ (4 + i * 36 + 19 + j) (.bool false)).blk HX6.out (by obtain ⟨cs, hp', _⟩ := S6.C; exact blk_ne HX6.out hp' (by decide)) (by simp))
           clear hC7 hpl p0 pf hgl hpf wt sd q0
           generalize (wd.setCell ⟨p, 4 + i * 36 + 3 + j, none⟩ (.int .i64 0)).setCell ⟨p, 4 + i * 36 + 19 + j, none⟩ (.bool false) = w7 at S7 HX7 ⊢
           obtain ⟨r7, Hr7⟩ : ∃ r7, Hid (r7 = r1.sP i ((r1.port i).off j)) := ⟨_, Lib.hid rfl⟩
           have S7 : TS w0 ws w7 p q i r7 (.slice Av ks.length cv) ks := by rw [Hr7.out]; exact S7
           have hpl := S7.C.lt
           go_upto_region 11 with (fail)
           have hbd := below_drew (Below.refl w7.heap.size w7)
           have S9 := S7.below hbd
           have HX9 := Lib.hid (blk_keep hbd HX7.out)
           clear hbd
           have hpl : p < w7.drew.heap.size := S9.C.lt
           obtain ⟨p0, p1, _, _, pf⟩ := blk_cells4 HX9.out
           have hgl := blk_lt HX9.out
           have pa : w7.drew.cell? ⟨p, 4 + i * 36 + 35, none⟩ = some (.slice Av ks.length cv) := by have := (S9.C.head hi).2.2.2; rwa [upd_self] at this
           refine start_ (n := 15) (S := fun w' => w'.cell? ⟨p, 4 + i * 36 + 35, none⟩ = some (.slice Av ks.length cv) ∧ w'.cell? ⟨ga, 0, none⟩ = some (.int .i64 j) ∧ w'.cell? ⟨ga, 1, none⟩ = some (.int .i64 x1)) (ds := [14]) #[false, false, false, false, false, false, false, false, false, false, false, false, false, false, false] (by kernel_rfl) rfl rfl ⟨pa, p0, p1⟩ (fun hHeld => ?_)
           generalize w7.drew = wd at S9 HX9 hpl p0 p1 pf hgl pa hHeld ⊢
           refine pure_ (i := 0) (N := some 79) (v := ?_) (a' := ?_) #[true, false, false, false, false, false, false, false, false, false, false, false, false, false, false] rfl rfl (by kernel_rfl) (fun _ _ _ h => h) (Or.inl ⟨by rfl, ?_⟩) ?_ ?_
           rotate_left
           · intro w'
             go_simp
             with_reducible rfl
           rotate_left
           · simp only [Act.put, List.setIfInBounds_toArray, List.set_cons_zero, List.set_cons_succ, i64_w, i32_w]
             rfl
           refine pure_ (i := 1) (N := some 80) (v := ?_) (a' := ?_) #[true, true, false, false, false, false, false, false, false, false, false, false, false, false, false] rfl rfl (by kernel_rfl) (fun _ _ _ h => h) (Or.inl ⟨by rfl, ?_⟩) ?_ ?_
           rotate_left
           · intro w'
             go_simp
             with_reducible rfl
           rotate_left
           · simp only [Act.put, List.setIfInBounds_toArray, List.set_cons_zero, List.set_cons_succ, i64_w, i32_w]
             rfl
           refine pure_ (i := 2) (N := some 81) (v := ?_) (a' := ?_) #[true, true, true, false, false, false, false, false, false, false, false, false, false, false, false] rfl rfl (by kernel_rfl) (fun _ _ _ h => h) (Or.inl ⟨by rfl, ?_⟩) ?_ ?_
           rotate_left
           · intro w'
             go_simp
             with_reducible rfl
           rotate_left
           · simp only [Act.put, List.setIfInBounds_toArray, List.set_cons_zero, List.set_cons_succ, i64_w, i32_w]
             rfl
           refine pure_ (i := 3) (N := some 82) (v := ?_) (a' := ?_) #[true, true, true, true, false, false, false, false, false, false, false, false, false, false, false] rfl rfl (by kernel_rfl) (fun _ _ _ h => h) (Or.inl ⟨by rfl, ?_⟩) ?_ ?_
           rotate_left
           · intro w'
             go_simp
             with_reducible rfl
           rotate_left
           · simp only [Act.put, List.setIfInBounds_toArray, List.set_cons_zero, List.set_cons_succ, i64_w, i32_w]
             rfl
           refine pure_ (i := 5) (N := some 84) (v := ?_) (a' := ?_) #[true, true, true, true, false, true, false, false, false, false, false, false, false, false, false] rfl rfl (by kernel_rfl) (fun _ _ _ h => h) (Or.inl ⟨by rfl, ?_⟩) ?_ ?_
           rotate_left
           · intro w'
             go_simp
             with_reducible rfl
           rotate_left
           · simp only [Act.put, List.setIfInBounds_toArray, List.set_cons_zero, List.set_cons_succ, i64_w, i32_w]
             rfl
           refine pure_ (i := 7) (N := some 86) (v := ?_) (a' := ?_) #[true, true, true, true, false, true, false, true, false, false, false, false, false, false, false] rfl rfl (by kernel_rfl) (fun _ _ _ h => h) (Or.inl ⟨by rfl, ?_⟩) ?_ ?_
           rotate_left
           · intro w'
             go_simp
             with_reducible rfl
           rotate_left
           · simp only [Act.put, List.setIfInBounds_toArray, List.set_cons_zero, List.set_cons_succ, i64_w, i32_w]
             rfl
           refine take_ (i := 4) (N := some 83) (v := ?_) (a' := ?_) #[true, true, true, true, true, true, false, true, false, false, false, false, false, false, false] rfl rfl (by kernel_rfl) (fun _ _ _ h => h) (Or.inl ⟨by rfl, ?_⟩) hHeld ?_ ?_
           rotate_left
           · rintro w' ⟨s0, s1, s2⟩
             go_simp
             with_reducible rfl
           rotate_left
           · simp only [Act.put, List.setIfInBounds_toArray, List.set_cons_zero, List.set_cons_succ, i64_w, i32_w]
             rfl
           refine take_ (i := 6) (N := some 85) (v := ?_) (a' := ?_) #[true, true, true, true, true, true, true, true, false, false, false, false, false, false, false] rfl rfl (by kernel_rfl) (fun _ _ _ h => h) (Or.inl ⟨by rfl, ?_⟩) hHeld ?_ ?_
           rotate_left
           · rintro w' ⟨s0, s1, s2⟩
             go_simp
             with_reducible rfl
           rotate_left
           · simp only [Act.put, List.setIfInBounds_toArray, List.set_cons_zero, List.set_cons_succ, i64_w, i32_w]
             rfl
           refine take_ (i := 8) (N := some 87) (v := ?_) (a' := ?_) #[true, true, true, true, true, true, true, true, true, false, false, false, false, false, false] rfl rfl (by kernel_rfl) (fun _ _ _ h => h) (Or.inl ⟨by rfl, ?_⟩) hHeld ?_ ?_
           rotate_left
           · rintro w' ⟨s0, s1, s2⟩
             go_simp
             with_reducible rfl
           rotate_left
           · simp only [Act.put, List.setIfInBounds_toArray, List.set_cons_zero, List.set_cons_succ, i64_w, i32_w]
             rfl
           refine pure_ (i := 9) (N := some 88) (v := ?_) (a' := ?_) #[true, true, true, true, true, true, true, true, true, true, false, false, false, false, false] rfl rfl (by kernel_rfl) (fun _ _ _ h => h) (Or.inl ⟨by rfl, ?_⟩) ?_ ?_
           rotate_left
           · intro w'
             go_simp
             with_reducible rfl
           rotate_left
           · simp only [Act.put, List.setIfInBounds_toArray, List.set_cons_zero, List.set_cons_succ, i64_w, i32_w]
             rfl
           refine one_ (i := 10) (N := some 89) #[true, true, true, true, true, true, true, true, true, true, true, false, false, false, false] rfl rfl (by kernel_rfl) (by decide) (fun K hK => ?_)
           refine value_ (w1 := ?_) (v := ?_) (by rfl) rfl ?_ ?_
           rotate_left 2
           · go_simp
             constructor
             · rfl
             · rfl
           have hbx := below_alloc (Below.refl wd.heap.size wd) (.cells #[.int .i64 j, .int .i64 x1] 129)
           have qa := pw_cell_below hbx pa
           have q0 := pw_cell_below hbx p0
           have q1 := pw_cell_below hbx p1
           clear hbx
           refine hK.out _ _ ⟨qa, q0, q1⟩ (fun hHeld => ?_)
           clear hK K
           refine norm_ (a' := ?_) ?_ ?_
           rotate_left
           · show Act.put _ (some 89) _ = _
             simp only [Act.put, List.setIfInBounds_toArray, List.set_cons_zero, List.set_cons_succ, i64_w, i32_w]
             rfl
           refine one_ (i := 11) (N := some 90) #[true, true, true, true, true, true, true, true, true, true, true, true, false, false, false] rfl rfl (by kernel_rfl) (by decide) (fun K hK => ?_)
           refine Kd.R_append_step k129 (w0 := wd) ws.heap.size (by rfl) (.tmp 83) (.tmp 89) 101 129 (.agg #[.int .i64 0, .int .i64 0]) 16 rfl Try.underlying101 info129 rfl (by decide) (by omega) (.slice Av ks.length cv) (ks) ((⟨j, x1⟩ : S129)) [.int .i64 j, .int .i64 x1] ((fun b => ws.heap.size ≤ b)) (fun _ => False) rfl rfl ?aP (fun _ hk => hk.elim) ?aF ?aO ?aB ?aS ?aL ?_
           (case aP => exact k129_mkM _ _ _ _)
           (case aF => exact fun b hb => Nat.le_trans S9.K.1 hb)
           (case aO => exact S9.R)
           (case aB => exact (Below.refl wd.heap.size wd).mono S9.K.1)
           (case aS => exact S9.K.1)
           (case aL => omega)
           intro v10 w10 ho hb hg hat
           obtain ⟨ks2, Hk2⟩ : ∃ l, Hid (l = ks ++ [(⟨j, x1⟩ : S129)]) := ⟨_, Lib.hid rfl⟩
           rw [← Hk2.out] at ho
           obtain ⟨A10, c10, rfl, hle10, _⟩ := Kd.R_reads ho
           have HR10 := Lib.hid ho
           have S10 := S9.grown129 hg HPP.out
           have HX10 := Lib.hid (blk_grown S9.R hg HX9.out (by decide))
           clear ho hb hg hat hle10
           have hpl10 := S10.C.lt
           have hpf10 := S10.C.free
           have ta : w10.cell? ⟨p, 4 + i * 36 + 35, none⟩ = some (.slice Av ks.length cv) := by have := (S10.C.head hi).2.2.2; rwa [upd_self] at this
           have t0 := blk_cell HX10.out 0
           have t1 := blk_cell HX10.out 1
           refine hK.out _ _ ⟨ta, t0, t1⟩ (fun hHeld => ?_)
           clear hK K
           refine norm_ (a' := ?_) ?_ ?_
           rotate_left
           · show Act.put _ (some 90) _ = _
             simp only [Act.put, List.setIfInBounds_toArray, List.set_cons_zero, List.set_cons_succ, i64_w, i32_w]
             rfl
           refine pure_ (i := 12) (N := some 91) (v := ?_) (a' := ?_) #[true, true, true, true, true, true, true, true, true, true, true, true, true, false, false] rfl rfl (by kernel_rfl) (fun _ _ _ h => h) (Or.inl ⟨by rfl, ?_⟩) ?_ ?_
           rotate_left
           · intro w'
             go_simp
             with_reducible rfl
           rotate_left
           · simp only [Act.put, List.setIfInBounds_toArray, List.set_cons_zero, List.set_cons_succ, i64_w, i32_w]
             rfl
           refine pure_ (i := 13) (N := some 92) (v := ?_) (a' := ?_) #[true, true, true, true, true, true, true, true, true, true, true, true, true, true, false] rfl rfl (by kernel_rfl) (fun _ _ _ h => h) (Or.inl ⟨by rfl, ?_⟩) ?_ ?_
           rotate_left
           · intro w'
             go_simp
             with_reducible rfl
           rotate_left
           · simp only [Act.put, List.setIfInBounds_toArray, List.set_cons_zero, List.set_cons_succ, i64_w, i32_w]
             rfl
           refine last_ (i := 14) (N := none) #[true, true, true, true, true, true, true, true, true, true, true, true, true, true, true] rfl rfl (by kernel_rfl) (by decide) (fun K hK => ?_)
           refine skip_ (w1 := ?_) (by rfl) rfl ?_ ?_
           rotate_left
           · go_simp
             rfl
           refine hK.out _ _ ?_
           clear hK K
           refine done_ (by kernel_rfl) ?_
           have S12 := S10.acked hi HR10.out HP0.out HP.out
           clear S10 ta t0 t1 hpl10 hpf10 HX10
           go_wp2_with fail
           go_end0
           refine ⟨rfl, .slice A10 ks2.length c10, ?_⟩
           rw [HTK2.out, ← Hr7.out, ← Hx0.out, ← Hx1.out, ← Hk2.out]
           exact S12
         · clear hw
           go_upto_region 18 with (fail)
           go_quiet (fail)
           have hdn := pw_below_drewN (Below.refl w5.heap.size w5) nq
           have S5b := S5.below hdn
           have HX5b := Lib.hid (blk_keep hdn HX5.out)
           clear hdn p0 p1 p2 p3 pf hgl hpl hpf ct cs
           generalize w5.drewN nq = w5b at S5b HX5b ⊢
           go_upto_region 10 with (fail)
           have hbd := below_drew (Below.refl w5b.heap.size w5b)
           have S6 := S5b.below hbd
           have HX6 := Lib.hid (blk_keep hbd HX5b.out)
           clear hbd
           have hpl : p < w5b.drew.heap.size := S6.C.lt
           obtain ⟨p0, _, _, _, pf⟩ := blk_cells4 HX6.out
           have hgl := blk_lt HX6.out
           have hpf := S6.C.free
           have wt := (S6.C.waits hi hjn).1
           have sd := ((S6.C.setWait hi hjn 0).waits hi hjn).2
           have q0 := blk_cell (((KeepBut.refl w5b.drew p none).set_ (4 + i * 36 + 3 + j) (.int .i64 0)).blk HX6.out (by obtain ⟨cs, hp', _⟩ := S6.C; exact blk_ne HX6.out hp' (by decide)) (by simp)) 0
           refine start_ (n := 14) (S := fun w' => w'.cell? ⟨ga, 0, none⟩ = some (.int .i64 j)) (ds := [13]) #[false, false, false, false, false, false, false, false, false, false, false, false, false, false] (by kernel_rfl) rfl rfl (p0) (fun hHeld => ?_)
           generalize w5b.drew = wd at S6 HX6 hpl p0 pf hgl hpf wt sd q0 hHeld ⊢
           refine pure_ (i := 0) (N := some 67) (v := ?_) (a' := ?_) #[true, false, false, false, false, false, false, false, false, false, false, false, false, false] rfl rfl (by kernel_rfl) (fun _ _ _ h => h) (Or.inl ⟨by rfl, ?_⟩) ?_ ?_
           rotate_left
           · intro w'
             go_simp
             with_reducible rfl
           rotate_left
           · simp only [Act.put, List.setIfInBounds_toArray, List.set_cons_zero, List.set_cons_succ, i64_w, i32_w]
             rfl
           refine pure_ (i := 1) (N := some 68) (v := ?_) (a' := ?_) #[true, true, false, false, false, false, false, false, false, false, false, false, false, false] rfl rfl (by kernel_rfl) (fun _ _ _ h => h) (Or.inl ⟨by rfl, ?_⟩) ?_ ?_
           rotate_left
           · intro w'
             go_simp
             with_reducible rfl
           rotate_left
           · simp only [Act.put, List.setIfInBounds_toArray, List.set_cons_zero, List.set_cons_succ, i64_w, i32_w]
             rfl
           refine pure_ (i := 3) (N := some 70) (v := ?_) (a' := ?_) #[true, true, false, true, false, false, false, false, false, false, false, false, false, false] rfl rfl (by kernel_rfl) (fun _ _ _ h => h) (Or.inl ⟨by rfl, ?_⟩) ?_ ?_
           rotate_left
           · intro w'
             go_simp
             with_reducible rfl
           rotate_left
           · simp only [Act.put, List.setIfInBounds_toArray, List.set_cons_zero, List.set_cons_succ, i64_w, i32_w]
             rfl
           refine pure_ (i := 4) (N := some 71) (v := ?_) (a' := ?_) #[true, true, false, true, true, false, false, false, false, false, false, false, false, false] rfl rfl (by kernel_rfl) (fun _ _ _ h => h) (Or.inl ⟨by rfl, ?_⟩) ?_ ?_
           rotate_left
           · intro w'
             go_simp
             with_reducible rfl
           rotate_left
           · simp only [Act.put, List.setIfInBounds_toArray, List.set_cons_zero, List.set_cons_succ, i64_w, i32_w]
             rfl
           refine pure_ (i := 6) (N := some 73) (v := ?_) (a' := ?_) #[true, true, false, true, true, false, true, false, false, false, false, false, false, false] rfl rfl (by kernel_rfl) (fun _ _ _ h => h) (Or.inl ⟨by rfl, ?_⟩) ?_ ?_
           rotate_left
           · intro w'
             go_simp
             with_reducible rfl
           rotate_left
           · simp only [Act.put, List.setIfInBounds_toArray, List.set_cons_zero, List.set_cons_succ, i64_w, i32_w]
             rfl
           refine pure_ (i := 7) (N := some 74) (v := ?_) (a' := ?_) #[true, true, false, true, true, false, true, true, false, false, false, false, false, false] rfl rfl (by kernel_rfl) (fun _ _ _ h => h) (Or.inl ⟨by rfl, ?_⟩) ?_ ?_
           rotate_left
           · intro w'
             go_simp
             with_reducible rfl
           rotate_left
           · simp only [Act.put, List.setIfInBounds_toArray, List.set_cons_zero, List.set_cons_succ, i64_w, i32_w]
             rfl
           refine pure_ (i := 10) (N := some 76) (v := ?_) (a' := ?_) #[true, true, false, true, true, false, true, true, false, false, true, false, false, false] rfl rfl (by kernel_rfl) (fun _ _ _ h => h) (Or.inl ⟨by rfl, ?_⟩) ?_ ?_
           rotate_left
           · intro w'
             go_simp
             with_reducible rfl
           rotate_left
           · simp only [Act.put, List.setIfInBounds_toArray, List.set_cons_zero, List.set_cons_succ, i64_w, i32_w]
             rfl
           refine pure_ (i := 11) (N := some 77) (v := ?_) (a' := ?_) #[true, true, false, true, true, false, true, true, false, false, true, true, false, false] rfl rfl (by kernel_rfl) (fun _ _ _ h => h) (Or.inl ⟨by rfl, ?_⟩) ?_ ?_
           rotate_left
           · intro w'
             go_simp
             with_reducible rfl
           rotate_left
           · simp only [Act.put, List.setIfInBounds_toArray, List.set_cons_zero, List.set_cons_succ, i64_w, i32_w]
             rfl
           refine take_ (i := 2) (N := some 69) (v := ?_) (a' := ?_) #[true, true, true, true, true, false, true, true, false, false, true, true, false, false] rfl rfl (by kernel_rfl) (fun _ _ _ h => h) (Or.inl ⟨by rfl, ?_⟩) hHeld ?_ ?_
           rotate_left
           · intro w' s0
             go_simp
             with_reducible rfl
           rotate_left
           · simp only [Act.put, List.setIfInBounds_toArray, List.set_cons_zero, List.set_cons_succ, i64_w, i32_w]
             rfl
           refine pure_ (i := 8) (N := some 75) (v := ?_) (a' := ?_) #[true, true, true, true, true, false, true, true, true, false, true, true, false, false] rfl rfl (by kernel_rfl) (fun _ _ _ h => h) (Or.inl ⟨by rfl, ?_⟩) ?_ ?_
           rotate_left
           · intro w'
             go_simp
             with_reducible rfl
           rotate_left
           · simp only [Act.put, List.setIfInBounds_toArray, List.set_cons_zero, List.set_cons_succ, i64_w, i32_w]
             rfl
           refine take_ (i := 5) (N := some 72) (v := ?_) (a' := ?_) #[true, true, true, true, true, true, true, true, true, false, true, true, false, false] rfl rfl (by kernel_rfl) (fun _ _ _ h => h) (Or.inl ⟨by rfl, ?_⟩) hHeld ?_ ?_
           rotate_left
           · intro w' s0
             go_simp
             with_reducible rfl
           rotate_left
           · simp only [Act.put, List.setIfInBounds_toArray, List.set_cons_zero, List.set_cons_succ, i64_w, i32_w]
             rfl
           refine one_ (i := 9) (N := none) #[true, true, true, true, true, true, true, true, true, true, true, true, false, false] rfl rfl (by kernel_rfl) (by decide) (fun K hK => ?_)
           refine skip_ (w1 := ?_) (by rfl) rfl ?_ ?_
           rotate_left
           · go_simp
             rfl
           refine hK.out _ _ (q0) (fun hHeld => ?_)
           clear hK K
           refine pure_ (i := 12) (N := some 78) (v := ?_) (a' := ?_) #[true, true, true, true, true, true, true, true, true, true, true, true, true, false] rfl rfl (by kernel_rfl) (fun _ _ _ h => h) (Or.inl ⟨by rfl, ?_⟩) ?_ ?_
           rotate_left
           · intro w'
             go_simp
             with_reducible rfl
           rotate_left
           · simp only [Act.put, List.setIfInBounds_toArray, List.set_cons_zero, List.set_cons_succ, i64_w, i32_w]
             rfl
           refine last_ (i := 13) (N := none) #[true, true, true, true, true, true, true, true, true, true, true, true, true, true] rfl rfl (by kernel_rfl) (by decide) (fun K hK => ?_)
           refine skip_ (w1 := ?_) (by rfl) rfl ?_ ?_
           rotate_left
           · go_simp
             rfl
           refine hK.out _ _ ?_
           clear hK K
           refine done_ (by kernel_rfl) ?_
           have hC7 := (S6.C.setWait hi hjn 0).setSend hi hjn false
           rw [Rt.sP_at, Rt.sP_sP] at hC7
           have S7 := S6.keepP hC7 rfl (((KeepBut.refl wd p none).set_ (4 + i * 36 + 3 + j) (.int .i64 0)).set_ (4 + i * 36 + 19 + j) (.bool false)) ((S6.B.setCell (p := ⟨p, 4 + i * 36 + 3 + j, none⟩) HP0.out (.int .i64 0)).setCell (p := ⟨p, 4 + i * 36 + 19 + j, none⟩) HP0.out (.bool false)) HP.out
           have HX7 := Lib.hid ((((KeepBut.refl wd p none).set_ (4 + i * 36 + 3 + j) (.int .i64 0)).set_ (4 + i * 36 + 19 + j) (.bool false)).blk HX6.out (by obtain ⟨cs, hp', _⟩ := S6.C; exact blk_ne HX6.out hp' (by decide)) (by simp))
           clear hC7 hpl p0 pf hgl hpf wt sd q0
           generalize (wd.setCell ⟨p, 4 + i * 36 + 3 + j, none⟩ (.int .i64 0)).setCell ⟨p, 4 + i * 36 + 19 + j, none⟩ (.bool false) = w7 at S7 HX7 ⊢
           obtain ⟨r7, Hr7⟩ : ∃ r7, Hid (r7 = r1.sP i ((r1.port i).off j)) := ⟨_, Lib.hid rfl⟩
           have S7 : TS w0 ws w7 p q i r7 (.slice Av ks.length cv) ks := by rw [Hr7.out]; exact S7
           have hpl := S7.C.lt
           go_upto_region 11 with (fail)
           have hbd := below_drew (Below.refl w7.heap.size w7)
           have S9 := S7.below hbd
           have HX9 := Lib.hid (blk_keep hbd HX7.out)
           clear hbd
           have hpl : p < w7.drew.heap.size := S9.C.lt
           obtain ⟨p0, p1, _, _, pf⟩ := blk_cells4 HX9.out
           have hgl := blk_lt HX9.out
           have pa : w7.drew.cell? ⟨p, 4 + i * 36 + 35, none⟩ = some (.slice Av ks.length cv) := by have := (S9.C.head hi).2.2.2; rwa [upd_self] at this
           refine start_ (n := 15) (S := fun w' => w'.cell? ⟨p, 4 + i * 36 + 35, none⟩ = some (.slice Av ks.length cv) ∧ w'.cell? ⟨ga, 0, none⟩ = some (.int .i64 j) ∧ w'.cell? ⟨ga, 1, none⟩ = some (.int .i64 x1)) (ds := [14]) #[false, false, false, false, false, false, false, false, false, false, false, false, false, false, false] (by kernel_rfl) rfl rfl ⟨pa, p0, p1⟩ (fun hHeld => ?_)
           generalize w7.drew = wd at S9 HX9 hpl p0 p1 pf hgl pa hHeld ⊢
           refine pure_ (i := 0) (N := some 79) (v := ?_) (a' := ?_) #[true, false, false, false, false, false, false, false, false, false, false, false, false, false, false] rfl rfl (by kernel_rfl) (fun _ _ _ h => h) (Or.inl ⟨by rfl, ?_⟩) ?_ ?_
           rotate_left
           · intro w'
             go_simp
             with_reducible rfl
           rotate_left
           · simp only [Act.put, List.setIfInBounds_toArray, List.set_cons_zero, List.set_cons_succ, i64_w, i32_w]
             rfl
           refine pure_ (i := 1) (N := some 80) (v := ?_) (a' := ?_) #[true, true, false, false, false, false, false, false, false, false, false, false, false, false, false] rfl rfl (by kernel_rfl) (fun _ _ _ h => h) (Or.inl ⟨by rfl, ?_⟩) ?_ ?_
           rotate_left
           · intro w'
             go_simp
             with_reducible rfl
           rotate_left
           · simp only [Act.put, List.setIfInBounds_toArray, List.set_cons_zero, List.set_cons_succ, i64_w, i32_w]
             rfl
           refine pure_ (i := 2) (N := some 81) (v := ?_) (a' := ?_) #[true, true, true, false, false, false, false, false, false, false, false, false, false, false, false] rfl rfl (by kernel_rfl) (fun _ _ _ h => h) (Or.inl ⟨by rfl, ?_⟩) ?_ ?_
           rotate_left
           · intro w'
             go_simp
             with_reducible rfl
           rotate_left
           · simp only [Act.put, List.setIfInBounds_toArray, List.set_cons_zero, List.set_cons_succ, i64_w, i32_w]
             rfl
           refine pure_ (i := 3) (N := some 82) (v := ?_) (a' := ?_) #[true, true, true, true, false, false, false, false, false, false, false, false, false, false, false] rfl rfl (by kernel_rfl) (fun _ _ _ h => h) (Or.inl ⟨by rfl, ?_⟩) ?_ ?_
           rotate_left
           · intro w'
             go_simp
             with_reducible rfl
           rotate_left
           · simp only [Act.put, List.setIfInBounds_toArray, List.set_cons_zero, List.set_cons_succ, i64_w, i32_w]
             rfl
           refine pure_ (i := 5) (N := some 84) (v := ?_) (a' := ?_) #[true, true, true, true, false, true, false, false, false, false, false, false, false, false, false] rfl rfl (by kernel_rfl) (fun _ _ _ h => h) (Or.inl ⟨by rfl, ?_⟩) ?_ ?_
           rotate_left
           · intro w'
             go_simp
             with_reducible rfl
           rotate_left
           · simp only [Act.put, List.setIfInBounds_toArray, List.set_cons_zero, List.set_cons_succ, i64_w, i32_w]
             rfl
           refine pure_ (i := 7) (N := some 86) (v := ?_) (a' := ?_) #[true, true, true, true, false, true, false, true, false, false, false, false, false, false, false] rfl rfl (by kernel_rfl) (fun _ _ _ h => h) (Or.inl ⟨by rfl, ?_⟩) ?_ ?_
           rotate_left
           · intro w'
             go_simp
             with_reducible rfl
           rotate_left
           · simp only [Act.put, List.setIfInBounds_toArray, List.set_cons_zero, List.set_cons_succ, i64_w, i32_w]
             rfl
           refine take_ (i := 4) (N := some 83) (v := ?_) (a' := ?_) #[true, true, true, true, true, true, false, true, false, false, false, false, false, false, false] rfl rfl (by kernel_rfl) (fun _ _ _ h => h) (Or.inl ⟨by rfl, ?_⟩) hHeld ?_ ?_
           rotate_left
           · rintro w' ⟨s0, s1, s2⟩
             go_simp
             with_reducible rfl
           rotate_left
           · simp only [Act.put, List.setIfInBounds_toArray, List.set_cons_zero, List.set_cons_succ, i64_w, i32_w]
             rfl
           refine take_ (i := 6) (N := some 85) (v := ?_) (a' := ?_) #[true, true, true, true, true, true, true, true, false, false, false, false, false, false, false] rfl rfl (by kernel_rfl) (fun _ _ _ h => h) (Or.inl ⟨by rfl, ?_⟩) hHeld ?_ ?_
           rotate_left
           · rintro w' ⟨s0, s1, s2⟩
             go_simp
             with_reducible rfl
           rotate_left
           · simp only [Act.put, List.setIfInBounds_toArray, List.set_cons_zero, List.set_cons_succ, i64_w, i32_w]
             rfl
           refine take_ (i := 8) (N := some 87) (v := ?_) (a' := ?_) #[true, true, true, true, true, true, true, true, true, false, false, false, false, false, false] rfl rfl (by kernel_rfl) (fun _ _ _ h => h) (Or.inl ⟨by rfl, ?_⟩) hHeld ?_ ?_
           rotate_left
           · rintro w' ⟨s0, s1, s2⟩
             go_simp
             with_reducible rfl
           rotate_left
           · simp only [Act.put, List.setIfInBounds_toArray, List.set_cons_zero, List.set_cons_succ, i64_w, i32_w]
             rfl
           refine pure_ (i := 9) (N := some 88) (v := ?_) (a' := ?_) #[true, true, true, true, true, true, true, true, true, true, false, false, false, false, false] rfl rfl (by kernel_rfl) (fun _ _ _ h => h) (Or.inl ⟨by rfl, ?_⟩) ?_ ?_
           rotate_left
           · intro w'
             go_simp
             with_reducible rfl
           rotate_left
           · simp only [Act.put, List.setIfInBounds_toArray, List.set_cons_zero, List.set_cons_succ, i64_w, i32_w]
             rfl
           refine one_ (i := 10) (N := some 89) #[true, true, true, true, true, true, true, true, true, true, true, false, false, false, false] rfl rfl (by kernel_rfl) (by decide) (fun K hK => ?_)
           refine value_ (w1 := ?_) (v := ?_) (by rfl) rfl ?_ ?_
           rotate_left 2
           · go_simp
             constructor
             · rfl
             · rfl
           have hbx := below_alloc (Below.refl wd.heap.size wd) (.cells #[.int .i64 j, .int .i64 x1] 129)
           have qa := pw_cell_below hbx pa
           have q0 := pw_cell_below hbx p0
           have q1 := pw_cell_below hbx p1
           clear hbx
           refine hK.out _ _ ⟨qa, q0, q1⟩ (fun hHeld => ?_)
           clear hK K
           refine norm_ (a' := ?_) ?_ ?_
           rotate_left
           · show Act.put _ (some 89) _ = _
             simp only [Act.put, List.setIfInBounds_toArray, List.set_cons_zero, List.set_cons_succ, i64_w, i32_w]
             rfl
           refine one_ (i := 11) (N := some 90) #[true, true, true, true, true, true, true, true, true, true, true, true, false, false, false] rfl rfl (by kernel_rfl) (by decide) (fun K hK => ?_)
           refine Kd.R_append_step k129 (w0 := wd) ws.heap.size (by rfl) (.tmp 83) (.tmp 89) 101 129 (.agg #[.int .i64 0, .int .i64 0]) 16 rfl Try.underlying101 info129 rfl (by decide) (by omega) (.slice Av ks.length cv) (ks) ((⟨j, x1⟩ : S129)) [.int .i64 j, .int .i64 x1] ((fun b => ws.heap.size ≤ b)) (fun _ => False) rfl rfl ?aP (fun _ hk => hk.elim) ?aF ?aO ?aB ?aS ?aL ?_
           (case aP => exact k129_mkM _ _ _ _)
           (case aF => exact fun b hb => Nat.le_trans S9.K.1 hb)
           (case aO => exact S9.R)
           (case aB => exact (Below.refl wd.heap.size wd).mono S9.K.1)
           (case aS => exact S9.K.1)
           (case aL => omega)
           intro v10 w10 ho hb hg hat
           obtain ⟨ks2, Hk2⟩ : ∃ l, Hid (l = ks ++ [(⟨j, x1⟩ : S129)]) := ⟨_, Lib.hid rfl⟩
           rw [← Hk2.out] at ho
           obtain ⟨A10, c10, rfl, hle10, _⟩ := Kd.R_reads ho
           have HR10 := Lib.hid ho
           have S10 := S9.grown129 hg HPP.out
           have HX10 := Lib.hid (blk_grown S9.R hg HX9.out (by decide))
           clear ho hb hg hat hle10
           have hpl10 := S10.C.lt
           have hpf10 := S10.C.free
           have ta : w10.cell? ⟨p, 4 + i * 36 + 35, none⟩ = some (.slice Av ks.length cv) := by have := (S10.C.head hi).2.2.2; rwa [upd_self] at this
           have t0 := blk_cell HX10.out 0
           have t1 := blk_cell HX10.out 1
           refine hK.out _ _ ⟨ta, t0, t1⟩ (fun hHeld => ?_)
           clear hK K
           refine norm_ (a' := ?_) ?_ ?_
           rotate_left
           · show Act.put _ (some 90) _ = _
             simp only [Act.put, List.setIfInBounds_toArray, List.set_cons_zero, List.set_cons_succ, i64_w, i32_w]
             rfl
           refine pure_ (i := 12) (N := some 91) (v := ?_) (a' := ?_) #[true, true, true, true, true, true, true, true, true, true, true, true, true, false, false] rfl rfl (by kernel_rfl) (fun _ _ _ h => h) (Or.inl ⟨by rfl, ?_⟩) ?_ ?_
           rotate_left
           · intro w'
             go_simp
             with_reducible rfl
           rotate_left
           · simp only [Act.put, List.setIfInBounds_toArray, List.set_cons_zero, List.set_cons_succ, i64_w, i32_w]
             rfl
           refine pure_ (i := 13) (N := some 92) (v := ?_) (a' := ?_) #[true, true, true, true, true, true, true, true, true, true, true, true, true, true, false] rfl rfl (by kernel_rfl) (fun _ _ _ h => h) (Or.inl ⟨by rfl, ?_⟩) ?_ ?_
           rotate_left
           · intro w'
             go_simp
             with_reducible rfl
           rotate_left
           · simp only [Act.put, List.setIfInBounds_toArray, List.set_cons_zero, List.set_cons_succ, i64_w, i32_w]
             rfl
           refine last_ (i := 14) (N := none) #[true, true, true, true, true, true, true, true, true, true, true, true, true, true, true] rfl rfl (by kernel_rfl) (by decide) (fun K hK => ?_)
           refine skip_ (w1 := ?_) (by rfl) rfl ?_ ?_
           rotate_left
           · go_simp
             rfl
           refine hK.out _ _ ?_
           clear hK K
           refine done_ (by kernel_rfl) ?_
           have S12 := S10.acked hi HR10.out HP0.out HP.out
           clear S10 ta t0 t1 hpl10 hpf10 HX10
           go_wp2_with fail
           go_end0
           refine ⟨rfl, .slice A10 ks2.length c10, ?_⟩
           rw [HTK2.out, ← Hr7.out, ← Hx0.out, ← Hx1.out, ← Hk2.out]
           exact S12
 · have hd : ((j : Int) == rid) = false := by simpa using hid
   have HNID := Lib.hid (show ¬ (j : Int) = r.id from by rw [← HRID.out]; exact hid)
   go_quiet (fail)
   have hdn := pw_below_drewN (Below.refl w1.heap.size w1) nq
   have S3 := S1.below hdn
   have HX3 := Lib.hid (blk_keep hdn HX1.out)
   have HC3 := Lib.hid (Kd.C_below HC1.out hdn)
   have HTK : Hid (¬ (a.f0 = r.id ∧ 0 < newerP a (r.db.1 a.f0.toNat))) := Lib.hid (fun h => HNID.out (by rw [Hx0.out]; exact h.1))
   clear hdn p0 p1 p2 p3 pf hgl ci cq cn cb hpl hd hid
   generalize w1.drewN nq = w3 at S3 HX3 HC3 ⊢
   go_upto_region 9 with (fail)
   have hbd := below_drew (Below.refl w3.heap.size w3)
   have S4 := S3.below hbd
   have HX4 := Lib.hid (blk_keep hbd HX3.out)
   have HC4 := Lib.hid (Kd.C_below HC3.out hbd)
   clear hbd
   have hpl : p < w3.heap.size := S3.C.lt
   obtain ⟨p0, p1, p2, p3, pf⟩ := blk_cells4 HX4.out
   have hgl := blk_lt HX4.out
   obtain ⟨_, _, _, cb⟩ := S4.C.ids
   have HAE := Lib.hid (show (⟨(j : Int), x1, x2, xl⟩ : S24) = a from by rw [Hx0.out, Hx1.out, Hx2.out, Hxl.out])
   refine start_ (n := 11) (S := fun w' => w'.cell? ⟨p, 3, none⟩ = some (.pointer (some ⟨q, 0, none⟩)) ∧ w'.cell? ⟨ga, 0, none⟩ = some (.int .i64 j) ∧ w'.cell? ⟨ga, 1, none⟩ = some (.int .i64 x1) ∧ w'.cell? ⟨ga, 2, none⟩ = some (.int .i64 x2) ∧ w'.cell? ⟨ga, 3, none⟩ = some (.slice A xl.length ca)) (ds := [5]) #[false, false, false, false, false, false, false, false, false, false, false] (by kernel_rfl) rfl rfl ⟨cb, p0, p1, p2, p3⟩ (fun hHeld => ?_)
   generalize w3.drew = wd at S4 HX4 HC4 cb p0 p1 p2 p3 hHeld ⊢
   refine pure_ (i := 0) (N := some 59) (v := ?_) (a' := ?_) #[true, false, false, false, false, false, false, false, false, false, false] rfl rfl (by kernel_rfl) (fun _ _ _ h => h) (Or.inl ⟨by rfl, ?_⟩) ?_ ?_
   rotate_left
   · intro w'
     go_simp
     with_reducible rfl
   rotate_left
   · simp only [Act.put, List.setIfInBounds_toArray, List.set_cons_zero, List.set_cons_succ, i64_w, i32_w]
     rfl
   refine pure_ (i := 1) (N := some 60) (v := ?_) (a' := ?_) #[true, true, false, false, false, false, false, false, false, false, false] rfl rfl (by kernel_rfl) (fun _ _ _ h => h) (Or.inl ⟨by rfl, ?_⟩) ?_ ?_
   rotate_left
   · intro w'
     go_simp
     with_reducible rfl
   rotate_left
   · simp only [Act.put, List.setIfInBounds_toArray, List.set_cons_zero, List.set_cons_succ, i64_w, i32_w]
     rfl
   refine pure_ (i := 2) (N := some 61) (v := ?_) (a' := ?_) #[true, true, true, false, false, false, false, false, false, false, false] rfl rfl (by kernel_rfl) (fun _ _ _ h => h) (Or.inl ⟨by rfl, ?_⟩) ?_ ?_
   rotate_left
   · intro w'
     go_simp
     with_reducible rfl
   rotate_left
   · simp only [Act.put, List.setIfInBounds_toArray, List.set_cons_zero, List.set_cons_succ, i64_w, i32_w]
     rfl
   refine take_ (i := 3) (N := some 62) (v := ?_) (a' := ?_) #[true, true, true, true, false, false, false, false, false, false, false] rfl rfl (by kernel_rfl) (fun _ _ _ h => h) (Or.inl ⟨by rfl, ?_⟩) hHeld ?_ ?_
   rotate_left
   · rintro w' ⟨s0, s1, s2, s3, s4⟩
     go_simp
     with_reducible rfl
   rotate_left
   · simp only [Act.put, List.setIfInBounds_toArray, List.set_cons_zero, List.set_cons_succ, i64_w, i32_w]
     rfl
   refine take_ (i := 4) (N := some 63) (v := ?_) (a' := ?_) #[true, true, true, true, true, false, false, false, false, false, false] rfl rfl (by kernel_rfl) (fun _ _ _ h => h) (Or.inl ⟨by rfl, ?_⟩) hHeld ?_ ?_
   rotate_left
   · rintro w' ⟨s0, s1, s2, s3, s4⟩
     go_simp
     with_reducible rfl
   rotate_left
   · simp only [Act.put, List.setIfInBounds_toArray, List.set_cons_zero, List.set_cons_succ, i64_w, i32_w]
     rfl
   refine last_ (i := 5) (N := some 64) #[true, true, true, true, true, true, false, false, false, false, false] rfl rfl (by kernel_rfl) (by decide) (fun K hK => ?_)
   refine goes_ Try.func50 (by kernel_rfl) rfl #[.pointer (some ⟨q, 0, none⟩), .agg #[.int .i64 j, .int .i64 x1, .int .i64 x2, .slice A xl.length ca]] (by rfl) rfl rfl (by simp only [List.map_toArray, List.map_cons, List.map_nil]; rfl) ?_
   with_reducible refine (Put_val (⟨j, x1, x2, xl⟩ : S24) A ca q r.db wd w0 HOK.out.db (by rw [HAE.out]; exact HVAL.out) HCA.out HC4 (Lib.hid S4.D) (Lib.hid S4.B) HQ0.out).mono ?_
   rintro e w5 ⟨rfl, hD5, hB5, hK5⟩
   refine ⟨_, rfl, ?_⟩
   refine hK.out _ _ ?_
   clear hK K
   refine norm_ (a' := ?_) ?_ ?_
   rotate_left
   · show Act.put _ (some 64) _ = _
     simp only [Act.put, List.setIfInBounds_toArray, List.set_cons_zero, List.set_cons_succ, i64_w, i32_w]
     rfl
   refine pure_ (i := 6) (N := some 58) (v := ?_) (a' := ?_) #[true, true, true, true, true, true, true, false, false, false, false] rfl rfl (by kernel_rfl) (fun _ _ _ h => h) (Or.inl ⟨by rfl, ?_⟩) ?_ ?_
   rotate_left
   · intro w'
     go_simp
     with_reducible rfl
   rotate_left
   · simp only [Act.put, List.setIfInBounds_toArray, List.set_cons_zero, List.set_cons_succ, i64_w, i32_w]
     rfl
   refine pure_ (i := 7) (N := some 65) (v := ?_) (a' := ?_) #[true, true, true, true, true, true, true, true, false, false, false] rfl rfl (by kernel_rfl) (fun _ _ _ h => h) (Or.inl ⟨by rfl, ?_⟩) ?_ ?_
   rotate_left
   · intro w'
     go_simp
     with_reducible rfl
   rotate_left
   · simp only [Act.put, List.setIfInBounds_toArray, List.set_cons_zero, List.set_cons_succ, i64_w, i32_w]
     rfl
   refine pure_ (i := 8) (N := some 66) (v := ?_) (a' := ?_) #[true, true, true, true, true, true, true, true, true, false, false] rfl rfl (by kernel_rfl) (fun _ _ _ h => h) (Or.inl ⟨by rfl, ?_⟩) ?_ ?_
   rotate_left
   · intro w'
     go_simp
     with_reducible rfl
   rotate_left
   · simp only [Act.put, List.setIfInBounds_toArray, List.set_cons_zero, List.set_cons_succ, i64_w, i32_w]
     rfl
   refine pure_ (i := 9) (N := some 11) (v := ?_) (a' := ?_) #[true, true, true, true, true, true, true, true, true, true, false] rfl rfl (by kernel_rfl) (fun _ _ _ h => h) (Or.inl ⟨by rfl, ?_⟩) ?_ ?_
   rotate_left
   · intro w'
     go_simp
     with_reducible rfl
   rotate_left
   · simp only [Act.put, List.setIfInBounds_toArray, List.set_cons_zero, List.set_cons_succ, i64_w, i32_w]
     rfl
   refine pure_ (i := 10) (N := some 12) (v := ?_) (a' := ?_) #[true, true, true, true, true, true, true, true, true, true, true] rfl rfl (by kernel_rfl) (fun _ _ _ h => h) (Or.inl ⟨by rfl, ?_⟩) ?_ ?_
   rotate_left
   · intro w'
     go_simp
     with_reducible rfl
   rotate_left
   · simp only [Act.put, List.setIfInBounds_toArray, List.set_cons_zero, List.set_cons_succ, i64_w, i32_w]
     rfl
   refine done_ (by kernel_rfl) ?_
   obtain ⟨n, Hn0⟩ : ∃ n, Hid (n = putN r.db (⟨(j : Int), x1, x2, xl⟩ : S24)) := ⟨_, Lib.hid rfl⟩
   rw [← Hn0.out]
   rw [HAE.out] at hD5
   have Hn : Hid (n = putN r.db a) := Lib.hid (by rw [Hn0.out, HAE.out])
   have S5 := S4.keepQ hD5 hK5 hB5 HQ.out
   have HX5 : Hid (w5.heap[ga]? = some (.cells #[.int .i64 j, .int .i64 x1, .int .i64 x2, .slice A xl.length ca] 24 (0, 0))) := Lib.hid ((hK5.2 ga (blk_lt HX4.out) (by obtain ⟨cs, hq', _⟩ := S4.D; exact (blk_ne HX4.out hq' (by decide))) (by simp)).trans HX4.out)
   clear hD5 hB5 hK5 p0 p1 p2 p3 pf hgl cb hpl
   obtain ⟨r1, Hr1⟩ : ∃ r1, Hid (r1 = r.sDb (put r.db a)) := ⟨_, Lib.hid rfl⟩
   rw [← Hr1.out] at S5
   have HPT : Hid (r1.port = r.port) := Lib.hid (by rw [Hr1.out]; rfl)
   rcases (by omega : 0 < n ∨ n < 0 ∨ n = 0) with hn | hn | hn
   · have HTK2 : Hid (takeP r ks i a = (floodTo (r1.sP i ((r1.port i).off j)) j i 8, ks ++ [⟨a.f0, a.f1⟩])) := Lib.hid (by
      unfold takeP
      rw [if_neg HTK.out, if_pos (by rw [← Hn.out]; exact hn), HAJ.out, HPT.out, ← Hr1.out])
     go_upto_region 13 with (fail)
     have hbd := below_drew (Below.refl w5.heap.size w5)
     have S6 := S5.below hbd
     have HX6 := Lib.hid (blk_keep hbd HX5.out)
     clear hbd
     have hpl : p < w5.drew.heap.size := S6.C.lt
     obtain ⟨p0, _, _, _, pf⟩ := blk_cells4 HX6.out
     have hgl := blk_lt HX6.out
     have hpf := S6.C.free
     have wt := (S6.C.waits hi hjn).1
     have sd := ((S6.C.setWait hi hjn 0).waits hi hjn).2
     have q0 := blk_cell (((KeepBut.refl w5.drew p none).set_ (4 + i * 36 + 3 + j) (.int .i64 0)).blk HX6.out (by obtain ⟨cs, hp', _⟩ := S6.C; exact blk_ne HX6.out hp' (by decide)) (by simp)) 0
     refine start_ (n := 14) (S := fun w' => w'.cell? ⟨ga, 0, none⟩ = some (.int .i64 j)) (ds := [13]) #[false, false, false, false, false, false, false, false, false, false, false, false, false, false] (by kernel_rfl) rfl rfl (p0) (fun hHeld => ?_)
     generalize w5.drew = wd at S6 HX6 hpl p0 pf hgl hpf wt sd q0 hHeld ⊢
     refine pure_ (i := 0) (N := some 96) (v := ?_) (a' := ?_) #[true, false, false, false, false, false, false, false, false, false, false, false, false, false] rfl rfl (by kernel_rfl) (fun _ _ _ h => h) (Or.inl ⟨by rfl, ?_⟩) ?_ ?_
     rotate_left
     · intro w'
       go_simp
       with_reducible rfl
     rotate_left
     · simp only [Act.put, List.setIfInBounds_toArray, List.set_cons_zero, List.set_cons_succ, i64_w, i32_w]
       rfl
     refine pure_ (i := 1) (N := some 97) (v := ?_) (a' := ?_) #[true, true, false, false, false, false, false, false, false, false, false, false, false, false] rfl rfl (by kernel_rfl) (fun _ _ _ h => h) (Or.inl ⟨by rfl, ?_⟩) ?_ ?_
     rotate_left
     · intro w'
       go_simp
       with_reducible rfl
     rotate_left
     · simp only [Act.put, List.setIfInBounds_toArray, List.set_cons_zero, List.set_cons_succ, i64_w, i32_w]
       rfl
     refine pure_ (i := 3) (N := some 99) (v := ?_) (a' := ?_) #[true, true, false, true, false, false, false, false, false, false, false, false, false, false] rfl rfl (by kernel_rfl) (fun _ _ _ h => h) (Or.inl ⟨by rfl, ?_⟩) ?_ ?_
     rotate_left
     · intro w'
       go_simp
       with_reducible rfl
     rotate_left
     · simp only [Act.put, List.setIfInBounds_toArray, List.set_cons_zero, List.set_cons_succ, i64_w, i32_w]
       rfl
     refine pure_ (i := 4) (N := some 100) (v := ?_) (a' := ?_) #[true, true, false, true, true, false, false, false, false, false, false, false, false, false] rfl rfl (by kernel_rfl) (fun _ _ _ h => h) (Or.inl ⟨by rfl, ?_⟩) ?_ ?_
     rotate_left
     · intro w'
       go_simp
       with_reducible rfl
     rotate_left
     · simp only [Act.put, List.setIfInBounds_toArray, List.set_cons_zero, List.set_cons_succ, i64_w, i32_w]
       rfl
     refine pure_ (i := 6) (N := some 102) (v := ?_) (a' := ?_) #[true, true, false, true, true, false, true, false, false, false, false, false, false, false] rfl rfl (by kernel_rfl) (fun _ _ _ h => h) (Or.inl ⟨by rfl, ?_⟩) ?_ ?_
     rotate_left
     · intro w'
       go_simp
       with_reducible rfl
     rotate_left
     · simp only [Act.put, List.setIfInBounds_toArray, List.set_cons_zero, List.set_cons_succ, i64_w, i32_w]
       rfl
     refine pure_ (i := 7) (N := some 103) (v := ?_) (a' := ?_) #[true, true, false, true, true, false, true, true, false, false, false, false, false, false] rfl rfl (by kernel_rfl) (fun _ _ _ h => h) (Or.inl ⟨by rfl, ?_⟩) ?_ ?_
     rotate_left
     · intro w'
       go_simp
       with_reducible rfl
     rotate_left
     · simp only [Act.put, List.setIfInBounds_toArray, List.set_cons_zero, List.set_cons_succ, i64_w, i32_w]
       rfl
     refine pure_ (i := 10) (N := some 105) (v := ?_) (a' := ?_) #[true, true, false, true, true, false, true, true, false, false, true, false, false, false] rfl rfl (by kernel_rfl) (fun _ _ _ h => h) (Or.inl ⟨by rfl, ?_⟩) ?_ ?_
     rotate_left
     · intro w'
       go_simp
       with_reducible rfl
     rotate_left
     · simp only [Act.put, List.setIfInBounds_toArray, List.set_cons_zero, List.set_cons_succ, i64_w, i32_w]
       rfl
     refine pure_ (i := 11) (N := some 106) (v := ?_) (a' := ?_) #[true, true, false, true, true, false, true, true, false, false, true, true, false, false] rfl rfl (by kernel_rfl) (fun _ _ _ h => h) (Or.inl ⟨by rfl, ?_⟩) ?_ ?_
     rotate_left
     · intro w'
       go_simp
       with_reducible rfl
     rotate_left
     · simp only [Act.put, List.setIfInBounds_toArray, List.set_cons_zero, List.set_cons_succ, i64_w, i32_w]
       rfl
     refine take_ (i := 2) (N := some 98) (v := ?_) (a' := ?_) #[true, true, true, true, true, false, true, true, false, false, true, true, false, false] rfl rfl (by kernel_rfl) (fun _ _ _ h => h) (Or.inl ⟨by rfl, ?_⟩) hHeld ?_ ?_
     rotate_left
     · intro w' s0
       go_simp
       with_reducible rfl
     rotate_left
     · simp only [Act.put, List.setIfInBounds_toArray, List.set_cons_zero, List.set_cons_succ, i64_w, i32_w]
       rfl
     refine pure_ (i := 8) (N := some 104) (v := ?_) (a' := ?_) #[true, true, true, true, true, false, true, true, true, false, true, true, false, false] rfl rfl (by kernel_rfl) (fun _ _ _ h => h) (Or.inl ⟨by rfl, ?_⟩) ?_ ?_
     rotate_left
     · intro w'
       go_simp
       with_reducible rfl
     rotate_left
     · simp only [Act.put, List.setIfInBounds_toArray, List.set_cons_zero, List.set_cons_succ, i64_w, i32_w]
       rfl
     refine take_ (i := 5) (N := some 101) (v := ?_) (a' := ?_) #[true, true, true, true, true, true, true, true, true, false, true, true, false, false] rfl rfl (by kernel_rfl) (fun _ _ _ h => h) (Or.inl ⟨by rfl, ?_⟩) hHeld ?_ ?_
     rotate_left
     · intro w' s0
       go_simp
       with_reducible rfl
     rotate_left
     · simp only [Act.put, List.setIfInBounds_toArray, List.set_cons_zero, List.set_cons_succ, i64_w, i32_w]
       rfl
     refine one_ (i := 9) (N := none) #[true, true, true, true, true, true, true, true, true, true, true, true, false, false] rfl rfl (by kernel_rfl) (by decide) (fun K hK => ?_)
     refine skip_ (w1 := ?_) (by rfl) rfl ?_ ?_
     rotate_left
     · go_simp
       rfl
     refine hK.out _ _ (q0) (fun hHeld => ?_)
     clear hK K
     refine pure_ (i := 12) (N := some 107) (v := ?_) (a' := ?_) #[true, true, true, true, true, true, true, true, true, true, true, true, true, false] rfl rfl (by kernel_rfl) (fun _ _ _ h => h) (Or.inl ⟨by rfl, ?_⟩) ?_ ?_
     rotate_left
     · intro w'
       go_simp
       with_reducible rfl
     rotate_left
     · simp only [Act.put, List.setIfInBounds_toArray, List.set_cons_zero, List.set_cons_succ, i64_w, i32_w]
       rfl
     refine last_ (i := 13) (N := none) #[true, true, true, true, true, true, true, true, true, true, true, true, true, true] rfl rfl (by kernel_rfl) (by decide) (fun K hK => ?_)
     refine skip_ (w1 := ?_) (by rfl) rfl ?_ ?_
     rotate_left
     · go_simp
       rfl
     refine hK.out _ _ ?_
     clear hK K
     refine done_ (by kernel_rfl) ?_
     have hC7 := (S6.C.setWait hi hjn 0).setSend hi hjn false
     rw [Rt.sP_at, Rt.sP_sP] at hC7
     have S7 := S6.keepP hC7 rfl (((KeepBut.refl wd p none).set_ (4 + i * 36 + 3 + j) (.int .i64 0)).set_ (4 + i * 36 + 19 + j) (.bool false)) ((S6.B.setCell (p := ⟨p, 4 + i * 36 + 3 + j, none⟩) HP0.out (.int .i64 0)).setCell (p := ⟨p, 4 + i * 36 + 19 + j, none⟩) HP0.out (.bool false)) HP.out
     have HX7 := Lib.hid ((((KeepBut.refl wd p none).set_ (4 + i * 36 + 3 + j) (.int .i64 0)).set_ (4 + i * 36 + 19 + j) (.bool false)).blk HX6.out (by obtain ⟨cs, hp', _⟩ := S6.C; exact blk_ne HX6.out hp' (by decide)) (by simp))
     clear hC7 hpl p0 pf hgl hpf wt sd q0
     generalize (wd.setCell ⟨p, 4 + i * 36 + 3 + j, none⟩ (.int .i64 0)).setCell ⟨p, 4 + i * 36 + 19 + j, none⟩ (.bool false) = w7 at S7 HX7 ⊢
     obtain ⟨r7, Hr7⟩ : ∃ r7, Hid (r7 = r1.sP i ((r1.port i).off j)) := ⟨_, Lib.hid rfl⟩
     have S7 : TS w0 ws w7 p q i r7 (.slice Av ks.length cv) ks := by rw [Hr7.out]; exact S7
     have hpl := S7.C.lt
     have hn7 : 0 ≤ r7.now ∧ r7.now ≤ 1000000000 := by rw [Hr7.out, Hr1.out]; exact HOK.out.now
     obtain ⟨p0, p1, p2, p3, pf⟩ := blk_cells4 HX7.out
     have hgl := blk_lt HX7.out
     go_wp2_with fail
     refine (flood75 p q r7 (upd noAck i (.slice Av ks.length cv)) j i w7 w0 hjn hn7 (vone_upd i Av ks.length cv) (Lib.hid S7.C) (Lib.hid S7.B) HP0.out).mono ?_
     rintro e w8 ⟨rfl, hC8, hK8, hB8⟩
     have S8 := S7.keepP hC8 rfl hK8 hB8 HP.out
     have HX8 := Lib.hid (hK8.blk HX7.out (by obtain ⟨cs, hp', _⟩ := S7.C; exact blk_ne HX7.out hp' (by decide)) (by simp))
     clear hC8 hK8 hB8 p0 p1 p2 p3 pf hgl hpl
     go_upto_region 15 with (fail)
     have hbd := below_drew (Below.refl w8.heap.size w8)
     have S9 := S8.below hbd
     have HX9 := Lib.hid (blk_keep hbd HX8.out)
     clear hbd
     have hpl : p < w8.drew.heap.size := S9.C.lt
     obtain ⟨p0, p1, _, _, pf⟩ := blk_cells4 HX9.out
     have hgl := blk_lt HX9.out
     have pa : w8.drew.cell? ⟨p, 4 + i * 36 + 35, none⟩ = some (.slice Av ks.length cv) := by have := (S9.C.head hi).2.2.2; rwa [upd_self] at this
     refine start_ (n := 15) (S := fun w' => w'.cell? ⟨p, 4 + i * 36 + 35, none⟩ = some (.slice Av ks.length cv) ∧ w'.cell? ⟨ga, 0, none⟩ = some (.int .i64 j) ∧ w'.cell? ⟨ga, 1, none⟩ = some (.int .i64 x1)) (ds := [14]) #[false, false, false, false, false, false, false, false, false, false, false, false, false, false, false] (by kernel_rfl) rfl rfl ⟨pa, p0, p1⟩ (fun hHeld => ?_)
     generalize w8.drew = wd at S9 HX9 hpl p0 p1 pf hgl pa hHeld ⊢
     refine pure_ (i := 0) (N := some 113) (v := ?_) (a' := ?_) #[true, false, false, false, false, false, false, false, false, false, false, false, false, false, false] rfl rfl (by kernel_rfl) (fun _ _ _ h => h) (Or.inl ⟨by rfl, ?_⟩) ?_ ?_
     rotate_left
     · intro w'
       go_simp
       with_reducible rfl
     rotate_left
     · simp only [Act.put, List.setIfInBounds_toArray, List.set_cons_zero, List.set_cons_succ, i64_w, i32_w]
       rfl
     refine pure_ (i := 1) (N := some 114) (v := ?_) (a' := ?_) #[true, true, false, false, false, false, false, false, false, false, false, false, false, false, false] rfl rfl (by kernel_rfl) (fun _ _ _ h => h) (Or.inl ⟨by rfl, ?_⟩) ?_ ?_
     rotate_left
     · intro w'
       go_simp
       with_reducible rfl
     rotate_left
     · simp only [Act.put, List.setIfInBounds_toArray, List.set_cons_zero, List.set_cons_succ, i64_w, i32_w]
       rfl
     refine pure_ (i := 2) (N := some 115) (v := ?_) (a' := ?_) #[true, true, true, false, false, false, false, false, false, false, false, false, false, false, false] rfl rfl (by kernel_rfl) (fun _ _ _ h => h) (Or.inl ⟨by rfl, ?_⟩) ?_ ?_
     rotate_left
     · intro w'
       go_simp
       with_reducible rfl
     rotate_left
     · simp only [Act.put, List.setIfInBounds_toArray, List.set_cons_zero, List.set_cons_succ, i64_w, i32_w]
       rfl
     refine pure_ (i := 3) (N := some 116) (v := ?_) (a' := ?_) #[true, true, true, true, false, false, false, false, false, false, false, false, false, false, false] rfl rfl (by kernel_rfl) (fun _ _ _ h => h) (Or.inl ⟨by rfl, ?_⟩) ?_ ?_
     rotate_left
     · intro w'
       go_simp
       with_reducible rfl
     rotate_left
     · simp only [Act.put, List.setIfInBounds_toArray, List.set_cons_zero, List.set_cons_succ, i64_w, i32_w]
       rfl
     refine pure_ (i := 5) (N := some 118) (v := ?_) (a' := ?_) #[true, true, true, true, false, true, false, false, false, false, false, false, false, false, false] rfl rfl (by kernel_rfl) (fun _ _ _ h => h) (Or.inl ⟨by rfl, ?_⟩) ?_ ?_
     rotate_left
     · intro w'
       go_simp
       with_reducible rfl
     rotate_left
     · simp only [Act.put, List.setIfInBounds_toArray, List.set_cons_zero, List.set_cons_succ, i64_w, i32_w]
       rfl
     refine pure_ (i := 7) (N := some 120) (v := ?_) (a' := ?_) #[true, true, true, true, false, true, false, true, false, false, false, false, false, false, false] rfl rfl (by kernel_rfl) (fun _ _ _ h => h) (Or.inl ⟨by rfl, ?_⟩) ?_ ?_
     rotate_left
     · intro w'
       go_simp
       with_reducible rfl
     rotate_left
     · simp only [Act.put, List.setIfInBounds_toArray, List.set_cons_zero, List.set_cons_succ, i64_w, i32_w]
       rfl
     refine take_ (i := 4) (N := some 117) (v := ?_) (a' := ?_) #[true, true, true, true, true, true, false, true, false, false, false, false, false, false, false] rfl rfl (by kernel_rfl) (fun _ _ _ h => h) (Or.inl ⟨by rfl, ?_⟩) hHeld ?_ ?_
     rotate_left
     · rintro w' ⟨s0, s1, s2⟩
       go_simp
       with_reducible rfl
     rotate_left
     · simp only [Act.put, List.setIfInBounds_toArray, List.set_cons_zero, List.set_cons_succ, i64_w, i32_w]
       rfl
     refine take_ (i := 6) (N := some 119) (v := ?_) (a' := ?_) #[true, true, true, true, true, true, true, true, false, false, false, false, false, false, false] rfl rfl (by kernel_rfl) (fun _ _ _ h => h) (Or.inl ⟨by rfl, ?_⟩) hHeld ?_ ?_
     rotate_left
     · rintro w' ⟨s0, s1, s2⟩
       go_simp
       with_reducible rfl
     rotate_left
     · simp only [Act.put, List.setIfInBounds_toArray, List.set_cons_zero, List.set_cons_succ, i64_w, i32_w]
       rfl
     refine take_ (i := 8) (N := some 121) (v := ?_) (a' := ?_) #[true, true, true, true, true, true, true, true, true, false, false, false, false, false, false] rfl rfl (by kernel_rfl) (fun _ _ _ h => h) (Or.inl ⟨by rfl, ?_⟩) hHeld ?_ ?_
     rotate_left
     · rintro w' ⟨s0, s1, s2⟩
       go_simp
       with_reducible rfl
     rotate_left
     · simp only [Act.put, List.setIfInBounds_toArray, List.set_cons_zero, List.set_cons_succ, i64_w, i32_w]
       rfl
     refine pure_ (i := 9) (N := some 122) (v := ?_) (a' := ?_) #[true, true, true, true, true, true, true, true, true, true, false, false, false, false, false] rfl rfl (by kernel_rfl) (fun _ _ _ h => h) (Or.inl ⟨by rfl, ?_⟩) ?_ ?_
     rotate_left
     · intro w'
       go_simp
       with_reducible rfl
     rotate_left
     · simp only [Act.put, List.setIfInBounds_toArray, List.set_cons_zero, List.set_cons_succ, i64_w, i32_w]
       rfl
     refine one_ (i := 10) (N := some 123) #[true, true, true, true, true, true, true, true, true, true, true, false, false, false, false] rfl rfl (by kernel_rfl) (by decide) (fun K hK => ?_)
     refine value_ (w1 := ?_) (v := ?_) (by rfl) rfl ?_ ?_
     rotate_left 2
     · go_simp
       constructor
       · rfl
       · rfl
     have hbx := below_alloc (Below.refl wd.heap.size wd) (.cells #[.int .i64 j, .int .i64 x1] 129)
     have qa := pw_cell_below hbx pa
     have q0 := pw_cell_below hbx p0
     have q1 := pw_cell_below hbx p1
     clear hbx
     refine hK.out _ _ ⟨qa, q0, q1⟩ (fun hHeld => ?_)
     clear hK K
     refine norm_ (a' := ?_) ?_ ?_
     rotate_left
     · show Act.put _ (some 123) _ = _
       simp only [Act.put, List.setIfInBounds_toArray, List.set_cons_zero, List.set_cons_succ, i64_w, i32_w]
       rfl
     refine one_ (i := 11) (N := some 124) #[true, true, true, true, true, true, true, true, true, true, true, true, false, false, false] rfl rfl (by kernel_rfl) (by decide) (fun K hK => ?_)
     refine Kd.R_append_step k129 (w0 := wd) ws.heap.size (by rfl) (.tmp 117) (.tmp 123) 101 129 (.agg #[.int .i64 0, .int .i64 0]) 16 rfl Try.underlying101 info129 rfl (by decide) (by omega) (.slice Av ks.length cv) (ks) ((⟨j, x1⟩ : S129)) [.int .i64 j, .int .i64 x1] ((fun b => ws.heap.size ≤ b)) (fun _ => False) rfl rfl ?aP (fun _ hk => hk.elim) ?aF ?aO ?aB ?aS ?aL ?_
     (case aP => exact k129_mkM _ _ _ _)
     (case aF => exact fun b hb => Nat.le_trans S9.K.1 hb)
     (case aO => exact S9.R)
     (case aB => exact (Below.refl wd.heap.size wd).mono S9.K.1)
     (case aS => exact S9.K.1)
     (case aL => omega)
     intro v10 w10 ho hb hg hat
     obtain ⟨ks2, Hk2⟩ : ∃ l, Hid (l = ks ++ [(⟨j, x1⟩ : S129)]) := ⟨_, Lib.hid rfl⟩
     rw [← Hk2.out] at ho
     obtain ⟨A10, c10, rfl, hle10, _⟩ := Kd.R_reads ho
     have HR10 := Lib.hid ho
     have S10 := S9.grown129 hg HPP.out
     have HX10 := Lib.hid (blk_grown S9.R hg HX9.out (by decide))
     clear ho hb hg hat hle10
     have hpl10 := S10.C.lt
     have hpf10 := S10.C.free
     have ta : w10.cell? ⟨p, 4 + i * 36 + 35, none⟩ = some (.slice Av ks.length cv) := by have := (S10.C.head hi).2.2.2; rwa [upd_self] at this
     have t0 := blk_cell HX10.out 0
     have t1 := blk_cell HX10.out 1
     refine hK.out _ _ ⟨ta, t0, t1⟩ (fun hHeld => ?_)
     clear hK K
     refine norm_ (a' := ?_) ?_ ?_
     rotate_left
     · show Act.put _ (some 124) _ = _
       simp only [Act.put, List.setIfInBounds_toArray, List.set_cons_zero, List.set_cons_succ, i64_w, i32_w]
       rfl
     refine pure_ (i := 12) (N := some 125) (v := ?_) (a' := ?_) #[true, true, true, true, true, true, true, true, true, true, true, true, true, false, false] rfl rfl (by kernel_rfl) (fun _ _ _ h => h) (Or.inl ⟨by rfl, ?_⟩) ?_ ?_
     rotate_left
     · intro w'
       go_simp
       with_reducible rfl
     rotate_left
     · simp only [Act.put, List.setIfInBounds_toArray, List.set_cons_zero, List.set_cons_succ, i64_w, i32_w]
       rfl
     refine pure_ (i := 13) (N := some 126) (v := ?_) (a' := ?_) #[true, true, true, true, true, true, true, true, true, true, true, true, true, true, false] rfl rfl (by kernel_rfl) (fun _ _ _ h => h) (Or.inl ⟨by rfl, ?_⟩) ?_ ?_
     rotate_left
     · intro w'
       go_simp
       with_reducible rfl
     rotate_left
     · simp only [Act.put, List.setIfInBounds_toArray, List.set_cons_zero, List.set_cons_succ, i64_w, i32_w]
       rfl
     refine last_ (i := 14) (N := none) #[true, true, true, true, true, true, true, true, true, true, true, true, true, true, true] rfl rfl (by kernel_rfl) (by decide) (fun K hK => ?_)
     refine skip_ (w1 := ?_) (by rfl) rfl ?_ ?_
     rotate_left
     · go_simp
       rfl
     refine hK.out _ _ ?_
     clear hK K
     refine done_ (by kernel_rfl) ?_
     have S12 := S10.acked hi HR10.out HP0.out HP.out
     clear S10 ta t0 t1 hpl10 hpf10 HX10
     go_wp2_with fail
     go_end0
     refine ⟨rfl, .slice A10 ks2.length c10, ?_⟩
     rw [HTK2.out, ← Hr7.out, ← Hx0.out, ← Hx1.out, ← Hk2.out]
     exact S12
   · have hnn : ¬ 0 < n := by omega
     have HTK2 : Hid (takeP r ks i a = (post r i j, ks)) := Lib.hid (by
      unfold takeP
      rw [if_neg HTK.out, if_neg (by rw [← Hn.out]; exact hnn), if_pos (by rw [← Hn.out]; exact hn), HAJ.out])
     have HSM : Hid (r1 = r) := Lib.hid (by rw [Hr1.out, put_stays HOK.out.db (by rw [← Hn.out]; omega)]; rfl)
     have hn5 : 0 ≤ r1.now ∧ r1.now ≤ 1000000000 := by rw [HSM.out]; exact HOK.out.now
     have hpl := S5.C.lt
     obtain ⟨p0, p1, p2, p3, pf⟩ := blk_cells4 HX5.out
     have hgl := blk_lt HX5.out
     go_wp2_with fail
     refine (post57 p q r1 (upd noAck i (.slice Av ks.length cv)) i j w5 w0 hi hjn hn5 (Lib.hid S5.C) (Lib.hid S5.B) HP0.out).mono ?_
     rintro e w8 ⟨rfl, hC8, hK8, hB8⟩
     have S8 := S5.keepP hC8 rfl hK8 hB8 HP.out
     clear hC8 hK8 hB8 p0 p1 p2 p3 pf hgl hpl
     go_wp2_with fail
     go_end0
     refine ⟨rfl, .slice Av ks.length cv, ?_⟩
     rw [HTK2.out]
     rw [HSM.out] at S8
     exact S8
   · subst hn
     have HSM : Hid (r1 = r) := Lib.hid (by rw [Hr1.out, put_stays HOK.out.db (by rw [← Hn.out]; omega)]; rfl)
     have hpl : p < w5.heap.size := S5.C.lt
     obtain ⟨p0, p1, p2, p3, pf⟩ := blk_cells4 HX5.out
     have hgl := blk_lt HX5.out
     have hpf := S5.C.free
     obtain ⟨ct, cs⟩ := S5.C.waits hi hjn
     rw [HPT.out] at ct cs
     obtain ⟨wt, Hwt⟩ : ∃ x, Hid (x = (r.port i).wait j) := ⟨_, Lib.hid rfl⟩
     obtain ⟨sd, Hsd⟩ : ∃ x, Hid (x = (r.port i).send j) := ⟨_, Lib.hid rfl⟩
     rw [← Hwt.out] at ct
     rw [← Hsd.out] at cs
     by_cases hw : 0 < wt ∧ sd = false
     · obtain ⟨hw1, rfl⟩ := hw
       have HTK2 : Hid (takeP r ks i a = (r.sP i ((r.port i).sWait j 0), ks)) := Lib.hid (by
        unfold takeP
        rw [if_neg HTK.out, if_neg (by rw [← Hn.out]; omega), if_neg (by rw [← Hn.out]; omega), HAJ.out, if_pos ⟨by rw [← Hwt.out]; exact hw1, Hsd.out.symm⟩])
       go_upto_region 18 with (fail)
       go_quiet (fail)
       have hdn := pw_below_drewN (Below.refl w5.heap.size w5) nq
       have S5b := S5.below hdn
       have HX5b := Lib.hid (blk_keep hdn HX5.out)
       clear hdn p0 p1 p2 p3 pf hgl hpl hpf ct cs
       generalize w5.drewN nq = w5b at S5b HX5b ⊢
       go_upto_region 19 with (fail)
       have hbd := below_drew (Below.refl w5b.heap.size w5b)
       have S6 := S5b.below hbd
       have HX6 := Lib.hid (blk_keep hbd HX5b.out)
       clear hbd
       have hpl : p < w5b.drew.heap.size := S6.C.lt
       obtain ⟨p0, _, _, _, pf⟩ := blk_cells4 HX6.out
       have hgl := blk_lt HX6.out
       have hpf := S6.C.free
       have ct := (S6.C.waits hi hjn).1
       refine start_ (n := 7) (S := fun w' => w'.cell? ⟨ga, 0, none⟩ = some (.int .i64 j)) (ds := [6]) #[false, false, false, false, false, false, false] (by kernel_rfl) rfl rfl (p0) (fun hHeld => ?_)
       generalize w5b.drew = wd at S6 HX6 hpl p0 pf hgl hpf ct hHeld ⊢
       refine pure_ (i := 0) (N := some 154) (v := ?_) (a' := ?_) #[true, false, false, false, false, false, false] rfl rfl (by kernel_rfl) (fun _ _ _ h => h) (Or.inl ⟨by rfl, ?_⟩) ?_ ?_
       rotate_left
       · intro w'
         go_simp
         with_reducible rfl
       rotate_left
       · simp only [Act.put, List.setIfInBounds_toArray, List.set_cons_zero, List.set_cons_succ, i64_w, i32_w]
         rfl
       refine pure_ (i := 1) (N := some 155) (v := ?_) (a' := ?_) #[true, true, false, false, false, false, false] rfl rfl (by kernel_rfl) (fun _ _ _ h => h) (Or.inl ⟨by rfl, ?_⟩) ?_ ?_
       rotate_left
       · intro w'
         go_simp
         with_reducible rfl
       rotate_left
       · simp only [Act.put, List.setIfInBounds_toArray, List.set_cons_zero, List.set_cons_succ, i64_w, i32_w]
         rfl
       refine pure_ (i := 3) (N := some 157) (v := ?_) (a' := ?_) #[true, true, false, true, false, false, false] rfl rfl (by kernel_rfl) (fun _ _ _ h => h) (Or.inl ⟨by rfl, ?_⟩) ?_ ?_
       rotate_left
       · intro w'
         go_simp
         with_reducible rfl
       rotate_left
       · simp only [Act.put, List.setIfInBounds_toArray, List.set_cons_zero, List.set_cons_succ, i64_w, i32_w]
         rfl
       refine pure_ (i := 4) (N := some 158) (v := ?_) (a' := ?_) #[true, true, false, true, true, false, false] rfl rfl (by kernel_rfl) (fun _ _ _ h => h) (Or.inl ⟨by rfl, ?_⟩) ?_ ?_
       rotate_left
       · intro w'
         go_simp
         with_reducible rfl
       rotate_left
       · simp only [Act.put, List.setIfInBounds_toArray, List.set_cons_zero, List.set_cons_succ, i64_w, i32_w]
         rfl
       refine take_ (i := 2) (N := some 156) (v := ?_) (a' := ?_) #[true, true, true, true, true, false, false] rfl rfl (by kernel_rfl) (fun _ _ _ h => h) (Or.inl ⟨by rfl, ?_⟩) hHeld ?_ ?_
       rotate_left
       · intro w' s0
         go_simp
         with_reducible rfl
       rotate_left
       · simp only [Act.put, List.setIfInBounds_toArray, List.set_cons_zero, List.set_cons_succ, i64_w, i32_w]
         rfl
       refine pure_ (i := 5) (N := some 159) (v := ?_) (a' := ?_) #[true, true, true, true, true, true, false] rfl rfl (by kernel_rfl) (fun _ _ _ h => h) (Or.inl ⟨by rfl, ?_⟩) ?_ ?_
       rotate_left
       · intro w'
         go_simp
         with_reducible rfl
       rotate_left
       · simp only [Act.put, List.setIfInBounds_toArray, List.set_cons_zero, List.set_cons_succ, i64_w, i32_w]
         rfl
       refine last_ (i := 6) (N := none) #[true, true, true, true, true, true, true] rfl rfl (by kernel_rfl) (by decide) (fun K hK => ?_)
       refine skip_ (w1 := ?_) (by rfl) rfl ?_ ?_
       rotate_left
       · go_simp
         rfl
       refine hK.out _ _ ?_
       clear hK K
       refine done_ (by kernel_rfl) ?_
       have hC7 := S6.C.setWait hi hjn 0
       have S7 := S6.keepP hC7 rfl ((KeepBut.refl wd p none).set_ (4 + i * 36 + 3 + j) (.int .i64 0)) (S6.B.setCell (p := ⟨p, 4 + i * 36 + 3 + j, none⟩) HP0.out (.int .i64 0)) HP.out
       go_wp2_with fail
       go_end0
       refine ⟨rfl, .slice Av ks.length cv, ?_⟩
       rw [HTK2.out, ← HSM.out]
       exact S7
     · have HTK2 : Hid (takeP r ks i a = (r1.sP i ((r1.port i).off j), ks ++ [⟨a.f0, a.f1⟩])) := Lib.hid (by
        unfold takeP
        rw [if_neg HTK.out, if_neg (by rw [← Hn.out]; omega), if_neg (by rw [← Hn.out]; omega), HAJ.out, if_neg (fun h => hw ⟨by rw [Hwt.out]; exact h.1, by rw [Hsd.out]; exact h.2⟩), HSM.out])
       by_cases hw1 : 0 < wt
       · obtain rfl : sd = true := by
          cases sd with
          | true => rfl
          | false => exact absurd ⟨hw1, rfl⟩ hw
         clear hw
         go_upto_region 18 with (fail)
         go_quiet (fail)
         have hdn := pw_below_drewN (Below.refl w5.heap.size w5) nq
         have S5b := S5.below hdn
         have HX5b := Lib.hid (blk_keep hdn HX5.out)
         clear hdn p0 p1 p2 p3 pf hgl hpl hpf ct cs
         generalize w5.drewN nq = w5b at S5b HX5b ⊢
         go_upto_region 10 with (fail)
         have hbd := below_drew (Below.refl w5b.heap.size w5b)
         have S6 := S5b.below hbd
         have HX6 := Lib.hid (blk_keep hbd HX5b.out)
         clear hbd
         have hpl : p < w5b.drew.heap.size := S6.C.lt
         obtain ⟨p0, _, _, _, pf⟩ := blk_cells4 HX6.out
         have hgl := blk_lt HX6.out
         have hpf := S6.C.free
         have wt := (S6.C.waits hi hjn).1
         have sd := ((S6.C.setWait hi hjn 0).waits hi hjn).2
         have q0 := blk_cell (((KeepBut.refl w5b.drew p none).set_ (4 + i * 36 + 3 + j) (.int .i64 0)).blk HX6.out (by obtain ⟨cs, hp', _⟩ := S6.C; exact blk_ne HX6.out hp' (by decide)) (by simp)) 0
         refine start_ (n := 14) (S := fun w' => w'.cell? ⟨ga, 0, none⟩ = some (.int .i64 j)) (ds := [13]) #[false, false, false, false, false, false, false, false, false, false, false, false, false, false] (by kernel_rfl) rfl rfl (p0) (fun hHeld => ?_)
         generalize w5b.drew = wd at S6 HX6 hpl p0 pf hgl hpf wt sd q0 hHeld ⊢
         refine pure_ (i := 0) (N := some 67) (v := ?_) (a' := ?_) #[true, false, false, false, false, false, false, false, false, false, false, false, false, false] rfl rfl (by kernel_rfl) (fun _ _ _ h => h) (Or.inl ⟨by rfl, ?_⟩) ?_ ?_
         rotate_left
         · intro w'
           go_simp
           with_reducible rfl
         rotate_left
         · simp only [Act.put, List.setIfInBounds_toArray, List.set_cons_zero, List.set_cons_succ, i64_w, i32_w]
           rfl
         refine pure_ (i := 1) (N := some 68) (v := ?_) (a' := ?_) #[true, true, false, false, false, false, false, false, false, false, false, false, false, false] rfl rfl (by kernel_rfl) (fun _ _ _ h => h) (Or.inl ⟨by rfl, ?_⟩) ?_ ?_
         rotate_left
         · intro w'
           go_simp
           with_reducible rfl
         rotate_left
         · simp only [Act.put, List.setIfInBounds_toArray, List.set_cons_zero, List.set_cons_succ, i64_w, i32_w]
           rfl
         refine pure_ (i := 3) (N := some 70) (v := ?_) (a' := ?_) #[true, true, false, true, false, false, false, false, false, false, false, false, false, false] rfl rfl (by kernel_rfl) (fun _ _ _ h => h) (Or.inl ⟨by rfl, ?_⟩) ?_ ?_
         rotate_left
         · intro w'
           go_simp
           with_reducible rfl
         rotate_left
         · simp only [Act.put, List.setIfInBounds_toArray, List.set_cons_zero, List.set_cons_succ, i64_w, i32_w]
           rfl
         refine pure_ (i := 4) (N := some 71) (v := ?_) (a' := ?_) #[true, true, false, true, true, false, false, false, false, false, false, false, false, false] rfl rfl (by kernel_rfl) (fun _ _ _ h => h) (Or.inl ⟨by rfl, ?_⟩) ?_ ?_
         rotate_left
         · intro w'
           go_simp
           with_reducible rfl
         rotate_left
         · simp only [Act.put, List.setIfInBounds_toArray, List.set_cons_zero, List.set_cons_succ, i64_w, i32_w]
           rfl
         refine pure_ (i := 6) (N := some 73) (v := ?_) (a' := ?_) #[true, true, false, true, true, false, true, false, false, false, false, false, false, false] rfl rfl (by kernel_rfl) (fun _ _ _ h => h) (Or.inl ⟨by rfl, ?_⟩) ?_ ?_
         rotate_left
         · intro w'
           go_simp
           with_reducible rfl
         rotate_left
         · simp only [Act.put, List.setIfInBounds_toArray, List.set_cons_zero, List.set_cons_succ, i64_w, i32_w]
           rfl
         refine pure_ (i := 7) (N := some 74) (v := ?_) (a' := ?_) #[true, true, false, true, true, false, true, true, false, false, false, false, false, false] rfl rfl (by kernel_rfl) (fun _ _ _ h => h) (Or.inl ⟨by rfl, ?_⟩) ?_ ?_
         rotate_left
         · intro w'
           go_simp
           with_reducible rfl
         rotate_left
         · simp only [Act.put, List.setIfInBounds_toArray, List.set_cons_zero, List.set_cons_succ, i64_w, i32_w]
           rfl
         refine pure_ (i := 10) (N := some 76) (v := ?_) (a' := ?_) #[true, true, false, true, true, false, true, true, false, false, true, false, false, false] rfl rfl (by kernel_rfl) (fun _ _ _ h => h) (Or.inl ⟨by rfl, ?_⟩) ?_ ?_
         rotate_left
         · intro w'
           go_simp
           with_reducible rfl
         rotate_left
         · simp only [Act.put, List.setIfInBounds_toArray, List.set_cons_zero, List.set_cons_succ, i64_w, i32_w]
           rfl
         refine pure_ (i := 11) (N := some 77) (v := ?_) (a' := ?_) #[true, true, false, true, true, false, true, true, false, false, true, true, false, false] rfl rfl (by kernel_rfl) (fun _ _ _ h => h) (Or.inl ⟨by rfl, ?_⟩) ?_ ?_
         rotate_left
         · intro w'
           go_simp
           with_reducible rfl
         rotate_left
         · simp only [Act.put, List.setIfInBounds_toArray, List.set_cons_zero, List.set_cons_succ, i64_w, i32_w]
           rfl
         refine take_ (i := 2) (N := some 69) (v := ?_) (a' := ?_) #[true, true, true, true, true, false, true, true, false, false, true, true, false, false] rfl rfl (by kernel_rfl) (fun _ _ _ h => h) (Or.inl ⟨by rfl, ?_⟩) hHeld ?_ ?_
         rotate_left
         · intro w' s0
           go_simp
           with_reducible rfl
         rotate_left
         · simp only [Act.put, List.setIfInBounds_toArray, List.set_cons_zero, List.set_cons_succ, i64_w, i32_w]
           rfl
         refine pure_ (i := 8) (N := some 75) (v := ?_) (a' := ?_) #[true, true, true, true, true, false, true, true, true, false, true, true, false, false] rfl rfl (by kernel_rfl) (fun _ _ _ h => h) (Or.inl ⟨by rfl, ?_⟩) ?_ ?_
         rotate_left
         · intro w'
           go_simp
           with_reducible rfl
         rotate_left
         · simp only [Act.put, List.setIfInBounds_toArray, List.set_cons_zero, List.set_cons_succ, i64_w, i32_w]
           rfl
         refine take_ (i := 5) (N := some 72) (v := ?_) (a' := ?_) #[true, true, true, true, true, true, true, true, true, false, true, true, false, false] rfl rfl (by kernel_rfl) (fun _ _ _ h => h) (Or.inl ⟨by rfl, ?_⟩) hHeld ?_ ?_
         rotate_left
         · intro w' s0
           go_simp
           with_reducible rfl
         rotate_left
         · simp only [Act.put, List.setIfInBounds_toArray, List.set_cons_zero, List.set_cons_succ, i64_w, i32_w]
           rfl
         refine one_ (i := 9) (N := none) #[true, true, true, true, true, true, true, true, true, true, true, true, false, false] rfl rfl (by kernel_rfl) (by decide) (fun K hK => ?_)
         refine skip_ (w1 := ?_) (by rfl) rfl ?_ ?_
         rotate_left
         · go_simp
           rfl
         refine hK.out _ _ (q0) (fun hHeld => ?_)
         clear hK K
         refine pure_ (i := 12) (N := some 78) (v := ?_) (a' := ?_) #[true, true, true, true, true, true, true, true, true, true, true, true, true, false] rfl rfl (by kernel_rfl) (fun _ _ _ h => h) (Or.inl ⟨by rfl, ?_⟩) ?_ ?_
         rotate_left
         · intro w'
           go_simp
           with_reducible rfl
         rotate_left
         · simp only [Act.put, List.setIfInBounds_toArray, List.set_cons_zero, List.set_cons_succ, i64_w, i32_w]
           rfl
         refine last_ (i := 13) (N := none) #[true, true, true, true, true, true, true, true, true, true, true, true, true, true] rfl rfl (by kernel_rfl) (by decide) (fun K hK => ?_)
         refine skip_ (w1 := ?_) (by rfl) rfl ?_ ?_
         rotate_left
         · go_simp
           rfl
         refine hK.out _ _ ?_
         clear hK K
         refine done_ (by kernel_rfl) ?_
         have hC7 := (S6.C.setWait hi hjn 0).setSend hi hjn false
         rw [Rt.sP_at, Rt.sP_sP] at hC7
         have S7 := S6.keepP hC7 rfl (((KeepBut.refl wd p none).set_ (4 + i * 36 + 3 + j) (.int .i64 0)).set_ (4 + i * 36 + 19 + j) (.bool false)) ((S6.B.setCell (p := ⟨p, 4 + i * 36 + 3 + j, none⟩) HP0.out (.int .i64 0)).setCell (p := ⟨p, 4 + i * 36 + 19 + j, none⟩) HP0.out (.bool false)) HP.out
         have HX7 := Lib.hid ((((KeepBut.refl wd p none).set_ (4 + i * 36 + 3 + j) (.int .i64 0)).set_ (4 + i * 36 + 19 + j) (.bool false)).blk HX6.out (by obtain ⟨cs, hp', _⟩ := S6.C; exact blk_ne HX6.out hp' (by decide)) (by simp))
         clear hC7 hpl p0 pf hgl hpf wt sd q0
         generalize (wd.setCell ⟨p, 4 + i * 36 + 3 + j, none⟩ (.int .i64 0)).setCell ⟨p, 4 + i * 36 + 19 + j, none⟩ (.bool false) = w7 at S7 HX7 ⊢
         obtain ⟨r7, Hr7⟩ : ∃ r7, Hid (r7 = r1.sP i ((r1.port i).off j)) := ⟨_, Lib.hid rfl⟩
         have S7 : TS w0 ws w7 p q i r7 (.slice Av ks.length cv) ks := by rw [Hr7.out]; exact S7
         have hpl := S7.C.lt
         go_upto_region 11 with (fail)
         have hbd := below_drew (Below.refl w7.heap.size w7)
         have S9 := S7.below hbd
         have HX9 := Lib.hid (blk_keep hbd HX7.out)
         clear hbd
         have hpl : p < w7.drew.heap.size := S9.C.lt
         obtain ⟨p0, p1, _, _, pf⟩ := blk_cells4 HX9.out
         have hgl := blk_lt HX9.out
         have pa : w7.drew.cell? ⟨p, 4 + i * 36 + 35, none⟩ = some (.slice Av ks.length cv) := by have := (S9.C.head hi).2.2.2; rwa [upd_self] at this
         refine start_ (n := 15) (S := fun w' => w'.cell? ⟨p, 4 + i * 36 + 35, none⟩ = some (.slice Av ks.length cv) ∧ w'.cell? ⟨ga, 0, none⟩ = some (.int .i64 j) ∧ w'.cell? ⟨ga, 1, none⟩ = some (.int .i64 x1)) (ds := [14]) #[false, false, false, false, false, false, false, false, false, false, false, false, false, false, false] (by kernel_rfl) rfl rfl ⟨pa, p0, p1⟩ (fun hHeld => ?_)
         generalize w7.drew = wd at S9 HX9 hpl p0 p1 pf hgl pa hHeld ⊢
         refine pure_ (i := 0) (N := some 79) (v := ?_) (a' := ?_) #[true, false, false, false, false, false, false, false, false, false, false, false, false, false, false] rfl rfl (by kernel_rfl) (fun _ _ _ h => h) (Or.inl ⟨by rfl, ?_⟩) ?_ ?_
         rotate_left
         · intro w'
           go_simp
           with_reducible rfl
         rotate_left
         · simp only [Act.put, List.setIfInBounds_toArray, List.set_cons_zero, List.set_cons_succ, i64_w, i32_w]
           rfl
         refine pure_ (i := 1) (N := some 80) (v := ?_) (a' := ?_) #[true, true, false, false, false, false, false, false, false, false, false, false, false, false, false] rfl rfl (by kernel_rfl) (fun _ _ _ h => h) (Or.inl ⟨by rfl, ?_⟩) ?_ ?_
         rotate_left
         · intro w'
           go_simp
           with_reducible rfl
         rotate_left
         · simp only [Act.put, List.setIfInBounds_toArray, List.set_cons_zero, List.set_cons_succ, i64_w, i32_w]
           rfl
         refine pure_ (i := 2) (N := some 81) (v := ?_) (a' := ?_) #[true, true, true, false, false, false, false, false, false, false, false, false, false, false, false] rfl rfl (by kernel_rfl) (fun _ _ _ h => h) (Or.inl ⟨by rfl, ?_⟩) ?_ ?_
         rotate_left
         · intro w'
           go_simp
           with_reducible rfl
         rotate_left
         · simp only [Act.put, List.setIfInBounds_toArray, List.set_cons_zero, List.set_cons_succ, i64_w, i32_w]
           rfl
         refine pure_ (i := 3) (N := some 82) (v := ?_) (a' := ?_) #[true, true, true, true, false, false, false, false, false, false, false, false, false, false, false] rfl rfl (by kernel_rfl) (fun _ _ _ h => h) (Or.inl ⟨by rfl, ?_⟩) ?_ ?_
         rotate_left
         · intro w'
           go_simp
           with_reducible rfl
         rotate_left
         · simp only [Act.put, List.setIfInBounds_toArray, List.set_cons_zero, List.set_cons_succ, i64_w, i32_w]
           rfl
         refine pure_ (i := 5) (N := some 84) (v := ?_) (a' := ?_) #[true, true, true, true, false, true, false, false, false, false, false, false, false, false, false] rfl rfl (by kernel_rfl) (fun _ _ _ h => h) (Or.inl ⟨by rfl, ?_⟩) ?_ ?_
         rotate_left
         · intro w'
           go_simp
           with_reducible rfl
         rotate_left
         · simp only [Act.put, List.setIfInBounds_toArray, List.set_cons_zero, List.set_cons_succ, i64_w, i32_w]
           rfl
         refine pure_ (i := 7) (N := some 86) (v := ?_) (a' := ?_) #[true, true, true, true, false, true, false, true, false, false, false, false, false, false, false] rfl rfl (by kernel_rfl) (fun _ _ _ h => h) (Or.inl ⟨by rfl, ?_⟩) ?_ ?_
         rotate_left
         · intro w'
           go_simp
           with_reducible rfl
         rotate_left
         · simp only [Act.put, List.setIfInBounds_toArray, List.set_cons_zero, List.set_cons_succ, i64_w, i32_w]
           rfl
         refine take_ (i := 4) (N := some 83) (v := ?_) (a' := ?_) #[true, true, true, true, true, true, false, true, false, false, false, false, false, false, false] rfl rfl (by kernel_rfl) (fun _ _ _ h => h) (Or.inl ⟨by rfl, ?_⟩) hHeld ?_ ?_
         rotate_left
         · rintro w' ⟨s0, s1, s2⟩
           go_simp
           with_reducible rfl
         rotate_left
         · simp only [Act.put, List.setIfInBounds_toArray, List.set_cons_zero, List.set_cons_succ, i64_w, i32_w]
           rfl
         refine take_ (i := 6) (N := some 85) (v := ?_) (a' := ?_) #[true, true, true, true, true, true, true, true, false, false, false, false, false, false, false] rfl rfl (by kernel_rfl) (fun _ _ _ h => h) (Or.inl ⟨by rfl, ?_⟩) hHeld ?_ ?_
         rotate_left
         · rintro w' ⟨s0, s1, s2⟩
           go_simp
           with_reducible rfl
         rotate_left
         · simp only [Act.put, List.setIfInBounds_toArray, List.set_cons_zero, List.set_cons_succ, i64_w, i32_w]
           rfl
         refine take_ (i := 8) (N := some 87) (v := ?_) (a' := ?_) #[true, true, true, true, true, true, true, true, true, false, false, false, false, false, false] rfl rfl (by kernel_rfl) (fun _ _ _ h => h) (Or.inl ⟨by rfl, ?_⟩) hHeld ?_ ?_
         rotate_left
         · rintro w' ⟨s0, s1, s2⟩
           go_simp
           with_reducible rfl
         rotate_left
         · simp only [Act.put, List.setIfInBounds_toArray, List.set_cons_zero, List.set_cons_succ, i64_w, i32_w]
           rfl
         refine pure_ (i := 9) (N := some 88) (v := ?_) (a' := ?_) #[true, true, true, true, true, true, true, true, true, true, false, false, false, false, false] rfl rfl (by kernel_rfl) (fun _ _ _ h => h) (Or.inl ⟨by rfl, ?_⟩) ?_ ?_
         rotate_left
         · intro w'
           go_simp
           with_reducible rfl
         rotate_left
         · simp only [Act.put, List.setIfInBounds_toArray, List.set_cons_zero, List.set_cons_succ, i64_w, i32_w]
           rfl
         refine one_ (i := 10) (N := some 89) #[true, true, true, true, true, true, true, true, true, true, true, false, false, false, false] rfl rfl (by kernel_rfl) (by decide) (fun K hK => ?_)
         refine value_ (w1 := ?_) (v := ?_) (by rfl) rfl ?_ ?_
         rotate_left 2
         · go_simp
           constructor
           · rfl
           · rfl
         have hbx := below_alloc (Below.refl wd.heap.size wd) (.cells #[.int .i64 j, .int .i64 x1] 129)
         have qa := pw_cell_below hbx pa
         have q0 := pw_cell_below hbx p0
         have q1 := pw_cell_below hbx p1
         clear hbx
         refine hK.out _ _ ⟨qa, q0, q1⟩ (fun hHeld => ?_)
         clear hK K
         refine norm_ (a' := ?_) ?_ ?_
         rotate_left
         · show Act.put _ (some 89) _ = _
           simp only [Act.put, List.setIfInBounds_toArray, List.set_cons_zero, List.set_cons_succ, i64_w, i32_w]
           rfl
         refine one_ (i := 11) (N := some 90) #[true, true, true, true, true, true, true, true, true, true, true, true, false, false, false] rfl rfl (by kernel_rfl) (by decide) (fun K hK => ?_)
         refine Kd.R_append_step k129 (w0 := wd) ws.heap.size (by rfl) (.tmp 83) (.tmp 89) 101 129 (.agg #[.int .i64 0, .int .i64 0]) 16 rfl Try.underlying101 info129 rfl (by decide) (by omega) (.slice Av ks.length cv) (ks) ((⟨j, x1⟩ : S129)) [.int .i64 j, .int .i64 x1] ((fun b => ws.heap.size ≤ b)) (fun _ => False) rfl rfl ?aP (fun _ hk => hk.elim) ?aF ?aO ?aB ?aS ?aL ?_
         (case aP => exact k129_mkM _ _ _ _)
         (case aF => exact fun b hb => Nat.le_trans S9.K.1 hb)
         (case aO => exact S9.R)
         (case aB => exact (Below.refl wd.heap.size wd).mono S9.K.1)
         (case aS => exact S9.K.1)
         (case aL => omega)
         intro v10 w10 ho hb hg hat
         obtain ⟨ks2, Hk2⟩ : ∃ l, Hid (l = ks ++ [(⟨j, x1⟩ : S129)]) := ⟨_, Lib.hid rfl⟩
         rw [← Hk2.out] at ho
         obtain ⟨A10, c10, rfl, hle10, _⟩ := Kd.R_reads ho
         have HR10 := Lib.hid ho
         have S10 := S9.grown129 hg HPP.out
         have HX10 := Lib.hid (blk_grown S9.R hg HX9.out (by decide))
         clear ho hb hg hat hle10
         have hpl10 := S10.C.lt
         have hpf10 := S10.C.free
         have ta : w10.cell? ⟨p, 4 + i * 36 + 35, none⟩ = some (.slice Av ks.length cv) := by have := (S10.C.head hi).2.2.2; rwa [upd_self] at this
         have t0 := blk_cell HX10.out 0
         have t1 := blk_cell HX10.out 1
         refine hK.out _ _ ⟨ta, t0, t1⟩ (fun hHeld => ?_)
         clear hK K
         refine norm_ (a' := ?_) ?_ ?_
         rotate_left
         · show Act.put _ (some 90) _ = _
           simp only [Act.put, List.setIfInBounds_toArray, List.set_cons_zero, List.set_cons_succ, i64_w, i32_w]
           rfl
         refine pure_ (i := 12) (N := some 91) (v := ?_) (a' := ?_) #[true, true, true, true, true, true, true, true, true, true, true, true, true, false, false] rfl rfl (by kernel_rfl) (fun _ _ _ h => h) (Or.inl ⟨by rfl, ?_⟩) ?_ ?_
         rotate_left
         · intro w'
           go_simp
           with_reducible rfl
         rotate_left
         · simp only [Act.put, List.setIfInBounds_toArray, List.set_cons_zero, List.set_cons_succ, i64_w, i32_w]
           rfl
         refine pure_ (i := 13) (N := some 92) (v := ?_) (a' := ?_) #[true, true, true, true, true, true, true, true, true, true, true, true, true, true, false] rfl rfl (by kernel_rfl) (fun _ _ _ h => h) (Or.inl ⟨by rfl, ?_⟩) ?_ ?_
         rotate_left
         · intro w'
           go_simp
           with_reducible rfl
         rotate_left
         · simp only [Act.put, List.setIfInBounds_toArray, List.set_cons_zero, List.set_cons_succ, i64_w, i32_w]
           rfl
         refine last_ (i := 14) (N := none) #[true, true, true, true, true, true, true, true, true, true, true, true, true, true, true] rfl rfl (by kernel_rfl) (by decide) (fun K hK => ?_)
         refine skip_ (w1 := ?_) (by rfl) rfl ?_ ?_
         rotate_left
         · go_simp
           rfl
         refine hK.out _ _ ?_
         clear hK K
         refine done_ (by kernel_rfl) ?_
         have S12 := S10.acked hi HR10.out HP0.out HP.out
         clear S10 ta t0 t1 hpl10 hpf10 HX10
         go_wp2_with fail
         go_end0
         refine ⟨rfl, .slice A10 ks2.length c10, ?_⟩
         rw [HTK2.out, ← Hr7.out, ← Hx0.out, ← Hx1.out, ← Hk2.out]
         exact S12
       · clear hw
         go_upto_region 18 with (fail)
         go_quiet (fail)
         have hdn := pw_below_drewN (Below.refl w5.heap.size w5) nq
         have S5b := S5.below hdn
         have HX5b := Lib.hid (blk_keep hdn HX5.out)
         clear hdn p0 p1 p2 p3 pf hgl hpl hpf ct cs
         generalize w5.drewN nq = w5b at S5b HX5b ⊢
         go_upto_region 10 with (fail)
         have hbd := below_drew (Below.refl w5b.heap.size w5b)
         have S6 := S5b.below hbd
         have HX6 := Lib.hid (blk_keep hbd HX5b.out)
         clear hbd
         have hpl : p < w5b.drew.heap.size := S6.C.lt
         obtain ⟨p0, _, _, _, pf⟩ := blk_cells4 HX6.out
         have hgl := blk_lt HX6.out
         have hpf := S6.C.free
         have wt := (S6.C.waits hi hjn).1
         have sd := ((S6.C.setWait hi hjn 0).waits hi hjn).2
         have q0 := blk_cell (((KeepBut.refl w5b.drew p none).set_ (4 + i * 36 + 3 + j) (.int .i64 0)).blk HX6.out (by obtain ⟨cs, hp', _⟩ := S6.C; exact blk_ne HX6.out hp' (by decide)) (by simp)) 0
         refine start_ (n := 14) (S := fun w' => w'.cell? ⟨ga, 0, none⟩ = some (.int .i64 j)) (ds := [13]) #[false, false, false, false, false, false, false, false, false, false, false, false, false, false] (by kernel_rfl) rfl rfl (p0) (fun hHeld => ?_)
         generalize w5b.drew = wd at S6 HX6 hpl p0 pf hgl hpf wt sd q0 hHeld ⊢
         refine pure_ (i := 0) (N := some 67) (v := ?_) (a' := ?_) #[true, false, false, false, false, false, false, false, false, false, false, false, false, false] rfl rfl (by kernel_rfl) (fun _ _ _ h => h) (Or.inl ⟨by rfl, ?_⟩) ?_ ?_
         rotate_left
         · intro w'
           go_simp
           with_reducible rfl
         rotate_left
         · simp only [Act.put, List.setIfInBounds_toArray, List.set_cons_zero, List.set_cons_succ, i64_w, i32_w]
           rfl
         refine pure_ (i := 1) (N := some 68) (v := ?_) (a' := ?_) #[true, true, false, false, false, false, false, false, false, false, false, false, false, false] rfl rfl (by kernel_rfl) (fun _ _ _ h => h) (Or.inl ⟨by rfl, ?_⟩) ?_ ?_
         rotate_left
         · intro w'
           go_simp
           with_reducible rfl
         rotate_left
         · simp only [Act.put, List.setIfInBounds_toArray, List.set_cons_zero, List.set_cons_succ, i64_w, i32_w]
           rfl
         refine pure_ (i := 3) (N := some 70) (v := ?_) (a' := ?_) #[true, true, false, true, false, false, false, false, false, false, false, false, false, false] rfl rfl (by kernel_rfl) (fun _ _ _ h => h) (Or.inl ⟨by rfl, ?_⟩) ?_ ?_
         rotate_left
         · intro w'
           go_simp
           with_reducible rfl
         rotate_left
         · simp only [Act.put, List.setIfInBounds_toArray, List.set_cons_zero, List.set_cons_succ, i64_w, i32_w]
           rfl
         refine pure_ (i := 4) (N := some 71) (v := ?_) (a' := ?_) #[true, true, false, true, true, false, false, false, false, false, false, false, false, false] rfl rfl (by kernel_rfl) (fun _ _ _ h => h) (Or.inl ⟨by rfl, ?_⟩) ?_ ?_
         rotate_left
         · intro w'
           go_simp
           with_reducible rfl
         rotate_left
         · simp only [Act.put, List.setIfInBounds_toArray, List.set_cons_zero, List.set_cons_succ, i64_w, i32_w]
           rfl
         refine pure_ (i := 6) (N := some 73) (v := ?_) (a' := ?_) #[true, true, false, true, true, false, true, false, false, false, false, false, false, false] rfl rfl (by kernel_rfl) (fun _ _ _ h => h) (Or.inl ⟨by rfl, ?_⟩) ?_ ?_
         rotate_left
         · intro w'
           go_simp
           with_reducible rfl
         rotate_left
         · simp only [Act.put, List.setIfInBounds_toArray, List.set_cons_zero, List.set_cons_succ, i64_w, i32_w]
           rfl
         refine pure_ (i := 7) (N := some 74) (v := ?_) (a' := ?_) #[true, true, false, true, true, false, true, true, false, false, false, false, false, false] rfl rfl (by kernel_rfl) (fun _ _ _ h => h) (Or.inl ⟨by rfl, ?_⟩) ?_ ?_
         rotate_left
         · intro w'
           go_simp
           with_reducible rfl
         rotate_left
         · simp only [Act.put, List.setIfInBounds_toArray, List.set_cons_zero, List.set_cons_succ, i64_w, i32_w]
           rfl
         refine pure_ (i := 10) (N := some 76) (v := ?_) (a' := ?_) #[true, true, false, true, true, false, true, true, false, false, true, false, false, false] rfl rfl (by kernel_rfl) (fun _ _ _ h => h) (Or.inl ⟨by rfl, ?_⟩) ?_ ?_
         rotate_left
         · intro w'
           go_simp
           with_reducible rfl
         rotate_left
         · simp only [Act.put, List.setIfInBounds_toArray, List.set_cons_zero, List.set_cons_succ, i64_w, i32_w]
           rfl
         refine pure_ (i := 11) (N := some 77) (v := ?_) (a' := ?_) #[true, true, false, true, true, false, true, true, false, false, true, true, false, false] rfl rfl (by kernel_rfl) (fun _ _ _ h => h) (Or.inl ⟨by rfl, ?_⟩) ?_ ?_
         rotate_left
         · intro w'
           go_simp
           with_reducible rfl
         rotate_left
         · simp only [Act.put, List.setIfInBounds_toArray, List.set_cons_zero, List.set_cons_succ, i64_w, i32_w]
           rfl
         refine take_ (i := 2) (N := some 69) (v := ?_) (a' := ?_) #[true, true, true, true, true, false, true, true, false, false, true, true, false, false] rfl rfl (by kernel_rfl) (fun _ _ _ h => h) (Or.inl ⟨by rfl, ?_⟩) hHeld ?_ ?_
         rotate_left
         · intro w' s0
           go_simp
           with_reducible rfl
         rotate_left
         · simp only [Act.put, List.setIfInBounds_toArray, List.set_cons_zero, List.set_cons_succ, i64_w, i32_w]
           rfl
         refine pure_ (i := 8) (N := some 75) (v := ?_) (a' := ?_) #[true, true, true, true, true, false, true, true, true, false, true, true, false, false] rfl rfl (by kernel_rfl) (fun _ _ _ h => h) (Or.inl ⟨by rfl, ?_⟩) ?_ ?_
         rotate_left
         · intro w'
           go_simp
           with_reducible rfl
         rotate_left
         · simp only [Act.put, List.setIfInBounds_toArray, List.set_cons_zero, List.set_cons_succ, i64_w, i32_w]
           rfl
         refine take_ (i := 5) (N := some 72) (v := ?_) (a' := ?_) #[true, true, true, true, true, true, true, true, true, false, true, true, false, false] rfl rfl (by kernel_rfl) (fun _ _ _ h => h) (Or.inl ⟨by rfl, ?_⟩) hHeld ?_ ?_
         rotate_left
         · intro w' s0
           go_simp
           with_reducible rfl
         rotate_left
         · simp only [Act.put, List.setIfInBounds_toArray, List.set_cons_zero, List.set_cons_succ, i64_w, i32_w]
           rfl
         refine one_ (i := 9) (N := none) #[true, true, true, true, true, true, true, true, true, true, true, true, false, false] rfl rfl (by kernel_rfl) (by decide) (fun K hK => ?_)
         refine skip_ (w1 := ?_) (by rfl) rfl ?_ ?_
         rotate_left
         · go_simp
           rfl
         refine hK.out _ _ (q0) (fun hHeld => ?_)
         clear hK K
         refine pure_ (i := 12) (N := some 78) (v := ?_) (a' := ?_) #[true, true, true, true, true, true, true, true, true, true, true, true, true, false] rfl rfl (by kernel_rfl) (fun _ _ _ h => h) (Or.inl ⟨by rfl, ?_⟩) ?_ ?_
         rotate_left
         · intro w'
           go_simp
           with_reducible rfl
         rotate_left
         · simp only [Act.put, List.setIfInBounds_toArray, List.set_cons_zero, List.set_cons_succ, i64_w, i32_w]
           rfl
         refine last_ (i := 13) (N := none) #[true, true, true, true, true, true, true, true, true, true, true, true, true, true] rfl rfl (by kernel_rfl) (by decide) (fun K hK => ?_)
         refine skip_ (w1 := ?_) (by rfl) rfl ?_ ?_
         rotate_left
         · go_simp
           rfl
         refine hK.out _ _ ?_
         clear hK K
         refine done_ (by kernel_rfl) ?_
         have hC7 := (S6.C.setWait hi hjn 0).setSend hi hjn false
         rw [Rt.sP_at, Rt.sP_sP] at hC7
         have S7 := S6.keepP hC7 rfl (((KeepBut.refl wd p none).set_ (4 + i * 36 + 3 + j) (.int .i64 0)).set_ (4 + i * 36 + 19 + j) (.bool false)) ((S6.B.setCell (p := ⟨p, 4 + i * 36 + 3 + j, none⟩) HP0.out (.int .i64 0)).setCell (p := ⟨p, 4 + i * 36 + 19 + j, none⟩) HP0.out (.bool false)) HP.out
         have HX7 := Lib.hid ((((KeepBut.refl wd p none).set_ (4 + i * 36 + 3 + j) (.int .i64 0)).set_ (4 + i * 36 + 19 + j) (.bool false)).blk HX6.out (by obtain ⟨cs, hp', _⟩ := S6.C; exact blk_ne HX6.out hp' (by decide)) (by simp))
         clear hC7 hpl p0 pf hgl hpf wt sd q0
         generalize (wd.setCell ⟨p, 4 + i * 36 + 3 + j, none⟩ (.int .i64 0)).setCell ⟨p, 4 + i * 36 + 19 + j, none⟩ (.bool false) = w7 at S7 HX7 ⊢
         obtain ⟨r7, Hr7⟩ : ∃ r7, Hid (r7 = r1.sP i ((r1.port i).off j)) := ⟨_, Lib.hid rfl⟩
         have S7 : TS w0 ws w7 p q i r7 (.slice Av ks.length cv) ks := by rw [Hr7.out]; exact S7
         have hpl := S7.C.lt
         go_upto_region 11 with (fail)
         have hbd := below_drew (Below.refl w7.heap.size w7)
         have S9 := S7.below hbd
         have HX9 := Lib.hid (blk_keep hbd HX7.out)
         clear hbd
         have hpl : p < w7.drew.heap.size := S9.C.lt
         obtain ⟨p0, p1, _, _, pf⟩ := blk_cells4 HX9.out
         have hgl := blk_lt HX9.out
         have pa : w7.drew.cell? ⟨p, 4 + i * 36 + 35, none⟩ = some (.slice Av ks.length cv) := by have := (S9.C.head hi).2.2.2; rwa [upd_self] at this
         refine start_ (n := 15) (S := fun w' => w'.cell? ⟨p, 4 + i * 36 + 35, none⟩ = some (.slice Av ks.length cv) ∧ w'.cell? ⟨ga, 0, none⟩ = some (.int .i64 j) ∧ w'.cell? ⟨ga, 1, none⟩ = some (.int .i64 x1)) (ds := [14]) #[false, false, false, false, false, false, false, false, false, false, false, false, false, false, false] (by kernel_rfl) rfl rfl ⟨pa, p0, p1⟩ (fun hHeld => ?_)
         generalize w7.drew = wd at S9 HX9 hpl p0 p1 pf hgl pa hHeld ⊢
         refine pure_ (i := 0) (N := some 79) (v := ?_) (a' := ?_) #[true, false, false, false, false, false, false, false, false, false, false, false, false, false, false] rfl rfl (by kernel_rfl) (fun _ _ _ h => h) (Or.inl ⟨by rfl, ?_⟩) ?_ ?_
         rotate_left
         · intro w'
           go_simp
           with_reducible rfl
         rotate_left
         · simp only [Act.put, List.setIfInBounds_toArray, List.set_cons_zero, List.set_cons_succ, i64_w, i32_w]
           rfl
         refine pure_ (i := 1) (N := some 80) (v := ?_) (a' := ?_) #[true, true, false, false, false, false, false, false, false, false, false, false, false, false, false] rfl rfl (by kernel_rfl) (fun _ _ _ h => h) (Or.inl ⟨by rfl, ?_⟩) ?_ ?_
         rotate_left
         · intro w'
           go_simp
           with_reducible rfl
         rotate_left
         · simp only [Act.put, List.setIfInBounds_toArray, List.set_cons_zero, List.set_cons_succ, i64_w, i32_w]
           rfl
         refine pure_ (i := 2) (N := some 81) (v := ?_) (a' := ?_) #[true, true, true, false, false, false, false, false, false, false, false, false, false, false, false] rfl rfl (by kernel_rfl) (fun _ _ _ h => h) (Or.inl ⟨by rfl, ?_⟩) ?_ ?_
         rotate_left
         · intro w'
           go_simp
           with_reducible rfl
         rotate_left
         · simp only [Act.put, List.setIfInBounds_toArray, List.set_cons_zero, List.set_cons_succ, i64_w, i32_w]
           rfl
         refine pure_ (i := 3) (N := some 82) (v := ?_) (a' := ?_) #[true, true, true, true, false, false, false, false, false, false, false, false, false, false, false] rfl rfl (by kernel_rfl) (fun _ _ _ h => h) (Or.inl ⟨by rfl, ?_⟩) ?_ ?_
         rotate_left
         · intro w'
           go_simp
           with_reducible rfl
         rotate_left
         · simp only [Act.put, List.setIfInBounds_toArray, List.set_cons_zero, List.set_cons_succ, i64_w, i32_w]
           rfl
         refine pure_ (i := 5) (N := some 84) (v := ?_) (a' := ?_) #[true, true, true, true, false, true, false, false, false, false, false, false, false, false, false] rfl rfl (by kernel_rfl) (fun _ _ _ h => h) (Or.inl ⟨by rfl, ?_⟩) ?_ ?_
         rotate_left
         · intro w'
           go_simp
           with_reducible rfl
         rotate_left
         · simp only [Act.put, List.setIfInBounds_toArray, List.set_cons_zero, List.set_cons_succ, i64_w, i32_w]
           rfl
         refine pure_ (i := 7) (N := some 86) (v := ?_) (a' := ?_) #[true, true, true, true, false, true, false, true, false, false, false, false, false, false, false] rfl rfl (by kernel_rfl) (fun _ _ _ h => h) (Or.inl ⟨by rfl, ?_⟩) ?_ ?_
         rotate_left
         · intro w'
           go_simp
           with_reducible rfl
         rotate_left
         · simp only [Act.put, List.setIfInBounds_toArray, List.set_cons_zero, List.set_cons_succ, i64_w, i32_w]
           rfl
         refine take_ (i := 4) (N := some 83) (v := ?_) (a' := ?_) #[true, true, true, true, true, true, false, true, false, false, false, false, false, false, false] rfl rfl (by kernel_rfl) (fun _ _ _ h => h) (Or.inl ⟨by rfl, ?_⟩) hHeld ?_ ?_
         rotate_left
         · rintro w' ⟨s0, s1, s2⟩
           go_simp
           with_reducible rfl
         rotate_left
         · simp only [Act.put, List.setIfInBounds_toArray, List.set_cons_zero, List.set_cons_succ, i64_w, i32_w]
           rfl
         refine take_ (i := 6) (N := some 85) (v := ?_) (a' := ?_) #[true, true, true, true, true, true, true, true, false, false, false, false, false, false, false] rfl rfl (by kernel_rfl) (fun _ _ _ h => h) (Or.inl ⟨by rfl, ?_⟩) hHeld ?_ ?_
         rotate_left
         · rintro w' ⟨s0, s1, s2⟩
           go_simp
           with_reducible rfl
         rotate_left
         · simp only [Act.put, List.setIfInBounds_toArray, List.set_cons_zero, List.set_cons_succ, i64_w, i32_w]
           rfl
         refine take_ (i := 8) (N := some 87) (v := ?_) (a' := ?_) #[true, true, true, true, true, true, true, true, true, false, false, false, false, false, false] rfl rfl (by kernel_rfl) (fun _ _ _ h => h) (Or.inl ⟨by rfl, ?_⟩) hHeld ?_ ?_
         rotate_left
         · rintro w' ⟨s0, s1, s2⟩
           go_simp
           with_reducible rfl
         rotate_left
         · simp only [Act.put, List.setIfInBounds_toArray, List.set_cons_zero, List.set_cons_succ, i64_w, i32_w]
           rfl
         refine pure_ (i := 9) (N := some 88) (v := ?_) (a' := ?_) #[true, true, true, true, true, true, true, true, true, true, false, false, false, false, false] rfl rfl (by kernel_rfl) (fun _ _ _ h => h) (Or.inl ⟨by rfl, ?_⟩) ?_ ?_
         rotate_left
         · intro w'
           go_simp
           with_reducible rfl
         rotate_left
         · simp only [Act.put, List.setIfInBounds_toArray, List.set_cons_zero, List.set_cons_succ, i64_w, i32_w]
           rfl
         refine one_ (i := 10) (N := some 89) #[true, true, true, true, true, true, true, true, true, true, true, false, false, false, false] rfl rfl (by kernel_rfl) (by decide) (fun K hK => ?_)
         refine value_ (w1 := ?_) (v := ?_) (by rfl) rfl ?_ ?_
         rotate_left 2
         · go_simp
           constructor
           · rfl
           · rfl
         have hbx := below_alloc (Below.refl wd.heap.size wd) (.cells #[.int .i64 j, .int .i64 x1] 129)
         have qa := pw_cell_below hbx pa
         have q0 := pw_cell_below hbx p0
         have q1 := pw_cell_below hbx p1
         clear hbx
         refine hK.out _ _ ⟨qa, q0, q1⟩ (fun hHeld => ?_)
         clear hK K
         refine norm_ (a' := ?_) ?_ ?_
         rotate_left
         · show Act.put _ (some 89) _ = _
           simp only [Act.put, List.setIfInBounds_toArray, List.set_cons_zero, List.set_cons_succ, i64_w, i32_w]
           rfl
         refine one_ (i := 11) (N := some 90) #[true, true, true, true, true, true, true, true, true, true, true, true, false, false, false] rfl rfl (by kernel_rfl) (by decide) (fun K hK => ?_)
         refine Kd.R_append_step k129 (w0 := wd) ws.heap.size (by rfl) (.tmp 83) (.tmp 89) 101 129 (.agg #[.int .i64 0, .int .i64 0]) 16 rfl Try.underlying101 info129 rfl (by decide) (by omega) (.slice Av ks.length cv) (ks) ((⟨j, x1⟩ : S129)) [.int .i64 j, .int .i64 x1] ((fun b => ws.heap.size ≤ b)) (fun _ => False) rfl rfl ?aP (fun _ hk => hk.elim) ?aF ?aO ?aB ?aS ?aL ?_
         (case aP => exact k129_mkM _ _ _ _)
         (case aF => exact fun b hb => Nat.le_trans S9.K.1 hb)
         (case aO => exact S9.R)
         (case aB => exact (Below.refl wd.heap.size wd).mono S9.K.1)
         (case aS => exact S9.K.1)
         (case aL => omega)
         intro v10 w10 ho hb hg hat
         obtain ⟨ks2, Hk2⟩ : ∃ l, Hid (l = ks ++ [(⟨j, x1⟩ : S129)]) := ⟨_, Lib.hid rfl⟩
         rw [← Hk2.out] at ho
         obtain ⟨A10, c10, rfl, hle10, _⟩ := Kd.R_reads ho
         have HR10 := Lib.hid ho
         have S10 := S9.grown129 hg HPP.out
         have HX10 := Lib.hid (blk_grown S9.R hg HX9.out (by decide))
         clear ho hb hg hat hle10
         have hpl10 := S10.C.lt
         have hpf10 := S10.C.free
         have ta : w10.cell? ⟨p, 4 + i * 36 + 35, none⟩ = some (.slice Av ks.length cv) := by have := (S10.C.head hi).2.2.2; rwa [upd_self] at this
         have t0 := blk_cell HX10.out 0
         have t1 := blk_cell HX10.out 1
         refine hK.out _ _ ⟨ta, t0, t1⟩ (fun hHeld => ?_)
         clear hK K
         refine norm_ (a' := ?_) ?_ ?_
         rotate_left
         · show Act.put _ (some 90) _ = _
           simp only [Act.put, List.setIfInBounds_toArray, List.set_cons_zero, List.set_cons_succ, i64_w, i32_w]
           rfl
         refine pure_ (i := 12) (N := some 91) (v := ?_) (a' := ?_) #[true, true, true, true, true, true, true, true, true, true, true, true, true, false, false] rfl rfl (by kernel_rfl) (fun _ _ _ h => h) (Or.inl ⟨by rfl, ?_⟩) ?_ ?_
         rotate_left
         · intro w'
           go_simp
           with_reducible rfl
         rotate_left
         · simp only [Act.put, List.setIfInBounds_toArray, List.set_cons_zero, List.set_cons_succ, i64_w, i32_w]
           rfl
         refine pure_ (i := 13) (N := some 92) (v := ?_) (a' := ?_) #[true, true, true, true, true, true, true, true, true, true, true, true, true, true, false] rfl rfl (by kernel_rfl) (fun _ _ _ h => h) (Or.inl ⟨by rfl, ?_⟩) ?_ ?_
         rotate_left
         · intro w'
           go_simp
           with_reducible rfl
         rotate_left
         · simp only [Act.put, List.setIfInBounds_toArray, List.set_cons_zero, List.set_cons_succ, i64_w, i32_w]
           rfl
         refine last_ (i := 14) (N := none) #[true, true, true, true, true, true, true, true, true, true, true, true, true, true, true] rfl rfl (by kernel_rfl) (by decide) (fun K hK => ?_)
         refine skip_ (w1 := ?_) (by rfl) rfl ?_ ?_
         rotate_left
         · go_simp
           rfl
         refine hK.out _ _ ?_
         clear hK K
         refine done_ (by kernel_rfl) ?_
         have S12 := S10.acked hi HR10.out HP0.out HP.out
         clear S10 ta t0 t1 hpl10 hpf10 HX10
         go_wp2_with fail
         go_end0
         refine ⟨rfl, .slice A10 ks2.length c10, ?_⟩
         rw [HTK2.out, ← Hr7.out, ← Hx0.out, ← Hx1.out, ← Hk2.out]
         exact S12
end Go.Proofs.Ytaneaabmgnanbaa.M
end
