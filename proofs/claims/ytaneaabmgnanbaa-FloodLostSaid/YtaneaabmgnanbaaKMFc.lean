import Derived.Test.YtaneaabmgnanbaaKMFb
import Derived.LoopTactic
import Derived.RegionTactic
import Derived.BigRegion
import Derived.BigQuiet
import Derived.Deep.WholeRow
import Derived.Deep.MidRow
import Derived.StillTailTactics
section
namespace Go.Proofs.Ytaneaabmgnanbaa.M
open Go.RowKit Go.Proofs.YtaneaabmgnanbaaW.PrintWords Go.Proofs.YtaneaabmgnanbaaW.PrintLast Go.Proofs.YtaneaabmgnanbaaW.PrintMore Go.Proofs.Ytaneaabmgnanbaa.PAdvBack
open Go.Proofs.Ytaneaabmgnanbaa.Rd (S129 z129 k129 k129_open k129_mk k129_mkM info129 flood_read.f)
set_option linter.unusedVariables false
set_option linter.unusedSimpArgs false
def takeAll (r : Rt) (ks : List S129) (i : Nat) (l : List S24) : Rt × List S129 := l.foldl (fun s a => takeP s.1 s.2 i a) (r, ks)
def ackP (r : Rt) (i : Nat) (y : S129) : Rt := if r.db.2 y.f0.toNat = true ∧ (r.db.1 y.f0.toNat).f1 = y.f1 ∧ (r.port i).send y.f0.toNat = false then r.sP i ((r.port i).sWait y.f0.toNat 0) else r
def ackAll (r : Rt) (i : Nat) (ks : List S129) : Rt := ks.foldl (fun r y => ackP r i y) r
def inR (r : Rt) (i : Nat) (l : List S24) (ks : List S129) : Rt := ackAll (takeAll r [] i l).1 i ks
def inA (r : Rt) (i : Nat) (l : List S24) : List S129 := (takeAll r [] i l).2
theorem takeAll_snoc (r : Rt) (ks : List S129) (i : Nat) (l : List S24) (k : Nat) (hk : k < l.length) : takeAll r ks i (l.take (k + 1)) = takeP (takeAll r ks i (l.take k)).1 (takeAll r ks i (l.take k)).2 i (l.getD k z24) := by
 unfold takeAll
 rw [List.take_add_one, List.foldl_append]
 simp [List.getD_eq_getElem?_getD, hk]
theorem ackAll_snoc (r : Rt) (i : Nat) (l : List S129) (k : Nat) (hk : k < l.length) : ackAll r i (l.take (k + 1)) = ackP (ackAll r i (l.take k)) i (l.getD k z129) := by
 unfold ackAll
 rw [List.take_add_one, List.foldl_append]
 simp [List.getD_eq_getElem?_getD, hk]
def Ups (r r' : Rt) : Prop := ∀ i, (r'.port i).up = (r.port i).up
theorem Ups.refl (r : Rt) : Ups r r := fun _ => rfl
theorem Ups.trans {a b c : Rt} (h : Ups a b) (k : Ups b c) : Ups a c := fun i => (k i).trans (h i)
theorem Ups.one {r r' : Rt} (h : Ups r r') (ho : OneUp r) : OneUp r' := fun i hi j hj h1 h2 => ho i hi j hj (by rw [← h i]; exact h1) (by rw [← h j]; exact h2)
theorem ups_sP {r : Rt} {i : Nat} {x : Prt} (h : x.up = (r.port i).up) : Ups r (r.sP i x) := fun j => by
 show (upd r.port i x j).up = _
 by_cases e : j = i
 · subst e; rw [upd_self]; exact h
 · rw [upd_ne _ _ e]
theorem ups_post (r : Rt) (i j : Nat) : Ups r (post r i j) := ups_sP rfl
theorem ups_flood (r : Rt) (j : Nat) (but : Int) (k : Nat) : Ups r (floodTo r j but k) := fun i => by
 show (if _ then _ else _ : Prt).up = _
 split <;> rfl
theorem ups_own (r : Rt) : Ups r (own r) := ups_flood _ _ _ _
structure Inv (r : Rt) : Prop where
 ok : RtOk r
 one : OneUp r
 own : r.db.2 r.id.toNat = true
theorem put_has {d : Db} {a : S24} {i : Nat} (h : d.2 i = true) : (put d a).2 i = true := by
 unfold put
 split
 · show (if i = a.f0.toNat then true else d.2 i) = true
   split
   · rfl
   · exact h
 · exact h
theorem takeP_inv {r : Rt} {ks : List S129} {i : Nat} {a : S24} (h : Inv r) (hv : Chk a = 0) : Inv (takeP r ks i a).1 ∧ (takeP r ks i a).2.length ≤ ks.length + 1 ∧ Ups r (takeP r ks i a).1 := by
 unfold takeP
 have hV := chk_zero hv
 split
 · have h2 := own_ok (r := (r.sSeq a.f1).sDb (put r.db a)) ⟨h.ok.id, ⟨by show 0 ≤ a.f1; have := hV.seq0; omega, hV.seq1⟩, h.ok.now, put_ok h.ok.db a⟩
   exact ⟨⟨h2, (ups_own _).one h.one, put_has (put_has h.own)⟩, Nat.le_succ _, ups_own _⟩
 · split
   · refine ⟨⟨⟨h.ok.id, h.ok.seq, h.ok.now, put_ok h.ok.db a⟩, ?_, put_has h.own⟩, by simp, ?_⟩
     · exact Ups.one (r := r) (Ups.trans (b := (r.sDb (put r.db a)).sP i ((r.port i).off a.f0.toNat)) (ups_sP (r := r.sDb (put r.db a)) (i := i) (x := (r.port i).off a.f0.toNat) rfl) (ups_flood _ _ _ _)) h.one
     · exact Ups.trans (b := (r.sDb (put r.db a)).sP i ((r.port i).off a.f0.toNat)) (ups_sP (r := r.sDb (put r.db a)) (i := i) (x := (r.port i).off a.f0.toNat) rfl) (ups_flood _ _ _ _)
   · split
     · exact ⟨⟨⟨h.ok.id, h.ok.seq, h.ok.now, h.ok.db⟩, (ups_post r i _).one h.one, h.own⟩, Nat.le_succ _, ups_post r i _⟩
     · split
       · exact ⟨⟨⟨h.ok.id, h.ok.seq, h.ok.now, h.ok.db⟩, (ups_sP (r := r) (i := i) (x := (r.port i).sWait a.f0.toNat 0) rfl).one h.one, h.own⟩, Nat.le_succ _, ups_sP rfl⟩
       · exact ⟨⟨⟨h.ok.id, h.ok.seq, h.ok.now, h.ok.db⟩, (ups_sP (r := r) (i := i) (x := (r.port i).off a.f0.toNat) rfl).one h.one, h.own⟩, by simp, ups_sP rfl⟩
theorem takeAll_inv (i : Nat) : ∀ (l : List S24) (r : Rt) (ks : List S129), Inv r → (∀ a ∈ l, Chk a = 0) → Inv (takeAll r ks i l).1 ∧ (takeAll r ks i l).2.length ≤ ks.length + l.length ∧ Ups r (takeAll r ks i l).1
 | [], r, ks, h, _ => ⟨h, Nat.le_refl _, Ups.refl r⟩
 | a :: l, r, ks, h, hv => by
  obtain ⟨h1, h2, h3⟩ := takeP_inv (ks := ks) (i := i) h (hv a List.mem_cons_self)
  obtain ⟨g1, g2, g3⟩ := takeAll_inv i l (takeP r ks i a).1 (takeP r ks i a).2 h1 (fun b hb => hv b (List.mem_cons_of_mem _ hb))
  exact ⟨g1, by rw [List.length_cons]; show (takeAll (takeP r ks i a).1 (takeP r ks i a).2 i l).2.length ≤ _; omega, h3.trans g3⟩
theorem ackP_same (r : Rt) (i : Nat) (y : S129) : (ackP r i y).db = r.db ∧ (ackP r i y).id = r.id ∧ (ackP r i y).seq = r.seq ∧ (ackP r i y).now = r.now ∧ Ups r (ackP r i y) := by
 unfold ackP
 split
 · exact ⟨rfl, rfl, rfl, rfl, ups_sP rfl⟩
 · exact ⟨rfl, rfl, rfl, rfl, Ups.refl r⟩
theorem ackAll_same (i : Nat) : ∀ (l : List S129) (r : Rt), (ackAll r i l).db = r.db ∧ (ackAll r i l).id = r.id ∧ (ackAll r i l).seq = r.seq ∧ (ackAll r i l).now = r.now ∧ Ups r (ackAll r i l)
 | [], r => ⟨rfl, rfl, rfl, rfl, Ups.refl r⟩
 | y :: l, r => by
  obtain ⟨a, b, c, d, e⟩ := ackP_same r i y
  obtain ⟨a', b', c', d', e'⟩ := ackAll_same i l (ackP r i y)
  exact ⟨a'.trans a, b'.trans b, c'.trans c, d'.trans d, e.trans e'⟩
theorem k24_openM {w : World} {base : Nat} {ok : Nat → Prop} {x : S24} {cs : List Value} (h : k24.M w base ok x cs) : ∃ v3, cs = [.int .i64 x.f0, .int .i64 x.f1, .int .i64 x.f2, v3] ∧ k28.R 28 w base ok v3 x.f3 := Go.Proofs.Ytaneaabmgnanbaa.Rd.k24_openM h
theorem take4 {l : List Value} {k : Nat} {a b c d : Value} (h : (l.drop k).take 4 = [a, b, c, d]) : l[k]? = some a ∧ l[k + 1]? = some b ∧ l[k + 2]? = some c ∧ l[k + 3]? = some d := by
 have e : ∀ j, j < 4 → l[k + j]? = [a, b, c, d][j]? := fun j hj => by
  rw [← h, List.getElem?_take_of_lt hj, List.getElem?_drop]
 exact ⟨e 0 (by omega), e 1 (by omega), e 2 (by omega), e 3 (by omega)⟩
structure El24 (w : World) (base g m : Nat) (x : S24) (A : Option Addr) (c : Nat) : Prop where
 c0 : w.cell? ⟨g, m * 4, none⟩ = some (.int .i64 x.f0)
 c1 : w.cell? ⟨g, m * 4 + 1, none⟩ = some (.int .i64 x.f1)
 c2 : w.cell? ⟨g, m * 4 + 2, none⟩ = some (.int .i64 x.f2)
 c3 : w.cell? ⟨g, m * 4 + 3, none⟩ = some (.slice A x.f3.length c)
 le : x.f3.length ≤ c
 R : Kd.R k28 28 w base (fun k => base ≤ k ∧ k < w.heap.size) (.slice A x.f3.length c) x.f3
theorem R24_at {w : World} {base : Nat} {ok : Nat → Prop} {v : Value} {xs : List S24} (h : Kd.R k24 24 w base ok v xs) (hl : 0 < xs.length) : ∃ g c, v = .slice (some ⟨g, 0, none⟩) xs.length c ∧ base ≤ g ∧ g < w.heap.size ∧ ∀ m, m < xs.length → ∃ A ca, El24 w base g m (xs.getD m z24) A ca := by
 have hb := Kd.R_bound h
 obtain ⟨h0, inner, ho, hr⟩ := hb
 obtain ⟨g, cap, rfl, _, _⟩ := ho.form hl
 have hg := h0 g rfl
 refine ⟨g, cap, rfl, hg.2.1, hg.2.2.1, fun m hm => ?_⟩
 have hx : xs[m]? = some (xs.getD m z24) := by simp [List.getD_eq_getElem?_getD, hm]
 obtain ⟨v3, he, h3⟩ := k24_openM (hr.2 m _ hx)
 obtain ⟨A, ca, rfl, hle, _⟩ := Kd.R_reads h3
 obtain ⟨e0, e1, e2, e3⟩ := take4 he
 have hc := fun j u (hu : inner[j]? = some u) => by
  have := ho.cells (g := g) rfl j u hu
  rwa [add_plain] at this
 exact ⟨A, ca, hc _ _ e0, hc _ _ e1, hc _ _ e2, hc _ _ e3, hle, Kd.R_mono (Kd.R_bound h3) (fun k hk => ⟨hk.2.1, hk.2.2.1⟩)⟩
theorem El24.keep {w w1 : World} {base g m p q : Nat} {x : S24} {A : Option Addr} {c : Nat} (h : El24 w base g m x A c) (hg : base ≤ g) (hgl : g < w.heap.size) (hk : Keep2 w w1 p q) (hp : p < base) (hq : q < base) : El24 w1 base g m x A c := by
 have hh : w1.heap[g]? = w.heap[g]? := hk.2 g hgl (fun e => by rcases e with e | e <;> omega)
 have hc : ∀ j, w1.cell? ⟨g, j, none⟩ = w.cell? ⟨g, j, none⟩ := fun j => by simp [World.cell?, hh]
 exact ⟨(hc _).trans h.c0, (hc _).trans h.c1, (hc _).trans h.c2, (hc _).trans h.c3, h.le, Kd.R_mono (Kd.R_step h.R (fun k hk' hlt => hk.2 k hlt (fun e => by rcases e with e | e <;> omega))) (fun k hk' => ⟨hk'.1, Nat.lt_of_lt_of_le hk'.2 hk.1⟩)⟩
end Go.Proofs.Ytaneaabmgnanbaa.M
end
section
namespace Go.Proofs.Ytaneaabmgnanbaa.M
open Go.RowKit Go.Proofs.YtaneaabmgnanbaaW.PrintWords Go.Proofs.YtaneaabmgnanbaaW.PrintLast Go.Proofs.YtaneaabmgnanbaaW.PrintMore Go.Proofs.Ytaneaabmgnanbaa.PAdvBack
open Go.Proofs.Ytaneaabmgnanbaa.Rd (S129 z129 k129 k129_open k129_mk k129_mkM info129 flood_read.f)
set_option linter.unusedVariables false
set_option linter.unusedSimpArgs false
theorem upd_ack (i : Nat) (v : Value) {b0 : Nat} {w : World} {ks : List S129} (h : Kd.R k129 129 w b0 (fun b => b0 ≤ b) v ks) : ∀ m, m < 8 → Kd.R k129 129 w b0 (fun b => b0 ≤ b) (upd noAck i v m) (upd nil129 i ks m) := fun m _ => by
 by_cases e : m = i
 · subst e; rw [upd_self, upd_self]; exact h
 · rw [upd_ne _ _ e, upd_ne _ _ e]; exact Kd.R_nil _ _ _ _ _
set_option maxHeartbeats 4000000 in
set_option maxRecDepth 100000 in
theorem In62 (p q i : Nat) (s : ByteArray) (l : List S24) (ks : List S129) (r : Rt) (w w0 : World) (hi : i < 8) (hup : (r.port i).up = true) (hinv : Inv r) (hread : ∃ k, flood_read.f k s = some (l, ks, true)) (hl : l.length ≤ 100) (hkl : ks.length ≤ 100) (hva : ∀ a ∈ l, Chk a = 0) (hvk : ∀ y ∈ ks, 0 ≤ y.f0 ∧ y.f0 < 16) (H : Hid (RtC w p q r noAck)) (HD : Hid (BaseAt w q r.db.1 r.db.2)) (HB0 : Hid (Below w0.heap.size w0 w)) (hp0 : w0.heap.size ≤ p) (hq0 : w0.heap.size ≤ q) :
 Calls Try.prog 62 #[.pointer (some ⟨p, 0, none⟩), .int .i64 i, .string s] w fun e w' => ∃ v, e = .returned (.tuple #[v, .int .i64 0]) ∧ Kd.R k72 72 w' w.heap.size (fun b => w.heap.size ≤ b) v (sntTo (inR r i l ks) (upd nil129 i (inA r i l)) 8) ∧ RtC w' p q (sentR (inR r i l ks)) noAck ∧ BaseAt w' q (inR r i l ks).db.1 (inR r i l ks).db.2 ∧ Keep2 w w' p q ∧ Below w0.heap.size w0 w' := by
 have hu103 := Try.underlying103
 have hu104 := Try.underlying104
 have hu106 := Try.underlying106
 have hu24 := Try.underlying24
 have hu43 := Try.underlying43
 have hu91 := Try.underlying91
 have hu100 := Try.underlying100
 have hu101 := Try.underlying101
 have hu129 := Try.underlying129
 have hlt := H.out.lt
 have hf := H.out.free
 obtain ⟨h0, _, _, _⟩ := H.out.head hi
 rw [hup] at h0
 obtain ⟨k0, hk0⟩ := hread
 have HK0 := Lib.hid hk0
 have HP0 := Lib.hid hp0
 have HQ0 := Lib.hid hq0
 have HINV := Lib.hid hinv
 have HVA := Lib.hid hva
 have HVK := Lib.hid hvk
 have hi8 : (i : Int) < 8 := by omega
 have HPW := Lib.hid H.out.lt
 have HQW := Lib.hid HD.out.lt
 clear hp0 hq0 hinv hva hvk hk0 hup
 go_enter Try.func62, Try.ntmps62
 go_wp2_with fail
 refine (Rd.flood_read.calls k0 s l ks true w HK0.out).mono ?_
 rintro e w1 ⟨v0, v1, rfl, hS, hR, hb⟩
 have HRL := Lib.hid (Kd.S_R hS)
 obtain ⟨AK, ck, rfl, _, _⟩ := Kd.R_reads hR
 have HRK := Lib.hid (Kd.R_mono (Kd.R_bound hR) (fun k hk => (⟨hk.2.1, hk.2.2.1⟩ : w.heap.size ≤ k ∧ k < w1.heap.size)))
 obtain ⟨AL, cl, rfl, _, _⟩ := Kd.R_reads HRL.out
 have S0 : TS w0 w1 w1 p q i (takeAll r [] i (l.take 0)).1 (.slice none 0 0) (takeAll r [] i (l.take 0)).2 := ⟨by have := H.out.below hb; rwa [show upd noAck i (.slice none 0 0) = noAck from upd_id noAck i], HD.out.below hb, Kd.R_nil _ _ _ _ _, Kept.refl _ _, below_self HB0.out hb⟩
 have HK1 := Lib.hid (Keep2.of_below p q hb)
 have HPW1 := Lib.hid (Nat.lt_of_lt_of_le HPW.out hb.size)
 have HQW1 := Lib.hid (Nat.lt_of_lt_of_le HQW.out hb.size)
 clear hS hR hb hlt hf h0
 go_wp2_with fail
 go_loopw [43] (fun v43 wr => ∃ (m : Nat) (v : Value), m ≤ l.length ∧ v43 = .int .i64 m ∧ TS w0 w1 wr p q i (takeAll r [] i (l.take m)).1 v (takeAll r [] i (l.take m)).2) (fun v _ => l.length - (intOf v).toNat)
 case atStart => exact ⟨0, _, Nat.zero_le _, rfl, S0⟩
 case round =>
  obtain ⟨m, v, hm, rfl, SR⟩ := hrel
  by_cases hlm : m < l.length
  · obtain ⟨g, c, he, hgb, hgl, hel⟩ := R24_at HRL.out (by omega)
    obtain ⟨rfl, rfl⟩ : AL = some ⟨g, 0, none⟩ ∧ cl = c := by injection he with h1 h2 h3; exact ⟨h1, h3⟩
    obtain ⟨x, Hx⟩ : ∃ v, Hid (v = l.getD m z24) := ⟨_, Lib.hid rfl⟩
    obtain ⟨A, ca, hE⟩ := hel m hlm
    rw [← Hx.out] at hE
    have HE := Lib.hid (fun W (hk : Keep2 w1 W p q) => hE.keep hgb hgl hk HPW.out HQW.out)
    have HVX : Hid (Chk x = 0) := Lib.hid (HVA.out x (by rw [Hx.out, List.getD_eq_getElem?_getD, List.getElem?_eq_getElem hlm]; exact List.getElem_mem hlm))
    obtain ⟨rm, Hrm⟩ : ∃ r', Hid (r' = (takeAll r [] i (l.take m)).1) := ⟨_, Lib.hid rfl⟩
    obtain ⟨am, Ham⟩ : ∃ r', Hid (r' = (takeAll r [] i (l.take m)).2) := ⟨_, Lib.hid rfl⟩
    rw [← Hrm.out, ← Ham.out] at SR
    have HIM : Hid (Inv rm ∧ am.length ≤ 1000) := Lib.hid (by
     have := takeAll_inv i (l.take m) r [] HINV.out (fun a ha => HVA.out a (List.mem_of_mem_take ha))
     rw [Hrm.out, Ham.out]
     refine ⟨this.1, Nat.le_trans this.2.1 ?_⟩
     rw [List.length_take]
     simp only [List.length_nil]
     omega)
    obtain ⟨c0, c1, c2, c3, hle, hRl⟩ := HE.out wr SR.K
    have hgl2 : g < wr.heap.size := Nat.lt_of_lt_of_le hgl SR.K.1
    have HLE := Lib.hid hle
    clear he hel hE hRl hle
    go_upto_region 11 with (fail)
    have hb5 := below_alloc (Below.refl wr.heap.size wr) (.cells #[.int .i64 x.f0, .int .i64 x.f1, .int .i64 x.f2, .slice A x.f3.length ca] 24)
    have S5 := SR.below hb5
    have HX5 := Lib.hid (blk_alloc wr (.cells #[.int .i64 x.f0, .int .i64 x.f1, .int .i64 x.f2, .slice A x.f3.length ca] 24))
    have HKW5 := Lib.hid (SR.K.trans (Keep2.of_below p q hb5))
    clear hb5 c0 c1 c2 c3
    obtain ⟨ga, Hga⟩ : ∃ g, Hid (g = wr.heap.size) := ⟨_, Lib.hid rfl⟩
    rw [← Hga.out] at HX5
    rw [← Hga.out]
    generalize wr.alloc (.cells #[.int .i64 x.f0, .int .i64 x.f1, .int .i64 x.f2, .slice A x.f3.length ca] 24) = w5 at S5 HX5 HKW5 ⊢
    obtain ⟨p0, p1, p2, p3, pf⟩ := blk_cells4 HX5.out
    have hal := blk_lt HX5.out
    go_wp2_with fail
    refine (take79 p q i x A ca rm v am w5 w1 w0 hi HLE.out HVX.out HIM.out.1.ok HIM.out.1.one HIM.out.1.own HIM.out.2 HPW1.out HQW1.out HP0.out HQ0.out (Lib.hid (fun W hk => (Kd.R_reads' (HE.out W (HKW5.out.trans hk)).R).2.2)) S5).mono ?_
    rintro e w6 ⟨rfl, v', S6⟩
    have S6' : TS w0 w1 w6 p q i (takeAll r [] i (l.take (m + 1))).1 v' (takeAll r [] i (l.take (m + 1))).2 := by
     rw [takeAll_snoc r [] i l m hlm, ← Hrm.out, ← Ham.out, ← Hx.out]; exact S6
    clear S6 p0 p1 p2 p3 pf hal
    go_wp2_with fail
    go_round
    case rel => exact ⟨m + 1, v', by omega, by go_num, S6'⟩
    case measure => simp [intOf]; omega
  · have hml : m = l.length := by omega
    rw [hml, List.take_length] at SR
    clear hml
    obtain ⟨rT, HrT⟩ : ∃ r', Hid (r' = (takeAll r [] i l).1) := ⟨_, Lib.hid rfl⟩
    obtain ⟨aT, HaT⟩ : ∃ r', Hid (r' = (takeAll r [] i l).2) := ⟨_, Lib.hid rfl⟩
    rw [← HrT.out, ← HaT.out] at SR
    have HIM : Hid (Inv rT ∧ aT.length ≤ 1000) := Lib.hid (by
     have := takeAll_inv i l r [] HINV.out HVA.out
     rw [HrT.out, HaT.out]
     exact ⟨this.1, Nat.le_trans this.2.1 (by simp only [List.length_nil]; omega)⟩)
    obtain ⟨vT, HvT⟩ : ∃ x, Hid (x = v) := ⟨_, Lib.hid rfl⟩
    rw [← HvT.out] at SR
    have SR0 : TS w0 w1 wr p q i (ackAll rT i (ks.take 0)) vT aT := SR
    go_wp2_with fail
    go_loopw [54] (fun v54 wr => ∃ m : Nat, m ≤ ks.length ∧ v54 = .int .i64 m ∧ TS w0 w1 wr p q i (ackAll rT i (ks.take m)) vT aT) (fun v _ => ks.length - (intOf v).toNat)
    case atStart => exact ⟨0, Nat.zero_le _, rfl, SR0⟩
    case round =>
     obtain ⟨m, hm, rfl, SM⟩ := hrel
     by_cases hlm : m < ks.length
     · have hra := Kd.R_step HRK.out (fun b hb hlt => SM.K.2 b hlt (fun e => by have := HPW.out; have := HQW.out; rcases e with e | e <;> omega))
       obtain ⟨ad, rfl, hcell⟩ := C129_cell (Kd.R_reads' hra).2.2 (by omega)
       obtain ⟨y, Hy⟩ : ∃ y, Hid (y = ks.getD m z129) := ⟨_, Lib.hid rfl⟩
       obtain ⟨c0, c1⟩ := hcell m hlm
       rw [← Hy.out] at c0 c1
       have hyv := HVK.out y (by rw [Hy.out, List.getD_eq_getElem?_getD, List.getElem?_eq_getElem hlm]; exact List.getElem_mem hlm)
       obtain ⟨j, HJ⟩ : ∃ n : Nat, Hid (y.f0 = (n : Int)) := ⟨y.f0.toNat, Lib.hid (by omega)⟩
       have hjn : j < 16 := by have := HJ.out; omega
       have hjj : (j : Int) < 16 := by omega
       have HJN : Hid (y.f0.toNat = j) := Lib.hid (by rw [HJ.out]; exact Int.toNat_natCast j)
       obtain ⟨ys, Hys⟩ : ∃ x, Hid (x = y.f1) := ⟨_, Lib.hid rfl⟩
       rw [HJ.out] at c0
       rw [← Hys.out] at c1
       clear hra hcell hyv
       obtain ⟨rA, HrA⟩ : ∃ r', Hid (r' = ackAll rT i (ks.take m)) := ⟨_, Lib.hid rfl⟩
       rw [← HrA.out] at SM
       have HDB : Hid (DbOk rA.db) := Lib.hid (by rw [HrA.out, (ackAll_same i (ks.take m) rT).1]; exact HIM.out.1.ok.db)
       go_upto_region 16 with (fail)
       have hb5 := below_alloc (Below.refl wr.heap.size wr) (.cells #[.int .i64 j, .int .i64 ys] 129)
       have S5 := SM.below hb5
       have HY5 := Lib.hid (blk_alloc wr (.cells #[.int .i64 j, .int .i64 ys] 129))
       clear hb5 c0 c1
       obtain ⟨gy, Hgy⟩ : ∃ g, Hid (g = wr.heap.size) := ⟨_, Lib.hid rfl⟩
       rw [← Hgy.out] at HY5
       rw [← Hgy.out]
       generalize wr.alloc (.cells #[.int .i64 j, .int .i64 ys] 129) = w5 at S5 HY5 ⊢
       cases hh : rA.db.2 j with
       | false =>
        have HH := Lib.hid hh
        clear hh
        have HGET := Lib.hid (fun (W : World) (hb : Below w5.heap.size w5 W) => Get_no q rA.db j W hjn (Lib.hid (S5.below hb).D) HH.out)
        have Bq := Lib.hid (below_drew (Below.refl w5.heap.size w5))
        have hpl : p < w5.drew.heap.size := S5.C.lt
        have hyl : gy < w5.drew.heap.size := blk_lt HY5.out
        have s0 : w5.drew.cell? ⟨p, 3, none⟩ = some (.pointer (some ⟨q, 0, none⟩)) := S5.C.ids.2.2.2
        have s1 : w5.drew.cell? ⟨gy, 0, none⟩ = some (.int .i64 j) := blk_cell HY5.out 0
        refine start_ (n := 13) (S := fun w' => w'.cell? ⟨p, 3, none⟩ = some (.pointer (some ⟨q, 0, none⟩)) ∧ w'.cell? ⟨gy, 0, none⟩ = some (.int .i64 j)) (ds := [11]) #[false, false, false, false, false, false, false, false, false, false, false, false, false] (by kernel_rfl) rfl rfl ⟨s0, s1⟩ (fun hHeld => ?_)
        generalize w5.drew = wd at HGET Bq hpl hyl s0 s1 hHeld ⊢
        refine pure_ (i := 0) (N := some 59) (v := ?_) (a' := ?_) #[true, false, false, false, false, false, false, false, false, false, false, false, false] rfl rfl (by kernel_rfl) (fun _ _ _ h => h) (Or.inl ⟨by rfl, ?_⟩) ?_ ?_
        rotate_left
        · intro w'
          go_simp
          with_reducible rfl
        rotate_left
        · simp only [Act.put, List.setIfInBounds_toArray, List.set_cons_zero, List.set_cons_succ, i64_w, i32_w]
          rfl
        refine pure_ (i := 1) (N := some 60) (v := ?_) (a' := ?_) #[true, true, false, false, false, false, false, false, false, false, false, false, false] rfl rfl (by kernel_rfl) (fun _ _ _ h => h) (Or.inl ⟨by rfl, ?_⟩) ?_ ?_
        rotate_left
        · intro w'
          go_simp
          with_reducible rfl
        rotate_left
        · simp only [Act.put, List.setIfInBounds_toArray, List.set_cons_zero, List.set_cons_succ, i64_w, i32_w]
          rfl
        refine pure_ (i := 2) (N := some 61) (v := ?_) (a' := ?_) #[true, true, true, false, false, false, false, false, false, false, false, false, false] rfl rfl (by kernel_rfl) (fun _ _ _ h => h) (Or.inl ⟨by rfl, ?_⟩) ?_ ?_
        rotate_left
        · intro w'
          go_simp
          with_reducible rfl
        rotate_left
        · simp only [Act.put, List.setIfInBounds_toArray, List.set_cons_zero, List.set_cons_succ, i64_w, i32_w]
          rfl
        refine pure_ (i := 4) (N := some 63) (v := ?_) (a' := ?_) #[true, true, true, false, true, false, false, false, false, false, false, false, false] rfl rfl (by kernel_rfl) (fun _ _ _ h => h) (Or.inl ⟨by rfl, ?_⟩) ?_ ?_
        rotate_left
        · intro w'
          go_simp
          with_reducible rfl
        rotate_left
        · simp only [Act.put, List.setIfInBounds_toArray, List.set_cons_zero, List.set_cons_succ, i64_w, i32_w]
          rfl
        refine take_ (i := 3) (N := some 62) (v := ?_) (a' := ?_) #[true, true, true, true, true, false, false, false, false, false, false, false, false] rfl rfl (by kernel_rfl) (fun _ _ _ h => h) (Or.inl ⟨by rfl, ?_⟩) hHeld ?_ ?_
        rotate_left
        · rintro w' ⟨s0, s1⟩
          go_simp
          with_reducible rfl
        rotate_left
        · simp only [Act.put, List.setIfInBounds_toArray, List.set_cons_zero, List.set_cons_succ, i64_w, i32_w]
          rfl
        refine take_ (i := 5) (N := some 64) (v := ?_) (a' := ?_) #[true, true, true, true, true, true, false, false, false, false, false, false, false] rfl rfl (by kernel_rfl) (fun _ _ _ h => h) (Or.inl ⟨by rfl, ?_⟩) hHeld ?_ ?_
        rotate_left
        · rintro w' ⟨s0, s1⟩
          go_simp
          with_reducible rfl
        rotate_left
        · simp only [Act.put, List.setIfInBounds_toArray, List.set_cons_zero, List.set_cons_succ, i64_w, i32_w]
          rfl
        refine join_ (σ := Nat) 2 #[true, true, true, true, true, true, true, true, true, true, true, false, false] (fun s => [(65, .tuple #[.agg #[.int .i64 0, .int .i64 0, .int .i64 0, .slice none 0 0], .int .i64 4]), (58, .tuple #[.agg #[.int .i64 0, .int .i64 0, .int .i64 0, .slice none 0 0], .int .i64 4]), (66, .agg #[.int .i64 0, .int .i64 0, .int .i64 0, .slice none 0 0]), (67, .int .i64 4), (15, .pointer (some ⟨s, 0, none⟩))]) (fun s w' => Hid (Below w5.heap.size w5 w') ∧ Hid (w'.heap[s]? = some (.cells #[.int .i64 0, .int .i64 0, .int .i64 0, .slice none 0 0] 24 (0, 0))) ∧ Hid (w5.heap.size ≤ s)) ?_ ?_
        rotate_left
        · intro hCont
          refine two_ (i := 6) (j := 10) (Ni := some 65) (Nj := some 15) #[true, true, true, true, true, true, true, false, false, false, false, false, false] #[true, true, true, true, true, true, false, false, false, false, true, false, false] rfl rfl rfl rfl (by kernel_rfl) (by decide) (by decide) (fun K hK => ?_) (fun K hK => ?_)
          · skip
            refine goes_ Try.func76 (by kernel_rfl) rfl #[.pointer (some ⟨q, 0, none⟩), .int .i64 j] (by rfl) rfl rfl (by simp only [List.map_toArray, List.map_cons, List.map_nil]; rfl) ?_
            with_reducible refine (HGET.out _ Bq.out).mono ?_
            rintro e w8 ⟨rfl, hb5⟩
            refine ⟨_, rfl, ?_⟩
            have Bq := Lib.hid (below_self Bq.out hb5)
            clear hb5 s0 s1
            have s0 := (S5.below Bq.out).C.ids.2.2.2
            have s1 := blk_cell (blk_keep Bq.out HY5.out) 0
            refine hK.out _ _ ⟨s0, s1⟩ (fun hHeld => ?_)
            clear hK K
            refine norm_ (a' := ?_) ?_ ?_
            rotate_left
            · show Act.put _ (some 65) _ = _
              simp only [Act.put, List.setIfInBounds_toArray, List.set_cons_zero, List.set_cons_succ, i64_w, i32_w]
              rfl
            refine pure_ (i := 7) (N := some 58) (v := ?_) (a' := ?_) #[true, true, true, true, true, true, true, true, false, false, false, false, false] rfl rfl (by kernel_rfl) (fun _ _ _ h => h) (Or.inl ⟨by rfl, ?_⟩) ?_ ?_
            rotate_left
            · intro w'
              go_simp
              with_reducible rfl
            rotate_left
            · simp only [Act.put, List.setIfInBounds_toArray, List.set_cons_zero, List.set_cons_succ, i64_w, i32_w]
              rfl
            refine pure_ (i := 8) (N := some 66) (v := ?_) (a' := ?_) #[true, true, true, true, true, true, true, true, true, false, false, false, false] rfl rfl (by kernel_rfl) (fun _ _ _ h => h) (Or.inl ⟨by rfl, ?_⟩) ?_ ?_
            rotate_left
            · intro w'
              go_simp
              with_reducible rfl
            rotate_left
            · simp only [Act.put, List.setIfInBounds_toArray, List.set_cons_zero, List.set_cons_succ, i64_w, i32_w]
              rfl
            refine pure_ (i := 9) (N := some 67) (v := ?_) (a' := ?_) #[true, true, true, true, true, true, true, true, true, true, false, false, false] rfl rfl (by kernel_rfl) (fun _ _ _ h => h) (Or.inl ⟨by rfl, ?_⟩) ?_ ?_
            rotate_left
            · intro w'
              go_simp
              with_reducible rfl
            rotate_left
            · simp only [Act.put, List.setIfInBounds_toArray, List.set_cons_zero, List.set_cons_succ, i64_w, i32_w]
              rfl
            refine one_ (i := 10) (N := some 15) #[true, true, true, true, true, true, true, true, true, true, true, false, false] rfl rfl (by kernel_rfl) (by decide) (fun K hK => ?_)
            refine value_ (w1 := ?_) (v := ?_) (by rfl) rfl ?_ ?_
            rotate_left 2
            · go_simp
              constructor
              · rfl
              · rfl
            have hbe := below_alloc (Below.refl (w8).heap.size w8) (.cells #[.int .i64 0, .int .i64 0, .int .i64 0, .slice none 0 0] 24)
            have HGS := Lib.hid (show w5.heap.size ≤ (w8).heap.size from Bq.out.size)
            have Bq := Lib.hid (below_self Bq.out hbe)
            have HGq := Lib.hid (blk_alloc w8 (.cells #[.int .i64 0, .int .i64 0, .int .i64 0, .slice none 0 0] 24))
            clear hbe s0 s1
            have s0 := (S5.below Bq.out).C.ids.2.2.2
            have s1 := blk_cell (blk_keep Bq.out HY5.out) 0
            refine hK.out _ _ ⟨s0, s1⟩ (fun hHeld => ?_)
            clear hK K
            refine norm_ (a' := ?_) ?_ ?_
            rotate_left
            · show Act.put _ (some 15) _ = _
              simp only [Act.put, List.setIfInBounds_toArray, List.set_cons_zero, List.set_cons_succ, i64_w, i32_w]
              rfl
            exact norm_ (by simp only [putAll, Act.put, List.setIfInBounds_toArray, List.set_cons_zero, List.set_cons_succ]) (hCont w8.heap.size _ ⟨Bq, HGq, HGS⟩)
          · skip
            refine value_ (w1 := ?_) (v := ?_) (by rfl) rfl ?_ ?_
            rotate_left 2
            · go_simp
              constructor
              · rfl
              · rfl
            have hbe := below_alloc (Below.refl (wd).heap.size wd) (.cells #[.int .i64 0, .int .i64 0, .int .i64 0, .slice none 0 0] 24)
            have HGS := Lib.hid (show w5.heap.size ≤ (wd).heap.size from Bq.out.size)
            have Bq := Lib.hid (below_self Bq.out hbe)
            have HGq := Lib.hid (blk_alloc wd (.cells #[.int .i64 0, .int .i64 0, .int .i64 0, .slice none 0 0] 24))
            clear hbe s0 s1
            have s0 := (S5.below Bq.out).C.ids.2.2.2
            have s1 := blk_cell (blk_keep Bq.out HY5.out) 0
            refine hK.out _ _ ⟨s0, s1⟩ (fun hHeld => ?_)
            clear hK K
            refine norm_ (a' := ?_) ?_ ?_
            rotate_left
            · show Act.put _ (some 15) _ = _
              simp only [Act.put, List.setIfInBounds_toArray, List.set_cons_zero, List.set_cons_succ, i64_w, i32_w]
              rfl
            refine one_ (i := 6) (N := some 65) #[true, true, true, true, true, true, true, false, false, false, true, false, false] rfl rfl (by kernel_rfl) (by decide) (fun K hK => ?_)
            refine goes_ Try.func76 (by kernel_rfl) rfl #[.pointer (some ⟨q, 0, none⟩), .int .i64 j] (by rfl) rfl rfl (by simp only [List.map_toArray, List.map_cons, List.map_nil]; rfl) ?_
            with_reducible refine (HGET.out _ Bq.out).mono ?_
            rintro e w8 ⟨rfl, hb5⟩
            refine ⟨_, rfl, ?_⟩
            have Bq := Lib.hid (below_self Bq.out hb5)
            have HGq := Lib.hid (blk_keep hb5 HGq.out)
            clear hb5 s0 s1
            have s0 := (S5.below Bq.out).C.ids.2.2.2
            have s1 := blk_cell (blk_keep Bq.out HY5.out) 0
            refine hK.out _ _ ⟨s0, s1⟩ (fun hHeld => ?_)
            clear hK K
            refine norm_ (a' := ?_) ?_ ?_
            rotate_left
            · show Act.put _ (some 65) _ = _
              simp only [Act.put, List.setIfInBounds_toArray, List.set_cons_zero, List.set_cons_succ, i64_w, i32_w]
              rfl
            refine pure_ (i := 7) (N := some 58) (v := ?_) (a' := ?_) #[true, true, true, true, true, true, true, true, false, false, true, false, false] rfl rfl (by kernel_rfl) (fun _ _ _ h => h) (Or.inl ⟨by rfl, ?_⟩) ?_ ?_
            rotate_left
            · intro w'
              go_simp
              with_reducible rfl
            rotate_left
            · simp only [Act.put, List.setIfInBounds_toArray, List.set_cons_zero, List.set_cons_succ, i64_w, i32_w]
              rfl
            refine pure_ (i := 8) (N := some 66) (v := ?_) (a' := ?_) #[true, true, true, true, true, true, true, true, true, false, true, false, false] rfl rfl (by kernel_rfl) (fun _ _ _ h => h) (Or.inl ⟨by rfl, ?_⟩) ?_ ?_
            rotate_left
            · intro w'
              go_simp
              with_reducible rfl
            rotate_left
            · simp only [Act.put, List.setIfInBounds_toArray, List.set_cons_zero, List.set_cons_succ, i64_w, i32_w]
              rfl
            refine pure_ (i := 9) (N := some 67) (v := ?_) (a' := ?_) #[true, true, true, true, true, true, true, true, true, true, true, false, false] rfl rfl (by kernel_rfl) (fun _ _ _ h => h) (Or.inl ⟨by rfl, ?_⟩) ?_ ?_
            rotate_left
            · intro w'
              go_simp
              with_reducible rfl
            rotate_left
            · simp only [Act.put, List.setIfInBounds_toArray, List.set_cons_zero, List.set_cons_succ, i64_w, i32_w]
              rfl
            exact norm_ (by simp only [putAll, Act.put, List.setIfInBounds_toArray, List.set_cons_zero, List.set_cons_succ]) (hCont wd.heap.size _ ⟨Bq, HGq, HGS⟩)
        rintro gx w6 ⟨Bq, HGq, HGS⟩
        have hHeld : w6.cell? ⟨p, 3, none⟩ = some (.pointer (some ⟨q, 0, none⟩)) ∧ w6.cell? ⟨gy, 0, none⟩ = some (.int .i64 j) := ⟨(S5.below Bq.out).C.ids.2.2.2, blk_cell (blk_keep Bq.out HY5.out) 0⟩
        have hxl := blk_lt HGq.out
        obtain ⟨z0, z1, z2, z3, zf⟩ := blk_cells4 HGq.out
        try dsimp only at hxl z0 z1 z2 z3 zf
        refine norm_ (a' := ?_) ?_ ?_
        rotate_left
        · simp only [putAll, Act.put, List.setIfInBounds_toArray, List.set_cons_zero, List.set_cons_succ]
          rfl
        refine last_ (i := 11) (N := none) #[true, true, true, true, true, true, true, true, true, true, true, true, false] rfl rfl (by kernel_rfl) (by decide) (fun K hK => ?_)
        refine skip_ (w1 := ?_) (by rfl) rfl ?_ ?_
        rotate_left
        · go_simp
          rfl
        refine hK.out _ _ ?_
        clear hK K
        refine pure_ (i := 12) (N := some 16) (v := ?_) (a' := ?_) #[true, true, true, true, true, true, true, true, true, true, true, true, true] rfl rfl (by kernel_rfl) (fun _ _ _ h => h) (Or.inl ⟨by rfl, ?_⟩) ?_ ?_
        rotate_left
        · intro w'
          go_simp
          with_reducible rfl
        rotate_left
        · simp only [Act.put, List.setIfInBounds_toArray, List.set_cons_zero, List.set_cons_succ, i64_w, i32_w]
          rfl
        refine done_ (by kernel_rfl) ?_
        have hb7 := sets4_below Bq.out HGS.out (.int .i64 0) (.int .i64 0) (.int .i64 0) (.slice none 0 0)
        have hG7 := sets4_blk (x := .int .i64 0) (y := .int .i64 0) (z := .int .i64 0) (u := .slice none 0 0) HGq.out
        try dsimp only at hb7 hG7 ⊢
        clear hxl z0 z1 z2 z3 zf s0 s1 hpl hyl
        generalize (((w6.setCell ⟨gx, 0, none⟩ (.int .i64 0)).setCell ⟨gx, 1, none⟩ (.int .i64 0)).setCell ⟨gx, 2, none⟩ (.int .i64 0)).setCell ⟨gx, 3, none⟩ (.slice none 0 0) = w7 at hb7 hG7 ⊢
        have S7 := S5.below hb7
        have HY7 := Lib.hid (blk_keep hb7 HY5.out)
        have HG7 := Lib.hid hG7
        clear hb7 hG7
        have HNO : Hid (¬ (rA.db.2 y.f0.toNat = true ∧ (rA.db.1 y.f0.toNat).f1 = y.f1 ∧ (rA.port i).send y.f0.toNat = false)) := Lib.hid (fun h => by have := h.1; rw [HJN.out, HH.out] at this; cases this)
        rw [HrA.out] at HNO
        have hpl := S7.C.lt
        have hpf := S7.C.free
        have y0 := blk_cell HY7.out 0
        have y1 := blk_cell HY7.out 1
        have yf := blk_free HY7.out
        have hyl := blk_lt HY7.out
        obtain ⟨p0, p1, p2, p3, pf⟩ := blk_cells4 HG7.out
        have hgl := blk_lt HG7.out
        obtain ⟨_, sdc⟩ := S7.C.waits hi hjn
        go_upto_region 17 with (fail)
        go_quiet (fail)
        have hdn := pw_below_drewN (Below.refl w7.heap.size w7) nq
        have S9 := S7.below hdn
        have HY9 := Lib.hid (blk_keep hdn HY7.out)
        clear hdn hpl hpf y0 y1 yf hyl p0 p1 p2 p3 pf hgl sdc
        generalize w7.drewN nq = w9 at S9 HY9 ⊢
        have S12 : TS w0 w1 w9 p q i (ackAll rT i (ks.take (m + 1))) vT aT := by rw [ackAll_snoc rT i ks m hlm, ← Hy.out]; unfold ackP; rw [if_neg HNO.out]; rw [HrA.out] at S9; exact S9
        go_wp2_with fail
        go_round
        case rel => exact ⟨m + 1, by omega, by go_num, S12⟩
        case measure => simp [intOf]; omega
       | true =>
        have HH := Lib.hid hh
        clear hh
        have hchk := ((HDB.out j).1 HH.out).1
        have hml := (chk_zero hchk).len
        obtain ⟨mv, Hmv⟩ : ∃ a : S24, Hid (a = rA.db.1 j) := ⟨_, Lib.hid rfl⟩
        rw [← Hmv.out] at hml
        clear hchk
        have HGET := Lib.hid (fun (W : World) (hb : Below w5.heap.size w5 W) => by
         have := Get_yes q rA.db j W hjn (by rw [← Hmv.out]; omega) (Lib.hid (S5.below hb).D) HH.out
         rw [← Hmv.out] at this
         exact this)
        have Bq := Lib.hid (below_drew (Below.refl w5.heap.size w5))
        have hpl : p < w5.drew.heap.size := S5.C.lt
        have hyl : gy < w5.drew.heap.size := blk_lt HY5.out
        have s0 : w5.drew.cell? ⟨p, 3, none⟩ = some (.pointer (some ⟨q, 0, none⟩)) := S5.C.ids.2.2.2
        have s1 : w5.drew.cell? ⟨gy, 0, none⟩ = some (.int .i64 j) := blk_cell HY5.out 0
        refine start_ (n := 13) (S := fun w' => w'.cell? ⟨p, 3, none⟩ = some (.pointer (some ⟨q, 0, none⟩)) ∧ w'.cell? ⟨gy, 0, none⟩ = some (.int .i64 j)) (ds := [11]) #[false, false, false, false, false, false, false, false, false, false, false, false, false] (by kernel_rfl) rfl rfl ⟨s0, s1⟩ (fun hHeld => ?_)
        generalize w5.drew = wd at HGET Bq hpl hyl s0 s1 hHeld ⊢
        refine pure_ (i := 0) (N := some 59) (v := ?_) (a' := ?_) #[true, false, false, false, false, false, false, false, false, false, false, false, false] rfl rfl (by kernel_rfl) (fun _ _ _ h => h) (Or.inl ⟨by rfl, ?_⟩) ?_ ?_
        rotate_left
        · intro w'
          go_simp
          with_reducible rfl
        rotate_left
        · simp only [Act.put, List.setIfInBounds_toArray, List.set_cons_zero, List.set_cons_succ, i64_w, i32_w]
          rfl
        refine pure_ (i := 1) (N := some 60) (v := ?_) (a' := ?_) #[true, true, false, false, false, false, false, false, false, false, false, false, false] rfl rfl (by kernel_rfl) (fun _ _ _ h => h) (Or.inl ⟨by rfl, ?_⟩) ?_ ?_
        rotate_left
        · intro w'
          go_simp
          with_reducible rfl
        rotate_left
        · simp only [Act.put, List.setIfInBounds_toArray, List.set_cons_zero, List.set_cons_succ, i64_w, i32_w]
          rfl
        refine pure_ (i := 2) (N := some 61) (v := ?_) (a' := ?_) #[true, true, true, false, false, false, false, false, false, false, false, false, false] rfl rfl (by kernel_rfl) (fun _ _ _ h => h) (Or.inl ⟨by rfl, ?_⟩) ?_ ?_
        rotate_left
        · intro w'
          go_simp
          with_reducible rfl
        rotate_left
        · simp only [Act.put, List.setIfInBounds_toArray, List.set_cons_zero, List.set_cons_succ, i64_w, i32_w]
          rfl
        refine pure_ (i := 4) (N := some 63) (v := ?_) (a' := ?_) #[true, true, true, false, true, false, false, false, false, false, false, false, false] rfl rfl (by kernel_rfl) (fun _ _ _ h => h) (Or.inl ⟨by rfl, ?_⟩) ?_ ?_
        rotate_left
        · intro w'
          go_simp
          with_reducible rfl
        rotate_left
        · simp only [Act.put, List.setIfInBounds_toArray, List.set_cons_zero, List.set_cons_succ, i64_w, i32_w]
          rfl
        refine take_ (i := 3) (N := some 62) (v := ?_) (a' := ?_) #[true, true, true, true, true, false, false, false, false, false, false, false, false] rfl rfl (by kernel_rfl) (fun _ _ _ h => h) (Or.inl ⟨by rfl, ?_⟩) hHeld ?_ ?_
        rotate_left
        · rintro w' ⟨s0, s1⟩
          go_simp
          with_reducible rfl
        rotate_left
        · simp only [Act.put, List.setIfInBounds_toArray, List.set_cons_zero, List.set_cons_succ, i64_w, i32_w]
          rfl
        refine take_ (i := 5) (N := some 64) (v := ?_) (a' := ?_) #[true, true, true, true, true, true, false, false, false, false, false, false, false] rfl rfl (by kernel_rfl) (fun _ _ _ h => h) (Or.inl ⟨by rfl, ?_⟩) hHeld ?_ ?_
        rotate_left
        · rintro w' ⟨s0, s1⟩
          go_simp
          with_reducible rfl
        rotate_left
        · simp only [Act.put, List.setIfInBounds_toArray, List.set_cons_zero, List.set_cons_succ, i64_w, i32_w]
          rfl
        refine join_ (σ := Option Addr × Nat × Nat) 2 #[true, true, true, true, true, true, true, true, true, true, true, false, false] (fun s => [(65, .tuple #[.agg #[.int .i64 mv.f0, .int .i64 mv.f1, .int .i64 mv.f2, .slice s.1 mv.f3.length s.2.1], .int .i64 0]), (58, .tuple #[.agg #[.int .i64 mv.f0, .int .i64 mv.f1, .int .i64 mv.f2, .slice s.1 mv.f3.length s.2.1], .int .i64 0]), (66, .agg #[.int .i64 mv.f0, .int .i64 mv.f1, .int .i64 mv.f2, .slice s.1 mv.f3.length s.2.1]), (67, .int .i64 0), (15, .pointer (some ⟨s.2.2, 0, none⟩))]) (fun s w' => Hid (Below w5.heap.size w5 w') ∧ Hid (w'.heap[s.2.2]? = some (.cells #[.int .i64 0, .int .i64 0, .int .i64 0, .slice none 0 0] 24 (0, 0))) ∧ Hid (w5.heap.size ≤ s.2.2)) ?_ ?_
        rotate_left
        · intro hCont
          refine two_ (i := 6) (j := 10) (Ni := some 65) (Nj := some 15) #[true, true, true, true, true, true, true, false, false, false, false, false, false] #[true, true, true, true, true, true, false, false, false, false, true, false, false] rfl rfl rfl rfl (by kernel_rfl) (by decide) (by decide) (fun K hK => ?_) (fun K hK => ?_)
          · skip
            refine goes_ Try.func76 (by kernel_rfl) rfl #[.pointer (some ⟨q, 0, none⟩), .int .i64 j] (by rfl) rfl rfl (by simp only [List.map_toArray, List.map_cons, List.map_nil]; rfl) ?_
            with_reducible refine (HGET.out _ Bq.out).mono ?_
            rintro e w8 ⟨A5, c5, rfl, hl5, hR5, hb5⟩
            refine ⟨_, rfl, ?_⟩
            have Bq := Lib.hid (below_self Bq.out hb5)
            clear hl5 hR5 hb5 s0 s1
            have s0 := (S5.below Bq.out).C.ids.2.2.2
            have s1 := blk_cell (blk_keep Bq.out HY5.out) 0
            refine hK.out _ _ ⟨s0, s1⟩ (fun hHeld => ?_)
            clear hK K
            refine norm_ (a' := ?_) ?_ ?_
            rotate_left
            · show Act.put _ (some 65) _ = _
              simp only [Act.put, List.setIfInBounds_toArray, List.set_cons_zero, List.set_cons_succ, i64_w, i32_w]
              rfl
            refine pure_ (i := 7) (N := some 58) (v := ?_) (a' := ?_) #[true, true, true, true, true, true, true, true, false, false, false, false, false] rfl rfl (by kernel_rfl) (fun _ _ _ h => h) (Or.inl ⟨by rfl, ?_⟩) ?_ ?_
            rotate_left
            · intro w'
              go_simp
              with_reducible rfl
            rotate_left
            · simp only [Act.put, List.setIfInBounds_toArray, List.set_cons_zero, List.set_cons_succ, i64_w, i32_w]
              rfl
            refine pure_ (i := 8) (N := some 66) (v := ?_) (a' := ?_) #[true, true, true, true, true, true, true, true, true, false, false, false, false] rfl rfl (by kernel_rfl) (fun _ _ _ h => h) (Or.inl ⟨by rfl, ?_⟩) ?_ ?_
            rotate_left
            · intro w'
              go_simp
              with_reducible rfl
            rotate_left
            · simp only [Act.put, List.setIfInBounds_toArray, List.set_cons_zero, List.set_cons_succ, i64_w, i32_w]
              rfl
            refine pure_ (i := 9) (N := some 67) (v := ?_) (a' := ?_) #[true, true, true, true, true, true, true, true, true, true, false, false, false] rfl rfl (by kernel_rfl) (fun _ _ _ h => h) (Or.inl ⟨by rfl, ?_⟩) ?_ ?_
            rotate_left
            · intro w'
              go_simp
              with_reducible rfl
            rotate_left
            · simp only [Act.put, List.setIfInBounds_toArray, List.set_cons_zero, List.set_cons_succ, i64_w, i32_w]
              rfl
            refine one_ (i := 10) (N := some 15) #[true, true, true, true, true, true, true, true, true, true, true, false, false] rfl rfl (by kernel_rfl) (by decide) (fun K hK => ?_)
            refine value_ (w1 := ?_) (v := ?_) (by rfl) rfl ?_ ?_
            rotate_left 2
            · go_simp
              constructor
              · rfl
              · rfl
            have hbe := below_alloc (Below.refl (w8).heap.size w8) (.cells #[.int .i64 0, .int .i64 0, .int .i64 0, .slice none 0 0] 24)
            have HGS := Lib.hid (show w5.heap.size ≤ (w8).heap.size from Bq.out.size)
            have Bq := Lib.hid (below_self Bq.out hbe)
            have HGq := Lib.hid (blk_alloc w8 (.cells #[.int .i64 0, .int .i64 0, .int .i64 0, .slice none 0 0] 24))
            clear hbe s0 s1
            have s0 := (S5.below Bq.out).C.ids.2.2.2
            have s1 := blk_cell (blk_keep Bq.out HY5.out) 0
            refine hK.out _ _ ⟨s0, s1⟩ (fun hHeld => ?_)
            clear hK K
            refine norm_ (a' := ?_) ?_ ?_
            rotate_left
            · show Act.put _ (some 15) _ = _
              simp only [Act.put, List.setIfInBounds_toArray, List.set_cons_zero, List.set_cons_succ, i64_w, i32_w]
              rfl
            exact norm_ (by simp only [putAll, Act.put, List.setIfInBounds_toArray, List.set_cons_zero, List.set_cons_succ]) (hCont (A5, c5, w8.heap.size) _ ⟨Bq, HGq, HGS⟩)
          · skip
            refine value_ (w1 := ?_) (v := ?_) (by rfl) rfl ?_ ?_
            rotate_left 2
            · go_simp
              constructor
              · rfl
              · rfl
            have hbe := below_alloc (Below.refl (wd).heap.size wd) (.cells #[.int .i64 0, .int .i64 0, .int .i64 0, .slice none 0 0] 24)
            have HGS := Lib.hid (show w5.heap.size ≤ (wd).heap.size from Bq.out.size)
            have Bq := Lib.hid (below_self Bq.out hbe)
            have HGq := Lib.hid (blk_alloc wd (.cells #[.int .i64 0, .int .i64 0, .int .i64 0, .slice none 0 0] 24))
            clear hbe s0 s1
            have s0 := (S5.below Bq.out).C.ids.2.2.2
            have s1 := blk_cell (blk_keep Bq.out HY5.out) 0
            refine hK.out _ _ ⟨s0, s1⟩ (fun hHeld => ?_)
            clear hK K
            refine norm_ (a' := ?_) ?_ ?_
            rotate_left
            · show Act.put _ (some 15) _ = _
              simp only [Act.put, List.setIfInBounds_toArray, List.set_cons_zero, List.set_cons_succ, i64_w, i32_w]
              rfl
            refine one_ (i := 6) (N := some 65) #[true, true, true, true, true, true, true, false, false, false, true, false, false] rfl rfl (by kernel_rfl) (by decide) (fun K hK => ?_)
            refine goes_ Try.func76 (by kernel_rfl) rfl #[.pointer (some ⟨q, 0, none⟩), .int .i64 j] (by rfl) rfl rfl (by simp only [List.map_toArray, List.map_cons, List.map_nil]; rfl) ?_
            with_reducible refine (HGET.out _ Bq.out).mono ?_
            rintro e w8 ⟨A5, c5, rfl, hl5, hR5, hb5⟩
            refine ⟨_, rfl, ?_⟩
            have Bq := Lib.hid (below_self Bq.out hb5)
            have HGq := Lib.hid (blk_keep hb5 HGq.out)
            clear hl5 hR5 hb5 s0 s1
            have s0 := (S5.below Bq.out).C.ids.2.2.2
            have s1 := blk_cell (blk_keep Bq.out HY5.out) 0
            refine hK.out _ _ ⟨s0, s1⟩ (fun hHeld => ?_)
            clear hK K
            refine norm_ (a' := ?_) ?_ ?_
            rotate_left
            · show Act.put _ (some 65) _ = _
              simp only [Act.put, List.setIfInBounds_toArray, List.set_cons_zero, List.set_cons_succ, i64_w, i32_w]
              rfl
            refine pure_ (i := 7) (N := some 58) (v := ?_) (a' := ?_) #[true, true, true, true, true, true, true, true, false, false, true, false, false] rfl rfl (by kernel_rfl) (fun _ _ _ h => h) (Or.inl ⟨by rfl, ?_⟩) ?_ ?_
            rotate_left
            · intro w'
              go_simp
              with_reducible rfl
            rotate_left
            · simp only [Act.put, List.setIfInBounds_toArray, List.set_cons_zero, List.set_cons_succ, i64_w, i32_w]
              rfl
            refine pure_ (i := 8) (N := some 66) (v := ?_) (a' := ?_) #[true, true, true, true, true, true, true, true, true, false, true, false, false] rfl rfl (by kernel_rfl) (fun _ _ _ h => h) (Or.inl ⟨by rfl, ?_⟩) ?_ ?_
            rotate_left
            · intro w'
              go_simp
              with_reducible rfl
            rotate_left
            · simp only [Act.put, List.setIfInBounds_toArray, List.set_cons_zero, List.set_cons_succ, i64_w, i32_w]
              rfl
            refine pure_ (i := 9) (N := some 67) (v := ?_) (a' := ?_) #[true, true, true, true, true, true, true, true, true, true, true, false, false] rfl rfl (by kernel_rfl) (fun _ _ _ h => h) (Or.inl ⟨by rfl, ?_⟩) ?_ ?_
            rotate_left
            · intro w'
              go_simp
              with_reducible rfl
            rotate_left
            · simp only [Act.put, List.setIfInBounds_toArray, List.set_cons_zero, List.set_cons_succ, i64_w, i32_w]
              rfl
            exact norm_ (by simp only [putAll, Act.put, List.setIfInBounds_toArray, List.set_cons_zero, List.set_cons_succ]) (hCont (A5, c5, wd.heap.size) _ ⟨Bq, HGq, HGS⟩)
        rintro ⟨A5, c5, gx⟩ w6 ⟨Bq, HGq, HGS⟩
        have hHeld : w6.cell? ⟨p, 3, none⟩ = some (.pointer (some ⟨q, 0, none⟩)) ∧ w6.cell? ⟨gy, 0, none⟩ = some (.int .i64 j) := ⟨(S5.below Bq.out).C.ids.2.2.2, blk_cell (blk_keep Bq.out HY5.out) 0⟩
        have hxl := blk_lt HGq.out
        obtain ⟨z0, z1, z2, z3, zf⟩ := blk_cells4 HGq.out
        try dsimp only at hxl z0 z1 z2 z3 zf
        refine norm_ (a' := ?_) ?_ ?_
        rotate_left
        · simp only [putAll, Act.put, List.setIfInBounds_toArray, List.set_cons_zero, List.set_cons_succ]
          rfl
        refine last_ (i := 11) (N := none) #[true, true, true, true, true, true, true, true, true, true, true, true, false] rfl rfl (by kernel_rfl) (by decide) (fun K hK => ?_)
        refine skip_ (w1 := ?_) (by rfl) rfl ?_ ?_
        rotate_left
        · go_simp
          rfl
        refine hK.out _ _ ?_
        clear hK K
        refine pure_ (i := 12) (N := some 16) (v := ?_) (a' := ?_) #[true, true, true, true, true, true, true, true, true, true, true, true, true] rfl rfl (by kernel_rfl) (fun _ _ _ h => h) (Or.inl ⟨by rfl, ?_⟩) ?_ ?_
        rotate_left
        · intro w'
          go_simp
          with_reducible rfl
        rotate_left
        · simp only [Act.put, List.setIfInBounds_toArray, List.set_cons_zero, List.set_cons_succ, i64_w, i32_w]
          rfl
        refine done_ (by kernel_rfl) ?_
        have hb7 := sets4_below Bq.out HGS.out (.int .i64 mv.f0) (.int .i64 mv.f1) (.int .i64 mv.f2) (.slice A5 mv.f3.length c5)
        have hG7 := sets4_blk (x := .int .i64 mv.f0) (y := .int .i64 mv.f1) (z := .int .i64 mv.f2) (u := .slice A5 mv.f3.length c5) HGq.out
        try dsimp only at hb7 hG7 ⊢
        clear hxl z0 z1 z2 z3 zf s0 s1 hpl hyl
        generalize (((w6.setCell ⟨gx, 0, none⟩ (.int .i64 mv.f0)).setCell ⟨gx, 1, none⟩ (.int .i64 mv.f1)).setCell ⟨gx, 2, none⟩ (.int .i64 mv.f2)).setCell ⟨gx, 3, none⟩ (.slice A5 mv.f3.length c5) = w7 at hb7 hG7 ⊢
        have S7 := S5.below hb7
        have HY7 := Lib.hid (blk_keep hb7 HY5.out)
        have HG7 := Lib.hid hG7
        clear hb7 hG7
        obtain ⟨sd, Hsd⟩ : ∃ x, Hid (x = (rA.port i).send j) := ⟨_, Lib.hid rfl⟩
        by_cases heq : mv.f1 = ys
        · have HEQ := Lib.hid heq
          have d1 : (mv.f1 == ys) = true := by simpa using heq
          clear heq
          cases sd with
          | true =>
           have HNO : Hid (¬ (rA.db.2 y.f0.toNat = true ∧ (rA.db.1 y.f0.toNat).f1 = y.f1 ∧ (rA.port i).send y.f0.toNat = false)) := Lib.hid (fun h => by have := h.2.2; rw [HJN.out, ← Hsd.out] at this; cases this)
           rw [HrA.out] at HNO
           have hpl := S7.C.lt
           have hpf := S7.C.free
           have y0 := blk_cell HY7.out 0
           have y1 := blk_cell HY7.out 1
           have yf := blk_free HY7.out
           have hyl := blk_lt HY7.out
           obtain ⟨p0, p1, p2, p3, pf⟩ := blk_cells4 HG7.out
           have hgl := blk_lt HG7.out
           obtain ⟨_, sdc⟩ := S7.C.waits hi hjn
           rw [← Hsd.out] at sdc
           go_upto_region 17 with (fail)
           go_quiet (fail)
           have hdn := pw_below_drewN (Below.refl w7.heap.size w7) nq
           have S9 := S7.below hdn
           have HY9 := Lib.hid (blk_keep hdn HY7.out)
           clear hdn hpl hpf y0 y1 yf hyl p0 p1 p2 p3 pf hgl sdc
           generalize w7.drewN nq = w9 at S9 HY9 ⊢
           have S12 : TS w0 w1 w9 p q i (ackAll rT i (ks.take (m + 1))) vT aT := by rw [ackAll_snoc rT i ks m hlm, ← Hy.out]; unfold ackP; rw [if_neg HNO.out]; rw [HrA.out] at S9; exact S9
           go_wp2_with fail
           go_round
           case rel => exact ⟨m + 1, by omega, by go_num, S12⟩
           case measure => simp [intOf]; omega
          | false =>
           have HYES : Hid (rA.db.2 y.f0.toNat = true ∧ (rA.db.1 y.f0.toNat).f1 = y.f1 ∧ (rA.port i).send y.f0.toNat = false) := Lib.hid ⟨by rw [HJN.out]; exact HH.out, by rw [HJN.out, ← Hmv.out, HEQ.out, Hys.out], by rw [HJN.out, ← Hsd.out]⟩
           have hpl := S7.C.lt
           have hpf := S7.C.free
           have y0 := blk_cell HY7.out 0
           have y1 := blk_cell HY7.out 1
           have yf := blk_free HY7.out
           have hyl := blk_lt HY7.out
           obtain ⟨p0, p1, p2, p3, pf⟩ := blk_cells4 HG7.out
           have hgl := blk_lt HG7.out
           obtain ⟨_, sdc⟩ := S7.C.waits hi hjn
           rw [← Hsd.out] at sdc
           go_upto_region 17 with (fail)
           go_quiet (fail)
           have hdn := pw_below_drewN (Below.refl w7.heap.size w7) nq
           have S9 := S7.below hdn
           have HY9 := Lib.hid (blk_keep hdn HY7.out)
           clear hdn hpl hpf y0 y1 yf hyl p0 p1 p2 p3 pf hgl sdc
           generalize w7.drewN nq = w9 at S9 HY9 ⊢
           obtain ⟨p0b, _, _, _, _⟩ : w9.cell? ⟨gy, 0, none⟩ = some (.int .i64 j) ∧ True ∧ True ∧ True ∧ True := ⟨blk_cell HY9.out 0, trivial, trivial, trivial, trivial⟩
           go_upto_region 18 with (fail)
           have hbd := below_drew (Below.refl w9.heap.size w9)
           have S10 := S9.below hbd
           have HY10 := Lib.hid (blk_keep hbd HY9.out)
           clear hbd p0b
           have hpl : p < w9.drew.heap.size := S10.C.lt
           have y0 : w9.drew.cell? ⟨gy, 0, none⟩ = some (.int .i64 j) := blk_cell HY10.out 0
           have yf := blk_free HY10.out
           have hyl := blk_lt HY10.out
           have hpf := S10.C.free
           have ct := (S10.C.waits hi hjn).1
           refine start_ (n := 10) (S := fun w' => w'.cell? ⟨gy, 0, none⟩ = some (.int .i64 j)) (ds := [9]) #[false, false, false, false, false, false, false, false, false, false] (by kernel_rfl) rfl rfl (y0) (fun hHeld => ?_)
           generalize w9.drew = wd at S10 HY10 hpl y0 yf hyl hpf ct hHeld ⊢
           refine pure_ (i := 0) (N := some 90) (v := ?_) (a' := ?_) #[true, false, false, false, false, false, false, false, false, false] rfl rfl (by kernel_rfl) (fun _ _ _ h => h) (Or.inl ⟨by rfl, ?_⟩) ?_ ?_
           rotate_left
           · intro w'
             go_simp
             with_reducible rfl
           rotate_left
           · simp only [Act.put, List.setIfInBounds_toArray, List.set_cons_zero, List.set_cons_succ, i64_w, i32_w]
             rfl
           refine pure_ (i := 1) (N := some 91) (v := ?_) (a' := ?_) #[true, true, false, false, false, false, false, false, false, false] rfl rfl (by kernel_rfl) (fun _ _ _ h => h) (Or.inl ⟨by rfl, ?_⟩) ?_ ?_
           rotate_left
           · intro w'
             go_simp
             with_reducible rfl
           rotate_left
           · simp only [Act.put, List.setIfInBounds_toArray, List.set_cons_zero, List.set_cons_succ, i64_w, i32_w]
             rfl
           refine pure_ (i := 2) (N := some 92) (v := ?_) (a' := ?_) #[true, true, true, false, false, false, false, false, false, false] rfl rfl (by kernel_rfl) (fun _ _ _ h => h) (Or.inl ⟨by rfl, ?_⟩) ?_ ?_
           rotate_left
           · intro w'
             go_simp
             with_reducible rfl
           rotate_left
           · simp only [Act.put, List.setIfInBounds_toArray, List.set_cons_zero, List.set_cons_succ, i64_w, i32_w]
             rfl
           refine pure_ (i := 4) (N := some 94) (v := ?_) (a' := ?_) #[true, true, true, false, true, false, false, false, false, false] rfl rfl (by kernel_rfl) (fun _ _ _ h => h) (Or.inl ⟨by rfl, ?_⟩) ?_ ?_
           rotate_left
           · intro w'
             go_simp
             with_reducible rfl
           rotate_left
           · simp only [Act.put, List.setIfInBounds_toArray, List.set_cons_zero, List.set_cons_succ, i64_w, i32_w]
             rfl
           refine pure_ (i := 5) (N := some 95) (v := ?_) (a' := ?_) #[true, true, true, false, true, true, false, false, false, false] rfl rfl (by kernel_rfl) (fun _ _ _ h => h) (Or.inl ⟨by rfl, ?_⟩) ?_ ?_
           rotate_left
           · intro w'
             go_simp
             with_reducible rfl
           rotate_left
           · simp only [Act.put, List.setIfInBounds_toArray, List.set_cons_zero, List.set_cons_succ, i64_w, i32_w]
             rfl
           refine pure_ (i := 6) (N := some 96) (v := ?_) (a' := ?_) #[true, true, true, false, true, true, true, false, false, false] rfl rfl (by kernel_rfl) (fun _ _ _ h => h) (Or.inl ⟨by rfl, ?_⟩) ?_ ?_
           rotate_left
           · intro w'
             go_simp
             with_reducible rfl
           rotate_left
           · simp only [Act.put, List.setIfInBounds_toArray, List.set_cons_zero, List.set_cons_succ, i64_w, i32_w]
             rfl
           refine pure_ (i := 7) (N := some 97) (v := ?_) (a' := ?_) #[true, true, true, false, true, true, true, true, false, false] rfl rfl (by kernel_rfl) (fun _ _ _ h => h) (Or.inl ⟨by rfl, ?_⟩) ?_ ?_
           rotate_left
           · intro w'
             go_simp
             with_reducible rfl
           rotate_left
           · simp only [Act.put, List.setIfInBounds_toArray, List.set_cons_zero, List.set_cons_succ, i64_w, i32_w]
             rfl
           refine take_ (i := 3) (N := some 93) (v := ?_) (a' := ?_) #[true, true, true, true, true, true, true, true, false, false] rfl rfl (by kernel_rfl) (fun _ _ _ h => h) (Or.inl ⟨by rfl, ?_⟩) hHeld ?_ ?_
           rotate_left
           · intro w' s0
             go_simp
             with_reducible rfl
           rotate_left
           · simp only [Act.put, List.setIfInBounds_toArray, List.set_cons_zero, List.set_cons_succ, i64_w, i32_w]
             rfl
           refine pure_ (i := 8) (N := some 98) (v := ?_) (a' := ?_) #[true, true, true, true, true, true, true, true, true, false] rfl rfl (by kernel_rfl) (fun _ _ _ h => h) (Or.inl ⟨by rfl, ?_⟩) ?_ ?_
           rotate_left
           · intro w'
             go_simp
             with_reducible rfl
           rotate_left
           · simp only [Act.put, List.setIfInBounds_toArray, List.set_cons_zero, List.set_cons_succ, i64_w, i32_w]
             rfl
           refine last_ (i := 9) (N := none) #[true, true, true, true, true, true, true, true, true, true] rfl rfl (by kernel_rfl) (by decide) (fun K hK => ?_)
           refine skip_ (w1 := ?_) (by rfl) rfl ?_ ?_
           rotate_left
           · go_simp
             rfl
           refine hK.out _ _ ?_
           clear hK K
           refine done_ (by kernel_rfl) ?_
           have hC11 := S10.C.setWait hi hjn 0
           have S11 := S10.keepP hC11 rfl ((KeepBut.refl wd p none).set_ (4 + i * 36 + 3 + j) (.int .i64 0)) (S10.B.setCell (p := ⟨p, 4 + i * 36 + 3 + j, none⟩) HP0.out (.int .i64 0)) HPW1.out
           have S12 : TS w0 w1 (wd.setCell ⟨p, 4 + i * 36 + 3 + j, none⟩ (.int .i64 0)) p q i (ackAll rT i (ks.take (m + 1))) vT aT := by
            rw [ackAll_snoc rT i ks m hlm, ← Hy.out, ← HrA.out]; unfold ackP; rw [if_pos HYES.out, HJN.out]; exact S11
           go_wp2_with fail
           go_round
           case rel => exact ⟨m + 1, by omega, by go_num, S12⟩
           case measure => simp [intOf]; omega
        · have HNE := Lib.hid heq
          have d1 : (mv.f1 == ys) = false := by simpa using heq
          clear heq
          have HNO : Hid (¬ (rA.db.2 y.f0.toNat = true ∧ (rA.db.1 y.f0.toNat).f1 = y.f1 ∧ (rA.port i).send y.f0.toNat = false)) := Lib.hid (fun h => HNE.out (by rw [Hmv.out, Hys.out, ← HJN.out]; exact h.2.1))
          rw [HrA.out] at HNO
          have hpl := S7.C.lt
          have hpf := S7.C.free
          have y0 := blk_cell HY7.out 0
          have y1 := blk_cell HY7.out 1
          have yf := blk_free HY7.out
          have hyl := blk_lt HY7.out
          obtain ⟨p0, p1, p2, p3, pf⟩ := blk_cells4 HG7.out
          have hgl := blk_lt HG7.out
          obtain ⟨_, sdc⟩ := S7.C.waits hi hjn
          rw [← Hsd.out] at sdc
          go_upto_region 17 with (fail)
          go_quiet (fail)
          have hdn := pw_below_drewN (Below.refl w7.heap.size w7) nq
          have S9 := S7.below hdn
          have HY9 := Lib.hid (blk_keep hdn HY7.out)
          clear hdn hpl hpf y0 y1 yf hyl p0 p1 p2 p3 pf hgl sdc
          generalize w7.drewN nq = w9 at S9 HY9 ⊢
          have S12 : TS w0 w1 w9 p q i (ackAll rT i (ks.take (m + 1))) vT aT := by rw [ackAll_snoc rT i ks m hlm, ← Hy.out]; unfold ackP; rw [if_neg HNO.out]; rw [HrA.out] at S9; exact S9
          go_wp2_with fail
          go_round
          case rel => exact ⟨m + 1, by omega, by go_num, S12⟩
          case measure => simp [intOf]; omega
     · have hmk : m = ks.length := by omega
       rw [hmk, List.take_length] at SM
       clear hmk
       obtain ⟨rE, HrE⟩ : ∃ r', Hid (r' = ackAll rT i ks) := ⟨_, Lib.hid rfl⟩
       rw [← HrE.out] at SM
       have HRE : Hid (rE = inR r i l ks) := Lib.hid (by rw [HrE.out, HrT.out]; rfl)
       have HAE : Hid (aT = inA r i l) := Lib.hid HaT.out
       have HDB : Hid (DbOk rE.db) := Lib.hid (by rw [HrE.out, (ackAll_same i ks rT).1]; exact HIM.out.1.ok.db)
       go_wp2_with fail
       refine (sent58 p q w1.heap.size rE (upd noAck i vT) (upd nil129 i aT) wr w0 HDB.out (fun n hn => ?_) (upd_ack i vT SM.R) HPW1.out (Lib.hid SM.C) (Lib.hid SM.D) (Lib.hid SM.B) HP0.out).mono ?_
       · by_cases e : n = i
         · subst e; rw [upd_self]; exact HIM.out.2
         · rw [upd_ne _ _ e]; show 0 ≤ 1000; omega
       rintro e w7 ⟨v, rfl, hR7, hC7, hK7, hB7⟩
       have HR7 := Lib.hid hR7
       have HC7 := Lib.hid hC7
       have HK7 := Lib.hid hK7
       have HB7 := Lib.hid hB7
       clear hR7 hC7 hK7 hB7
       go_wp2_with fail
       go_ret2
       rw [← HRE.out, ← HAE.out]
       have hws : w.heap.size ≤ wr.heap.size := Nat.le_trans HK1.out.1 SM.K.1
       refine ⟨v, rfl, Kd.R_mono (Kd.R_lower HR7.out hws) (fun b hb => Nat.le_trans hws hb), HC7.out, ?_, ?_, HB7.out⟩
       · exact BaseAt.router SM.D SM.C HK7.out
       · exact HK1.out.trans (SM.K.trans (Keep2.of_p q HK7.out))
end Go.Proofs.Ytaneaabmgnanbaa.M
end
section
namespace Go.Proofs.Ytaneaabmgnanbaa.M
open Go.RowKit Go.Proofs.YtaneaabmgnanbaaW.PrintWords Go.Proofs.YtaneaabmgnanbaaW.PrintLast Go.Proofs.YtaneaabmgnanbaaW.PrintMore Go.Proofs.Ytaneaabmgnanbaa.PAdvBack
open Go.Proofs.Ytaneaabmgnanbaa.Rd (S129 z129 k129 k129_open k129_mk k129_mkM info129 flood_read.f)
set_option linter.unusedVariables false
set_option linter.unusedSimpArgs false
attribute [local go_sem] max2_int min2_int max_two min_two
theorem List34 (p q : Nat) (r : Rt) (w : World) (hd : DbOk r.db) (H : Hid (RtC w p q r noAck)) (HD : Hid (BaseAt w q r.db.1 r.db.2)) : Calls Try.prog 34 #[.pointer (some ⟨p, 0, none⟩)] w fun e w' => ∃ v, e = .returned v ∧ Kd.R k24 24 w' w.heap.size (fun k => w.heap.size ≤ k) v (listOf r.db) ∧ Below w.heap.size w w' := by
 have hu106 := Try.underlying106
 have hlt := H.out.lt
 obtain ⟨_, _, _, cb⟩ := H.out.ids
 have HOK := Lib.hid hd
 clear hd
 go_enter Try.func34, Try.ntmps34
 go_wp2_with fail
 refine (List27 q r.db HOK.out w HD).mono ?_
 rintro e w1 ⟨v, rfl, hR, hb⟩
 have HR := Lib.hid hR
 have HB := Lib.hid hb
 clear hR hb
 go_wp2_with fail
 go_ret
 exact ⟨v, rfl, HR.out, HB.out⟩
theorem blk_cells2' {w : World} {g : Nat} {a b : Value} {t : Nat} (h : w.heap[g]? = some (.cells #[a, b] t (0, 0))) :
 w.cell? ⟨g, 0, none⟩ = some a ∧ w.cell? ⟨g, 1, none⟩ = some b ∧ ∀ i, w.frozen? ⟨g, i, none⟩ = false := ⟨blk_cell h 0, blk_cell h 1, blk_free h⟩
set_option maxHeartbeats 1000000 in
set_option maxRecDepth 100000 in
theorem Graph39 (p q : Nat) (r : Rt) (w : World) (hd : DbOk r.db) (H : Hid (RtC w p q r noAck)) (HD : Hid (BaseAt w q r.db.1 r.db.2)) : Calls Try.prog 39 #[.pointer (some ⟨p, 0, none⟩)] w fun e w' => ∃ A c, e = .returned (.agg #[.int .i64 16, .slice A (edgesOf r.db 16).length c]) ∧ Below w.heap.size w w' := by
 have hu106 := Try.underlying106
 have hu46 := Try.underlying46
 have hlt := H.out.lt
 obtain ⟨_, _, _, cb⟩ := H.out.ids
 have HOK := Lib.hid hd
 have hb1 := below_alloc (Below.refl w.heap.size w) (.cells #[.int .i64 0, .slice none 0 0] 46)
 have HX := Lib.hid (blk_alloc w (.cells #[.int .i64 0, .slice none 0 0] 46))
 have HB1 := Lib.hid hb1
 clear hd hb1
 go_enter Try.func39, Try.ntmps39
 go_wp2_with fail
 refine (Graph22 q r.db HOK.out _ (Lib.hid (HD.out.below HB1.out))).mono ?_
 rintro e w4 ⟨A, c, rfl, _, _, hb4⟩
 obtain ⟨n, Hn⟩ : ∃ n, Hid (n = (edgesOf r.db 16).length) := ⟨_, Lib.hid rfl⟩
 rw [← Hn.out]
 have HB4 := Lib.hid (below_self HB1.out hb4)
 have HX4 := Lib.hid (blk_keep hb4 HX.out)
 obtain ⟨x0, x1, xf⟩ := blk_cells2' HX4.out
 have hgl := blk_lt HX4.out
 clear hb4
 go_wp2_with fail
 have hX5 := blk_set (blk_set HX4.out 0 (.int .i64 16)) 1 (.slice A n c)
 have hB5 := (HB4.out.setCell (p := ⟨w.heap.size, 0, none⟩) (Nat.le_refl _) (.int .i64 16)).setCell (p := ⟨w.heap.size, 1, none⟩) (Nat.le_refl _) (.slice A n c)
 generalize (w4.setCell ⟨w.heap.size, 0, none⟩ (.int .i64 16)).setCell ⟨w.heap.size, 1, none⟩ (.slice A n c) = w5 at hX5 hB5 ⊢
 obtain ⟨y0, y1, yf⟩ := blk_cells2' hX5
 refine bodyPost_ret (v := .agg #[.int .i64 16, .slice A n c]) (by simp [results, Try.results39, go_sem, y0, y1]) rfl ⟨A, c, by rw [Hn.out], hB5⟩
def anyW (x : Prt) : Bool := (List.range 16).any fun j => decide (0 < x.wait j)
def rests (r : Rt) : Bool := !((List.range 8).any fun i => anyW (r.port i))
theorem any_succ (f : Nat → Bool) (k : Nat) : (List.range (k + 1)).any f = ((List.range k).any f || f k) := by
 rw [List.range_succ, List.any_append]; simp
set_option maxHeartbeats 1000000 in
set_option maxRecDepth 100000 in
theorem Max61 (g : Nat) (x : Prt) (w : World) (H : Hid (∀ j, j < 16 → w.cell? ⟨g, 3 + j, none⟩ = some (.int .i64 (x.wait j)))) : Calls Try.prog 61 #[.slice (some ⟨g, 3, none⟩) 16 16] w fun e w' => (∃ m, e = .returned (.int .i64 m) ∧ decide (0 < m) = anyW x) ∧ w = w' := by
 have hu56 := Try.underlying56
 have h0 := H.out 0 (by omega)
 go_enter Try.func61, Try.ntmps61
 go_wp2_with fail
 go_loop [3, 4] (fun v3 v4 => ∃ (k : Nat) (m : Int), 1 ≤ k ∧ k ≤ 16 ∧ v4 = .int .i64 k ∧ v3 = .int .i64 m ∧ Hid (decide (0 < m) = (List.range k).any fun j => decide (0 < x.wait j))) (fun _ v => 16 - (intOf v).toNat)
 case atStart => exact ⟨1, _, Nat.le_refl _, by omega, rfl, rfl, Lib.hid (by rw [any_succ]; simp)⟩
 case round =>
  obtain ⟨k, m, hk1, hk, rfl, rfl, HM⟩ := hrel
  by_cases hlt : k < 16
  · have hc := H.out k hlt
    have hki : (k : Int) < 16 := by omega
    have HSU := Lib.hid (any_succ (fun j => decide (0 < x.wait j)) k)
    obtain ⟨y, Hy⟩ : ∃ y, Hid (y = x.wait k) := ⟨_, Lib.hid rfl⟩
    rw [← Hy.out] at hc
    have hmx : ∃ m', (if m < y then y else m) = m' ∧ (decide (0 < m') = (decide (0 < m) || decide (0 < y))) := by
     by_cases h : m < y
     · refine ⟨y, if_pos h, ?_⟩
       by_cases h1 : 0 < y
       · simp [h1]
       · have : ¬ 0 < m := by omega
         simp [h1, this]
     · refine ⟨m, if_neg h, ?_⟩
       by_cases h1 : 0 < m
       · simp [h1]
       · have : ¬ 0 < y := by omega
         simp [h1, this]
    obtain ⟨m', hm', hd⟩ := hmx
    have HM' : Hid (decide (0 < m') = (List.range (k + 1)).any fun j => decide (0 < x.wait j)) := Lib.hid (by rw [HSU.out, hd, HM.out, Hy.out])
    clear hd
    go_wp2_with fail
    go_round
    case rel => exact ⟨k + 1, m', by omega, by omega, by go_num, rfl, HM'⟩
    case measure => simp [intOf]; omega
  · obtain rfl : k = 16 := by omega
    go_wp2_with fail
    go_ret
    exact ⟨⟨m, rfl, HM.out⟩, rfl⟩
set_option maxHeartbeats 1000000 in
set_option maxRecDepth 100000 in
theorem rests60 (P : Array Value) (x : Prt) (v : Value) (w : World) (hs : P.size = 36) (hP : PortC P 0 x v) : Calls Try.prog 60 #[.agg P] w fun e w' => e = .returned (.bool (anyW x)) ∧ Below w.heap.size w w' := by
 have hu103 := Try.underlying103
 have hu100 := Try.underlying100
 have hG := blk_alloc w (.cells P 103)
 have hB := below_alloc (Below.refl w.heap.size w) (.cells P 103)
 have HB := Lib.hid hB
 have HC : Hid (∀ j, j < 16 → (w.alloc (.cells P 103)).cell? ⟨w.heap.size, 3 + j, none⟩ = some (.int .i64 (x.wait j))) := Lib.hid (fun j hj => by
  rw [blk_cell hG]
  have := hP.wait j hj
  rwa [show 0 + 3 + j = 3 + j by omega] at this)
 clear hG hB hP
 go_enter Try.func60, Try.ntmps60
 go_wp2_with fail
 refine (Max61 w.heap.size x _ HC).mono ?_
 rintro e w1 ⟨⟨m, rfl, hm⟩, rfl⟩
 have HM := Lib.hid hm
 clear hm
 go_wp2_with fail
 go_ret
 exact ⟨by rw [HM.out]; rfl, HB.out⟩
theorem RtC.portRange {w : World} {p q : Nat} {r : Rt} {va : Nat → Value} (H : RtC w p q r va) {i : Nat} (hi : i < 8) : ∃ P : Array Value, P.size = 36 ∧ PortC P 0 (r.port i) (va i) ∧ w.rangeAt p (4 + i * 36) P.toList := by
 obtain ⟨V, hs, hr, hp⟩ := H.whole
 obtain ⟨h1, h2⟩ := (hp i hi).part hs hi
 refine ⟨_, h1, h2, fun j v hv => ?_⟩
 rw [Array.getElem?_toList, Array.getElem?_extract] at hv
 split at hv
 · have := hr (i * 36 + j) v (by rw [Array.getElem?_toList]; exact hv)
   rwa [show 4 + (i * 36 + j) = 4 + i * 36 + j by omega] at this
 · cases hv
set_option maxHeartbeats 1000000 in
set_option maxRecDepth 100000 in
theorem Index77 (p q : Nat) (r : Rt) (w : World) (H : Hid (RtC w p q r noAck)) : Calls Try.prog 77 #[.slice (some ⟨p, 4, none⟩) 8 8, .func (.func 60) #[] #[]] w fun e w' => (∃ m, e = .returned (.int .i64 m) ∧ decide (0 ≤ m) = (List.range 8).any fun i => anyW (r.port i)) ∧ Below w.heap.size w w' := by
 have hu111 := Try.underlying111
 have hu103 := Try.underlying103
 go_enter Try.func77, Try.ntmps77
 go_wp2_with fail
 go_loopw [8] (fun v wr => ∃ k : Nat, k ≤ 8 ∧ v = .int .i64 k ∧ Hid (((List.range k).any fun i => anyW (r.port i)) = false) ∧ Hid (Below w.heap.size w wr)) (fun v _ => 8 - (intOf v).toNat)
 case atStart => exact ⟨0, Nat.zero_le _, rfl, Lib.hid rfl, Lib.hid (Below.refl _ _)⟩
 case round =>
  obtain ⟨k, hk, rfl, HN, HB⟩ := hrel
  by_cases hlt : k < 8
  · have hki : (k : Int) < 8 := by omega
    obtain ⟨P, hPs, hPc, hPr⟩ := (H.out.below HB.out).portRange hlt
    have HPR := Lib.hid hPr
    have HPC := Lib.hid hPc
    have HPS := Lib.hid hPs
    have hpl := (H.out.below HB.out).lt
    have HSU := Lib.hid (any_succ (fun i => anyW (r.port i)) k)
    clear hPr hPc hPs
    go_upto_region 4 with (fail)
    go_wp2_with ((with_reducible refine gate_dst (N := 15) rfl ?_); refine wpList_load_mid rfl 103 (.tmp 14) rfl p (4 + k * 36) rfl P.toList _ HPR.out Try.underlying103 rfl (by rw [size103, Array.length_toList, HPS.out]) ?_)
    refine (rests60 P (r.port k) (noAck k) wr HPS.out HPC.out).mono ?_
    rintro e w2 ⟨rfl, hb⟩
    have HB2 := Lib.hid (below_self HB.out hb)
    clear hb
    cases ha : anyW (r.port k) with
    | true =>
     have HYES : Hid (((List.range 8).any fun i => anyW (r.port i)) = true) := Lib.hid (by rw [List.any_eq_true]; exact ⟨k, List.mem_range.2 hlt, ha⟩)
     clear ha
     go_wp2_with fail
     go_ret
     exact ⟨⟨k, rfl, by rw [HYES.out]; exact decide_eq_true (by omega)⟩, HB2.out⟩
    | false =>
     have HN2 : Hid (((List.range (k + 1)).any fun i => anyW (r.port i)) = false) := Lib.hid (by rw [HSU.out, HN.out, ha]; rfl)
     clear ha
     go_wp2_with fail
     go_round
     case rel => exact ⟨k + 1, by omega, by go_num, HN2, HB2⟩
     case measure => simp [intOf]; omega
  · obtain rfl : k = 8 := by omega
    go_wp2_with fail
    go_ret
    exact ⟨⟨-1, rfl, by rw [HN.out]; rfl⟩, HB.out⟩
set_option maxHeartbeats 1000000 in
set_option maxRecDepth 100000 in
theorem Contains59 (p q : Nat) (r : Rt) (w : World) (H : Hid (RtC w p q r noAck)) : Calls Try.prog 59 #[.slice (some ⟨p, 4, none⟩) 8 8, .func (.func 60) #[] #[]] w fun e w' => e = .returned (.bool ((List.range 8).any fun i => anyW (r.port i))) ∧ Below w.heap.size w w' := by
 go_enter Try.func59, Try.ntmps59
 go_wp2_with fail
 refine (Index77 p q r w H).mono ?_
 rintro e w1 ⟨⟨m, rfl, hm⟩, hb⟩
 have HM := Lib.hid hm
 have HB := Lib.hid hb
 clear hm hb
 go_wp2_with fail
 go_ret
 exact ⟨by rw [HM.out]; rfl, HB.out⟩
set_option maxHeartbeats 1000000 in
set_option maxRecDepth 100000 in
theorem Rests36 (p q : Nat) (r : Rt) (w : World) (H : Hid (RtC w p q r noAck)) : Calls Try.prog 36 #[.pointer (some ⟨p, 0, none⟩)] w fun e w' => e = .returned (.bool (rests r)) ∧ Below w.heap.size w w' := by
 have hu106 := Try.underlying106
 have hu104 := Try.underlying104
 have hlt := H.out.lt
 obtain ⟨b, Hb⟩ : ∃ b, Hid (b = (List.range 8).any fun i => anyW (r.port i)) := ⟨_, Lib.hid rfl⟩
 have HR : Hid (rests r = !b) := Lib.hid (by rw [Hb.out]; rfl)
 go_enter Try.func36, Try.ntmps36
 go_wp2_with fail
 refine (Contains59 p q r w H).mono ?_
 rw [← Hb.out]
 rintro e w1 ⟨rfl, hb⟩
 have HB := Lib.hid hb
 clear hb
 go_wp2_with fail
 go_ret
 exact ⟨by rw [HR.out]; rfl, HB.out⟩
end Go.Proofs.Ytaneaabmgnanbaa.M
end
section
namespace Go.Proofs.Ytaneaabmgnanbaa.M
open Go.RowKit Go.Proofs.YtaneaabmgnanbaaW.PrintWords Go.Proofs.YtaneaabmgnanbaaW.PrintLast Go.Proofs.YtaneaabmgnanbaaW.PrintMore Go.Proofs.Ytaneaabmgnanbaa.PAdvBack
open Go.Proofs.Ytaneaabmgnanbaa.Rd (S129 z129 k129 k129_open k129_mk k129_mkM info129 flood_read.f)
set_option linter.unusedVariables false
set_option linter.unusedSimpArgs false
open Go.Proofs.Ytaneaabmgnanbaa.Rd (flood_read.l0 flood_read.j1 flood_read.mono_l)
theorem str_mid (l : List Int) (a b : Nat) : (strOfNums l).extract a b = strOfNums ((l.take b).drop a) := by
 apply ByteArray.ext
 simp [strOfNums, ByteArray.data_extract, List.map_drop, List.map_take, List.extract_toArray, List.extract_eq_take_drop, List.drop_take]
theorem str_drop' (l : List Int) (a : Nat) : (strOfNums l).extract a (strOfNums l).size = strOfNums (l.drop a) := by
 rw [str_mid, strOfNums_size, List.take_length]
theorem encA_byte (a : S24) : ∀ c ∈ encA a, Byte c := by
 intro c hc
 unfold encA at hc
 rcases List.mem_cons.1 hc with rfl | hc
 · unfold Byte; omega
 · rcases List.mem_cons.1 hc with rfl | hc
   · unfold Byte; omega
   · exact encL_byte _ _ _ _ c hc
theorem encK_byte (y : S129) : ∀ c ∈ encK y, Byte c := by
 intro c hc
 unfold encK at hc
 simp only [List.mem_cons, List.not_mem_nil, or_false] at hc
 unfold Byte
 omega
theorem flatA_byte (l : List S24) : ∀ c ∈ l.flatMap encA, Byte c := fun c hc => by
 obtain ⟨a, _, h⟩ := List.mem_flatMap.1 hc
 exact encA_byte a c h
theorem flatK_byte (l : List S129) : ∀ c ∈ l.flatMap encK, Byte c := fun c hc => by
 obtain ⟨a, _, h⟩ := List.mem_flatMap.1 hc
 exact encK_byte a c h
theorem encMsg_byte (l : List S24) (ks : List S129) : ∀ c ∈ encMsg l ks, Byte c := fun c hc => by
 unfold encMsg at hc
 rcases List.mem_append.1 hc with h | h
 · exact flatA_byte l c h
 · exact flatK_byte ks c h
theorem str_nil (l : List Int) : (strOfNums l).toList = [] ↔ l = [] := by
 have : (strOfNums l).toList.length = l.length := by rw [ByteArray.toList_eq, Array.length_toList]; simp [strOfNums]
 constructor
 · intro h
   rw [h] at this
   exact List.eq_nil_of_length_eq_zero (by simpa using this.symm)
 · rintro rfl
   exact List.eq_nil_of_length_eq_zero (by simpa using this)
theorem up_l0 {k k' : Nat} {x0 : ByteArray} {x5 : List S24} {x6 : List S129} {r} (h : flood_read.l0 k x0 x5 x6 = some r) (hk : k ≤ k') : flood_read.l0 k' x0 x5 x6 = some r :=
 at_rounds (fun k => (flood_read.mono_l k).1 x0 x5 x6) hk h
theorem up_dec {k k' : Nat} {s : ByteArray} {r} (h : adv_Decode.f k s = some r) (hk : k ≤ k') : adv_Decode.f k' s = some r := at_rounds (adv_Decode.mono s) hk h
def AkOk (y : S129) : Prop := 0 ≤ y.f0 ∧ y.f0 < 16 ∧ 0 ≤ y.f1 ∧ y.f1 < 4294967296
theorem read_end (x5 : List S24) (x6 : List S129) : flood_read.l0 1 (strOfNums []) x5 x6 = some (x5, x6, true) := by
 unfold flood_read.l0
 rw [if_pos ((str_nil _).2 rfl)]
theorem bt_at' {L M : List Int} (hby : ∀ c ∈ L, Byte c) {u : List Int} (hL : L = u ++ M) (j : Nat) (c : Int) (hj : u[j]? = some c) : bt (strOfNums L) (j : Int) = c := by
 have hl : j < u.length := (List.getElem?_eq_some_iff.1 hj).1
 subst hL
 rw [bt_str _ hby j (by rw [List.length_append]; omega), List.getElem_append_left hl]
 exact (List.getElem?_eq_some_iff.1 hj).2
theorem read_ack1 (y : S129) (M : List Int) (hM : ∀ c ∈ M, Byte c) (x5 : List S24) (x6 : List S129) (hy : AkOk y) (hl : x6.length < 1000) (k : Nat) {r} (h : flood_read.l0 k (strOfNums M) x5 (x6 ++ [y]) = some r) : flood_read.l0 (k + 2) (strOfNums (encK y ++ M)) x5 x6 = some r := by
 obtain ⟨y0, y1, y2, y3⟩ := hy
 have hby : ∀ c ∈ encK y ++ M, Byte c := fun c hc => by
  rcases List.mem_append.1 hc with h | h
  · exact encK_byte y c h
  · exact hM c h
 have hsz : (strOfNums (encK y ++ M)).size = 6 + M.length := by rw [strOfNums_size, List.length_append]; rfl
 have hdr : (strOfNums (encK y ++ M)).extract 6 (strOfNums (encK y ++ M)).size = strOfNums M := by
  rw [str_drop']; rfl
 have e0 : bt (strOfNums (encK y ++ M)) 0 = 75 := bt_at' hby rfl 0 _ rfl
 have e1 : bt (strOfNums (encK y ++ M)) 1 = y.f0 % 256 := bt_at' hby rfl 1 _ rfl
 have e2 : bt (strOfNums (encK y ++ M)) 2 = y.f1 / 16777216 % 256 := bt_at' hby rfl 2 _ rfl
 have e3 : bt (strOfNums (encK y ++ M)) 3 = y.f1 / 65536 % 256 := bt_at' hby rfl 3 _ rfl
 have e4 : bt (strOfNums (encK y ++ M)) 4 = y.f1 / 256 % 256 := bt_at' hby rfl 4 _ rfl
 have e5 : bt (strOfNums (encK y ++ M)) 5 = y.f1 % 256 := bt_at' hby rfl 5 _ rfl
 have hne : ¬ (strOfNums (encK y ++ M)).toList = [] := fun h => by
  have := (str_nil _).1 h
  cases this
 generalize strOfNums (encK y ++ M) = S at hsz hdr e0 e1 e2 e3 e4 e5 hne ⊢
 have hs : (S.size : Int) = 6 + M.length := by rw [hsz]; simp
 have hor : (⟨wrap64 (bt S 1), Go.bits .or .i64 (Go.bits .or .i64 (Go.bits .or .i64 (wrap64 ((wrap64 (bt S 2)) * 16777216)) (wrap64 ((wrap64 (bt S 3)) * 65536))) (wrap64 ((wrap64 (bt S 4)) * 256))) (wrap64 (bt S 5))⟩ : S129) = y := by
  simp only [wbt]
  rw [wrap_in (bt S 2 * 16777216) (by omega) (by omega), wrap_in (bt S 3 * 65536) (by omega) (by omega), wrap_in (bt S 4 * 256) (by omega) (by omega)]
  rw [or24 (x := bt S 2 * 16777216) (by omega) (by omega) (by omega) (by omega) (by omega), or16 (x := bt S 2 * 16777216 + bt S 3 * 65536) (by omega) (by omega) (by omega) (by omega) (by omega),
   or8 (x := bt S 2 * 16777216 + bt S 3 * 65536 + bt S 4 * 256) (by omega) (by omega) (by omega) (by omega) (by omega)]
  rw [e1, e2, e3, e4, e5]
  obtain ⟨a, b⟩ := y
  simp only at y0 y1 y2 y3 ⊢
  congr 1 <;> omega
 unfold flood_read.l0
 rw [if_neg hne, if_pos (by omega), if_neg (by rw [e0]; omega)]
 unfold flood_read.j1
 rw [if_neg (by simp), if_pos (by omega), if_pos e0, if_pos (by omega), if_pos (by omega), if_pos (by rw [e1]; omega), if_pos (by omega), if_pos (by omega), if_pos (by omega), if_pos (by omega), if_pos (by omega), if_pos (by omega), hdr, hor]
 exact h
theorem read_acks : ∀ (ks : List S129) (x5 : List S24) (x6 : List S129), (∀ y ∈ ks, AkOk y) → x6.length + ks.length ≤ 1000 → ∃ k, flood_read.l0 k (strOfNums (ks.flatMap encK)) x5 x6 = some (x5, x6 ++ ks, true)
 | [], x5, x6, _, _ => ⟨1, by rw [List.append_nil]; exact read_end x5 x6⟩
 | y :: ks, x5, x6, h, hl => by
  rw [List.length_cons] at hl
  obtain ⟨k, hk⟩ := read_acks ks x5 (x6 ++ [y]) (fun z hz => h z (List.mem_cons_of_mem _ hz)) (by simp; omega)
  rw [List.append_assoc] at hk
  exact ⟨k + 2, read_ack1 y _ (flatK_byte ks) x5 x6 (h y List.mem_cons_self) (by omega) k hk⟩
theorem read_adv1 (a : S24) (M : List Int) (hM : ∀ c ∈ M, Byte c) (x5 : List S24) (x6 : List S129) (ha : Chk a = 0) (hl : x5.length < 1000) (k : Nat) {r} (h : flood_read.l0 k (strOfNums M) (x5 ++ [a]) x6 = some r) : ∃ k, flood_read.l0 k (strOfNums (encA a ++ M)) x5 x6 = some r := by
 have hV := chk_zero ha
 have hlen := hV.len
 have hby : ∀ c ∈ encA a ++ M, Byte c := fun c hc => by
  rcases List.mem_append.1 hc with h | h
  · exact encA_byte a c h
  · exact hM c h
 have hal := encA_length a
 have hsz : (strOfNums (encA a ++ M)).size = 12 + 3 * a.f3.length + M.length := by rw [strOfNums_size, List.length_append, hal]
 have hdr : (strOfNums (encA a ++ M)).extract (12 + 3 * a.f3.length) (strOfNums (encA a ++ M)).size = strOfNums M := by
  rw [str_drop', ← hal, List.drop_left]
 have hmd : (strOfNums (encA a ++ M)).extract 2 (12 + 3 * a.f3.length) = strOfNums (encL a.f0 a.f1 a.f2 a.f3) := by
  rw [str_mid, ← hal, List.take_left]; rfl
 have e0 : bt (strOfNums (encA a ++ M)) 0 = 65 := bt_at' hby rfl 0 _ rfl
 have e1 : bt (strOfNums (encA a ++ M)) 1 = ((10 + 3 * a.f3.length : Nat) : Int) % 256 := bt_at' hby rfl 1 _ rfl
 have hne : ¬ (strOfNums (encA a ++ M)).toList = [] := fun h => by
  have := (str_nil _).1 h
  cases this
 obtain ⟨kd, hkd⟩ := Decode_ends (strOfNums (encL a.f0 a.f1 a.f2 a.f3))
 rw [dec_enc hV] at hkd
 generalize strOfNums (encA a ++ M) = S at hsz hdr hmd e0 e1 hne ⊢
 have hs : (S.size : Int) = 12 + 3 * a.f3.length + M.length := by rw [hsz]; simp
 have e1' : bt S 1 = 10 + 3 * (a.f3.length : Int) := by rw [e1]; omega
 have hw : wrap64 (2 + wrap64 (bt S 1)) = 12 + 3 * (a.f3.length : Int) := by
  rw [wbt, e1', wrap_in _ (by omega) (by omega)]; omega
 have hn : (12 + 3 * (a.f3.length : Int)).toNat = 12 + 3 * a.f3.length := by omega
 refine ⟨max k kd + 2, ?_⟩
 unfold flood_read.l0
 rw [if_neg hne, if_pos (by omega), if_pos e0, if_pos (by omega), if_pos (by omega), hw, decide_eq_true (by omega)]
 unfold flood_read.j1
 rw [if_pos rfl, if_pos (by omega), hw, if_pos (by omega), if_pos (by omega), hn, hmd, up_dec hkd (Nat.le_max_right k kd)]
 simp only [Option.bind_some, if_true]
 rw [if_pos (by omega), if_pos (by omega), hdr]
 exact up_l0 h (Nat.le_max_left k kd)
theorem read_advs : ∀ (l : List S24) (ks : List S129) (x5 : List S24) (x6 : List S129), (∀ a ∈ l, Chk a = 0) → (∀ y ∈ ks, AkOk y) → x5.length + l.length ≤ 1000 → x6.length + ks.length ≤ 1000 → ∃ k, flood_read.l0 k (strOfNums (encMsg l ks)) x5 x6 = some (x5 ++ l, x6 ++ ks, true)
 | [], ks, x5, x6, _, h, _, hl => by rw [List.append_nil]; exact read_acks ks x5 x6 h hl
 | a :: l, ks, x5, x6, h, h2, hl, hl2 => by
  rw [List.length_cons] at hl
  obtain ⟨k, hk⟩ := read_advs l ks (x5 ++ [a]) x6 (fun z hz => h z (List.mem_cons_of_mem _ hz)) h2 (by simp; omega) hl2
  rw [List.append_assoc] at hk
  have := read_adv1 a (encMsg l ks) (encMsg_byte l ks) x5 x6 (h a List.mem_cons_self) (by omega) k hk
  unfold encMsg at this ⊢
  rw [List.flatMap_cons, List.append_assoc]
  exact this
theorem read_msg (l : List S24) (ks : List S129) (h : ∀ a ∈ l, Chk a = 0) (h2 : ∀ y ∈ ks, AkOk y) (hl : l.length ≤ 1000) (hl2 : ks.length ≤ 1000) : ∃ k, flood_read.f k (strOfNums (encMsg l ks)) = some (l, ks, true) := by
 obtain ⟨k, hk⟩ := read_advs l ks [] [] h h2 (by simpa using hl) (by simpa using hl2)
 exact ⟨k, hk⟩
end Go.Proofs.Ytaneaabmgnanbaa.M
end
section
namespace Go.Proofs.Ytaneaabmgnanbaa.M
open Go.RowKit Go.Proofs.YtaneaabmgnanbaaW.PrintWords Go.Proofs.YtaneaabmgnanbaaW.PrintLast Go.Proofs.YtaneaabmgnanbaaW.PrintMore Go.Proofs.Ytaneaabmgnanbaa.PAdvBack
open Go.Proofs.Ytaneaabmgnanbaa.Rd (S129 z129 k129 k129_open k129_mk k129_mkM info129 flood_read.f)
set_option linter.unusedVariables false
set_option linter.unusedSimpArgs false
structure SntOk (x : Snt) : Prop where
 l : ∀ a ∈ x.l, Chk a = 0
 k : ∀ y ∈ x.k, AkOk y
 ll : x.l.length ≤ 16
 kl : x.k.length ≤ 16
def MsgOk (i : Nat) (m : List Snt) : Prop := m = [] ∨ ∃ x, m = [x] ∧ x.port = (i : Int) ∧ SntOk x
def Sil (r : Rt) (i : Nat) : Prop := ∀ m, m < 8 → m ≠ i → ∀ j, j < 16 → (r.port m).send j = false
def sends (r : Rt) (i : Nat) (ks : List S129) : List Snt := sntAt r (upd nil129 i ks) i
theorem advsTo_none (d : Db) (x : Prt) (h : ∀ j, j < 16 → x.send j = false) : ∀ n, n ≤ 16 → advsTo d x n = []
 | 0, _ => rfl
 | n + 1, hn => by rw [advsTo_succ, advsTo_none d x h n (by omega), h n (by omega)]; rfl
theorem sntAt_none {r : Rt} {i m : Nat} (hs : Sil r i) (hm : m < 8) (hmi : m ≠ i) (ks : List S129) : sntAt r (upd nil129 i ks) m = [] := by
 unfold sntAt
 rw [if_pos]
 rw [advsTo_none r.db _ (hs m hm hmi) 16 (Nat.le_refl _), upd_ne _ _ hmi]
 rfl
theorem sntTo_one {r : Rt} {i : Nat} (hs : Sil r i) (ks : List S129) : ∀ n, n ≤ 8 → sntTo r (upd nil129 i ks) n = if i < n then sends r i ks else []
 | 0, _ => by rw [if_neg (Nat.not_lt_zero _)]; rfl
 | n + 1, hn => by
  rw [sntTo_succ, sntTo_one hs ks n (by omega)]
  by_cases e : n = i
  · subst e
    rw [if_neg (Nat.lt_irrefl _), if_pos (Nat.lt_succ_self _)]
    rfl
  · rw [sntAt_none hs (by omega) e, List.append_nil]
    by_cases h : i < n
    · rw [if_pos h, if_pos (by omega)]
    · rw [if_neg h, if_neg (by omega)]
theorem sntTo_sends {r : Rt} {i : Nat} (hi : i < 8) (hs : Sil r i) (ks : List S129) : sntTo r (upd nil129 i ks) 8 = sends r i ks := by
 rw [sntTo_one hs ks 8 (Nat.le_refl _), if_pos hi]
theorem sntTo_nil {r : Rt} {i : Nat} (hi : i < 8) (hs : Sil r i) : sntTo r nil129 8 = sends r i [] := by
 have := sntTo_sends hi hs []
 rwa [show upd nil129 i [] = nil129 from upd_id nil129 i] at this
theorem sends_ok {r : Rt} {i : Nat} {ks : List S129} (hd : DbOk r.db) (hk : ∀ y ∈ ks, AkOk y) (hl : ks.length ≤ 16) : MsgOk i (sends r i ks) := by
 unfold sends sntAt
 split
 · exact .inl rfl
 · refine .inr ⟨_, rfl, rfl, fun a ha => ?_, ?_, advsTo_len _ _ _, ?_⟩
   · obtain ⟨j, _, _, h, rfl⟩ := mem_advsTo ha
     exact ((hd j).1 h).1
   · show ∀ y ∈ upd nil129 i ks i, AkOk y
     rw [upd_self]; exact hk
   · show (upd nil129 i ks i).length ≤ 16
     rw [upd_self]; exact hl
theorem sil_sP {r : Rt} {i : Nat} (h : Sil r i) (x : Prt) : Sil (r.sP i x) i := fun m hm hmi j hj => by
 show (upd r.port i x m).send j = false
 rw [upd_ne _ _ hmi]; exact h m hm hmi j hj
theorem sil_flood {r : Rt} {i : Nat} (h : Sil r i) (hi : i < 8) (ho : OneUp r) (hu : (r.port i).up = true) (j : Nat) (but : Int) (k : Nat) : Sil (floodTo r j but k) i := fun m hm hmi n hn => by
 show (if m < k ∧ (r.port m).up = true ∧ (m : Int) ≠ but then _ else r.port m : Prt).send n = false
 rw [if_neg (fun hh => hmi (ho m hm i hi hh.2.1 hu))]
 exact h m hm hmi n hn
theorem sil_takeP {r : Rt} {ks : List S129} {i : Nat} {a : S24} (h : Sil r i) (hi : i < 8) (ho : OneUp r) (hu : (r.port i).up = true) : Sil (takeP r ks i a).1 i := by
 unfold takeP
 split
 · exact sil_flood (r := ((r.sSeq a.f1).sDb (put r.db a)).sSeq _ |>.sDb _) h hi ho hu _ _ _
 · split
   · refine sil_flood (sil_sP (r := r.sDb (put r.db a)) h _) hi ?_ ?_ _ _ _
     · exact (ups_sP (r := r.sDb (put r.db a)) (i := i) (x := (r.port i).off a.f0.toNat) rfl).one ho
     · show (upd r.port i ((r.port i).off a.f0.toNat) i).up = true
       rw [upd_self]; exact hu
   · split
     · exact sil_sP h _
     · split
       · exact sil_sP h _
       · exact sil_sP h _
theorem sil_takeAll {i : Nat} (hi : i < 8) : ∀ (l : List S24) (r : Rt) (ks : List S129), Sil r i → Inv r → (∀ a ∈ l, Chk a = 0) → (r.port i).up = true → Sil (takeAll r ks i l).1 i
 | [], r, ks, h, _, _, _ => h
 | a :: l, r, ks, h, hv, hc, hu => by
  obtain ⟨h1, _, h3⟩ := takeP_inv (ks := ks) (i := i) hv (hc a List.mem_cons_self)
  exact sil_takeAll hi l (takeP r ks i a).1 (takeP r ks i a).2 (sil_takeP h hi hv.one hu) h1 (fun b hb => hc b (List.mem_cons_of_mem _ hb)) (by rw [h3 i]; exact hu)
theorem sil_ackP {r : Rt} {i : Nat} (h : Sil r i) (y : S129) : Sil (ackP r i y) i := by
 unfold ackP
 split
 · exact sil_sP h _
 · exact h
theorem sil_ackAll {i : Nat} : ∀ (l : List S129) (r : Rt), Sil r i → Sil (ackAll r i l) i
 | [], r, h => h
 | y :: l, r, h => sil_ackAll l _ (sil_ackP h y)
theorem acks_takeP {r : Rt} {ks : List S129} {i : Nat} {a : S24} (hv : Chk a = 0) (h : ∀ y ∈ ks, AkOk y) : ∀ y ∈ (takeP r ks i a).2, AkOk y := by
 have hV := chk_zero hv
 have ha : AkOk ⟨a.f0, a.f1⟩ := ⟨hV.id0, hV.id1, by show 0 ≤ a.f1; have := hV.seq0; omega, by show a.f1 < _; have := hV.seq1; omega⟩
 have hap : ∀ y ∈ ks ++ [(⟨a.f0, a.f1⟩ : S129)], AkOk y := fun y hy => by
  rcases List.mem_append.1 hy with h1 | h1
  · exact h y h1
  · rw [List.mem_singleton.1 h1]; exact ha
 unfold takeP
 split
 · exact h
 · split
   · exact hap
   · split
     · exact h
     · split
       · exact h
       · exact hap
theorem acks_takeAll (i : Nat) : ∀ (l : List S24) (r : Rt) (ks : List S129), (∀ a ∈ l, Chk a = 0) → (∀ y ∈ ks, AkOk y) → ∀ y ∈ (takeAll r ks i l).2, AkOk y
 | [], r, ks, _, h => h
 | a :: l, r, ks, hv, h => acks_takeAll i l _ _ (fun b hb => hv b (List.mem_cons_of_mem _ hb)) (acks_takeP (hv a List.mem_cons_self) h)
theorem inv_sent {r : Rt} (h : Inv r) : Inv (sentR r) := ⟨⟨h.ok.id, h.ok.seq, h.ok.now, h.ok.db⟩, h.one, h.own⟩
theorem sil_sent (r : Rt) (i : Nat) : Sil (sentR r) i := fun _ _ _ _ _ => rfl
def inS (r : Rt) (i : Nat) (x : Snt) : Rt × List Snt := (sentR (inR r i x.l x.k), sends (inR r i x.l x.k) i (inA r i x.l))
structure RI (r : Rt) (i : Nat) : Prop where
 inv : Inv r
 up : (r.port i).up = true
 sil : Sil r i
theorem inR_inv {r : Rt} {i : Nat} (h : RI r i) {x : Snt} (hx : SntOk x) : Inv (inR r i x.l x.k) ∧ Ups r (inR r i x.l x.k) := by
 obtain ⟨h1, _, h3⟩ := takeAll_inv i x.l r [] h.inv hx.l
 obtain ⟨a, b, c, d, e⟩ := ackAll_same i x.k (takeAll r [] i x.l).1
 exact ⟨⟨⟨by unfold inR; rw [b]; exact h1.ok.id, by unfold inR; rw [c]; exact h1.ok.seq, by unfold inR; rw [d]; exact h1.ok.now, by unfold inR; rw [a]; exact h1.ok.db⟩, e.one h1.one, by unfold inR; rw [a, b]; exact h1.own⟩, h3.trans e⟩
theorem inR_sil {r : Rt} {i : Nat} (hi : i < 8) (h : RI r i) {x : Snt} (hx : SntOk x) : Sil (inR r i x.l x.k) i := sil_ackAll _ _ (sil_takeAll hi x.l r [] h.sil h.inv hx.l h.up)
theorem inA_ok {r : Rt} {i : Nat} (h : RI r i) {x : Snt} (hx : SntOk x) : (∀ y ∈ inA r i x.l, AkOk y) ∧ (inA r i x.l).length ≤ 16 := by
 refine ⟨acks_takeAll i x.l r [] hx.l (fun y hy => absurd hy List.not_mem_nil), ?_⟩
 have := (takeAll_inv i x.l r [] h.inv hx.l).2.1
 have := hx.ll
 unfold inA
 simp only [List.length_nil] at *
 omega
theorem inS_ok {r : Rt} {i : Nat} (hi : i < 8) (h : RI r i) {x : Snt} (hx : SntOk x) : RI (inS r i x).1 i ∧ MsgOk i (inS r i x).2 := by
 obtain ⟨h1, h2⟩ := inR_inv h hx
 obtain ⟨h3, h4⟩ := inA_ok h hx
 exact ⟨⟨inv_sent h1, by show ((inR r i x.l x.k).port i).up = true; rw [h2 i]; exact h.up, sil_sent _ _⟩, sends_ok h1.ok.db h3 h4⟩
def lostAt (lost : List Int) (k : Nat) : Bool := decide (k < lost.length) && (bits .and .i64 (lost.getD k 0) 1 == 1)
def dlv (lost : List Int) (r : Rt) (i : Nat) (m : List Snt) (k : Nat) : Rt × List Snt × Nat :=
 match m with
 | [] => (r, [], k)
 | x :: _ => if lostAt lost k = true then (r, [], k + 1) else ((inS r i x).1, (inS r i x).2, k + 1)
structure Pr where
 a : Rt
 b : Rt
 o : List Snt
 bk : List Snt
 k : Nat
def hlf (lost : List Int) (pa pb : Nat) (s : Pr) : Nat → Pr
 | 0 => ⟨s.a, s.b, [], [], s.k⟩
 | 1 => ⟨s.a, (dlv lost s.b pb s.o s.k).1, [], (dlv lost s.b pb s.o s.k).2.1, (dlv lost s.b pb s.o s.k).2.2⟩
 | _ => ⟨(dlv lost s.a pa s.bk (dlv lost s.b pb s.o s.k).2.2).1, (dlv lost s.b pb s.o s.k).1, (dlv lost s.a pa s.bk (dlv lost s.b pb s.o s.k).2.2).2.1, (dlv lost s.b pb s.o s.k).2.1, (dlv lost s.a pa s.bk (dlv lost s.b pb s.o s.k).2.2).2.2⟩
def stp (lost : List Int) (pa pb : Nat) (s : Pr) : Pr := hlf lost pa pb s 2
def itr (lost : List Int) (pa pb : Nat) : Nat → Pr → Pr
 | 0, s => s
 | n + 1, s => stp lost pa pb (itr lost pa pb n s)
structure PrOk (pa pb : Nat) (s : Pr) : Prop where
 a : RI s.a pa
 b : RI s.b pb
 o : MsgOk pa s.o
 bk : MsgOk pb s.bk
theorem dlv_ok {lost : List Int} {r : Rt} {i j : Nat} (hi : i < 8) (h : RI r i) {m : List Snt} (hm : MsgOk j m) (k : Nat) : RI (dlv lost r i m k).1 i ∧ MsgOk i (dlv lost r i m k).2.1 ∧ k ≤ (dlv lost r i m k).2.2 ∧ (dlv lost r i m k).2.2 ≤ k + 1 := by
 rcases hm with rfl | ⟨x, rfl, _, hx⟩
 · exact ⟨h, .inl rfl, Nat.le_refl _, Nat.le_succ _⟩
 · show RI (if lostAt lost k = true then (r, ([] : List Snt), k + 1) else ((inS r i x).1, (inS r i x).2, k + 1)).1 i ∧ MsgOk i (if lostAt lost k = true then (r, ([] : List Snt), k + 1) else ((inS r i x).1, (inS r i x).2, k + 1)).2.1 ∧ k ≤ (if lostAt lost k = true then (r, ([] : List Snt), k + 1) else ((inS r i x).1, (inS r i x).2, k + 1)).2.2 ∧ (if lostAt lost k = true then (r, ([] : List Snt), k + 1) else ((inS r i x).1, (inS r i x).2, k + 1)).2.2 ≤ k + 1
   split
   · exact ⟨h, .inl rfl, Nat.le_succ _, Nat.le_refl _⟩
   · exact ⟨(inS_ok hi h hx).1, (inS_ok hi h hx).2, Nat.le_succ _, Nat.le_refl _⟩
theorem stp_ok {lost : List Int} {pa pb : Nat} (ha : pa < 8) (hb : pb < 8) {s : Pr} (h : PrOk pa pb s) : PrOk pa pb (stp lost pa pb s) ∧ (stp lost pa pb s).k ≤ s.k + 2 := by
 obtain ⟨d1, d2, _, d4⟩ := dlv_ok (lost := lost) hb h.b h.o s.k
 obtain ⟨e1, e2, _, e4⟩ := dlv_ok (lost := lost) ha h.a h.bk (dlv lost s.b pb s.o s.k).2.2
 exact ⟨⟨e1, d1, e2, d2⟩, by show (dlv lost s.a pa s.bk (dlv lost s.b pb s.o s.k).2.2).2.2 ≤ _; omega⟩
theorem itr_ok {lost : List Int} {pa pb : Nat} (ha : pa < 8) (hb : pb < 8) {s : Pr} (h : PrOk pa pb s) : ∀ n, PrOk pa pb (itr lost pa pb n s) ∧ (itr lost pa pb n s).k ≤ s.k + 2 * n
 | 0 => ⟨h, Nat.le_refl _⟩
 | n + 1 => by
  obtain ⟨h1, h2⟩ := itr_ok ha hb h n
  obtain ⟨g1, g2⟩ := stp_ok (lost := lost) ha hb h1
  exact ⟨g1, by show (stp lost pa pb (itr lost pa pb n s)).k ≤ _; omega⟩
theorem stp_rest {lost : List Int} {pa pb : Nat} {s : Pr} (h : s.o = [] ∧ s.bk = []) : stp lost pa pb s = s := by
 obtain ⟨a, b, o, bk, k⟩ := s
 obtain ⟨h1, h2⟩ := h
 simp only at h1 h2
 subst h1 h2
 rfl
theorem itr_rest {lost : List Int} {pa pb : Nat} {s : Pr} {n : Nat} (h : (itr lost pa pb n s).o = [] ∧ (itr lost pa pb n s).bk = []) : ∀ m, itr lost pa pb (n + m) s = itr lost pa pb n s
 | 0 => rfl
 | m + 1 => by
  show stp lost pa pb (itr lost pa pb (n + m) s) = _
  rw [itr_rest h m, stp_rest h]
structure TwoAt (w : World) (pA qA pB qB : Nat) (a b : Rt) : Prop where
 CA : RtC w pA qA a noAck
 DA : BaseAt w qA a.db.1 a.db.2
 CB : RtC w pB qB b noAck
 DB : BaseAt w qB b.db.1 b.db.2
theorem RtC.keep2 {w w1 : World} {p q p' q' : Nat} {r : Rt} {va : Nat → Value} {f : Nat → S24} {h : Nat → Bool} (H : RtC w p q r va) (B' : BaseAt w q' f h) (hk : Keep2 w w1 p' q') (hne : p ≠ p') : RtC w1 p q r va := by
 have h2 : p ≠ q' := by
  obtain ⟨cs, h1, _⟩ := H
  obtain ⟨ds, h2, _⟩ := B'
  exact blk_ne h1 h2 (by decide)
 exact H.move (hk.2 p H.lt (fun e => by rcases e with e | e; exact hne e; exact h2 e))
theorem BaseAt.keep2' {w w1 : World} {q p' q' q2 : Nat} {r' : Rt} {va' : Nat → Value} {f f' : Nat → S24} {h h' : Nat → Bool} (B : BaseAt w q f h) (H' : RtC w p' q2 r' va') (B' : BaseAt w q' f' h') (hk : Keep2 w w1 p' q') (hne : q ≠ q') : BaseAt w1 q f h := by
 have hp : q ≠ p' := by
  obtain ⟨cs, h1, _⟩ := B
  obtain ⟨ds, h2, _⟩ := H'
  exact blk_ne h1 h2 (by decide)
 refine B.side ⟨hk.1, fun i cs hi => hk.2 i (blk_lt hi) (fun e => ?_)⟩ (hk.2 q B.lt (fun e => by rcases e with e | e; exact hp e; exact hne e))
 rcases e with e | e
 · subst e
   obtain ⟨ds, h2, _⟩ := H'
   exact blk_ne hi h2 (by decide) rfl
 · subst e
   obtain ⟨ds, h2, _⟩ := B'
   exact blk_ne hi h2 (by decide) rfl
theorem TwoAt.below {w w1 : World} {pA qA pB qB : Nat} {a b : Rt} (t : TwoAt w pA qA pB qB a b) (h : Below w.heap.size w w1) : TwoAt w1 pA qA pB qB a b := ⟨t.CA.below h, t.DA.below h, t.CB.below h, t.DB.below h⟩
theorem TwoAt.setB {w w1 : World} {pA qA pB qB : Nat} {a b b' : Rt} (t : TwoAt w pA qA pB qB a b) (hp : pA ≠ pB) (hq : qA ≠ qB) (C : RtC w1 pB qB b' noAck) (D : BaseAt w1 qB b'.db.1 b'.db.2) (hk : Keep2 w w1 pB qB) : TwoAt w1 pA qA pB qB a b' :=
 ⟨RtC.keep2 t.CA t.DB hk hp, t.DA.keep2' t.CB t.DB hk hq, C, D⟩
theorem TwoAt.setA {w w1 : World} {pA qA pB qB : Nat} {a b a' : Rt} (t : TwoAt w pA qA pB qB a b) (hp : pA ≠ pB) (hq : qA ≠ qB) (C : RtC w1 pA qA a' noAck) (D : BaseAt w1 qA a'.db.1 a'.db.2) (hk : Keep2 w w1 pA qA) : TwoAt w1 pA qA pB qB a' b :=
 ⟨C, D, RtC.keep2 t.CB t.DA hk (Ne.symm hp), t.DB.keep2' t.CA t.DA hk (Ne.symm hq)⟩
end Go.Proofs.Ytaneaabmgnanbaa.M
end
section
namespace Go.Proofs.Ytaneaabmgnanbaa.M
open Go.RowKit Go.Proofs.YtaneaabmgnanbaaW.PrintWords Go.Proofs.YtaneaabmgnanbaaW.PrintLast Go.Proofs.YtaneaabmgnanbaaW.PrintMore Go.Proofs.Ytaneaabmgnanbaa.PAdvBack
open Go.Proofs.Ytaneaabmgnanbaa.Rd (S129 z129 k129 k129_open k129_mk k129_mkM info129 flood_read.f)
set_option linter.unusedVariables false
set_option linter.unusedSimpArgs false
theorem InP (p q i : Nat) (x : Snt) (r : Rt) (w w0 : World) (hi : i < 8) (hr : RI r i) (hx : SntOk x) (H : Hid (RtC w p q r noAck)) (HD : Hid (BaseAt w q r.db.1 r.db.2)) (HB0 : Hid (Below w0.heap.size w0 w)) (hp0 : w0.heap.size ≤ p) (hq0 : w0.heap.size ≤ q) :
 Calls Try.prog 62 #[.pointer (some ⟨p, 0, none⟩), .int .i64 i, .string (strOfNums (encMsg x.l x.k))] w fun e w' => ∃ v, e = .returned (.tuple #[v, .int .i64 0]) ∧ Kd.R k72 72 w' w.heap.size (fun b => w.heap.size ≤ b) v (inS r i x).2 ∧ RtC w' p q (inS r i x).1 noAck ∧ BaseAt w' q (inS r i x).1.db.1 (inS r i x).1.db.2 ∧ Keep2 w w' p q ∧ Below w0.heap.size w0 w' := by
 refine (In62 p q i (strOfNums (encMsg x.l x.k)) x.l x.k r w w0 hi hr.up hr.inv (read_msg x.l x.k hx.l hx.k (by have := hx.ll; omega) (by have := hx.kl; omega)) (by have := hx.ll; omega) (by have := hx.kl; omega) hx.l (fun y hy => ⟨(hx.k y hy).1, (hx.k y hy).2.1⟩) H HD HB0 hp0 hq0).mono ?_
 rintro e w' ⟨v, he, hR, hC, hD, hK, hB⟩
 rw [sntTo_sends hi (inR_sil hi hr hx)] at hR
 exact ⟨v, he, hR, hC, hD, hK, hB⟩
theorem C72_one {w : World} {A : Option Addr} {x : Snt} (h : Kd.C k72 w A 1 [x]) : ∃ ad, A = some ad ∧ w.cell? ad = some (.int .i64 x.port) ∧ w.cell? ⟨ad.block, ad.off + 1, none⟩ = some (.string (strOfNums (encMsg x.l x.k))) := by
 obtain ⟨ad, c, rfl, hl, hK, hc⟩ := Kd.C_get (d := k72) h (⟨0, [], []⟩ : Snt) 0 (by omega) (by simp)
 have hcs := k72_open hK
 subst hcs
 have e0 := hc 0 _ rfl
 have e1 := hc 1 _ rfl
 exact ⟨ad, rfl, e0, e1⟩
theorem idx115_0 (v u : Value) (W : World) : (Instr.index 115 (.agg #[v, u]) (.int .i64 0)).run Try.prog W = .ok v W := by kernel_rfl
theorem idx115_1 (v u : Value) (W : World) : (Instr.index 115 (.agg #[v, u]) (.int .i64 1)).run Try.prog W = .ok u W := by kernel_rfl
structure TK (w0 w wr : World) (b0 pA qA pB qB : Nat) (a b : Rt) : Prop where
 T : TwoAt wr pA qA pB qB a b
 B : Below w0.heap.size w0 wr
 S : w.heap.size ≤ wr.heap.size
 K : ∀ i, i < w.heap.size → i ≠ pA → i ≠ qA → i ≠ pB → i ≠ qB → wr.heap[i]? = w.heap[i]?
theorem TK.below {w0 w wr w1 : World} {b0 pA qA pB qB : Nat} {a b : Rt} (t : TK w0 w wr b0 pA qA pB qB a b) (h : Below wr.heap.size wr w1) : TK w0 w w1 b0 pA qA pB qB a b :=
 ⟨t.T.below h, below_self t.B h, Nat.le_trans t.S h.size, fun i hi h1 h2 h3 h4 => (h.block i (Nat.lt_of_lt_of_le hi t.S)).trans (t.K i hi h1 h2 h3 h4)⟩
theorem TK.setB {w0 w wr w1 : World} {b0 pA qA pB qB : Nat} {a b b' : Rt} (t : TK w0 w wr b0 pA qA pB qB a b) (hp : pA ≠ pB) (hq : qA ≠ qB) (C : RtC w1 pB qB b' noAck) (D : BaseAt w1 qB b'.db.1 b'.db.2) (hk : Keep2 wr w1 pB qB) (hb : Below w0.heap.size w0 w1) : TK w0 w w1 b0 pA qA pB qB a b' :=
 ⟨t.T.setB hp hq C D hk, hb, Nat.le_trans t.S hk.1, fun i hi h1 h2 h3 h4 => (hk.2 i (Nat.lt_of_lt_of_le hi t.S) (fun e => by rcases e with e | e; exact h3 e; exact h4 e)).trans (t.K i hi h1 h2 h3 h4)⟩
theorem TK.setA {w0 w wr w1 : World} {b0 pA qA pB qB : Nat} {a b a' : Rt} (t : TK w0 w wr b0 pA qA pB qB a b) (hp : pA ≠ pB) (hq : qA ≠ qB) (C : RtC w1 pA qA a' noAck) (D : BaseAt w1 qA a'.db.1 a'.db.2) (hk : Keep2 wr w1 pA qA) (hb : Below w0.heap.size w0 w1) : TK w0 w w1 b0 pA qA pB qB a' b :=
 ⟨t.T.setA hp hq C D hk, hb, Nat.le_trans t.S hk.1, fun i hi h1 h2 h3 h4 => (hk.2 i (Nat.lt_of_lt_of_le hi t.S) (fun e => by rcases e with e | e; exact h1 e; exact h2 e)).trans (t.K i hi h1 h2 h3 h4)⟩
abbrev Row (w : World) (b0 : Nat) (v : Value) (m : List Snt) : Prop := Kd.R k72 72 w b0 (fun b => b0 ≤ b) v m
theorem Row.keep2 {w w1 : World} {b0 p q : Nat} {v : Value} {m : List Snt} (h : Row w b0 v m) (hk : Keep2 w w1 p q) (hp : p < b0) (hq : q < b0) : Row w1 b0 v m :=
 Kd.R_step h (fun b hb hlt => hk.2 b hlt (fun e => by rcases e with e | e <;> omega))
theorem below_grown0 {w w1 : World} (hg : w.grownBy w1 none) : Below w.heap.size w w1 := ⟨hg.os, hg.tape, hg.output, hg.size, fun i hi => hg.block i hi (by simp)⟩
structure TkC (w0 : World) (b0 pA qA pB qB : Nat) : Prop where
 p : pA ≠ pB
 q : qA ≠ qB
 pa : w0.heap.size ≤ pA ∧ pA < b0
 qa : w0.heap.size ≤ qA ∧ qA < b0
 pb : w0.heap.size ≤ pB ∧ pB < b0
 qb : w0.heap.size ≤ qB ∧ qB < b0
set_option maxHeartbeats 4000000 in
set_option maxRecDepth 100000 in
theorem talk41 (N b0 pA qA pB qB pa pb : Nat) (s : Pr) (vo vk : Value) (L : Option Addr) (lc : Nat) (lost : List Int) (w w0 : World) (hN : N < 60) (ha : pa < 8) (hb : pb < 8) (hll : lost.length ≤ 1000) (hok : PrOk pa pb s) (hend : (itr lost pa pb N s).o = [] ∧ (itr lost pa pb N s).bk = []) (hk0 : s.k = 0) (hc : TkC w0 b0 pA qA pB qB) (hb0 : b0 ≤ w.heap.size) (HL : Hid (∀ W, Below w0.heap.size w0 W → Kd.C (Kd.int .i64) W L lost.length lost)) (T : TwoAt w pA qA pB qB s.a s.b) (HB : Below w0.heap.size w0 w) (RO : Row w b0 vo s.o) (RK : Row w b0 vk s.bk) :
 Calls Try.prog 41 #[.pointer (some ⟨pA, 0, none⟩), .pointer (some ⟨pB, 0, none⟩), .int .i64 pa, .int .i64 pb, vo, vk, .slice L lost.length lc] w fun e w' => e = .returned (.bool true) ∧ TwoAt w' pA qA pB qB (itr lost pa pb N s).a (itr lost pa pb N s).b ∧ Below w0.heap.size w0 w' := by
 have hu65 := Try.underlying65
 have hu72 := Try.underlying72
 have hu115 := Try.underlying115
 have hu56 := Try.underlying56
 have HOK := Lib.hid hok
 have HEND := Lib.hid hend
 have HC := Lib.hid hc
 have HRO := Lib.hid RO
 have HRK := Lib.hid RK
 have HK0 := Lib.hid hk0
 have hpai : (pa : Int) < 8 := by omega
 have hpbi : (pb : Int) < 8 := by omega
 have HTK0 : TK w0 w w b0 pA qA pB qB s.a s.b := ⟨T, HB, Nat.le_refl _, fun _ _ _ _ _ _ => rfl⟩
 clear hok hend hc RO RK hk0 T HB
 go_enter Try.func41, Try.ntmps41
 go_wp2_with fail
 go_loopw [4, 5, 15, 27] (fun v4 v5 v15 v27 wr => ∃ (n k : Nat), n ≤ N ∧ v27 = .int .i64 n ∧ v15 = .int .i64 k ∧ Hid (k = (itr lost pa pb n s).k) ∧ TK w0 w wr b0 pA qA pB qB (itr lost pa pb n s).a (itr lost pa pb n s).b ∧ Hid (Row wr b0 v4 (itr lost pa pb n s).o) ∧ Hid (Row wr b0 v5 (itr lost pa pb n s).bk)) (fun _ _ _ v _ => N + 1 - (intOf v).toNat)
 case atStart => exact ⟨0, 0, Nat.zero_le _, rfl, rfl, Lib.hid HK0.out.symm, HTK0, HRO, HRK⟩
 case round =>
  obtain ⟨n, k, hn, rfl, rfl, HKN, T1, R4, R5⟩ := hrel
  have hOK := (itr_ok (lost := lost) ha hb HOK.out n).1
  have hkb := (itr_ok (lost := lost) ha hb HOK.out n).2
  have hstep : ∀ m, itr lost pa pb (n + 1) m = stp lost pa pb (itr lost pa pb n m) := fun m => rfl
  have HST := Lib.hid (hstep s)
  clear hstep
  obtain ⟨sn, Hsn⟩ : ∃ x, Hid (x = itr lost pa pb n s) := ⟨_, Lib.hid rfl⟩
  rw [← Hsn.out] at HKN T1 R4 R5 hOK hkb HST
  have hk200 : k ≤ 900 := by rw [HKN.out]; have := HK0.out; omega
  have HSO := Lib.hid hOK
  clear hkb hOK
  obtain ⟨A4, c4, rfl, hl4, _⟩ := Kd.R_reads R4.out
  obtain ⟨A5, c5, rfl, hl5, _⟩ := Kd.R_reads R5.out
  have HL4 := Lib.hid hl4
  have HL5 := Lib.hid hl5
  clear hl4 hl5
  have hni : (n : Int) < 60 := by omega
  obtain ⟨n4, H4⟩ : ∃ x, Hid (x = sn.o.length) := ⟨_, Lib.hid rfl⟩
  obtain ⟨n5, H5⟩ : ∃ x, Hid (x = sn.bk.length) := ⟨_, Lib.hid rfl⟩
  have h41 : n4 ≤ 1 := by rw [H4.out]; rcases HSO.out.o with h | ⟨x, h, _⟩ <;> rw [h] <;> simp
  have h51 : n5 ≤ 1 := by rw [H5.out]; rcases HSO.out.bk with h | ⟨x, h, _⟩ <;> rw [h] <;> simp
  rw [← H4.out] at R4 ⊢
  rw [← H5.out] at R5 ⊢
  by_cases hz : n4 + n5 = 0
  · have HZ : Hid (sn.o = [] ∧ sn.bk = []) := Lib.hid ⟨List.eq_nil_of_length_eq_zero (by rw [← H4.out]; omega), List.eq_nil_of_length_eq_zero (by rw [← H5.out]; omega)⟩
    have hz4 : n4 = 0 := by omega
    have hz5 : n5 = 0 := by omega
    subst hz4 hz5
    clear hz h41 h51
    go_wp2_with fail
    go_ret
    have hNn : itr lost pa pb N s = sn := by
     have := itr_rest (lost := lost) (pa := pa) (pb := pb) (s := s) (n := n) (by rw [← Hsn.out]; exact HZ.out) (N - n)
     rw [show n + (N - n) = N by omega] at this
     rw [this, Hsn.out]
    rw [hNn]
    exact ⟨rfl, T1.T, T1.B⟩
  · have hz1 : 0 < n4 + n5 := by omega
    have hzz : (((n4 : Int) + (n5 : Int)) == 0) = false := by
     simp only [beq_eq_false_iff_ne]
     omega
    clear hz
    go_wp2_with fail
    go_loopw [15, 16, 17, 38] (fun v15 v16 v17 v38 wq => ∃ (i k' : Nat), i ≤ 2 ∧ v38 = .int .i64 i ∧ v15 = .int .i64 k' ∧ Hid (k' = (hlf lost pa pb sn i).k) ∧ TK w0 w wq b0 pA qA pB qB (hlf lost pa pb sn i).a (hlf lost pa pb sn i).b ∧ Hid (Row wq b0 v16 (hlf lost pa pb sn i).o) ∧ Hid (Row wq b0 v17 (hlf lost pa pb sn i).bk) ∧ Hid (Row wq b0 (.slice A4 n4 c4) sn.o) ∧ Hid (Row wq b0 (.slice A5 n5 c5) sn.bk) ∧ Hid (i = 0 → v17 = .slice none 0 0) ∧ Hid (i ≤ 1 → v16 = .slice none 0 0)) (fun _ _ _ v _ => 2 - (intOf v).toNat)
    case atStart => exact ⟨0, k, Nat.zero_le _, rfl, rfl, HKN, T1, Lib.hid (Kd.R_nil _ _ _ _ _), Lib.hid (Kd.R_nil _ _ _ _ _), R4, R5, Lib.hid (fun _ => rfl), Lib.hid (fun _ => rfl)⟩
    case round =>
     obtain ⟨i, k', hi2, rfl, rfl, HK', T2, R16, R17, R4', R5', HN17, HN16⟩ := hrel
     have hk1 : k' ≤ 1001 := by
      have h0 : k = sn.k := HKN.out
      have h1 : (hlf lost pa pb sn i).k ≤ sn.k + 2 := by
       have d1 := (dlv_ok (lost := lost) hb HSO.out.b HSO.out.o sn.k).2.2.2
       have d2 := (dlv_ok (lost := lost) ha HSO.out.a HSO.out.bk (dlv lost sn.b pb sn.o sn.k).2.2).2.2.2
       rcases (by omega : i = 0 ∨ i = 1 ∨ i = 2) with rfl | rfl | rfl
       · show sn.k ≤ _; omega
       · show (dlv lost sn.b pb sn.o sn.k).2.2 ≤ _; omega
       · show (dlv lost sn.a pa sn.bk (dlv lost sn.b pb sn.o sn.k).2.2).2.2 ≤ _; omega
      have h2 : k' = _ := HK'.out
      omega
     rcases (by omega : i = 0 ∨ i = 1 ∨ i = 2) with rfl | rfl | rfl
     · rw [show ((0 : Nat) : Int) = 0 from rfl]
       have hix := idx115_0 (.slice A4 n4 c4) (.slice A5 n5 c5) wr
       have hnil := HN17.out rfl
       have HNEXT := Lib.hid (show hlf lost pa pb sn 1 = ⟨(hlf lost pa pb sn 0).a, (dlv lost (hlf lost pa pb sn 0).b pb sn.o (hlf lost pa pb sn 0).k).1, (hlf lost pa pb sn 0).o, (dlv lost (hlf lost pa pb sn 0).b pb sn.o (hlf lost pa pb sn 0).k).2.1, (dlv lost (hlf lost pa pb sn 0).b pb sn.o (hlf lost pa pb sn 0).k).2.2⟩ from rfl)
       have HRI : Hid (RI (hlf lost pa pb sn 0).b pb) := Lib.hid HSO.out.b
       obtain ⟨h, Hh⟩ : ∃ x, Hid (x = hlf lost pa pb sn 0) := ⟨_, Lib.hid rfl⟩
       rw [← Hh.out] at HK' T2 R16 R17 HNEXT HRI
       obtain ⟨hn, Hhn⟩ : ∃ x, Hid (x = hlf lost pa pb sn 1) := ⟨_, Lib.hid rfl⟩
       rw [← Hhn.out] at HNEXT
       subst hnil
       rcases HSO.out.o with he | ⟨x, he, hxp, hxo⟩
       · have hn0 : n4 = 0 := by rw [H4.out, he]; rfl
         have q1 : decide (0 < n4) = false := by rw [hn0]; rfl
         have q2 : decide ((0 : Int) < (n4 : Int)) = false := by rw [hn0]; rfl
         rw [he] at HNEXT
         have HNX : Hid (hn = ⟨h.a, h.b, h.o, [], h.k⟩) := Lib.hid HNEXT.out
         clear he HNEXT hn0
         go_wp2_with fail
         refine wp_loop_rounds 1 ?_
         rw [rounds_succ]
         go_wp2_with fail
         go_round
         case rel => exact ⟨1, k', by omega, rfl, rfl, Lib.hid (by rw [← Hhn.out, HNX.out]; exact HK'.out), by rw [← Hhn.out, HNX.out]; exact T2, by rw [← Hhn.out, HNX.out]; exact R16, by rw [← Hhn.out, HNX.out]; exact Lib.hid (Kd.R_nil _ _ _ _ _), R4', R5', Lib.hid (fun h => by omega), Lib.hid (fun _ => HN16.out (by omega))⟩
         case measure => simp [intOf]
       · have hn1 : n4 = 1 := by rw [H4.out, he]; rfl
         have q1 : decide (0 < n4) = true := by rw [hn1]; rfl
         have q2 : decide ((0 : Int) < (n4 : Int)) = true := by rw [hn1]; rfl
         have q3 : decide (1 < n4) = false := by rw [hn1]; rfl
         have q4 : decide ((1 : Int) < (n4 : Int)) = false := by rw [hn1]; rfl
         have hps : 0 < n4 := by omega
         clear hn1
         have HXE := Lib.hid he
         have HXO := Lib.hid hxo
         have HRX : Hid (Row wr b0 (.slice A4 n4 c4) [x]) := Lib.hid (by rw [← he]; exact R4'.out)
         obtain ⟨ad, rfl, e0, e1⟩ := C72_one (Kd.R_reads' HRX.out).2.2
         rw [hxp] at e0
         obtain ⟨st, Hst⟩ : ∃ x', Hid (x' = strOfNums (encMsg x.l x.k)) := ⟨_, Lib.hid rfl⟩
         rw [← Hst.out] at e1
         rw [he] at HNEXT
         have HNL : Hid (lostAt lost k' = true → hn = ⟨h.a, h.b, h.o, [], (h.k + 1)⟩) := Lib.hid (fun hl => by
          have hl' : lostAt lost h.k = true := by rw [← HK'.out]; exact hl
          have e : dlv lost h.b pb [x] h.k = (h.b, [], h.k + 1) := if_pos hl'
          rw [HNEXT.out, e])
         have HND : Hid (¬ lostAt lost k' = true → hn = ⟨h.a, (inS h.b pb x).1, h.o, (inS h.b pb x).2, (h.k + 1)⟩) := Lib.hid (fun hl => by
          have hl' : ¬ lostAt lost h.k = true := by rw [← HK'.out]; exact hl
          have e : dlv lost h.b pb [x] h.k = ((inS h.b pb x).1, (inS h.b pb x).2, h.k + 1) := if_neg hl'
          rw [HNEXT.out, e])
         clear he hxp hxo HNEXT
         go_wp2_with fail
         refine wp_loop_rounds 2 ?_
         rw [rounds_succ]
         go_upto_region 17 with (fail)
         have hb5 := below_alloc (Below.refl wr.heap.size wr) (.cells #[.int .i64 pa, .string st] 72)
         have T5 := T2.below hb5
         have R16b := Lib.hid (Kd.R_below R16.out hb5)
         have R17b := Lib.hid (Kd.R_below R17.out hb5)
         have R4b := Lib.hid (Kd.R_below R4'.out hb5)
         have R5b := Lib.hid (Kd.R_below R5'.out hb5)
         have HX5 := Lib.hid (blk_alloc wr (.cells #[.int .i64 pa, .string st] 72))
         clear hb5 e0 e1 hix
         obtain ⟨gx, Hgx⟩ : ∃ g, Hid (g = wr.heap.size) := ⟨_, Lib.hid rfl⟩
         rw [← Hgx.out] at HX5
         rw [← Hgx.out]
         generalize wr.alloc (.cells #[.int .i64 pa, .string st] 72) = w5 at T5 R16b R17b R4b R5b HX5 ⊢
         obtain ⟨g0, g1, gf⟩ := blk_cells2' HX5.out
         have hgl := blk_lt HX5.out
         by_cases hkl : k' < lost.length
         · have hC := Kd.reads_of_C (enc := Value.int .i64) (d := (0 : Int)) (h1 := fun _ => rfl) (HL.out w5 T5.B)
           obtain ⟨ld, rfl, hcl⟩ := hC.2.2 (by omega)
           have hz := hcl k' hkl
           obtain ⟨z, Hz⟩ : ∃ z, Hid (z = lost.getD k' 0) := ⟨_, Lib.hid rfl⟩
           rw [← Hz.out] at hz
           clear hC hcl
           have hq1 : decide (k' + 1 ≤ lost.length) = true := decide_eq_true (by omega)
           have hq2 : decide ((k' : Int) + 1 ≤ (lost.length : Int)) = true := decide_eq_true (by omega)
           have HLA : Hid (lostAt lost k' = (bits .and .i64 z 1 == 1)) := Lib.hid (by unfold lostAt; rw [decide_eq_true hkl, ← Hz.out]; rfl)
           cases hzb : bits .and .i64 z 1 == 1 with
           | true =>
            have HNX := Lib.hid (HNL.out (by rw [HLA.out]; exact hzb))
            go_wp2_with fail
            rw [rounds_succ]
            go_wp2_with fail
            go_round
            case rel => exact ⟨1, k' + 1, by omega, rfl, by go_num, Lib.hid (by rw [← Hhn.out, HNX.out]; exact congrArg (· + 1) HK'.out), by rw [← Hhn.out, HNX.out]; exact T5, by rw [← Hhn.out, HNX.out]; exact R16b, by rw [← Hhn.out, HNX.out]; exact Lib.hid (Kd.R_nil _ _ _ _ _), R4b, R5b, Lib.hid (fun h => by omega), Lib.hid (fun _ => HN16.out (by omega))⟩
            case measure => simp [intOf]
           | false =>
            have HNX := Lib.hid (HND.out (by rw [HLA.out, hzb]; simp))
            go_wp2_with fail
            rw [Hst.out]
            refine (InP pB qB pb x h.b w5 w0 hb HRI.out HXO.out (Lib.hid T5.T.CB) (Lib.hid T5.T.DB) (Lib.hid T5.B) HC.out.pb.1 HC.out.qb.1).mono ?_
            rw [← Hst.out]
            rintro e w6 ⟨v6, rfl, hR6, hC6, hD6, hK6, hB6⟩
            obtain ⟨ms, Hms⟩ : ∃ m, Hid (m = (inS h.b pb x).2) := ⟨_, Lib.hid rfl⟩
            rw [← Hms.out] at hR6
            obtain ⟨A6, c6, rfl, _, _⟩ := Kd.R_reads hR6
            have T6 := T5.setB HC.out.p HC.out.q hC6 hD6 hK6 hB6
            have HSZ := Lib.hid (show b0 ≤ w6.heap.size from Nat.le_trans hb0 (Nat.le_trans T5.S hK6.1))
            have R16c := Lib.hid (Row.keep2 R16b.out hK6 HC.out.pb.2 HC.out.qb.2)
            have R17c := Lib.hid (Row.keep2 R17b.out hK6 HC.out.pb.2 HC.out.qb.2)
            have R4c := Lib.hid (Row.keep2 R4b.out hK6 HC.out.pb.2 HC.out.qb.2)
            have R5c := Lib.hid (Row.keep2 R5b.out hK6 HC.out.pb.2 HC.out.qb.2)
            have HC6 := Lib.hid (Kd.R_reads' hR6).2.2
            have hml : ms.length ≤ 1 := by
             rw [Hms.out]
             rcases (inS_ok hb HRI.out HXO.out).2 with h0 | ⟨y, h0, _⟩ <;> rw [h0] <;> simp
            clear hR6 hC6 hD6 hK6 hB6 g0 g1 gf hgl
            go_wp2_with ((with_reducible refine gate_builtin (b := .append) (xs := #[.tmp 91, .tmp 92]) rfl ?_); at_builtin; refine Kd.R_append_rows k72 (Rr := k72.K w6) (w0 := w6) b0 rfl (.tmp 91) (.tmp 92) 65 72 (.agg #[.int .i64 0, .string ⟨#[]⟩]) 24 rfl Try.underlying65 info72 rfl (show 0 < 2 from by decide) (by omega) (.slice none 0 0) [] ms A6 ms.length c6 (fun b => b0 ≤ b) (fun _ => False) rfl rfl ?aO ?aR (fun y cs hh => by rw [k72_open hh]; exact k72_mkM _ _ _ y) (fun _ hh => hh.elim) ?aF ?aB ?aS ?aL ?_; (case aO => exact Kd.R_nil _ _ _ _ _); (case aR => exact HC6.out); (case aF => exact fun q hq => Nat.le_trans HSZ.out hq); (case aB => exact (Below.refl w6.heap.size w6).mono HSZ.out); (case aS => exact HSZ.out); (case aL => simp only [List.length_nil]; omega); intro v7 w7 ho hbb hg hat; have hb7 := below_grown0 hg; have RN : Hid (Row w7 b0 v7 (inS h.b pb x).2) := Lib.hid (by rw [← Hms.out]; exact ho); have T7 := T6.below hb7; have R16d := Lib.hid (Kd.R_below R16c.out hb7); have R17d := Lib.hid (Kd.R_below R17c.out hb7); have R4d := Lib.hid (Kd.R_below R4c.out hb7); have R5d := Lib.hid (Kd.R_below R5c.out hb7); clear ho hbb hg hat hb7)
            rw [rounds_succ]
            go_wp2_with fail
            go_round
            case rel => exact ⟨1, k' + 1, by omega, rfl, by go_num, Lib.hid (by rw [← Hhn.out, HNX.out]; exact congrArg (· + 1) HK'.out), by rw [← Hhn.out, HNX.out]; exact T7, by rw [← Hhn.out, HNX.out]; exact R16d, by rw [← Hhn.out, HNX.out]; exact RN, R4d, R5d, Lib.hid (fun h => by omega), Lib.hid (fun _ => HN16.out (by omega))⟩
            case measure => simp [intOf]
         · have hq1 : decide (k' + 1 ≤ lost.length) = false := decide_eq_false (by omega)
           have hq2 : decide ((k' : Int) + 1 ≤ (lost.length : Int)) = false := decide_eq_false (by omega)
           have HNX := Lib.hid (HND.out (by unfold lostAt; rw [decide_eq_false hkl]; simp))
           go_wp2_with fail
           rw [Hst.out]
           refine (InP pB qB pb x h.b w5 w0 hb HRI.out HXO.out (Lib.hid T5.T.CB) (Lib.hid T5.T.DB) (Lib.hid T5.B) HC.out.pb.1 HC.out.qb.1).mono ?_
           rw [← Hst.out]
           rintro e w6 ⟨v6, rfl, hR6, hC6, hD6, hK6, hB6⟩
           obtain ⟨ms, Hms⟩ : ∃ m, Hid (m = (inS h.b pb x).2) := ⟨_, Lib.hid rfl⟩
           rw [← Hms.out] at hR6
           obtain ⟨A6, c6, rfl, _, _⟩ := Kd.R_reads hR6
           have T6 := T5.setB HC.out.p HC.out.q hC6 hD6 hK6 hB6
           have HSZ := Lib.hid (show b0 ≤ w6.heap.size from Nat.le_trans hb0 (Nat.le_trans T5.S hK6.1))
           have R16c := Lib.hid (Row.keep2 R16b.out hK6 HC.out.pb.2 HC.out.qb.2)
           have R17c := Lib.hid (Row.keep2 R17b.out hK6 HC.out.pb.2 HC.out.qb.2)
           have R4c := Lib.hid (Row.keep2 R4b.out hK6 HC.out.pb.2 HC.out.qb.2)
           have R5c := Lib.hid (Row.keep2 R5b.out hK6 HC.out.pb.2 HC.out.qb.2)
           have HC6 := Lib.hid (Kd.R_reads' hR6).2.2
           have hml : ms.length ≤ 1 := by
            rw [Hms.out]
            rcases (inS_ok hb HRI.out HXO.out).2 with h0 | ⟨y, h0, _⟩ <;> rw [h0] <;> simp
           clear hR6 hC6 hD6 hK6 hB6 g0 g1 gf hgl
           go_wp2_with ((with_reducible refine gate_builtin (b := .append) (xs := #[.tmp 91, .tmp 92]) rfl ?_); at_builtin; refine Kd.R_append_rows k72 (Rr := k72.K w6) (w0 := w6) b0 rfl (.tmp 91) (.tmp 92) 65 72 (.agg #[.int .i64 0, .string ⟨#[]⟩]) 24 rfl Try.underlying65 info72 rfl (show 0 < 2 from by decide) (by omega) (.slice none 0 0) [] ms A6 ms.length c6 (fun b => b0 ≤ b) (fun _ => False) rfl rfl ?aO ?aR (fun y cs hh => by rw [k72_open hh]; exact k72_mkM _ _ _ y) (fun _ hh => hh.elim) ?aF ?aB ?aS ?aL ?_; (case aO => exact Kd.R_nil _ _ _ _ _); (case aR => exact HC6.out); (case aF => exact fun q hq => Nat.le_trans HSZ.out hq); (case aB => exact (Below.refl w6.heap.size w6).mono HSZ.out); (case aS => exact HSZ.out); (case aL => simp only [List.length_nil]; omega); intro v7 w7 ho hbb hg hat; have hb7 := below_grown0 hg; have RN : Hid (Row w7 b0 v7 (inS h.b pb x).2) := Lib.hid (by rw [← Hms.out]; exact ho); have T7 := T6.below hb7; have R16d := Lib.hid (Kd.R_below R16c.out hb7); have R17d := Lib.hid (Kd.R_below R17c.out hb7); have R4d := Lib.hid (Kd.R_below R4c.out hb7); have R5d := Lib.hid (Kd.R_below R5c.out hb7); clear ho hbb hg hat hb7)
           rw [rounds_succ]
           go_wp2_with fail
           go_round
           case rel => exact ⟨1, k' + 1, by omega, rfl, by go_num, Lib.hid (by rw [← Hhn.out, HNX.out]; exact congrArg (· + 1) HK'.out), by rw [← Hhn.out, HNX.out]; exact T7, by rw [← Hhn.out, HNX.out]; exact R16d, by rw [← Hhn.out, HNX.out]; exact RN, R4d, R5d, Lib.hid (fun h => by omega), Lib.hid (fun _ => HN16.out (by omega))⟩
           case measure => simp [intOf]
     · rw [show ((1 : Nat) : Int) = 1 from rfl]
       have hix := idx115_1 (.slice A4 n4 c4) (.slice A5 n5 c5) wr
       have hnil := HN16.out (Nat.le_refl _)
       have HNEXT := Lib.hid (show hlf lost pa pb sn 2 = ⟨(dlv lost (hlf lost pa pb sn 1).a pa sn.bk (hlf lost pa pb sn 1).k).1, (hlf lost pa pb sn 1).b, (dlv lost (hlf lost pa pb sn 1).a pa sn.bk (hlf lost pa pb sn 1).k).2.1, (hlf lost pa pb sn 1).bk, (dlv lost (hlf lost pa pb sn 1).a pa sn.bk (hlf lost pa pb sn 1).k).2.2⟩ from rfl)
       have HRI : Hid (RI (hlf lost pa pb sn 1).a pa) := Lib.hid HSO.out.a
       obtain ⟨h, Hh⟩ : ∃ x, Hid (x = hlf lost pa pb sn 1) := ⟨_, Lib.hid rfl⟩
       rw [← Hh.out] at HK' T2 R16 R17 HNEXT HRI
       obtain ⟨hn, Hhn⟩ : ∃ x, Hid (x = hlf lost pa pb sn 2) := ⟨_, Lib.hid rfl⟩
       rw [← Hhn.out] at HNEXT
       subst hnil
       rcases HSO.out.bk with he | ⟨x, he, hxp, hxo⟩
       · have hn0 : n5 = 0 := by rw [H5.out, he]; rfl
         have q1 : decide (0 < n5) = false := by rw [hn0]; rfl
         have q2 : decide ((0 : Int) < (n5 : Int)) = false := by rw [hn0]; rfl
         rw [he] at HNEXT
         have HNX : Hid (hn = ⟨h.a, h.b, [], h.bk, h.k⟩) := Lib.hid HNEXT.out
         clear he HNEXT hn0
         go_wp2_with fail
         refine wp_loop_rounds 1 ?_
         rw [rounds_succ]
         go_wp2_with fail
         go_round
         case rel => exact ⟨2, k', by omega, rfl, rfl, Lib.hid (by rw [← Hhn.out, HNX.out]; exact HK'.out), by rw [← Hhn.out, HNX.out]; exact T2, by rw [← Hhn.out, HNX.out]; exact Lib.hid (Kd.R_nil _ _ _ _ _), by rw [← Hhn.out, HNX.out]; exact R17, R4', R5', Lib.hid (fun h => by omega), Lib.hid (fun h => by first | rfl | omega)⟩
         case measure => simp [intOf]
       · have hn1 : n5 = 1 := by rw [H5.out, he]; rfl
         have q1 : decide (0 < n5) = true := by rw [hn1]; rfl
         have q2 : decide ((0 : Int) < (n5 : Int)) = true := by rw [hn1]; rfl
         have q3 : decide (1 < n5) = false := by rw [hn1]; rfl
         have q4 : decide ((1 : Int) < (n5 : Int)) = false := by rw [hn1]; rfl
         have hps : 0 < n5 := by omega
         clear hn1
         have HXE := Lib.hid he
         have HXO := Lib.hid hxo
         have HRX : Hid (Row wr b0 (.slice A5 n5 c5) [x]) := Lib.hid (by rw [← he]; exact R5'.out)
         obtain ⟨ad, rfl, e0, e1⟩ := C72_one (Kd.R_reads' HRX.out).2.2
         rw [hxp] at e0
         obtain ⟨st, Hst⟩ : ∃ x', Hid (x' = strOfNums (encMsg x.l x.k)) := ⟨_, Lib.hid rfl⟩
         rw [← Hst.out] at e1
         rw [he] at HNEXT
         have HNL : Hid (lostAt lost k' = true → hn = ⟨h.a, h.b, [], h.bk, (h.k + 1)⟩) := Lib.hid (fun hl => by
          have hl' : lostAt lost h.k = true := by rw [← HK'.out]; exact hl
          have e : dlv lost h.a pa [x] h.k = (h.a, [], h.k + 1) := if_pos hl'
          rw [HNEXT.out, e])
         have HND : Hid (¬ lostAt lost k' = true → hn = ⟨(inS h.a pa x).1, h.b, (inS h.a pa x).2, h.bk, (h.k + 1)⟩) := Lib.hid (fun hl => by
          have hl' : ¬ lostAt lost h.k = true := by rw [← HK'.out]; exact hl
          have e : dlv lost h.a pa [x] h.k = ((inS h.a pa x).1, (inS h.a pa x).2, h.k + 1) := if_neg hl'
          rw [HNEXT.out, e])
         clear he hxp hxo HNEXT
         go_wp2_with fail
         refine wp_loop_rounds 2 ?_
         rw [rounds_succ]
         go_upto_region 17 with (fail)
         have hb5 := below_alloc (Below.refl wr.heap.size wr) (.cells #[.int .i64 pb, .string st] 72)
         have T5 := T2.below hb5
         have R16b := Lib.hid (Kd.R_below R16.out hb5)
         have R17b := Lib.hid (Kd.R_below R17.out hb5)
         have R4b := Lib.hid (Kd.R_below R4'.out hb5)
         have R5b := Lib.hid (Kd.R_below R5'.out hb5)
         have HX5 := Lib.hid (blk_alloc wr (.cells #[.int .i64 pb, .string st] 72))
         clear hb5 e0 e1 hix
         obtain ⟨gx, Hgx⟩ : ∃ g, Hid (g = wr.heap.size) := ⟨_, Lib.hid rfl⟩
         rw [← Hgx.out] at HX5
         rw [← Hgx.out]
         generalize wr.alloc (.cells #[.int .i64 pb, .string st] 72) = w5 at T5 R16b R17b R4b R5b HX5 ⊢
         obtain ⟨g0, g1, gf⟩ := blk_cells2' HX5.out
         have hgl := blk_lt HX5.out
         by_cases hkl : k' < lost.length
         · have hC := Kd.reads_of_C (enc := Value.int .i64) (d := (0 : Int)) (h1 := fun _ => rfl) (HL.out w5 T5.B)
           obtain ⟨ld, rfl, hcl⟩ := hC.2.2 (by omega)
           have hz := hcl k' hkl
           obtain ⟨z, Hz⟩ : ∃ z, Hid (z = lost.getD k' 0) := ⟨_, Lib.hid rfl⟩
           rw [← Hz.out] at hz
           clear hC hcl
           have hq1 : decide (k' + 1 ≤ lost.length) = true := decide_eq_true (by omega)
           have hq2 : decide ((k' : Int) + 1 ≤ (lost.length : Int)) = true := decide_eq_true (by omega)
           have HLA : Hid (lostAt lost k' = (bits .and .i64 z 1 == 1)) := Lib.hid (by unfold lostAt; rw [decide_eq_true hkl, ← Hz.out]; rfl)
           cases hzb : bits .and .i64 z 1 == 1 with
           | true =>
            have HNX := Lib.hid (HNL.out (by rw [HLA.out]; exact hzb))
            go_wp2_with fail
            rw [rounds_succ]
            go_wp2_with fail
            go_round
            case rel => exact ⟨2, k' + 1, by omega, rfl, by go_num, Lib.hid (by rw [← Hhn.out, HNX.out]; exact congrArg (· + 1) HK'.out), by rw [← Hhn.out, HNX.out]; exact T5, by rw [← Hhn.out, HNX.out]; exact Lib.hid (Kd.R_nil _ _ _ _ _), by rw [← Hhn.out, HNX.out]; exact R17b, R4b, R5b, Lib.hid (fun h => by omega), Lib.hid (fun h => by first | rfl | omega)⟩
            case measure => simp [intOf]
           | false =>
            have HNX := Lib.hid (HND.out (by rw [HLA.out, hzb]; simp))
            go_wp2_with fail
            rw [Hst.out]
            refine (InP pA qA pa x h.a w5 w0 ha HRI.out HXO.out (Lib.hid T5.T.CA) (Lib.hid T5.T.DA) (Lib.hid T5.B) HC.out.pa.1 HC.out.qa.1).mono ?_
            rw [← Hst.out]
            rintro e w6 ⟨v6, rfl, hR6, hC6, hD6, hK6, hB6⟩
            obtain ⟨ms, Hms⟩ : ∃ m, Hid (m = (inS h.a pa x).2) := ⟨_, Lib.hid rfl⟩
            rw [← Hms.out] at hR6
            obtain ⟨A6, c6, rfl, _, _⟩ := Kd.R_reads hR6
            have T6 := T5.setA HC.out.p HC.out.q hC6 hD6 hK6 hB6
            have HSZ := Lib.hid (show b0 ≤ w6.heap.size from Nat.le_trans hb0 (Nat.le_trans T5.S hK6.1))
            have R16c := Lib.hid (Row.keep2 R16b.out hK6 HC.out.pa.2 HC.out.qa.2)
            have R17c := Lib.hid (Row.keep2 R17b.out hK6 HC.out.pa.2 HC.out.qa.2)
            have R4c := Lib.hid (Row.keep2 R4b.out hK6 HC.out.pa.2 HC.out.qa.2)
            have R5c := Lib.hid (Row.keep2 R5b.out hK6 HC.out.pa.2 HC.out.qa.2)
            have HC6 := Lib.hid (Kd.R_reads' hR6).2.2
            have hml : ms.length ≤ 1 := by
             rw [Hms.out]
             rcases (inS_ok ha HRI.out HXO.out).2 with h0 | ⟨y, h0, _⟩ <;> rw [h0] <;> simp
            clear hR6 hC6 hD6 hK6 hB6 g0 g1 gf hgl
            go_wp2_with ((with_reducible refine gate_builtin (b := .append) (xs := #[.tmp 94, .tmp 95]) rfl ?_); at_builtin; refine Kd.R_append_rows k72 (Rr := k72.K w6) (w0 := w6) b0 rfl (.tmp 94) (.tmp 95) 65 72 (.agg #[.int .i64 0, .string ⟨#[]⟩]) 24 rfl Try.underlying65 info72 rfl (show 0 < 2 from by decide) (by omega) (.slice none 0 0) [] ms A6 ms.length c6 (fun b => b0 ≤ b) (fun _ => False) rfl rfl ?aO ?aR (fun y cs hh => by rw [k72_open hh]; exact k72_mkM _ _ _ y) (fun _ hh => hh.elim) ?aF ?aB ?aS ?aL ?_; (case aO => exact Kd.R_nil _ _ _ _ _); (case aR => exact HC6.out); (case aF => exact fun q hq => Nat.le_trans HSZ.out hq); (case aB => exact (Below.refl w6.heap.size w6).mono HSZ.out); (case aS => exact HSZ.out); (case aL => simp only [List.length_nil]; omega); intro v7 w7 ho hbb hg hat; have hb7 := below_grown0 hg; have RN : Hid (Row w7 b0 v7 (inS h.a pa x).2) := Lib.hid (by rw [← Hms.out]; exact ho); have T7 := T6.below hb7; have R16d := Lib.hid (Kd.R_below R16c.out hb7); have R17d := Lib.hid (Kd.R_below R17c.out hb7); have R4d := Lib.hid (Kd.R_below R4c.out hb7); have R5d := Lib.hid (Kd.R_below R5c.out hb7); clear ho hbb hg hat hb7)
            rw [rounds_succ]
            go_wp2_with fail
            go_round
            case rel => exact ⟨2, k' + 1, by omega, rfl, by go_num, Lib.hid (by rw [← Hhn.out, HNX.out]; exact congrArg (· + 1) HK'.out), by rw [← Hhn.out, HNX.out]; exact T7, by rw [← Hhn.out, HNX.out]; exact RN, by rw [← Hhn.out, HNX.out]; exact R17d, R4d, R5d, Lib.hid (fun h => by omega), Lib.hid (fun h => by first | rfl | omega)⟩
            case measure => simp [intOf]
         · have hq1 : decide (k' + 1 ≤ lost.length) = false := decide_eq_false (by omega)
           have hq2 : decide ((k' : Int) + 1 ≤ (lost.length : Int)) = false := decide_eq_false (by omega)
           have HNX := Lib.hid (HND.out (by unfold lostAt; rw [decide_eq_false hkl]; simp))
           go_wp2_with fail
           rw [Hst.out]
           refine (InP pA qA pa x h.a w5 w0 ha HRI.out HXO.out (Lib.hid T5.T.CA) (Lib.hid T5.T.DA) (Lib.hid T5.B) HC.out.pa.1 HC.out.qa.1).mono ?_
           rw [← Hst.out]
           rintro e w6 ⟨v6, rfl, hR6, hC6, hD6, hK6, hB6⟩
           obtain ⟨ms, Hms⟩ : ∃ m, Hid (m = (inS h.a pa x).2) := ⟨_, Lib.hid rfl⟩
           rw [← Hms.out] at hR6
           obtain ⟨A6, c6, rfl, _, _⟩ := Kd.R_reads hR6
           have T6 := T5.setA HC.out.p HC.out.q hC6 hD6 hK6 hB6
           have HSZ := Lib.hid (show b0 ≤ w6.heap.size from Nat.le_trans hb0 (Nat.le_trans T5.S hK6.1))
           have R16c := Lib.hid (Row.keep2 R16b.out hK6 HC.out.pa.2 HC.out.qa.2)
           have R17c := Lib.hid (Row.keep2 R17b.out hK6 HC.out.pa.2 HC.out.qa.2)
           have R4c := Lib.hid (Row.keep2 R4b.out hK6 HC.out.pa.2 HC.out.qa.2)
           have R5c := Lib.hid (Row.keep2 R5b.out hK6 HC.out.pa.2 HC.out.qa.2)
           have HC6 := Lib.hid (Kd.R_reads' hR6).2.2
           have hml : ms.length ≤ 1 := by
            rw [Hms.out]
            rcases (inS_ok ha HRI.out HXO.out).2 with h0 | ⟨y, h0, _⟩ <;> rw [h0] <;> simp
           clear hR6 hC6 hD6 hK6 hB6 g0 g1 gf hgl
           go_wp2_with ((with_reducible refine gate_builtin (b := .append) (xs := #[.tmp 94, .tmp 95]) rfl ?_); at_builtin; refine Kd.R_append_rows k72 (Rr := k72.K w6) (w0 := w6) b0 rfl (.tmp 94) (.tmp 95) 65 72 (.agg #[.int .i64 0, .string ⟨#[]⟩]) 24 rfl Try.underlying65 info72 rfl (show 0 < 2 from by decide) (by omega) (.slice none 0 0) [] ms A6 ms.length c6 (fun b => b0 ≤ b) (fun _ => False) rfl rfl ?aO ?aR (fun y cs hh => by rw [k72_open hh]; exact k72_mkM _ _ _ y) (fun _ hh => hh.elim) ?aF ?aB ?aS ?aL ?_; (case aO => exact Kd.R_nil _ _ _ _ _); (case aR => exact HC6.out); (case aF => exact fun q hq => Nat.le_trans HSZ.out hq); (case aB => exact (Below.refl w6.heap.size w6).mono HSZ.out); (case aS => exact HSZ.out); (case aL => simp only [List.length_nil]; omega); intro v7 w7 ho hbb hg hat; have hb7 := below_grown0 hg; have RN : Hid (Row w7 b0 v7 (inS h.a pa x).2) := Lib.hid (by rw [← Hms.out]; exact ho); have T7 := T6.below hb7; have R16d := Lib.hid (Kd.R_below R16c.out hb7); have R17d := Lib.hid (Kd.R_below R17c.out hb7); have R4d := Lib.hid (Kd.R_below R4c.out hb7); have R5d := Lib.hid (Kd.R_below R5c.out hb7); clear ho hbb hg hat hb7)
           rw [rounds_succ]
           go_wp2_with fail
           go_round
           case rel => exact ⟨2, k' + 1, by omega, rfl, by go_num, Lib.hid (by rw [← Hhn.out, HNX.out]; exact congrArg (· + 1) HK'.out), by rw [← Hhn.out, HNX.out]; exact T7, by rw [← Hhn.out, HNX.out]; exact RN, by rw [← Hhn.out, HNX.out]; exact R17d, R4d, R5d, Lib.hid (fun h => by omega), Lib.hid (fun h => by first | rfl | omega)⟩
           case measure => simp [intOf]
     · have hlt : n < N := by
        rcases Nat.lt_or_ge n N with h | h
        · exact h
        · obtain rfl : n = N := by omega
          obtain ⟨g1, g2⟩ := HEND.out
          rw [← Hsn.out] at g1 g2
          have e4 : n4 = 0 := by rw [H4.out, g1]; rfl
          have e5 : n5 = 0 := by rw [H5.out, g2]; rfl
          omega
       go_wp2_with fail
       go_round
       case rel => exact ⟨n + 1, k', by omega, by go_num, rfl, Lib.hid (by rw [HST.out]; exact HK'.out), by rw [HST.out]; exact T2, by rw [HST.out]; exact R16, by rw [HST.out]; exact R17⟩
       case measure => simp [intOf]; omega
end Go.Proofs.Ytaneaabmgnanbaa.M
end
section
namespace Go.Proofs.Ytaneaabmgnanbaa.M
open Go.RowKit Go.Proofs.YtaneaabmgnanbaaW.PrintWords Go.Proofs.YtaneaabmgnanbaaW.PrintLast Go.Proofs.YtaneaabmgnanbaaW.PrintMore Go.Proofs.Ytaneaabmgnanbaa.PAdvBack
open Go.Proofs.Ytaneaabmgnanbaa.Rd (S129 z129 k129 k129_open k129_mk k129_mkM info129 flood_read.f)
set_option linter.unusedVariables false
set_option linter.unusedSimpArgs false
structure Idle (r : Rt) : Prop where
 ok : RtOk r
 down : ∀ m, m < 8 → (r.port m).up = false
 quiet : ∀ m, m < 8 → ∀ j, j < 16 → (r.port m).send j = false
 own : r.db.2 r.id.toNat = true
def upX (r : Rt) (i : Nat) (peer cost : Int) : Rt := r.sP i (((r.port i).sUp true).sPeer peer |>.sCost cost)
theorem upX_one {r : Rt} (h : Idle r) {i : Nat} (hi : i < 8) (peer cost : Int) : OneUp (upX r i peer cost) := fun a ha b hb h1 h2 => by
 have e : ∀ m, m < 8 → ((upX r i peer cost).port m).up = true → m = i := fun m hm hu => by
  by_cases e : m = i
  · exact e
  · have : (upd r.port i _ m : Prt).up = true := hu
    rw [upd_ne _ _ e, h.down m hm] at this
    cases this
 rw [e a ha h1, e b hb h2]
theorem ups_postAll (i : Nat) : ∀ (l : List S24) (r : Rt), Ups r (postAll r i l)
 | [], r => Ups.refl r
 | a :: l, r => (ups_post r i _).trans (ups_postAll i l (post r i a.f0.toNat))
theorem sil_postAll (i : Nat) : ∀ (l : List S24) (r : Rt), Sil r i → Sil (postAll r i l) i
 | [], r, h => h
 | a :: l, r, h => sil_postAll i l _ (sil_sP h _)
theorem upP_ok {r : Rt} (h : Idle r) {i : Nat} (hi : i < 8) (peer cost : Int) : RI (sentR (upP r i peer cost)) i ∧ MsgOk i (sends (upP r i peer cost) i []) ∧ sntTo (upP r i peer cost) nil129 8 = sends (upP r i peer cost) i [] := by
 have h1 : RtOk (upX r i peer cost) := ⟨h.ok.id, h.ok.seq, h.ok.now, h.ok.db⟩
 have h2 := own_ok h1
 have hone := upX_one h hi peer cost
 have hup : ((upX r i peer cost).port i).up = true := by show (upd r.port i _ i : Prt).up = true; rw [upd_self]; rfl
 have hsx : Sil (upX r i peer cost) i := fun m hm hmi j hj => by
  show (upd r.port i _ m : Prt).send j = false
  rw [upd_ne _ _ hmi]; exact h.quiet m hm j hj
 have hso : Sil (upR r i peer cost) i := sil_flood (r := ((upX r i peer cost).sSeq _).sDb _) hsx hi hone hup _ _ _
 have hsp : Sil (upP r i peer cost) i := sil_postAll i _ _ hso
 obtain ⟨k1, k2, k3, k4⟩ := postAll_keeps i (listOf (upR r i peer cost).db) (upR r i peer cost)
 have hU : Ups (upX r i peer cost) (upP r i peer cost) := (ups_own _).trans (ups_postAll i _ _)
 have hok : RtOk (upP r i peer cost) := ⟨by unfold upP; rw [k3]; exact h2.id, by unfold upP; rw [k4]; exact h2.seq, by unfold upP; rw [k1]; exact h2.now, by unfold upP; rw [k2]; exact h2.db⟩
 have hinv : Inv (upP r i peer cost) := ⟨hok, hU.one hone, by unfold upP; rw [k2, k3]; exact put_has h.own⟩
 exact ⟨⟨inv_sent hinv, by show ((upP r i peer cost).port i).up = true; rw [hU i]; exact hup, sil_sent _ _⟩, sends_ok hok.db (fun y hy => absurd hy List.not_mem_nil) (by simp), sntTo_nil hi hsp⟩
def mtS (a b : Rt) (ida idb : Int) (pa pb : Nat) : Pr := ⟨sentR (upP a pa idb 3), sentR (upP b pb ida 3), sends (upP a pa idb 3) pa [], sends (upP b pb ida 3) pb [], 0⟩
theorem mtS_ok {a b : Rt} (ha : Idle a) (hb : Idle b) {pa pb : Nat} (hpa : pa < 8) (hpb : pb < 8) (ida idb : Int) : PrOk pa pb (mtS a b ida idb pa pb) :=
 ⟨(upP_ok ha hpa idb 3).1, (upP_ok hb hpb ida 3).1, (upP_ok ha hpa idb 3).2.1, (upP_ok hb hpb ida 3).2.1⟩
set_option maxHeartbeats 4000000 in
set_option maxRecDepth 100000 in
theorem meet38 (N pA qA pB qB pa pb : Nat) (ida idb : Int) (a b : Rt) (L : Option Addr) (lc : Nat) (lost : List Int) (w w0 : World) (hN : N < 60) (hpa : pa < 8) (hpb : pb < 8) (hll : lost.length ≤ 1000) (hA : Idle a) (hB : Idle b) (hida : 0 ≤ ida ∧ ida < 16) (hidb : 0 ≤ idb ∧ idb < 16) (hna : idb ≠ a.id) (hnb : ida ≠ b.id)
 (hend : (itr lost pa pb N (mtS a b ida idb pa pb)).o = [] ∧ (itr lost pa pb N (mtS a b ida idb pa pb)).bk = []) (hc : TkC w0 w.heap.size pA qA pB qB) (HL : Hid (∀ W, Below w0.heap.size w0 W → Kd.C (Kd.int .i64) W L lost.length lost)) (T : TwoAt w pA qA pB qB a b) (HB : Below w0.heap.size w0 w) :
 Calls Try.prog 38 #[.pointer (some ⟨pA, 0, none⟩), .pointer (some ⟨pB, 0, none⟩), .int .i64 ida, .int .i64 idb, .int .i64 pa, .int .i64 pb, .slice L lost.length lc] w fun e w' => e = .returned (.bool true) ∧ TwoAt w' pA qA pB qB (itr lost pa pb N (mtS a b ida idb pa pb)).a (itr lost pa pb N (mtS a b ida idb pa pb)).b ∧ Below w0.heap.size w0 w' := by
 obtain ⟨u1, u2, u3⟩ := upP_ok hA hpa idb 3
 obtain ⟨v1, v2, v3⟩ := upP_ok hB hpb ida 3
 have hOK := mtS_ok hA hB hpa hpb ida idb
 have HOK := Lib.hid hOK
 have HU3 := Lib.hid u3
 have HV3 := Lib.hid v3
 have HE := Lib.hid hend
 have HIA := Lib.hid hA
 have HIB := Lib.hid hB
 have HC := Lib.hid hc
 have HNA := Lib.hid hna
 have HNB := Lib.hid hnb
 have HPA := Lib.hid hida
 have HPB := Lib.hid hidb
 clear u1 u2 u3 v1 v2 v3 hOK hend hA hB hc hna hnb hida hidb
 go_enter Try.func38, Try.ntmps38
 go_wp2_with fail
 refine (Up32 pA qA pa idb 3 a w w0 hpa HPB.out ⟨by omega, by omega⟩ HNA.out (HIA.out.down pa hpa) (upX_one HIA.out hpa idb 3) HIA.out.ok (Lib.hid T.CA) (Lib.hid T.DA) (Lib.hid HB) HC.out.pa.1 HC.out.qa.1).mono ?_
 rw [HU3.out]
 rintro e w1 ⟨v1, rfl, hR1, hC1, hD1, hK1, hB1⟩
 have T1 := T.setA HC.out.p HC.out.q hC1 hD1 hK1
 have HR1 := Lib.hid hR1
 have HB1 := Lib.hid hB1
 have HS1 := Lib.hid hK1.1
 clear hR1 hC1 hD1 hK1 hB1
 go_wp2_with fail
 refine (Up32 pB qB pb ida 3 b w1 w0 hpb HPA.out ⟨by omega, by omega⟩ HNB.out (HIB.out.down pb hpb) (upX_one HIB.out hpb ida 3) HIB.out.ok (Lib.hid T1.CB) (Lib.hid T1.DB) HB1 HC.out.pb.1 HC.out.qb.1).mono ?_
 rw [HV3.out]
 rintro e w2 ⟨v2, rfl, hR2, hC2, hD2, hK2, hB2⟩
 have T2 := T1.setB HC.out.p HC.out.q hC2 hD2 hK2
 have HR2 : Hid (Row w2 w.heap.size v2 (sends (upP b pb ida 3) pb [])) := Lib.hid (Kd.R_mono (Kd.R_lower hR2 HS1.out) (fun k hk => Nat.le_trans HS1.out hk))
 have HR1b : Hid (Row w2 w.heap.size v1 (sends (upP a pa idb 3) pa [])) := Lib.hid (Row.keep2 HR1.out hK2 HC.out.pb.2 HC.out.qb.2)
 have HB2 := Lib.hid hB2
 have HS2 := Lib.hid (Nat.le_trans HS1.out hK2.1)
 clear hR2 hC2 hD2 hK2 hB2
 go_wp2_with fail
 refine (talk41 N w.heap.size pA qA pB qB pa pb (mtS a b ida idb pa pb) v1 v2 L lc lost w2 w0 hN hpa hpb hll HOK.out HE.out rfl HC.out HS2.out HL T2 HB2.out HR1b.out HR2.out).mono ?_
 rintro e w3 ⟨rfl, hT, hb⟩
 have HT := Lib.hid hT
 have HB3 := Lib.hid hb
 clear hT hb
 go_wp2_with fail
 go_ret
 exact ⟨rfl, HT.out, HB3.out⟩
end Go.Proofs.Ytaneaabmgnanbaa.M
end
section
namespace Go.Proofs.Ytaneaabmgnanbaa.M
open Go.RowKit Go.Proofs.YtaneaabmgnanbaaW.PrintWords Go.Proofs.YtaneaabmgnanbaaW.PrintLast Go.Proofs.YtaneaabmgnanbaaW.PrintMore Go.Proofs.Ytaneaabmgnanbaa.PAdvBack
open Go.Proofs.Ytaneaabmgnanbaa.Rd (S129 z129 k129 k129_open k129_mk k129_mkM info129 flood_read.f)
set_option linter.unusedVariables false
set_option linter.unusedSimpArgs false
theorem newR_port (i m : Nat) : (newR i).port m = zPrt := by
 show (if m < 8 ∧ zPrt.up = true ∧ (m : Int) ≠ -1 then _ else zPrt : Prt) = zPrt
 rw [if_neg]
 rintro ⟨_, h, _⟩
 cases h
theorem newR_idle (i : Nat) (hi : i < 16) (ho : (newR i).db.2 i = true) : Idle (newR i) where
 ok := own_ok (r := bareR i) ⟨⟨by show (0 : Int) ≤ (i : Int); omega, by show (i : Int) < 16; omega⟩, ⟨by show (0 : Int) ≤ 0; omega, by show (0 : Int) ≤ 1073741824; omega⟩, ⟨by show (0 : Int) ≤ 0; omega, by show (0 : Int) ≤ 1000000000; omega⟩, noDb_ok⟩
 down := fun m _ => by rw [newR_port]; rfl
 quiet := fun m _ j _ => by rw [newR_port]; rfl
 own := ho
theorem idle1 : Idle (newR 1) := newR_idle 1 (by omega) (by decide +kernel)
theorem idle2 : Idle (newR 2) := newR_idle 2 (by omega) (by decide +kernel)
def flz : Pr := mtS (newR 1) (newR 2) 1 2 0 0
theorem flz_end : (itr [] 0 0 2 flz).o = [] ∧ (itr [] 0 0 2 flz).bk = [] := by
 refine ⟨List.eq_nil_of_length_eq_zero ?_, List.eq_nil_of_length_eq_zero ?_⟩ <;> decide +kernel
theorem flz_list : (listOf (itr [] 0 0 2 flz).a.db).length = 2 := by decide +kernel
theorem flz_edges : (edgesOf (itr [] 0 0 2 flz).a.db 16).length = 2 := by decide +kernel
theorem twoNew {w w1 w2 : World} {pA qA pB qB : Nat} {a b : Rt} (CA : RtC w1 pA qA a noAck) (DA : BaseAt w1 qA a.db.1 a.db.2) (CB : RtC w2 pB qB b noAck) (DB : BaseAt w2 qB b.db.1 b.db.2) (hb : Below w1.heap.size w1 w2) : TwoAt w2 pA qA pB qB a b := ⟨CA.below hb, DA.below hb, CB, DB⟩
set_option maxHeartbeats 4000000 in
set_option maxRecDepth 100000 in
theorem floodLives30 (w : World) : Calls Try.prog 30 #[] w fun e w' => e = .returned (.bool true) ∧ Below w.heap.size w w' := by
 go_enter Try.func30, Try.ntmps30
 go_wp2_with fail
 refine (floodNew29 1 w (by omega)).mono ?_
 rintro e w1 ⟨pA, qA, rfl, h1, h2, h3, h4, h5⟩
 have HPA := Lib.hid h1
 have HQA := Lib.hid h2
 have HCA := Lib.hid h3
 have HDA := Lib.hid h4
 have HB1 := Lib.hid h5
 clear h1 h2 h3 h4 h5
 go_wp2_with fail
 refine (floodNew29 2 w1 (by omega)).mono ?_
 rintro e w2 ⟨pB, qB, rfl, h1, h2, h3, h4, h5⟩
 have HC : Hid (TkC w w2.heap.size pA qA pB qB) := Lib.hid ⟨Nat.ne_of_lt (Nat.lt_of_lt_of_le HCA.out.lt h1), Nat.ne_of_lt (Nat.lt_of_lt_of_le HDA.out.lt h2), ⟨HPA.out, Nat.lt_of_lt_of_le HCA.out.lt h5.size⟩, ⟨HQA.out, Nat.lt_of_lt_of_le HDA.out.lt h5.size⟩, ⟨Nat.le_trans HB1.out.size h1, h3.lt⟩, ⟨Nat.le_trans HB1.out.size h2, h4.lt⟩⟩
 have HT := Lib.hid (twoNew (w := w) HCA.out HDA.out h3 h4 h5)
 have HB2 := Lib.hid (below_self HB1.out h5)
 clear h1 h2 h3 h4 h5
 go_wp2_with fail
 refine (meet38 2 pA qA pB qB 0 0 1 2 (newR 1) (newR 2) none 0 [] w2 w (by omega) (by omega) (by omega) (by simp) idle1 idle2 (by omega) (by omega) (by decide) (by decide) flz_end HC.out (Lib.hid (fun W _ => Kd.C_nil (Kd.int .i64) W)) HT.out HB2.out).mono ?_
 rintro e w3 ⟨rfl, hT, hB3⟩
 have HT3 := Lib.hid hT
 have HB3 := Lib.hid hB3
 clear hT hB3
 have hOK := (itr_ok (lost := []) (pa := 0) (pb := 0) (by omega) (by omega) (mtS_ok idle1 idle2 (pa := 0) (pb := 0) (by omega) (by omega) 1 2) 2).1
 obtain ⟨ra, Hra⟩ : ∃ r, Hid (r = (itr [] 0 0 2 (mtS (newR 1) (newR 2) 1 2 0 0)).a) := ⟨_, Lib.hid rfl⟩
 rw [← Hra.out] at HT3
 have HRA : Hid (DbOk ra.db) := Lib.hid (by rw [Hra.out]; exact hOK.a.inv.ok.db)
 have HLI : Hid ((listOf ra.db).length = 2) := Lib.hid (by rw [Hra.out]; exact flz_list)
 have HED : Hid ((edgesOf ra.db 16).length = 2) := Lib.hid (by rw [Hra.out]; exact flz_edges)
 clear hOK
 go_wp2_with fail
 refine (List34 pA qA ra w3 HRA.out (Lib.hid HT3.out.CA) (Lib.hid HT3.out.DA)).mono ?_
 rintro e w4 ⟨v, rfl, hR, hb⟩
 obtain ⟨A, c, rfl, _, _⟩ := Kd.R_reads hR
 rw [HLI.out]
 have HT4 := Lib.hid (HT3.out.below hb)
 have HB4 := Lib.hid (below_self HB3.out hb)
 clear hR hb
 go_wp2_with fail
 refine (Graph39 pA qA ra w4 HRA.out (Lib.hid HT4.out.CA) (Lib.hid HT4.out.DA)).mono ?_
 rintro e w5 ⟨A, c, rfl, hb⟩
 rw [HED.out]
 have HB5 := Lib.hid (below_self HB4.out hb)
 clear hb
 have hfl := fld46_1 2 A c w5
 go_wp2_with fail
 go_ret
 exact ⟨rfl, HB5.out⟩
end Go.Proofs.Ytaneaabmgnanbaa.M
end
