import Derived.Test.YtaneaabmgnanbaaKMFd
import Derived.LoopTactic
import Derived.RegionTactic
import Derived.BigRegion
import Derived.BigQuiet
import Derived.Deep.WholeRow
import Derived.Deep.MidRow
namespace Go.Proofs.Ytaneaabmgnanbaa.M
open Go.RowKit Go.Proofs.YtaneaabmgnanbaaW.PrintWords Go.Proofs.YtaneaabmgnanbaaW.PrintLast Go.Proofs.YtaneaabmgnanbaaW.PrintMore Go.Proofs.Ytaneaabmgnanbaa.PAdvBack
open Go.Proofs.Ytaneaabmgnanbaa.Rd (S129 z129 k129 k129_open k129_mk k129_mkM info129 flood_read.f)
set_option linter.unusedVariables false
set_option linter.unusedSimpArgs false
def tkV (now : Int) (v : Vw) : Vw := if 0 < v.wait ∧ v.wait ≤ now then ⟨v.has, v.adv, now + 5, true⟩ else v
theorem tk_view (r : Rt) (now : Int) (i j : Nat) (hj : j < 16) : vw (tkR r now) i j = tkV now (vw r i j) := by
 show Vw.mk (r.db.2 j) (r.db.1 j) (if j < 16 ∧ due (r.port i) now j then now + 5 else (r.port i).wait j) (if j < 16 ∧ due (r.port i) now j then true else (r.port i).send j) = _
 unfold tkV
 by_cases h : 0 < (vw r i j).wait ∧ (vw r i j).wait ≤ now
 · rw [if_pos h, if_pos ⟨hj, h⟩, if_pos ⟨hj, h⟩]; rfl
 · rw [if_neg h, if_neg (fun k => h k.2), if_neg (fun k => h k.2)]; rfl
def tkS (s : Pr) (now : Int) (pa pb : Nat) : Pr := ⟨sentR (tkR s.a now), sentR (tkR s.b now), sends (tkR s.a now) pa [], sends (tkR s.b now) pb [], 0⟩
def tt1 (now : Int) (t : P1) : P1 := ⟨clrV (tkV now t.a), clrV (tkV now t.b), outV (tkV now t.a), none, outV (tkV now t.b), none⟩
theorem tk_ri {r : Rt} {i : Nat} (h : RI r i) {now : Int} (h0 : 0 ≤ now) (h1 : now ≤ 1000000000) : RI (sentR (tkR r now)) i :=
 ⟨inv_sent ⟨⟨h.inv.ok.id, h.inv.ok.seq, ⟨h0, h1⟩, h.inv.ok.db⟩, fun a ha b hb x y => h.inv.one a ha b hb x y, h.inv.own⟩, h.up, sil_sent _ _⟩
theorem tk_oth {r : Rt} {i : Nat} (h : Oth r i) (now : Int) : Oth (sentR (tkR r now)) i := fun m hm hn j hj => by
 show (if j < 16 ∧ due (r.port m) now j then now + 5 else (r.port m).wait j) ≤ 0
 have := h m hm hn j hj
 rw [if_neg]
 · exact this
 · rintro ⟨_, h1, _⟩; omega
theorem tk_out {r : Rt} {i j : Nat} (hd : DbOk r.db) {now : Int} {x : S24} (h : outV (tkV now (vw r i j)) = some x) : x.f0 = (j : Int) ∧ Chk x = 0 := by
 have h2 : (tkV now (vw r i j)).has = r.db.2 j ∧ (tkV now (vw r i j)).adv = r.db.1 j := by unfold tkV; split <;> exact ⟨rfl, rfl⟩
 unfold outV at h
 split at h
 · rename_i hh
   have e1 := (Bool.and_eq_true_iff.1 hh).2
   rw [h2.1] at e1
   injection h with h
   rw [← h, h2.2]
   exact ⟨((hd j).1 e1).2, ((hd j).1 e1).1⟩
 · cases h
theorem tkS_view {pa pb : Nat} {s : Pr} {T : Nat → P1} (h : PV pa pb s T) {now : Int} (h0 : 0 ≤ now) (h1 : now ≤ 1000000000) : PV pa pb (tkS s now pa pb) (fun j => tt1 now (T j)) := by
 refine ⟨⟨tk_ri h.ok.a h0 h1, tk_ri h.ok.b h0 h1, sends_ok h.ok.a.inv.ok.db (fun y hy => absurd hy List.not_mem_nil) (by simp), sends_ok h.ok.b.inv.ok.db (fun y hy => absurd hy List.not_mem_nil) (by simp)⟩, fun j hj => ?_, fun j hj => ?_, fun _ _ => rfl, fun _ _ => rfl, ?_, ?_, fun j hj x hx => ?_, fun j hj x hx => ?_, fun _ _ _ h => (by cases h), fun _ _ _ h => (by cases h), tk_oth h.oa now, tk_oth h.ob now⟩
 · refine (vw_sent _ _ _).trans ?_
   rw [tk_view _ _ _ _ hj, h.va j hj]; rfl
 · refine (vw_sent _ _ _).trans ?_
   rw [tk_view _ _ _ _ hj, h.vb j hj]; rfl
 · have := sends_msg (tkR s.a now) pa (fun _ => none)
   rw [show fmL (fun _ => (none : Option S129)) 16 = [] from rfl] at this
   exact this.trans (msg_congr (fun j hj => by rw [tk_view _ _ _ _ hj, h.va j hj]; rfl) (fun _ _ => rfl))
 · have := sends_msg (tkR s.b now) pb (fun _ => none)
   rw [show fmL (fun _ => (none : Option S129)) 16 = [] from rfl] at this
   exact this.trans (msg_congr (fun j hj => by rw [tk_view _ _ _ _ hj, h.vb j hj]; rfl) (fun _ _ => rfl))
 · have hx' : outV (tkV now (T j).a) = some x := hx
   rw [← h.va j hj] at hx'
   exact tk_out h.ok.a.inv.ok.db hx'
 · have hx' : outV (tkV now (T j).b) = some x := hx
   rw [← h.vb j hj] at hx'
   exact tk_out h.ok.b.inv.ok.db hx'
structure Dn (t : P1) : Prop where
 e : t.fo = none ∧ t.go = none ∧ t.fb = none ∧ t.gb = none
 has : t.a.has = t.b.has
 adv : t.a.has = true → t.a.adv = t.b.adv
 wa : t.a.wait ≤ 0
 wb : t.b.wait ≤ 0
 sa : t.a.send = false
 sb : t.b.send = false
theorem Dn.tick {t : P1} (h : Dn t) (now : Int) : tt1 now t = t := by
 obtain ⟨⟨ah, aa, aw, az⟩, ⟨bh, ba, bw, bs⟩, fo, go, fb, gb⟩ := t
 obtain ⟨⟨e1, e2, e3, e4⟩, h2, h3, h4, h5, h6, h7⟩ := h
 simp only at e1 e2 e3 e4 h4 h5 h6 h7
 subst e1 e2 e3 e4 h6 h7
 unfold tt1 tkV
 simp only
 rw [if_neg (by omega), if_neg (by omega)]
 rfl
theorem Dn.step {t : P1} (h : Dn t) (n : Int) : st1 n n false false t = t := by
 obtain ⟨⟨ah, aa, aw, az⟩, ⟨bh, ba, bw, bs⟩, fo, go, fb, gb⟩ := t
 obtain ⟨⟨e1, e2, e3, e4⟩, h2, h3, h4, h5, h6, h7⟩ := h
 simp only at e1 e2 e3 e4 h4 h5 h6 h7
 subst e1 e2 e3 e4 h6 h7
 rfl
theorem Dn.pair {pa pb : Nat} {s : Pr} {T : Nat → P1} (V : PV pa pb s T) (D : ∀ j, j < 16 → Dn (T j)) : s.o = [] ∧ s.bk = [] ∧ listOf s.a.db = listOf s.b.db ∧ rests s.a = true ∧ rests s.b = true := by
 refine ⟨?_, ?_, list_eq (fun j hj => ?_), rests_of (fun m hm j hj => ?_), rests_of (fun m hm j hj => ?_)⟩
 · rw [V.o]; exact msg_none (fun j hj => (D j hj).e.1) (fun j hj => (D j hj).e.2.1)
 · rw [V.bk]; exact msg_none (fun j hj => (D j hj).e.2.2.1) (fun j hj => (D j hj).e.2.2.2)
 · have ea := V.va j hj
   have eb := V.vb j hj
   have A2 := congrArg Vw.has ea
   have B2 := congrArg Vw.has eb
   have A3 := congrArg Vw.adv ea
   have B3 := congrArg Vw.adv eb
   exact ⟨A2.trans ((D j hj).has.trans B2.symm), fun h => A3.trans (((D j hj).adv (A2.symm.trans h)).trans B3.symm)⟩
 · by_cases e : m = pa
   · subst e
     have := congrArg Vw.wait (V.va j hj)
     exact Int.le_trans (Int.le_of_eq this) (D j hj).wa
   · exact V.oa m hm e j hj
 · by_cases e : m = pb
   · subst e
     have := congrArg Vw.wait (V.vb j hj)
     exact Int.le_trans (Int.le_of_eq this) (D j hj).wb
   · exact V.ob m hm e j hj
structure Lo2 (hx hy : Bool) (t u v p q z : P1) : Prop where
 fo : hx = false → t.fo = none ∧ u.fo = none
 fb : hy = false → t.fb = none ∧ u.fb = none
 e : v.fo = none ∧ v.go = none ∧ v.fb = none ∧ v.gb = none
 fo5 : hx = false → p.fo = none ∧ q.fo = none
 fb5 : hy = false → p.fb = none ∧ q.fb = none
 dn : Dn z
def zP (l1 l2 m1 m2 : Bool) (t : P1) : P1 := st1 0 0 m1 m2 (st1 0 0 l1 l2 t)
def Lo (hx hy l1 l2 m1 m2 : Bool) (t : P1) : Prop := Lo2 hx hy t (st1 0 0 l1 l2 t) (zP l1 l2 m1 m2 t) (tt1 5 (zP l1 l2 m1 m2 t)) (st1 5 5 false false (tt1 5 (zP l1 l2 m1 m2 t))) (st1 5 5 false false (st1 5 5 false false (tt1 5 (zP l1 l2 m1 m2 t))))
theorem lossy (hx hy : Bool) (x y : S24) (wa wb : Int) (hwa : wa ≤ 0) (hwb : wb ≤ 0) (hn : hx = true → hy = false) (l1 l2 m1 m2 : Bool) :
 Lo hx hy l1 l2 m1 m2 (tI 0 hx hy x y wa wb) := by
 have hr := newerP_refl
 have ha : ¬ 0 < wa := by omega
 have hb : ¬ 0 < wb := by omega
 cases hx with
 | false =>
  cases hy with
  | false => cases l1 <;> cases l2 <;> cases m1 <;> cases m2 <;> refine ⟨?_, ?_, ?_, ?_, ?_, ⟨?_, ?_, ?_, ?_, ?_, ?_, ?_⟩⟩ <;> simp [zP, tI, vI, tt1, tkV, st1, inV, tkO, takeV, nrV, akO, ackV, outV, clrV, hwa, hwb, ha, hb]
  | true => cases l1 <;> cases l2 <;> cases m1 <;> cases m2 <;> refine ⟨?_, ?_, ?_, ?_, ?_, ⟨?_, ?_, ?_, ?_, ?_, ?_, ?_⟩⟩ <;> simp [zP, tI, vI, tt1, tkV, st1, inV, tkO, takeV, nrV, akO, ackV, outV, clrV, hr, hwa, hwb, ha, hb]
 | true =>
  cases hy with
  | false => cases l1 <;> cases l2 <;> cases m1 <;> cases m2 <;> refine ⟨?_, ?_, ?_, ?_, ?_, ⟨?_, ?_, ?_, ?_, ?_, ?_, ?_⟩⟩ <;> simp [zP, tI, vI, tt1, tkV, st1, inV, tkO, takeV, nrV, akO, ackV, outV, clrV, hr, hwa, hwb, ha, hb]
  | true => exact absurd (hn rfl) (by simp)
theorem stp_ids {lost : List Int} {pa pb : Nat} {s : Pr} {T : Nat → P1} (ha : pa < 8) (hb : pb < 8) (h : PV pa pb s T) (hne : NeO s T) {na nb : Int} (h1 : s.a.now = na) (h2 : s.b.now = nb) :
 ∃ lo lb : Bool, (lost = [] → lo = false ∧ lb = false) ∧ PV pa pb (stp lost pa pb s) (fun j => st1 na nb lo lb (T j)) ∧ (stp lost pa pb s).a.id = s.a.id ∧ (stp lost pa pb s).b.id = s.b.id ∧ (stp lost pa pb s).a.now = na ∧ (stp lost pa pb s).b.now = nb := by
 obtain ⟨lo, lb, a, b, c, d, e, f⟩ := stp_view (lost := lost) ha hb h hne
 rw [h1, h2] at b
 exact ⟨lo, lb, a, b, c, d, e.trans h1, f.trans h2⟩
theorem lost_one {a b : Rt} {oa ob : Nat} (hA : Kx a oa) (hB : Kx b ob) (h1 : oa < 3) (h2 : ob < 3) (hne : oa ≠ ob) (hbo : ∀ j, j < 16 → b.db.2 j = true → j = ob) {pa pb : Nat} (hpa : pa < 8) (hpb : pb < 8) (ida idb : Int) (lost : List Int) :
 (itr lost pa pb 2 (mtS a b ida idb pa pb)).o = [] ∧ (itr lost pa pb 2 (mtS a b ida idb pa pb)).bk = [] ∧ (PrOk pa pb (itr lost pa pb 2 (mtS a b ida idb pa pb)) ∧ Oth (itr lost pa pb 2 (mtS a b ida idb pa pb)).a pa ∧ Oth (itr lost pa pb 2 (mtS a b ida idb pa pb)).b pb) ∧ (itr lost pa pb 2 (mtS a b ida idb pa pb)).a.now = 0 ∧ (itr lost pa pb 2 (mtS a b ida idb pa pb)).b.now = 0 ∧
 ∃ T : Nat → P1, PV pa pb (itr [] pa pb 2 (tkS (itr lost pa pb 2 (mtS a b ida idb pa pb)) 5 pa pb)) T ∧ (∀ j, j < 16 → Dn (T j)) ∧ (itr [] pa pb 2 (tkS (itr lost pa pb 2 (mtS a b ida idb pa pb)) 5 pa pb)).a.now = 5 ∧ (itr [] pa pb 2 (tkS (itr lost pa pb 2 (mtS a b ida idb pa pb)) 5 pa pb)).b.now = 5 := by
 have PA : PlD (put a.db (ownAdv (upX a pa idb 3))) oa := hA.db.put hA.id
 have V0 := mtS_view hA.idle hB.idle hpa hpb ida idb (by rw [hA.now, hB.now]) hA.zer hB.zer
 have i1 : (mtS a b ida idb pa pb).a.id = a.id := (up_view hA.idle hpa idb 3).2.2.2.1
 have i2 : (mtS a b ida idb pa pb).b.id = b.id := (up_view hB.idle hpb ida 3).2.2.2.1
 have n1 : (mtS a b ida idb pa pb).a.now = 0 := (up_view hA.idle hpa idb 3).2.2.1.trans hA.now
 have n2 : (mtS a b ida idb pa pb).b.now = 0 := (up_view hB.idle hpb ida 3).2.2.1.trans hB.now
 rw [hA.now] at V0
 have hB' : ∀ j, j < 16 → (put b.db (ownAdv (upX b pb ida 3))).2 j = true → j = ob := fun j hj h => by
  by_cases e : j = ob
  · exact e
  · have hn : j ≠ (ownAdv (upX b pb ida 3)).f0.toNat := by
     rw [show (ownAdv (upX b pb ida 3)).f0 = (ob : Int) from hB.id]; exact e
    rw [(put_other (d := b.db) hn).1] at h
    exact hbo j hj h
 have hex : ∀ j, j < 16 → (put a.db (ownAdv (upX a pa idb 3))).2 j = true → (put b.db (ownAdv (upX b pb ida 3))).2 j = false := fun j hj h => by
  cases hb : (put b.db (ownAdv (upX b pb ida 3))).2 j with
  | false => rfl
  | true =>
   have e := hB' j hj hb
   have := (PA j hj h (by omega)).1
   omega
 have hab : ∀ j : Nat, j < 16 → (j : Int) = b.id → (put a.db (ownAdv (upX a pa idb 3))).2 j = false := fun j hj e => by
  rw [hB.id] at e
  cases h : (put a.db (ownAdv (upX a pa idb 3))).2 j with
  | false => rfl
  | true => have := (PA j hj h (by omega)).1; omega
 have hba : ∀ j : Nat, j < 16 → (j : Int) = a.id → (put b.db (ownAdv (upX b pb ida 3))).2 j = false := fun j hj e => by
  rw [hA.id] at e
  cases h : (put b.db (ownAdv (upX b pb ida 3))).2 j with
  | false => rfl
  | true => have := hB' j hj h; omega
 have F : ∀ (l1 l2 m1 m2 : Bool) (j : Nat), j < 16 → Lo ((put a.db (ownAdv (upX a pa idb 3))).2 j) ((put b.db (ownAdv (upX b pb ida 3))).2 j) l1 l2 m1 m2 (t0 (put a.db (ownAdv (upX a pa idb 3))) (put b.db (ownAdv (upX b pb ida 3))) 0 (fun j => (a.port pa).wait j) (fun j => (b.port pb).wait j) j) := fun l1 l2 m1 m2 j hj =>
  lossy _ _ _ _ _ _ (hA.zer pa hpa j hj) (hB.zer pb hpb j hj) (hex j hj) l1 l2 m1 m2
 generalize t0 (put a.db (ownAdv (upX a pa idb 3))) (put b.db (ownAdv (upX b pb ida 3))) 0 (fun j => (a.port pa).wait j) (fun j => (b.port pb).wait j) = T at V0 F
 generalize mtS a b ida idb pa pb = s at V0 i1 i2 n1 n2 ⊢
 have F0 := F false false false false
 obtain ⟨l1, l2, _, V1, j1, j2, m1, m2⟩ := stp_ids (lost := lost) hpa hpb V0 (fun j hj => ⟨fun e => ((F0 j hj).fo (hab j hj (e.trans i2))).1, fun e => ((F0 j hj).fb (hba j hj (e.trans i1))).1⟩) n1 n2
 have F1 := F l1 l2 false false
 obtain ⟨k1, k2, _, V2, j3, j4, m3, m4⟩ := stp_ids (lost := lost) hpa hpb V1 (fun j hj => ⟨fun e => ((F1 j hj).fo (hab j hj (e.trans (j2.trans i2)))).2, fun e => ((F1 j hj).fb (hba j hj (e.trans (j1.trans i1)))).2⟩) m1 m2
 have F2 := F l1 l2 k1 k2
 have W0 := tkS_view V2 (now := 5) (by omega) (by omega)
 have ei1 : (tkS (stp lost pa pb (stp lost pa pb s)) 5 pa pb).a.id = a.id := j3.trans (j1.trans i1)
 have ei2 : (tkS (stp lost pa pb (stp lost pa pb s)) 5 pa pb).b.id = b.id := j4.trans (j2.trans i2)
 obtain ⟨_, _, hl, W1, j5, j6, m5, m6⟩ := stp_ids (lost := []) (na := 5) (nb := 5) hpa hpb W0 (fun j hj => ⟨fun e => ((F2 j hj).fo5 (hab j hj (e.trans ei2))).1, fun e => ((F2 j hj).fb5 (hba j hj (e.trans ei1))).1⟩) rfl rfl
 obtain ⟨rfl, rfl⟩ := hl rfl
 obtain ⟨_, _, hl, W2, j7, j8, m7, m8⟩ := stp_ids (lost := []) (na := 5) (nb := 5) hpa hpb W1 (fun j hj => ⟨fun e => ((F2 j hj).fo5 (hab j hj (e.trans (j6.trans ei2)))).2, fun e => ((F2 j hj).fb5 (hba j hj (e.trans (j5.trans ei1)))).2⟩) m5 m6
 obtain ⟨rfl, rfl⟩ := hl rfl
 refine ⟨?_, ?_, ⟨V2.ok, V2.oa, V2.ob⟩, m3, m4, _, W2, fun j hj => (F2 j hj).dn, m7, m8⟩
 · show (stp lost pa pb (stp lost pa pb s)).o = []
   rw [V2.o]; exact msg_none (fun j hj => (F2 j hj).e.1) (fun j hj => (F2 j hj).e.2.1)
 · show (stp lost pa pb (stp lost pa pb s)).bk = []
   rw [V2.bk]; exact msg_none (fun j hj => (F2 j hj).e.2.2.1) (fun j hj => (F2 j hj).e.2.2.2)
theorem lost_more {pa pb : Nat} (hpa : pa < 8) (hpb : pb < 8) {s : Pr} {T : Nat → P1} (V : PV pa pb s T) (D : ∀ j, j < 16 → Dn (T j)) {now : Int} (h0 : 0 ≤ now) (h1 : now ≤ 1000000000) :
 ∃ T' : Nat → P1, PV pa pb (itr [] pa pb 2 (tkS s now pa pb)) T' ∧ (∀ j, j < 16 → Dn (T' j)) ∧ (itr [] pa pb 2 (tkS s now pa pb)).a.now = now ∧ (itr [] pa pb 2 (tkS s now pa pb)).b.now = now := by
 have W0 := tkS_view V h0 h1
 have D0 : ∀ j, j < 16 → Dn (tt1 now (T j)) := fun j hj => by rw [(D j hj).tick now]; exact D j hj
 obtain ⟨_, _, hl, W1, j5, j6, m5, m6⟩ := stp_ids (lost := []) (na := now) (nb := now) hpa hpb W0 (fun j hj => ⟨fun _ => (D0 j hj).e.1, fun _ => (D0 j hj).e.2.2.1⟩) rfl rfl
 obtain ⟨rfl, rfl⟩ := hl rfl
 have D1 : ∀ j, j < 16 → Dn (st1 now now false false (tt1 now (T j))) := fun j hj => by rw [(D0 j hj).step now]; exact D0 j hj
 obtain ⟨_, _, hl, W2, j7, j8, m7, m8⟩ := stp_ids (lost := []) (na := now) (nb := now) hpa hpb W1 (fun j hj => ⟨fun _ => (D1 j hj).e.1, fun _ => (D1 j hj).e.2.2.1⟩) m5 m6
 obtain ⟨rfl, rfl⟩ := hl rfl
 exact ⟨_, W2, fun j hj => by show Dn (st1 now now false false (st1 now now false false (tt1 now (T j)))); rw [(D1 j hj).step now]; exact D1 j hj, m7, m8⟩
def flS (lost : List Int) (a b : Rt) : Nat → Pr
 | 0 => itr lost 0 3 2 (mtS a b 1 2 0 3)
 | k + 1 => itr [] 0 3 2 (tkS (flS lost a b k) (5 * ((k : Int) + 1)) 0 3)
theorem flS_ok {a b : Rt} (hA : Kx a 1) (hB : Kx b 2) (hbo : ∀ j, j < 16 → b.db.2 j = true → j = 2) (lost : List Int) : ∀ k, k ≤ 10 → (flS lost a b k).o = [] ∧ (flS lost a b k).bk = [] ∧ (PrOk 0 3 (flS lost a b k) ∧ Oth (flS lost a b k).a 0 ∧ Oth (flS lost a b k).b 3) ∧ (flS lost a b k).a.now = 5 * (k : Int) ∧ (flS lost a b k).b.now = 5 * (k : Int) ∧ (0 < k → ∃ T : Nat → P1, PV 0 3 (flS lost a b k) T ∧ ∀ j, j < 16 → Dn (T j))
 | 0, _ => by
  obtain ⟨h1, h2, h3, h4, h5, _⟩ := lost_one hA hB (by omega) (by omega) (by omega) hbo (pa := 0) (pb := 3) (by omega) (by omega) 1 2 lost
  exact ⟨h1, h2, h3, h4, h5, fun h => absurd h (Nat.lt_irrefl 0)⟩
 | 1, _ => by
  obtain ⟨_, _, _, _, _, T, V, D, n1, n2⟩ := lost_one hA hB (by omega) (by omega) (by omega) hbo (pa := 0) (pb := 3) (by omega) (by omega) 1 2 lost
  obtain ⟨e1, e2, _⟩ := Dn.pair V D
  exact ⟨e1, e2, ⟨V.ok, V.oa, V.ob⟩, n1, n2, fun _ => ⟨T, V, D⟩⟩
 | k + 2, hk => by
  obtain ⟨_, _, _, _, _, hT⟩ := flS_ok hA hB hbo lost (k + 1) (by omega)
  obtain ⟨T, V, D⟩ := hT (by omega)
  obtain ⟨T', V', D', n1, n2⟩ := lost_more (by omega) (by omega) V D (now := 5 * (((k + 1 : Nat) : Int) + 1)) (by omega) (by omega)
  obtain ⟨e1, e2, _⟩ := Dn.pair V' D'
  exact ⟨e1, e2, ⟨V'.ok, V'.oa, V'.ob⟩, n1, n2, fun _ => ⟨T', V', D'⟩⟩
theorem tkS_ok {pa pb : Nat} {s : Pr} (h : PrOk pa pb s) {now : Int} (h0 : 0 ≤ now) (h1 : now ≤ 1000000000) : PrOk pa pb (tkS s now pa pb) :=
 ⟨tk_ri h.a h0 h1, tk_ri h.b h0 h1, sends_ok h.a.inv.ok.db (fun y hy => absurd hy List.not_mem_nil) (by simp), sends_ok h.b.inv.ok.db (fun y hy => absurd hy List.not_mem_nil) (by simp)⟩
theorem tk_sil {r : Rt} {i : Nat} (h : RI r i) (ho : Oth r i) (now : Int) : Sil (tkR r now) i := fun m hm hn j hj => by
 show (if j < 16 ∧ due (r.port m) now j then true else (r.port m).send j) = false
 have := ho m hm hn j hj
 rw [if_neg]
 · exact h.sil m hm hn j hj
 · rintro ⟨_, h1, _⟩; omega
theorem tk_snt {r : Rt} {i : Nat} (hi : i < 8) (h : RI r i) (ho : Oth r i) (now : Int) : sntTo (tkR r now) nil129 8 = sends (tkR r now) i [] := sntTo_nil hi (tk_sil h ho now)
end Go.Proofs.Ytaneaabmgnanbaa.M
