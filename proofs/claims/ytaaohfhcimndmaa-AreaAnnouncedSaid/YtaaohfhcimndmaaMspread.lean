/- Own lemmas: spread. -/
import Derived.Test.YtaaohfhcimndmaaMarow
import Derived.LoopTactic
import Derived.BigQuiet
import Derived.RegionTactic
import Derived.BigRegion
namespace Go.Proofs.Ytaaohfhcimndmaa.M
open Go.RowKit Go.Proofs.YtaaohfhcimndmaaW.PrintWords Go.Proofs.YtaaohfhcimndmaaW.PrintLast Go.Proofs.YtaaohfhcimndmaaW.PrintMore 
set_option linter.unusedVariables false
set_option linter.unusedSimpArgs false

open Go.Proofs.Ytaaohfhcimndmaa.PAreaAnnounced
theorem sum_set (f : Int → Nat) : ∀ (l : List Int) (i : Nat) (a : Int), i < l.length → ((l.set i a).map f).sum + f (l.getD i 0) = (l.map f).sum + f a
  | [], i, a, h => by simp at h
  | b :: l, 0, a, h => by simp; omega
  | b :: l, i + 1, a, h => by
    have := sum_set f l i a (by simpa using h)
    simp only [List.set_cons_succ, List.map_cons, List.sum_cons, List.getD_cons_succ]
    omega
theorem sum_one (f : Int → Nat) (hf : ∀ v, f v ≤ 1) : ∀ l : List Int, (l.map f).sum ≤ l.length
  | [] => by simp
  | b :: l => by
    have := sum_one f hf l
    have := hf b
    simp only [List.map_cons, List.sum_cons, List.length_cons]
    omega
def one (v : Int) : Nat := if 0 ≤ v then 1 else 0
def cnt (ys : List Int) : Nat := (ys.map one).sum
theorem cnt_le (ys : List Int) : cnt ys ≤ ys.length := sum_one one (fun v => by unfold one; split <;> omega) ys
def pot (K : Nat) (v : Int) : Nat := if v < 0 then K else v.toNat
def phi (K : Nat) (ys : List Int) : Nat := (ys.map (pot K)).sum
theorem rd_nat (ys : List Int) (i : Nat) : rd ys i = ys.getD i 0 := by simp [rd]
/-- An edge that improves nothing. -/
def Cl (e : S46) (ys : List Int) : Prop := 0 ≤ rd ys e.f0 → 0 ≤ rd ys e.f1 ∧ rd ys e.f1 ≤ rd ys e.f0 + e.f2
/-- Costs that begin at those of xs. -/
structure SI (n : Nat) (es : List S46) (X : Nat) (xs ys : List Int) : Prop where
  yl : ys.length = n
  lo : ∀ v : Int, 0 ≤ v → v < n → -1 ≤ rd ys v
  hi : ∀ v : Int, 0 ≤ v → v < n → rd ys v ≤ X + 65535 * cnt ys
  le : ∀ v : Int, 0 ≤ v → v < n → 0 ≤ rd xs v → 0 ≤ rd ys v ∧ rd ys v ≤ rd xs v
  rc : ∀ v : Int, 0 ≤ v → v < n → 0 ≤ rd ys v → ∃ u d : Int, 0 ≤ u ∧ u < n ∧ 0 ≤ rd xs u ∧ Rch es u v d ∧ rd ys v = rd xs u + d
theorem SI.start {n : Nat} {es : List S46} {X : Nat} {xs : List Int} (hl : xs.length = n) (lo : ∀ v : Int, 0 ≤ v → v < n → -1 ≤ rd xs v) (hi : ∀ v : Int, 0 ≤ v → v < n → rd xs v ≤ X) : SI n es X xs xs :=
  ⟨hl, lo, fun v h0 h1 => by have := hi v h0 h1; omega, fun v h0 h1 h2 => ⟨h2, Int.le_refl _⟩, fun v h0 h1 h2 => ⟨v, 0, h0, h1, h2, .start, by omega⟩⟩
theorem SI.bound {n : Nat} {es : List S46} {X : Nat} {xs ys : List Int} (h : SI n es X xs ys) (hn : n ≤ 16) {v : Int} (h0 : 0 ≤ v) (h1 : v < n) : rd ys v ≤ X + 1048560 := by
  have := h.hi v h0 h1
  have := cnt_le ys
  have := h.yl
  omega
theorem SI.step {n : Nat} {es : List S46} {X K : Nat} {xs ys : List Int} (hg : GOk n es) (h : SI n es X xs ys) (hK : X + 1048561 ≤ K) {e : S46} (he : e ∈ es) {v : Nat} (hv : e.f1 = v) (hc : 0 ≤ rd ys e.f0) (hb : rd ys v < 0 ∨ rd ys e.f0 + e.f2 < rd ys v) :
    SI n es X xs (ys.set v (rd ys e.f0 + e.f2)) ∧ phi K (ys.set v (rd ys e.f0 + e.f2)) < phi K ys := by
  obtain ⟨g0, g1, g2, g3, g4, g5⟩ := hg.ok e he
  have hl := h.yl
  have hn16 := hg.n16
  have hvn : v < ys.length := by omega
  obtain ⟨a, ha⟩ : ∃ a, a = rd ys e.f0 + e.f2 := ⟨_, rfl⟩
  rw [← ha] at hb ⊢
  have hset : ∀ u : Int, 0 ≤ u → rd (ys.set v a) u = if u = v then a else rd ys u := fun u hu => by
    have := rd_set (cost := ys) (i := (v : Int)) (c := a) (v := u) (by omega) (by omega) hu
    simpa using this
  have hcn := sum_set one ys v a hvn
  have hph := sum_set (pot K) ys v a hvn
  rw [← rd_nat] at hcn hph
  have e1 : ((ys.set v a).map one).sum = cnt (ys.set v a) := rfl
  have e2 : (ys.map one).sum = cnt ys := rfl
  have e3 : ((ys.set v a).map (pot K)).sum = phi K (ys.set v a) := rfl
  have e4 : (ys.map (pot K)).sum = phi K ys := rfl
  rw [e1, e2] at hcn
  rw [e3, e4] at hph
  have ho1 : one a = 1 := by unfold one; rw [if_pos (by omega)]
  have hcl := cnt_le ys
  have hcs := cnt_le (ys.set v a)
  rw [List.length_set] at hcs
  have hc1 : cnt ys ≤ cnt (ys.set v a) := by
    have : one (rd ys v) ≤ 1 := by unfold one; split <;> omega
    omega
  have h1 := h.hi e.f0 g0 g1
  have hab : a ≤ X + 65535 * cnt (ys.set v a) := by
    rcases hb with hb | hb
    · have : one (rd ys v) = 0 := by unfold one; rw [if_neg (by omega)]
      omega
    · have := h.hi v (by omega) (by omega)
      omega
  refine ⟨⟨by rw [List.length_set]; exact hl, fun u h0 hu => ?_, fun u h0 hu => ?_, fun u h0 hu hx => ?_, fun u h0 hu hy => ?_⟩, ?_⟩
  · rw [hset u h0]
    split
    · omega
    · exact h.lo u h0 hu
  · rw [hset u h0]
    split
    · exact hab
    · have := h.hi u h0 hu
      omega
  · rw [hset u h0]
    have := h.le u h0 hu hx
    split
    · rename_i e; subst e
      omega
    · exact this
  · rw [hset u h0] at hy ⊢
    split
    · rename_i eu
      obtain ⟨s, d, s0, s1, sx, sr, sd⟩ := h.rc e.f0 g0 g1 hc
      refine ⟨s, d + e.f2, s0, s1, sx, ?_, by omega⟩
      subst eu
      rw [← hv]
      exact .step sr he rfl
    · rename_i e
      rw [if_neg e] at hy
      exact h.rc u h0 hu hy
  · have hpa : pot K a = a.toNat := by unfold pot; rw [if_neg (by omega)]
    have hlt : pot K a < pot K (rd ys v) := by
      rw [hpa]
      rcases hb with hb | hb
      · have : pot K (rd ys v) = K := by unfold pot; rw [if_pos hb]
        omega
      · have : pot K (rd ys v) = (rd ys v).toNat := by unfold pot; rw [if_neg (by omega)]
        omega
    omega
/-- What a spread tells. -/
structure Sp (n : Nat) (es : List S46) (X : Nat) (xs ys : List Int) : Prop where
  yl : ys.length = n
  lo : ∀ v : Int, 0 ≤ v → v < n → -1 ≤ rd ys v
  hi : ∀ v : Int, 0 ≤ v → v < n → rd ys v ≤ X + 1048560
  le : ∀ v : Int, 0 ≤ v → v < n → 0 ≤ rd xs v → 0 ≤ rd ys v ∧ rd ys v ≤ rd xs v
  cl : ∀ e ∈ es, Cl e ys
  rc : ∀ v : Int, 0 ≤ v → v < n → 0 ≤ rd ys v → ∃ u d : Int, 0 ≤ u ∧ u < n ∧ 0 ≤ rd xs u ∧ Rch es u v d ∧ rd ys v = rd xs u + d
theorem SI.whole {n : Nat} {es : List S46} {X : Nat} {xs ys : List Int} (h : SI n es X xs ys) (hn : n ≤ 16) (hc : ∀ e ∈ es, Cl e ys) : Sp n es X xs ys :=
  ⟨h.yl, h.lo, fun v h0 h1 => h.bound hn h0 h1, h.le, hc, h.rc⟩
theorem Sp.min {n : Nat} {es : List S46} {X : Nat} {xs ys : List Int} (h : Sp n es X xs ys) {u v d : Int} (u0 : 0 ≤ u) (un : u < n) (hx : 0 ≤ rd xs u) (hr : Rch es u v d) : 0 ≤ rd ys v ∧ rd ys v ≤ rd xs u + d := by
  induction hr with
  | start => have := h.le u u0 un hx; omega
  | step hr he hu ih =>
    subst hu
    have := h.cl _ he ih.1
    omega
theorem Clone47n (n G c : Nat) (xs : List Int) (w : World) (hx : xs.length = n) (h1 : 1 ≤ n) (hn : n ≤ 1000) (HR : Hid (RowAt w G xs)) :
    Calls Try.prog 47 #[.slice (some ⟨G, 0, none⟩) n c] w fun e w' => ∃ g c', e = .returned (.slice (some ⟨g, 0, none⟩) n c') ∧ n ≤ c' ∧ w.heap.size ≤ g ∧ RowAt w' g xs ∧ Below w.heap.size w w' := by
  subst hx
  exact Clone47 G c xs w h1 hn HR
/-- The row of a world, for the measure of a loop. -/
def rowOf (w : World) (G n : Nat) : List Int := (List.range n).map fun i => match w.cell? ⟨G, i, none⟩ with | some (.int _ v) => v | _ => 0
theorem rowOf_eq {w : World} {G n : Nat} {ys : List Int} (h : RowAt w G ys) (hl : ys.length = n) : rowOf w G n = ys := by
  subst hl
  refine List.ext_getElem (by simp [rowOf]) (fun i h1 h2 => ?_)
  simp only [rowOf, List.getElem_map, List.getElem_range]
  rw [h.cell h2]
  simp [rd, List.getD_eq_getElem?_getD, h2]
def isT (v : Value) : Nat := match v with | .bool true => 1 | _ => 0
set_option maxHeartbeats 4000000 in
set_option maxRecDepth 100000 in
theorem spread49 (n X G c : Nat) (es : List S46) (A : Option Addr) (ce : Nat) (xs : List Int) (w : World) (hg : GOk n es) (hle : es.length ≤ ce) (hX : X ≤ 1000000000) (hx : xs.length = n) (hc : n ≤ c)
    (hlo : ∀ v : Int, 0 ≤ v → v < n → -1 ≤ rd xs v) (hhi : ∀ v : Int, 0 ≤ v → v < n → rd xs v ≤ X) (HK : Hid (Kd.C k46 w A es.length es)) (HX : Hid (RowAt w G xs)) :
    Calls Try.prog 49 #[.agg #[.int .i64 n, .slice A es.length ce], .slice (some ⟨G, 0, none⟩) n c] w fun e w' => ∃ g c' ys, e = .returned (.slice (some ⟨g, 0, none⟩) n c') ∧ n ≤ c' ∧ w.heap.size ≤ g ∧ RowAt w' g ys ∧ Sp n es X xs ys ∧ Below w.heap.size w w' := by
  have hu25 := Try.underlying25
  have hu40 := Try.underlying40
  have hu42 := Try.underlying42
  have hu46 := Try.underlying46
  have HXl := Lib.hid hx
  have HST := Lib.hid (SI.start (es := es) hx hlo hhi)
  have HG := Lib.hid hg
  have hn1 := hg.n1
  have hn16 := hg.n16
  have hel := hg.len
  clear hg hlo hhi
  obtain ⟨K, HKe⟩ : ∃ K, Hid (K = X + 1048561) := ⟨_, Lib.hid rfl⟩
  go_enter Try.func49, Try.ntmps49
  go_wp2_with fail
  have HT := Lib.hid (blk_alloc w (.cells #[.int .i64 n, .slice A es.length ce] 42))
  have HB := Lib.hid (below_alloc (Below.refl w.heap.size w) (.cells #[.int .i64 n, .slice A es.length ce] 42))
  obtain ⟨t, Ht⟩ : ∃ b, Hid (b = w.heap.size) := ⟨_, Lib.hid rfl⟩
  rw [← Ht.out] at HT
  refine (Clone47n n G c xs _ hx hn1 (by omega) (Lib.hid (HX.out.keep HB.out))).mono ?_
  rw [← Ht.out]
  rintro e w1 ⟨g, cg, rfl, hgc, hgl, hrow, hb⟩
  have HGT := Lib.hid (show t ≠ g from Nat.ne_of_lt (Nat.lt_of_lt_of_le (blk_lt HT.out) hgl))
  have HGW := Lib.hid (show w.heap.size ≤ g from Nat.le_trans HB.out.size hgl)
  have HR1 := Lib.hid hrow
  have HT1 := Lib.hid (blk_keep hb HT.out)
  have HB1 := Lib.hid (below_self HB.out hb)
  clear hgl hrow hb
  go_wp2_with fail
  go_loopw [6] (fun va wr => ∃ (again : Bool) (ys : List Int), va = .bool again ∧ Hid (SI n es X xs ys) ∧ Hid (again = true ∨ ∀ e ∈ es, Cl e ys) ∧ Hid (RowAt wr g ys) ∧ Hid (wr.heap[t]? = some (.cells #[.int .i64 n, .slice A es.length ce] 42 (0, 0))) ∧ Hid (Below w.heap.size w wr)) (fun va wr => 2 * phi K (rowOf wr g n) + isT va)
  case atStart => exact ⟨true, xs, rfl, HST, Lib.hid (.inl rfl), HR1, HT1, HB1⟩
  case round =>
    obtain ⟨again, ys, rfl, HS, HA, HRr, HTr, HBr⟩ := hrel
    cases again with
    | false =>
      have HC := Lib.hid (show ∀ e ∈ es, Cl e ys from by rcases HA.out with h | h; cases h; exact h)
      go_wp2_with fail
      go_ret
      exact ⟨g, cg, ys, rfl, hgc, HGW.out, HRr.out, HS.out.whole hn16 HC.out, HBr.out⟩
    | true =>
      obtain ⟨x0, x1, xf⟩ := blk_cells2 HTr.out
      have hxl := blk_lt HTr.out
      have HM := Lib.hid (rowOf_eq HRr.out HS.out.yl)
      go_wp2_with fail
      clear x0 x1 xf hxl
      go_loopw [6, 16] (fun va vj wq => ∃ (j : Nat) (again : Bool) (zs : List Int), j ≤ es.length ∧ va = .bool again ∧ vj = .int .i64 j ∧ Hid (SI n es X xs zs) ∧ Hid (again = false → zs = ys ∧ ∀ e ∈ es.take j, Cl e ys) ∧ Hid (again = true → phi K zs < phi K ys) ∧ Hid (RowAt wq g zs) ∧ Hid (wq.heap[t]? = some (.cells #[.int .i64 n, .slice A es.length ce] 42 (0, 0))) ∧ Hid (Below w.heap.size w wq)) (fun _ j _ => es.length - (intOf j).toNat)
      case atStart => exact ⟨0, false, ys, Nat.zero_le _, rfl, rfl, HS, Lib.hid (fun _ => ⟨rfl, fun e he => absurd he List.not_mem_nil⟩), Lib.hid (fun h => by cases h), HRr, HTr, HBr⟩
      case round =>
        obtain ⟨j, again, zs, hj, rfl, rfl, HS2, HF, HP, HR2, HT2, HB2⟩ := hrel
        by_cases hlt : j < es.length
        · obtain ⟨ad, rfl, hcell⟩ := C46_cell (Kd.C_below HK.out HB2.out) (by omega)
          obtain ⟨x, Hx⟩ : ∃ e : S46, Hid (e = es.getD j z46) := ⟨_, Lib.hid rfl⟩
          obtain ⟨c0, c1, c2⟩ := hcell j hlt
          rw [← Hx.out] at c0 c1 c2
          have hxm : x ∈ es := by rw [Hx.out, List.getD_eq_getElem?_getD, List.getElem?_eq_getElem hlt]; exact List.getElem_mem hlt
          have HXM := Lib.hid hxm
          have hxo := HG.out.ok x hxm
          have HSN : Hid (es.take (j + 1) = es.take j ++ [x]) := Lib.hid (by rw [List.take_add_one, Hx.out]; simp [List.getD_eq_getElem?_getD, hlt])
          obtain ⟨u, huv⟩ : ∃ v : Nat, x.f0 = v := ⟨x.f0.toNat, by omega⟩
          obtain ⟨v, hvv⟩ : ∃ v : Nat, x.f1 = v := ⟨x.f1.toNat, by omega⟩
          have HU := Lib.hid huv
          have HV := Lib.hid hvv
          obtain ⟨cc, Hcc⟩ : ∃ v, Hid (v = x.f2) := ⟨_, Lib.hid rfl⟩
          rw [huv] at c0 hxo
          rw [hvv] at c1 hxo
          rw [← Hcc.out] at c2 hxo
          obtain ⟨_, hun, _, hvn, hc1, hc2⟩ := hxo
          clear hcell hxm huv hvv
          have hbe := below_alloc (Below.refl wr.heap.size wr) (.cells #[.int .i64 u, .int .i64 v, .int .i64 cc] 46)
          have HE3 := Lib.hid (blk_alloc wr (.cells #[.int .i64 u, .int .i64 v, .int .i64 cc] 46))
          have HR3 := Lib.hid (HR2.out.keep hbe)
          have HT3 := Lib.hid (blk_keep hbe HT2.out)
          have HB3 := Lib.hid (below_self HB2.out hbe)
          clear hbe
          go_upto_region 8 with (fail)
          obtain ⟨xb, Hxb⟩ : ∃ b, Hid (b = wr.heap.size) := ⟨_, Lib.hid rfl⟩
          rw [← Hxb.out] at HE3
          rw [← Hxb.out]
          generalize wr.alloc (.cells #[.int .i64 u, .int .i64 v, .int .i64 cc] 46) = w3 at HE3 HR3 HT3 HB3 ⊢
          clear c0 c1 c2
          have hun2 : u < n := by omega
          have hvn2 : v < n := by omega
          have hzl := HS2.out.yl
          have e0 := blk_cell HE3.out 0
          have e1 := blk_cell HE3.out 1
          have e2 := blk_cell HE3.out 2
          have ef := blk_free HE3.out
          have r0 := HR3.out.cell (i := u) (by omega)
          have r1 := HR3.out.cell (i := v) (by omega)
          have rf := HR3.out.free v
          have hgl := HR3.out.lt
          obtain ⟨a, Ha⟩ : ∃ a, Hid (a = rd zs u) := ⟨_, Lib.hid rfl⟩
          obtain ⟨b, Hb⟩ : ∃ a, Hid (a = rd zs v) := ⟨_, Lib.hid rfl⟩
          have hab := HS2.out.bound hn16 (v := (u : Int)) (by omega) hun
          have hal := HS2.out.lo u (by omega) hun
          rw [← Ha.out] at r0 hab hal
          rw [← Hb.out] at r1
          have hucg : (u : Int) < n := hun
          have hw : wrap64 (a + cc) = a + cc := wrap_in _ (by omega) (by omega)
          by_cases h0 : a ≥ 0
          · have d0 : decide (a ≥ 0) = true := decide_eq_true h0
            by_cases h1 : b < 0
            · have d1 : decide (b < 0) = true := decide_eq_true h1
              have HN := Lib.hid (SI.step HG.out HS2.out (K := K) (by rw [HKe.out]; omega) HXM.out HV.out (by rw [HU.out, ← Ha.out]; exact h0) (.inl (by rw [← Hb.out]; exact h1)))
              rw [HU.out, ← Ha.out, ← Hcc.out] at HN
              go_wp2_with fail
              go_quiet (fail)
              have hdn := pw_below_drewN (Below.refl w3.heap.size w3) nq
              have HE4 := Lib.hid (blk_keep hdn HE3.out)
              have HR4 := Lib.hid (HR3.out.keep hdn)
              have HT4 := Lib.hid (blk_keep hdn HT3.out)
              have HB4 := Lib.hid (below_self HB3.out hdn)
              clear hdn e0 e1 e2 ef r0 r1 rf hgl
              generalize w3.drewN nq = w4 at HE4 HR4 HT4 HB4 ⊢
              have e0 := blk_cell HE4.out 0
              have e1 := blk_cell HE4.out 1
              have e2 := blk_cell HE4.out 2
              have rf := HR4.out.free v
              have r1 := HR4.out.cell (i := v) (by omega)
              have hgl := HR4.out.lt
              go_wp2_with fail
              have HR7 := Lib.hid (HR4.out.set (i := v) (by omega) (a + cc))
              have HT7 := Lib.hid ((Below.heap_setCell w4 ⟨g, v, none⟩ (.int .i64 (a + cc)) _ HGT.out).trans HT4.out)
              have HB7 := Lib.hid (Below.setCell HB4.out (p := ⟨g, v, none⟩) HGW.out (.int .i64 (a + cc)))
              have hless : phi K (zs.set v (a + cc)) < phi K ys := by
                have h1 := HN.out.2
                cases again with
                | true => exact Nat.lt_trans h1 (HP.out rfl)
                | false =>
                  rw [(HF.out rfl).1] at h1 ⊢
                  exact h1
              go_round
              case rel => exact ⟨j + 1, true, _, by omega, rfl, by go_num, Lib.hid HN.out.1, Lib.hid (fun h => by cases h), Lib.hid (fun _ => hless), HR7, HT7, HB7⟩
              case measure => simp [intOf]; omega
            · have d1 : decide (b < 0) = false := decide_eq_false h1
              by_cases h2 : a + cc < b
              · have d2 : decide (a + cc < b) = true := decide_eq_true h2
                have HN := Lib.hid (SI.step HG.out HS2.out (K := K) (by rw [HKe.out]; omega) HXM.out HV.out (by rw [HU.out, ← Ha.out]; exact h0) (.inr (by rw [HU.out, ← Hb.out, ← Ha.out, ← Hcc.out]; exact h2)))
                rw [HU.out, ← Ha.out, ← Hcc.out] at HN
                go_wp2_with fail
                go_quiet (fail)
                have hdn := pw_below_drewN (Below.refl w3.heap.size w3) nq
                have HE4 := Lib.hid (blk_keep hdn HE3.out)
                have HR4 := Lib.hid (HR3.out.keep hdn)
                have HT4 := Lib.hid (blk_keep hdn HT3.out)
                have HB4 := Lib.hid (below_self HB3.out hdn)
                clear hdn e0 e1 e2 ef r0 r1 rf hgl
                generalize w3.drewN nq = w4 at HE4 HR4 HT4 HB4 ⊢
                have e0 := blk_cell HE4.out 0
                have e1 := blk_cell HE4.out 1
                have e2 := blk_cell HE4.out 2
                have rf := HR4.out.free v
                have r1 := HR4.out.cell (i := v) (by omega)
                have hgl := HR4.out.lt
                go_wp2_with fail
                have HR7 := Lib.hid (HR4.out.set (i := v) (by omega) (a + cc))
                have HT7 := Lib.hid ((Below.heap_setCell w4 ⟨g, v, none⟩ (.int .i64 (a + cc)) _ HGT.out).trans HT4.out)
                have HB7 := Lib.hid (Below.setCell HB4.out (p := ⟨g, v, none⟩) HGW.out (.int .i64 (a + cc)))
                have hless : phi K (zs.set v (a + cc)) < phi K ys := by
                  have h1 := HN.out.2
                  cases again with
                  | true => exact Nat.lt_trans h1 (HP.out rfl)
                  | false =>
                    rw [(HF.out rfl).1] at h1 ⊢
                    exact h1
                go_round
                case rel => exact ⟨j + 1, true, _, by omega, rfl, by go_num, Lib.hid HN.out.1, Lib.hid (fun h => by cases h), Lib.hid (fun _ => hless), HR7, HT7, HB7⟩
                case measure => simp [intOf]; omega
              · have d2 : decide (a + cc < b) = false := decide_eq_false h2
                have HCx : Hid (Cl x zs) := Lib.hid (fun _ => by rw [HU.out, HV.out, ← Ha.out, ← Hb.out, ← Hcc.out]; omega)
                go_wp2_with fail
                go_quiet (fail)
                have hdn := pw_below_drewN (Below.refl w3.heap.size w3) nq
                have HE4 := Lib.hid (blk_keep hdn HE3.out)
                have HR4 := Lib.hid (HR3.out.keep hdn)
                have HT4 := Lib.hid (blk_keep hdn HT3.out)
                have HB4 := Lib.hid (below_self HB3.out hdn)
                clear hdn e0 e1 e2 ef r0 r1 rf hgl
                generalize w3.drewN nq = w4 at HE4 HR4 HT4 HB4 ⊢
                have e0 := blk_cell HE4.out 0
                have e1 := blk_cell HE4.out 1
                have e2 := blk_cell HE4.out 2
                have rf := HR4.out.free v
                have r1 := HR4.out.cell (i := v) (by omega)
                have hgl := HR4.out.lt
                go_wp2_with fail
                go_round
                case rel =>
                  refine ⟨j + 1, again, zs, by omega, rfl, by go_num, HS2, Lib.hid (fun h => ?_), HP, HR4, HT4, HB4⟩
                  obtain ⟨f1, f2⟩ := HF.out h
                  refine ⟨f1, fun e he => ?_⟩
                  rw [HSN.out] at he
                  rcases List.mem_append.1 he with he | he
                  · exact f2 e he
                  · rw [List.mem_singleton.1 he, ← f1]
                    exact HCx.out
                case measure => simp [intOf]; omega
          · have d0 : decide (a ≥ 0) = false := decide_eq_false h0
            have HCx : Hid (Cl x zs) := Lib.hid (fun h => by rw [HU.out, ← Ha.out] at h; omega)
            go_wp2_with fail
            go_quiet (fail)
            have hdn := pw_below_drewN (Below.refl w3.heap.size w3) nq
            have HE4 := Lib.hid (blk_keep hdn HE3.out)
            have HR4 := Lib.hid (HR3.out.keep hdn)
            have HT4 := Lib.hid (blk_keep hdn HT3.out)
            have HB4 := Lib.hid (below_self HB3.out hdn)
            clear hdn e0 e1 e2 ef r0 r1 rf hgl
            generalize w3.drewN nq = w4 at HE4 HR4 HT4 HB4 ⊢
            have e0 := blk_cell HE4.out 0
            have e1 := blk_cell HE4.out 1
            have e2 := blk_cell HE4.out 2
            have rf := HR4.out.free v
            have r1 := HR4.out.cell (i := v) (by omega)
            have hgl := HR4.out.lt
            go_wp2_with fail
            go_round
            case rel =>
              refine ⟨j + 1, again, zs, by omega, rfl, by go_num, HS2, Lib.hid (fun h => ?_), HP, HR4, HT4, HB4⟩
              obtain ⟨f1, f2⟩ := HF.out h
              refine ⟨f1, fun e he => ?_⟩
              rw [HSN.out] at he
              rcases List.mem_append.1 he with he | he
              · exact f2 e he
              · rw [List.mem_singleton.1 he, ← f1]
                exact HCx.out
            case measure => simp [intOf]; omega
        · go_wp2_with fail
          go_round
          case rel =>
            refine ⟨again, zs, rfl, HS2, Lib.hid ?_, HR2, HT2, HB2⟩
            cases again with
            | true => exact .inl rfl
            | false =>
              obtain ⟨h1, h2⟩ := HF.out rfl
              rw [List.take_of_length_le (by omega)] at h2
              exact .inr (by rw [h1]; exact h2)
          case measure =>
            rw [rowOf_eq HR2.out HS2.out.yl, HM.out]
            cases again with
            | true =>
              have := HP.out rfl
              simp only [isT]
              omega
            | false =>
              rw [(HF.out rfl).1]
              simp only [isT]
              omega

end Go.Proofs.Ytaaohfhcimndmaa.M
