/- Proved: AdvOrder: newer is an order. No condition. -/
import Derived.Test.YtaneaabmgnanbaaMAdvOrder2
import Derived.Test.YtaneaabmgnanbaaMAdvOrder3
namespace Go.Proofs.Ytaneaabmgnanbaa.M
open Go.RowKit Go.Proofs.YtaneaabmgnanbaaW.PrintWords Go.Proofs.YtaneaabmgnanbaaW.PrintLast Go.Proofs.YtaneaabmgnanbaaW.PrintMore Go.Proofs.Ytaneaabmgnanbaa.PAdvBack
set_option linter.unusedVariables false
set_option linter.unusedSimpArgs false

/-! newer is an order -/
theorem cmpI_neg (x y : Int) : cmpI x y = - cmpI y x := by unfold cmpI; split <;> split <;> (try split) <;> omega
theorem cmpI_refl (x : Int) : cmpI x x = 0 := by simp [cmpI]
theorem newerP_neg (a b : S24) : newerP a b = - newerP b a := by
  unfold newerP or3
  rw [cmpI_neg a.f1 b.f1, cmpI_neg (gone a.f2) (gone b.f2), cmpI_neg (rankv a.f0 a.f1 a.f3) (rankv b.f0 b.f1 b.f3)]
  split <;> split <;> (try split) <;> (try split) <;> omega
theorem newerP_range (a b : S24) : -1 ≤ newerP a b ∧ newerP a b ≤ 1 := by
  have h : ∀ x y, -1 ≤ cmpI x y ∧ cmpI x y ≤ 1 := fun x y => by unfold cmpI; split <;> (try split) <;> omega
  unfold newerP or3
  split
  · exact h _ _
  · split
    · exact h _ _
    · exact h _ _
theorem cmpI_cases (x y : Int) : (x < y ∧ cmpI x y = -1) ∨ (x = y ∧ cmpI x y = 0) ∨ (y < x ∧ cmpI x y = 1) := by
  unfold cmpI
  rcases Int.lt_trichotomy x y with h | h | h
  · exact .inl ⟨h, if_pos h⟩
  · exact .inr (.inl ⟨h, by rw [if_neg (by omega), if_neg (by omega)]⟩)
  · exact .inr (.inr ⟨h, by rw [if_neg (by omega), if_pos h]⟩)
theorem newerP_trans (a b c : S24) (h1 : 0 ≤ newerP a b) (h2 : 0 ≤ newerP b c) : 0 ≤ newerP a c := by
  unfold newerP or3 at *
  generalize rankv a.f0 a.f1 a.f3 = ra at *
  generalize rankv b.f0 b.f1 b.f3 = rb at *
  generalize rankv c.f0 c.f1 c.f3 = rc at *
  generalize gone a.f2 = ga at *
  generalize gone b.f2 = gb at *
  generalize gone c.f2 = gc at *
  rcases cmpI_cases a.f1 b.f1 with ⟨l1, e1⟩ | ⟨l1, e1⟩ | ⟨l1, e1⟩ <;> rcases cmpI_cases b.f1 c.f1 with ⟨l2, e2⟩ | ⟨l2, e2⟩ | ⟨l2, e2⟩ <;> rw [e1] at h1 <;> rw [e2] at h2 <;>
    rcases cmpI_cases a.f1 c.f1 with ⟨l3, e3⟩ | ⟨l3, e3⟩ | ⟨l3, e3⟩ <;> rw [e3] <;> (try omega) <;> simp at h1 h2 ⊢ <;>
    rcases cmpI_cases ga gb with ⟨l4, e4⟩ | ⟨l4, e4⟩ | ⟨l4, e4⟩ <;> rcases cmpI_cases gb gc with ⟨l5, e5⟩ | ⟨l5, e5⟩ | ⟨l5, e5⟩ <;> rw [e4] at h1 <;> rw [e5] at h2 <;>
    rcases cmpI_cases ga gc with ⟨l6, e6⟩ | ⟨l6, e6⟩ | ⟨l6, e6⟩ <;> rw [e6] <;> (try omega) <;> simp at h1 h2 ⊢ <;>
    rcases cmpI_cases ra rb with ⟨l7, e7⟩ | ⟨l7, e7⟩ | ⟨l7, e7⟩ <;> rcases cmpI_cases rb rc with ⟨l8, e8⟩ | ⟨l8, e8⟩ | ⟨l8, e8⟩ <;> rw [e7] at h1 <;> rw [e8] at h2 <;>
    rcases cmpI_cases ra rc with ⟨l9, e9⟩ | ⟨l9, e9⟩ | ⟨l9, e9⟩ <;> rw [e9] <;> omega
theorem newerP_age (a : S24) (d : Int) (hd : d < 3600) : newerP a ⟨a.f0, a.f1, d, a.f3⟩ = gone a.f2 := by
  unfold newerP or3
  have hg : gone d = 0 := by unfold gone; rw [if_neg (by omega)]
  simp only [cmpI_refl, hg]
  simp
  unfold gone cmpI
  split <;> simp
theorem NewerP_good {a b : S24} (h1 : chk a.f0 a.f1 a.f2 a.f3 = 0) (h2 : chk b.f0 b.f1 b.f2 b.f3 = 0) (h3 : a.f0 = b.f0) : NewerP a b = (newerP a b, 0) := by
  unfold NewerP
  rw [if_neg (not_not_intro h1), if_neg (not_not_intro h2), if_neg (not_not_intro h3)]
theorem NewerP_bad1 {a b : S24} (h1 : chk a.f0 a.f1 a.f2 a.f3 ≠ 0) : NewerP a b = (0, chk a.f0 a.f1 a.f2 a.f3) := by
  unfold NewerP
  rw [if_pos h1]
theorem NewerP_bad2 {a b : S24} (h1 : chk a.f0 a.f1 a.f2 a.f3 = 0) (h2 : chk b.f0 b.f1 b.f2 b.f3 ≠ 0) : NewerP a b = (0, chk b.f0 b.f1 b.f2 b.f3) := by
  unfold NewerP
  rw [if_neg (not_not_intro h1), if_pos h2]
theorem age_range (age : Int) : 0 ≤ wrap64 ((IntKind.u64.wrap age).tmod 3600) ∧ wrap64 ((IntKind.u64.wrap age).tmod 3600) < 3600 := by
  have e : IntKind.u64.wrap age = age % 18446744073709551616 := by simp [IntKind.wrap, IntKind.bits, IntKind.signed]
  have h0 : 0 ≤ (IntKind.u64.wrap age) := by rw [e]; omega
  rw [Int.tmod_eq_emod_of_nonneg h0, wrap_in _ (by omega) (by omega)]
  omega
theorem N_of (a b : S24) (A B : Option Addr) (ca cb : Nat) (hca : a.f3.length ≤ ca) (hcb : b.f3.length ≤ cb) {x e : Int} (h : NewerP a b = (x, e)) :
    Hid (∀ W : World, Kd.C k28 W A a.f3.length a.f3 → Kd.C k28 W B b.f3.length b.f3 → Calls Try.prog 20 #[.agg #[.int .i64 a.f0, .int .i64 a.f1, .int .i64 a.f2, .slice A a.f3.length ca], .agg #[.int .i64 b.f0, .int .i64 b.f1, .int .i64 b.f2, .slice B b.f3.length cb]] W fun E w' => E = .returned (.tuple #[.int .i64 x, .int .i64 e]) ∧ Below W.heap.size W w') := by
  intro W h1 h2
  have := Newer_any a b A B ca cb W hca hcb (Lib.hid h1) (Lib.hid h2)
  rw [h] at this
  exact this

theorem AdvOrder_walk (x0 x1 x2 : S24) (age : Int) (A0 A1 A2 : Option Addr) (c0 c1 c2 : Nat) (w : World) (hl0 : x0.f3.length ≤ c0) (hl1 : x1.f3.length ≤ c1) (hl2 : x2.f3.length ≤ c2)
    (hK0 : Kd.C k28 w A0 x0.f3.length x0.f3) (hK1 : Kd.C k28 w A1 x1.f3.length x1.f3) (hK2 : Kd.C k28 w A2 x2.f3.length x2.f3) :
    Calls Try.prog 5 #[.agg #[.int .i64 x0.f0, .int .i64 x0.f1, .int .i64 x0.f2, .slice A0 x0.f3.length c0], .agg #[.int .i64 x1.f0, .int .i64 x1.f1, .int .i64 x1.f2, .slice A1 x1.f3.length c1], .agg #[.int .i64 x2.f0, .int .i64 x2.f1, .int .i64 x2.f2, .slice A2 x2.f3.length c2], .int .i64 age] w
      fun E w' => E = .returned (.bool true) ∧ Below w.heap.size w w' := by
  obtain ⟨a, ha⟩ : ∃ a : S24, a = ⟨9, x0.f1, x0.f2, x0.f3.take 4⟩ := ⟨_, rfl⟩
  obtain ⟨b, hb⟩ : ∃ a : S24, a = ⟨9, x1.f1, x1.f2, x1.f3.take 4⟩ := ⟨_, rfl⟩
  obtain ⟨c, hc⟩ : ∃ a : S24, a = ⟨9, x2.f1, x2.f2, x2.f3.take 4⟩ := ⟨_, rfl⟩
  have la : a.f3.length ≤ c0 := by rw [ha]; simp only [List.length_take]; omega
  have lb : b.f3.length ≤ c1 := by rw [hb]; simp only [List.length_take]; omega
  have lc : c.f3.length ≤ c2 := by rw [hc]; simp only [List.length_take]; omega
  have H0 : Hid (a.f3 = x0.f3.take 4) := by rw [ha]; exact rfl
  have H1 : Hid (b.f3 = x1.f3.take 4) := by rw [hb]; exact rfl
  have H2 : Hid (c.f3 = x2.f3.take 4) := by rw [hc]; exact rfl
  have K0 : Hid (Kd.C k28 w A0 a.f3.length a.f3) := by rw [ha]; exact C_take 4 hK0
  have K1 : Hid (Kd.C k28 w A1 b.f3.length b.f3) := by rw [hb]; exact C_take 4 hK1
  have K2 : Hid (Kd.C k28 w A2 c.f3.length c.f3) := by rw [hc]; exact C_take 4 hK2
  have ia : a.f0 = 9 := by rw [ha]
  have ib : b.f0 = 9 := by rw [hb]
  have ic : c.f0 = 9 := by rw [hc]
  have sa : a.f1 = x0.f1 := by rw [ha]
  have sb : b.f1 = x1.f1 := by rw [hb]
  have sc : c.f1 = x2.f1 := by rw [hc]
  have ta : a.f2 = x0.f2 := by rw [ha]
  have tb : b.f2 = x1.f2 := by rw [hb]
  have tc : c.f2 = x2.f2 := by rw [hc]
  clear ha hb hc hK0 hK1 hK2
  -- the calls of Newer, their answers open
  have N1 := @N_of a b A0 A1 c0 c1 la lb (NewerP a b).1 (NewerP a b).2 rfl
  have N2 := @N_of b a A1 A0 c1 c0 lb la (NewerP b a).1 (NewerP b a).2 rfl
  have N3 := @N_of b c A1 A2 c1 c2 lb lc (NewerP b c).1 (NewerP b c).2 rfl
  have N4 := @N_of a c A0 A2 c0 c2 la lc (NewerP a c).1 (NewerP a c).2 rfl
  have N5 := @N_of a ⟨9, a.f1, wrap64 ((IntKind.u64.wrap age).tmod 3600), a.f3⟩ A0 A0 c0 c0 la la
  have hag := age_range age
  rw [← sa, ← sb, ← sc, ← ta, ← tb, ← tc]
  simp only [ia, ib, ic] at N1 N2 N3 N4 N5
  by_cases va : chk a.f0 a.f1 a.f2 a.f3 = 0
  · by_cases vb : chk b.f0 b.f1 b.f2 b.f3 = 0
    · have g1 := NewerP_good va vb (by rw [ia, ib])
      have g2 := NewerP_good vb va (by rw [ia, ib])
      rw [g1] at N1
      rw [g2] at N2
      have hv := chk_zero va
      have vd : chk 9 a.f1 (wrap64 ((IntKind.u64.wrap age).tmod 3600)) a.f3 = 0 := by
        have h' := hv
        rw [ia] at h'
        exact chk_of_valid ⟨h'.id0, h'.id1, h'.seq0, h'.seq1, hag.1, by omega, h'.len, h'.peer, h'.form⟩
      have g5 := NewerP_good (a := a) (b := ⟨9, a.f1, wrap64 ((IntKind.u64.wrap age).tmod 3600), a.f3⟩) va vd ia
      have h5 := newerP_age a (wrap64 ((IntKind.u64.wrap age).tmod 3600)) hag.2
      rw [ia] at h5
      rw [h5] at g5
      have N5 := N5 g5
      have hxy : (newerP a b != wrap64 (-newerP b a)) = false := by
        have r := newerP_range b a
        rw [wrap_in _ (by omega) (by omega), bne_eq_false_iff_eq]
        exact newerP_neg a b
      have e0 : ((0 : Int) == 0) = true := rfl
      have e1 : ((0 : Int) != 0) = false := rfl
      by_cases hage : a.f2 < 3600
      · have hn : (gone a.f2 == 0) = true := by unfold gone; rw [if_neg (by omega)]; rfl
        have hd : decide (a.f2 < 3600) = true := decide_eq_true hage
        by_cases vc : chk c.f0 c.f1 c.f2 c.f3 = 0
        · rw [NewerP_good vb vc (by rw [ib, ic])] at N3
          rw [NewerP_good va vc (by rw [ia, ic])] at N4
          rcases Int.lt_or_le (newerP a b) 0 with hx | hx
          · exact AdvOrder_xy x0.f0 x1.f0 x2.f0 a.f1 b.f1 c.f1 a.f2 b.f2 c.f2 age _ _ _ _ _ _ _ _ _ A0 A1 A2 c0 c1 c2 x0.f3 x1.f3 x2.f3 a.f3 b.f3 c.f3 w hl0 hl1 hl2 H0 H1 H2 K0 K1 K2 N1 N2 N3 N4 _ rfl N5 e0 e1 e0 hxy e0 e0 hx hd hn
          rcases Int.lt_or_le (newerP b c) 0 with hz | hz
          · exact AdvOrder_zy x0.f0 x1.f0 x2.f0 a.f1 b.f1 c.f1 a.f2 b.f2 c.f2 age _ _ _ _ _ _ _ _ _ A0 A1 A2 c0 c1 c2 x0.f3 x1.f3 x2.f3 a.f3 b.f3 c.f3 w hl0 hl1 hl2 H0 H1 H2 K0 K1 K2 N1 N2 N3 N4 _ rfl N5 e0 e1 e0 hxy e0 e0 hx hz hd hn
          · exact AdvOrder_uy x0.f0 x1.f0 x2.f0 a.f1 b.f1 c.f1 a.f2 b.f2 c.f2 age _ _ _ _ _ _ _ _ _ A0 A1 A2 c0 c1 c2 x0.f3 x1.f3 x2.f3 a.f3 b.f3 c.f3 w hl0 hl1 hl2 H0 H1 H2 K0 K1 K2 N1 N2 N3 N4 _ rfl N5 e0 e1 e0 hxy e0 e0 hx hz (newerP_trans a b c hx hz) hd hn
        · have hg : ((NewerP b c).2 == 0) = false := by rw [NewerP_bad2 vb vc]; exact beq_eq_false_iff_ne.mpr vc
          exact AdvOrder_gy x0.f0 x1.f0 x2.f0 a.f1 b.f1 c.f1 a.f2 b.f2 c.f2 age _ _ _ _ _ _ _ _ _ A0 A1 A2 c0 c1 c2 x0.f3 x1.f3 x2.f3 a.f3 b.f3 c.f3 w hl0 hl1 hl2 H0 H1 H2 K0 K1 K2 N1 N2 N3 N4 _ rfl N5 e0 e1 e0 hxy hg hd hn
      · have hn : (gone a.f2 == 0) = false := by have := hv.age1; unfold gone; rw [if_pos (by omega)]; rfl
        have hd : decide (a.f2 < 3600) = false := decide_eq_false hage
        by_cases vc : chk c.f0 c.f1 c.f2 c.f3 = 0
        · rw [NewerP_good vb vc (by rw [ib, ic])] at N3
          rw [NewerP_good va vc (by rw [ia, ic])] at N4
          rcases Int.lt_or_le (newerP a b) 0 with hx | hx
          · exact AdvOrder_xo x0.f0 x1.f0 x2.f0 a.f1 b.f1 c.f1 a.f2 b.f2 c.f2 age _ _ _ _ _ _ _ _ _ A0 A1 A2 c0 c1 c2 x0.f3 x1.f3 x2.f3 a.f3 b.f3 c.f3 w hl0 hl1 hl2 H0 H1 H2 K0 K1 K2 N1 N2 N3 N4 _ rfl N5 e0 e1 e0 hxy e0 e0 hx hd hn
          rcases Int.lt_or_le (newerP b c) 0 with hz | hz
          · exact AdvOrder_zo x0.f0 x1.f0 x2.f0 a.f1 b.f1 c.f1 a.f2 b.f2 c.f2 age _ _ _ _ _ _ _ _ _ A0 A1 A2 c0 c1 c2 x0.f3 x1.f3 x2.f3 a.f3 b.f3 c.f3 w hl0 hl1 hl2 H0 H1 H2 K0 K1 K2 N1 N2 N3 N4 _ rfl N5 e0 e1 e0 hxy e0 e0 hx hz hd hn
          · exact AdvOrder_uo x0.f0 x1.f0 x2.f0 a.f1 b.f1 c.f1 a.f2 b.f2 c.f2 age _ _ _ _ _ _ _ _ _ A0 A1 A2 c0 c1 c2 x0.f3 x1.f3 x2.f3 a.f3 b.f3 c.f3 w hl0 hl1 hl2 H0 H1 H2 K0 K1 K2 N1 N2 N3 N4 _ rfl N5 e0 e1 e0 hxy e0 e0 hx hz (newerP_trans a b c hx hz) hd hn
        · have hg : ((NewerP b c).2 == 0) = false := by rw [NewerP_bad2 vb vc]; exact beq_eq_false_iff_ne.mpr vc
          exact AdvOrder_go x0.f0 x1.f0 x2.f0 a.f1 b.f1 c.f1 a.f2 b.f2 c.f2 age _ _ _ _ _ _ _ _ _ A0 A1 A2 c0 c1 c2 x0.f3 x1.f3 x2.f3 a.f3 b.f3 c.f3 w hl0 hl1 hl2 H0 H1 H2 K0 K1 K2 N1 N2 N3 N4 _ rfl N5 e0 e1 e0 hxy hg hd hn
    · have h1 : ((NewerP a b).2 == 0) = false := by rw [NewerP_bad2 va vb]; exact beq_eq_false_iff_ne.mpr vb
      have h2 : ((NewerP a b).2 != 0) = true := by rw [NewerP_bad2 va vb]; exact bne_iff_ne.mpr vb
      have h3 : ((NewerP a b).1 == 0) = true := by rw [NewerP_bad2 va vb]; rfl
      have h4 : ((NewerP b c).2 == 0) = false := by rw [NewerP_bad1 vb]; exact beq_eq_false_iff_ne.mpr vb
      exact AdvOrder_e1 x0.f0 x1.f0 x2.f0 a.f1 b.f1 c.f1 a.f2 b.f2 c.f2 age _ _ _ _ _ _ _ _ 0 A0 A1 A2 c0 c1 c2 x0.f3 x1.f3 x2.f3 a.f3 b.f3 c.f3 w hl0 hl1 hl2 H0 H1 H2 K0 K1 K2 N1 N2 N3 N4 h1 h2 h3 h4
  · have h1 : ((NewerP a b).2 == 0) = false := by rw [NewerP_bad1 va]; exact beq_eq_false_iff_ne.mpr va
    have h2 : ((NewerP a b).2 != 0) = true := by rw [NewerP_bad1 va]; exact bne_iff_ne.mpr va
    have h3 : ((NewerP a b).1 == 0) = true := by rw [NewerP_bad1 va]; rfl
    have h5 : ((NewerP a c).2 == 0) = false := by rw [NewerP_bad1 va]; exact beq_eq_false_iff_ne.mpr va
    by_cases h4 : (NewerP b c).2 = 0
    · exact AdvOrder_e2 x0.f0 x1.f0 x2.f0 a.f1 b.f1 c.f1 a.f2 b.f2 c.f2 age _ _ _ _ _ _ _ _ 0 A0 A1 A2 c0 c1 c2 x0.f3 x1.f3 x2.f3 a.f3 b.f3 c.f3 w hl0 hl1 hl2 H0 H1 H2 K0 K1 K2 N1 N2 N3 N4 h1 h2 h3 (beq_iff_eq.mpr h4) h5
    · exact AdvOrder_e1 x0.f0 x1.f0 x2.f0 a.f1 b.f1 c.f1 a.f2 b.f2 c.f2 age _ _ _ _ _ _ _ _ 0 A0 A1 A2 c0 c1 c2 x0.f3 x1.f3 x2.f3 a.f3 b.f3 c.f3 w hl0 hl1 hl2 H0 H1 H2 K0 K1 K2 N1 N2 N3 N4 h1 h2 h3 (beq_eq_false_iff_ne.mpr h4)
end Go.Proofs.Ytaneaabmgnanbaa.M
