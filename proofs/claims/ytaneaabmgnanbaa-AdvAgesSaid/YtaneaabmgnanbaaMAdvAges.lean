/- Own lemmas: the walk of AdvAges. -/
import Derived.Test.YtaneaabmgnanbaaMsort2
import Derived.Test.YtaneaabmgnanbaaMAnyOrder
import Derived.LoopTactic
import Derived.BigQuiet
namespace Go.Proofs.Ytaneaabmgnanbaa.M
open Go.RowKit Go.Proofs.YtaneaabmgnanbaaW.PrintWords Go.Proofs.YtaneaabmgnanbaaW.PrintLast Go.Proofs.YtaneaabmgnanbaaW.PrintMore Go.Proofs.Ytaneaabmgnanbaa.PAdvBack
set_option linter.unusedVariables false
set_option linter.unusedSimpArgs false

theorem chk_age {id seq age age' : Int} {ls : List S28} (h : chk id seq age ls = 0) (h0 : 0 ≤ age') (h1 : age' ≤ 3600) : chk id seq age' ls = 0 := by
  unfold chk at h ⊢
  by_cases hb : badHead id seq age
  · rw [if_pos hb] at h
    cases h
  · rw [if_neg hb] at h
    have hb' : ¬ badHead id seq age' := by unfold badHead at hb ⊢; omega
    rw [if_neg hb']
    exact h
theorem tick_ok {d : Db} (hd : DbOk d) {m : Int} (hm : 0 ≤ m) : DbOk (tick d m) := by
  intro i
  show (tkH d m i = true → Chk (tkA d m i) = 0 ∧ (tkA d m i).f0 = i) ∧ (tkH d m i = false → tkA d m i = ⟨0, 0, 0, []⟩)
  unfold tkH tkA
  cases hb : d.2 i with
  | false =>
    refine ⟨fun h => by simp at h, fun _ => ?_⟩
    simp only [Bool.false_eq_true, if_false]
    exact (hd i).2 hb
  | true =>
    have ha := hd.age hb
    obtain ⟨h1, h2⟩ := (hd i).1 hb
    by_cases hl : (d.1 i).f2 + m < 3600
    · simp only [if_true, if_pos hl, decide_eq_true hl, Bool.and_self]
      exact ⟨fun _ => ⟨show chk (d.1 i).f0 (d.1 i).f1 ((d.1 i).f2 + m) (d.1 i).f3 = 0 from chk_age h1 (by omega) (by omega), h2⟩, fun h => by simp at h⟩
    · simp only [if_true, if_neg hl, decide_eq_false hl, Bool.and_false]
      exact ⟨fun h => by simp at h, fun _ => rfl⟩
theorem tick_tick {d : Db} {a b : Int} (hb0 : 0 ≤ b) : tick (tick d a) b = tick d (a + b) := by
  have e1 : (tick (tick d a) b).1 = (tick d (a + b)).1 := by
    funext i
    show (if tkH d a i then (if (tkA d a i).f2 + b < 3600 then (⟨(tkA d a i).f0, (tkA d a i).f1, (tkA d a i).f2 + b, (tkA d a i).f3⟩ : S24) else z24) else tkA d a i) = (if d.2 i then (if (d.1 i).f2 + (a + b) < 3600 then (⟨(d.1 i).f0, (d.1 i).f1, (d.1 i).f2 + (a + b), (d.1 i).f3⟩ : S24) else z24) else d.1 i)
    unfold tkH tkA
    cases hb : d.2 i with
    | false => simp
    | true =>
      by_cases hl : (d.1 i).f2 + a < 3600
      · simp only [if_true, if_pos hl, decide_eq_true hl, Bool.and_self, Int.add_assoc]
      · simp only [if_true, if_neg hl, decide_eq_false hl, Bool.and_false, Bool.false_eq_true, if_false]
        rw [if_neg (by omega)]
  have e2 : (tick (tick d a) b).2 = (tick d (a + b)).2 := by
    funext i
    show (tkH d a i && decide ((tkA d a i).f2 + b < 3600)) = (d.2 i && decide ((d.1 i).f2 + (a + b) < 3600))
    unfold tkH tkA
    cases hb : d.2 i with
    | false => simp
    | true =>
      by_cases hl : (d.1 i).f2 + a < 3600
      · simp only [if_true, if_pos hl, decide_eq_true hl, Bool.true_and, Int.add_assoc]
      · simp only [if_true, if_neg hl, decide_eq_false hl, Bool.true_and, Bool.false_and]
        rw [decide_eq_false (by omega)]
  exact Prod.ext e1 e2
theorem perm_split {α : Type} (p q r : α → Bool) (h1 : ∀ x, r x = (p x || q x)) (h2 : ∀ x, (p x && q x) = false) (l : List α) : (l.filter p ++ l.filter q).Perm (l.filter r) := by
  have h := List.filter_append_perm p (l.filter r)
  rw [List.filter_filter, List.filter_filter] at h
  have e1 : (fun x => p x && r x) = p := by
    funext x; rw [h1]; cases p x <;> simp
  have e2 : (fun x => !p x && r x) = q := by
    funext x
    have := h2 x
    rw [h1]
    revert this
    cases p x <;> cases q x <;> simp
  rw [e1, e2] at h
  exact h
theorem out_perm {d : Db} {a b : Int} (ha0 : 0 ≤ a) (hb0 : 0 ≤ b) : (outTo d a 16 ++ outTo (tick d a) b 16).Perm (outTo d (a + b) 16) := by
  unfold outTo
  rw [← List.map_append]
  refine List.Perm.map _ (perm_split _ _ _ (fun i => ?_) (fun i => ?_) _)
  all_goals show _
  · show (d.2 i && decide (3600 ≤ (d.1 i).f2 + (a + b))) = ((d.2 i && decide (3600 ≤ (d.1 i).f2 + a)) || (tkH d a i && decide (3600 ≤ (tkA d a i).f2 + b)))
    unfold tkH tkA
    cases hb : d.2 i with
    | false => simp
    | true =>
      by_cases hl : (d.1 i).f2 + a < 3600
      · simp only [if_true, if_pos hl, decide_eq_true hl, Bool.true_and, Int.add_assoc, decide_eq_false (show ¬ 3600 ≤ (d.1 i).f2 + a by omega), Bool.false_or]
      · simp only [if_true, if_neg hl, Bool.true_and, decide_eq_true (show 3600 ≤ (d.1 i).f2 + a by omega), Bool.true_or, decide_eq_true (show 3600 ≤ (d.1 i).f2 + (a + b) by omega)]
  · show ((d.2 i && decide (3600 ≤ (d.1 i).f2 + a)) && (tkH d a i && decide (3600 ≤ (tkA d a i).f2 + b))) = false
    unfold tkH
    cases hb : d.2 i with
    | false => simp
    | true =>
      by_cases hl : (d.1 i).f2 + a < 3600
      · rw [decide_eq_false (show ¬ 3600 ≤ (d.1 i).f2 + a by omega)]; simp
      · rw [decide_eq_false hl]; simp
theorem out_sorted (d : Db) (m : Int) : (outTo d m 16).Pairwise (· ≤ ·) := by
  unfold outTo
  rw [List.pairwise_map]
  refine List.Pairwise.imp ?_ (List.Pairwise.filter _ List.pairwise_lt_range)
  intro x y h
  omega
theorem srt_pairwise {l : List Int} {n : Nat} (h : Srt l n) (hl : l.length = n) : l.Pairwise (· ≤ ·) := by
  rw [List.pairwise_iff_getElem]
  intro i j hi hj hij
  have := h i j hij (by omega)
  simpa [rd, List.getD_eq_getElem?_getD, hi, hj] using this
theorem sub_len : ∀ {l1 l2 : List Nat}, l1.Nodup → (∀ x ∈ l1, x ∈ l2) → l1.length ≤ l2.length
  | [], _, _, _ => Nat.zero_le _
  | x :: t, l2, hn, hs => by
    obtain ⟨h1, h2⟩ := List.nodup_cons.1 hn
    have hx := hs x List.mem_cons_self
    have hl := (List.perm_cons_erase hx).length_eq
    have := sub_len (l2 := l2.erase x) h2 (fun y hy => (List.mem_erase_of_ne (fun e => h1 (by rw [← e]; exact hy))).2 (hs y (List.mem_cons_of_mem _ hy)))
    simp only [List.length_cons] at hl ⊢
    omega
theorem out_few (l : List S24) (m : Int) : (outTo (dbOf l) m 16).length ≤ l.length := by
  unfold outTo
  rw [List.length_map]
  have e : l.length = (l.map fun a => a.f0.toNat).length := by simp
  rw [e]
  refine sub_len (List.Pairwise.filter _ List.nodup_range) (fun i hi => ?_)
  obtain ⟨_, h⟩ := List.mem_filter.1 hi
  simp only [Bool.and_eq_true] at h
  obtain ⟨a, ha, _, he⟩ := ((dbOf_spec l).has i).1 h.1
  exact List.mem_map.2 ⟨a, ha, he⟩
theorem BaseAt.keep2 {w w1 : World} {p q : Nat} {f g : Nat → S24} {h k : Nat → Bool} (H : BaseAt w q f h) (G : BaseAt w p g k) (hk : KeepBut w w1 p none) (hpq : q ≠ p) : BaseAt w1 q f h := by
  obtain ⟨cs, hp, _⟩ := G
  exact H.side (KA.of_keep hk hp (by decide)) (hk.2 q H.lt hpq (by simp))
theorem Equal45n (n : Nat) (A B : Option Addr) (c d : Nat) (l : List Int) (w : World) (hn : l.length = n) (hl : l.length ≤ 1000) (HA : Hid (Kd.C (Kd.int .i64) w A l.length l)) (HB : Hid (Kd.C (Kd.int .i64) w B l.length l)) :
    Calls Try.prog 45 #[.slice A n c, .slice B n d] w fun e w' => e = .returned (.bool true) ∧ Below w.heap.size w w' := by
  subst hn
  exact Equal45 A B c d l w hl HA HB
theorem mod4000 (a : Int) : wrap64 ((IntKind.u64.wrap a).tmod 4000) = (a % 18446744073709551616) % 4000 := by
  rw [u64_wr, Int.tmod_eq_emod_of_nonneg (Int.emod_nonneg _ (by omega))]
  exact wrap_in _ (by omega) (by omega)

set_option maxHeartbeats 4000000 in
set_option maxRecDepth 100000 in
theorem AdvAges_walk (A : Option Addr) (c : Nat) (l : List S24) (a b : Int) (w : World) (hlc : l.length ≤ c) (hC : Kd.C k24 w A l.length l) :
    Calls Try.prog 13 #[.slice A l.length c, .int .i64 a, .int .i64 b] w fun e w' => e = .returned (.bool true) ∧ Below w.heap.size w w' := by
  have hu43 := Try.underlying43
  have hu24 := Try.underlying24
  have hu56 := Try.underlying56
  have hu116 := Try.underlying116
  obtain ⟨k0, hk0⟩ := advLives_ok
  have Hk0 := Lib.hid hk0
  obtain ⟨L, HL⟩ : ∃ L, Hid (L = l.take 5) := ⟨_, Lib.hid rfl⟩
  have HCL : Hid (Kd.C k24 w A L.length L) := by rw [HL.out]; exact Lib.hid (take_C 5 hC)
  have hLl : L.length ≤ 5 := by rw [HL.out, List.length_take]; omega
  have HLC := Lib.hid hlc
  have ha := mod4000 a
  have hb := mod4000 b
  have ra : 0 ≤ (a % 18446744073709551616) % 4000 ∧ (a % 18446744073709551616) % 4000 < 4000 := by omega
  have rb : 0 ≤ (b % 18446744073709551616) % 4000 ∧ (b % 18446744073709551616) % 4000 < 4000 := by omega
  generalize (a % 18446744073709551616) % 4000 = m1 at ha ra
  generalize (b % 18446744073709551616) % 4000 = m2 at hb rb
  obtain ⟨a0, a4⟩ := ra
  obtain ⟨b0, b4⟩ := rb
  clear hk0 hC hlc
  obtain ⟨d, Hd⟩ : ∃ d, Hid (d = dbOf L) := ⟨_, Lib.hid rfl⟩
  have HOK : Hid (DbOk d) := by rw [Hd.out]; exact Lib.hid (dbOf_ok L)
  go_enter Try.func13, Try.ntmps13
  go_wp2_with fail
  refine (patchbaykeep2_advLives.calls k0 true _ Hk0.out).mono ?_
  rintro e w1 ⟨rfl, hbb⟩
  have HB1 := Lib.hid hbb
  clear hbb
  go_wp2_with fail
  refine (some23_five A l L c HL HLC.out w1).mono ?_
  rintro e w2 ⟨rfl, rfl⟩
  go_wp2_with fail
  refine (base21 A c L w1 (by omega) (Lib.hid (Kd.C_below HCL.out HB1.out))).mono ?_
  rintro e w3 ⟨rfl, hbd, hbb⟩
  rw [← Hd.out] at hbd
  obtain ⟨p1, Hp1⟩ : ∃ p, Hid (p = w1.heap.size) := ⟨_, Lib.hid rfl⟩
  rw [← Hp1.out] at hbd
  rw [← Hp1.out]
  have HP1W := Lib.hid (show w.heap.size ≤ p1 from by rw [Hp1.out]; exact HB1.out.size)
  have HD3 := Lib.hid hbd
  have HB3 := Lib.hid (below_self HB1.out hbb)
  clear hbd hbb
  go_wp2_with fail
  refine (base21 A c L w3 (by omega) (Lib.hid (Kd.C_below HCL.out HB3.out))).mono ?_
  rintro e w4 ⟨rfl, hbd, hbb⟩
  rw [← Hd.out] at hbd
  obtain ⟨p2, Hp2⟩ : ∃ p, Hid (p = w3.heap.size) := ⟨_, Lib.hid rfl⟩
  rw [← Hp2.out] at hbd
  rw [← Hp2.out]
  have HP2W := Lib.hid (show w.heap.size ≤ p2 from by rw [Hp2.out]; exact HB3.out.size)
  have HNE := Lib.hid (show p1 ≠ p2 from by rw [Hp2.out]; exact Nat.ne_of_lt HD3.out.lt)
  have HE4 := Lib.hid hbd
  have HD4 := Lib.hid (HD3.out.below hbb)
  have HB4 := Lib.hid (below_self HB3.out hbb)
  clear hbd hbb
  go_wp2_with fail
  refine (Tick42 p1 m1 d w4 w HOK.out a0 (by omega) HB4.out HP1W.out HD4).mono ?_
  rintro e w5 ⟨A1, c1, rfl, hle1, hR1, hD5, hK5, hB5⟩
  have HR1 := Lib.hid hR1
  have HD5 := Lib.hid hD5
  have HE5 := Lib.hid (HE4.out.keep2 HD4.out hK5 HNE.out.symm)
  have HB5 := Lib.hid hB5
  clear hle1 hR1 hD5 hK5 hB5
  obtain ⟨o1, Ho1⟩ : ∃ o, Hid (o = outTo d m1 16) := ⟨_, Lib.hid rfl⟩
  rw [← Ho1.out] at HR1
  rw [← Ho1.out]
  go_wp2_with fail
  refine (Tick42 p1 m2 (tick d m1) w5 w (tick_ok HOK.out a0) b0 (by omega) HB5.out HP1W.out HD5).mono ?_
  rw [tick_tick b0]
  rintro e w6 ⟨A2, c2, rfl, hle2, hR2, hD6, hK6, hB6⟩
  have HR2 := Lib.hid hR2
  have HD6 := Lib.hid hD6
  have HE6 := Lib.hid (HE5.out.keep2 HD5.out hK6 HNE.out.symm)
  have HR1b := Lib.hid (Kd.R_keep HR1.out hK6 (fun k hk => Nat.ne_of_gt (Nat.lt_of_lt_of_le HD4.out.lt hk)))
  have HB6 := Lib.hid hB6
  clear hle2 hR2 hD6 hK6 hB6
  obtain ⟨o2, Ho2⟩ : ∃ o, Hid (o = outTo (tick d m1) m2 16) := ⟨_, Lib.hid rfl⟩
  rw [← Ho2.out] at HR2
  rw [← Ho2.out]
  have hsum : wrap64 (m1 + m2) = m1 + m2 := wrap_in _ (by omega) (by omega)
  go_wp2_with fail
  obtain ⟨m3, Hm3⟩ : ∃ m, Hid (m = m1 + m2) := ⟨_, Lib.hid rfl⟩
  have hm30 : 0 ≤ m3 := by rw [Hm3.out]; omega
  have hm31 : m3 ≤ 100000 := by rw [Hm3.out]; omega
  rw [← Hm3.out] at HD6
  rw [← Hm3.out]
  refine (Tick42 p2 m3 d w6 w HOK.out hm30 hm31 HB6.out HP2W.out HE6).mono ?_
  rintro e w7 ⟨A3, c3, rfl, hle3, hR3, hE7, hK7, hB7⟩
  have HR3 := Lib.hid hR3
  have HE7 := Lib.hid hE7
  have HD7 := Lib.hid (HD6.out.keep2 HE6.out hK7 HNE.out)
  have HR1c := Lib.hid (Kd.R_keep HR1b.out hK7 (fun k hk => Nat.ne_of_gt (Nat.lt_of_lt_of_le HE4.out.lt hk)))
  have HR2c := Lib.hid (Kd.R_keep HR2.out hK7 (fun k hk => Nat.ne_of_gt (Nat.lt_of_lt_of_le HE5.out.lt hk)))
  have HB7 := Lib.hid hB7
  clear hle3 hR3 hE7 hK7 hB7 hsum
  obtain ⟨o3, Ho3⟩ : ∃ o, Hid (o = outTo d m3 16) := ⟨_, Lib.hid rfl⟩
  rw [← Ho3.out] at HR3
  rw [← Ho3.out]
  have HC1 := Lib.hid (Kd.R_reads' HR1c.out).2.2
  have HC2 := Lib.hid (Kd.R_reads' HR2c.out).2.2
  have HC3 := Lib.hid (Kd.R_reads' HR3.out).2.2
  have HPM : Hid ((o1 ++ o2).Perm o3) := by rw [Ho1.out, Ho2.out, Ho3.out, Hm3.out]; exact Lib.hid (out_perm a0 b0)
  have hfew : o3.length ≤ 5 := by rw [Ho3.out, Hd.out]; exact Nat.le_trans (out_few L m3) hLl
  have hl12 : o1.length + o2.length = o3.length := by rw [← List.length_append]; exact HPM.out.length_eq
  have HL12 := Lib.hid hl12
  have hl1 : o1.length ≤ 100 := by omega
  have hl2 : o2.length ≤ 100 := by omega
  clear hl12
  go_wp2_with fail
  have hbe := below_alloc (Below.refl w7.heap.size w7) (.cells #[.slice A1 o1.length c1, .slice A2 o2.length c2] 56)
  have HG8 := Lib.hid (blk_alloc w7 (.cells #[.slice A1 o1.length c1, .slice A2 o2.length c2] 56))
  have HBe := Lib.hid hbe
  clear hbe
  refine (Concat43 w7.heap.size A1 A2 c1 c2 o1 o2 _ hl1 hl2 (Lib.hid (Kd.C_below HC1.out HBe.out)) (Lib.hid (Kd.C_below HC2.out HBe.out)) HG8).mono ?_
  rintro e w8 ⟨v8, rfl, hR8, hbb⟩
  obtain ⟨xs, Hxs⟩ : ∃ x, Hid (x = o1 ++ o2) := ⟨_, Lib.hid rfl⟩
  rw [← Hxs.out] at hR8 HPM
  have hxl : xs.length = o3.length := HPM.out.length_eq
  obtain ⟨A8, c8, rfl, hle8, _⟩ := Kd.R_reads hR8
  have HR8 := Lib.hid hR8
  have HB78 := Lib.hid (below_self HBe.out hbb)
  clear hR8 hbb hle8
  have HXL := Lib.hid hxl
  have hx12 : xs.length ≤ 12 := by omega
  clear hxl
  go_wp2_with fail
  refine (Sort44 A8 c8 _ xs w8 w7 hx12 HB78.out HBe.out.size HR8).mono ?_
  rintro e w9 ⟨rfl, zs, hp, hs, hCz, _, _, hB9⟩
  have hzs : zs = o3 := by
    refine List.Perm.eq_of_pairwise (le := (· ≤ ·)) (fun x y _ _ h1 h2 => Int.le_antisymm h1 h2) (srt_pairwise hs hp.length_eq) ?_ (hp.trans HPM.out)
    rw [Ho3.out]
    exact out_sorted d m3
  subst hzs
  have HCz := Lib.hid hCz
  have HB79 := Lib.hid hB9
  have HC9 := Lib.hid (Kd.C_below HC3.out hB9)
  have HD9 := Lib.hid (HD7.out.below hB9)
  have HE9 := Lib.hid (HE7.out.below hB9)
  have HB9 := Lib.hid (below_self HB7.out hB9)
  clear hp hs hCz hB9
  obtain ⟨nn, Hnn⟩ : ∃ n, Hid (n = xs.length) := ⟨_, Lib.hid rfl⟩
  rw [← Hnn.out]
  have hzn : zs.length = nn := by rw [Hnn.out]; exact HXL.out.symm
  have HZN := Lib.hid hzn
  rw [hzn]
  clear hzn
  go_wp2_with fail
  refine (Equal45n nn A8 A3 c8 c3 zs w9 HZN.out (by omega) HCz HC9).mono ?_
  rintro e w10 ⟨rfl, hbb⟩
  have HD10 := Lib.hid (HD9.out.below hbb)
  have HE10 := Lib.hid (HE9.out.below hbb)
  have HB10 := Lib.hid (below_self HB9.out hbb)
  clear hbb
  have HOK3 := Lib.hid (tick_ok HOK.out hm30)
  obtain ⟨dd, Hdd⟩ : ∃ x, Hid (x = tick d m3) := ⟨_, Lib.hid rfl⟩
  rw [← Hdd.out] at HD10 HE10 HOK3
  go_wp2_with fail
  refine (List27 p1 dd HOK3.out w10 HD10).mono ?_
  rintro e w11 ⟨v, rfl, hR, hbb⟩
  obtain ⟨A11, c11, rfl, _, hC11⟩ := Kd.R_reads hR
  have HC11 := Lib.hid hC11
  have HE11 := Lib.hid (HE10.out.below hbb)
  have HB11 := Lib.hid (below_self HB10.out hbb)
  clear hbb hR hC11
  go_wp2_with fail
  refine (List27 p2 dd HOK3.out w11 HE11).mono ?_
  rintro e w12 ⟨v, rfl, hR, hbb⟩
  obtain ⟨A12, c12, rfl, _, hC12⟩ := Kd.R_reads hR
  have HC12 := Lib.hid hC12
  have HC11b := Lib.hid (Kd.C_below HC11.out hbb)
  have HB12 := Lib.hid (below_self HB11.out hbb)
  clear hbb hR hC12
  go_wp2_with fail
  refine (EqualFunc26 A11 A12 c11 c12 (listOf dd) w12 (by have := list_le dd; omega) (list_len HOK3.out) HC11b HC12).mono ?_
  rintro e w13 ⟨rfl, hbb⟩
  have HB13 := Lib.hid (below_self HB12.out hbb)
  clear hbb
  go_wp2_with fail
  go_ret
  exact ⟨rfl, HB13.out⟩

end Go.Proofs.Ytaneaabmgnanbaa.M
