/- Own lemmas: the walk of Tick. -/
import Derived.Test.YtaneaabmgnanbaaMtick0
import Derived.LoopTactic
import Derived.RegionTactic
import Derived.BigRegion
import Derived.BigQuiet
namespace Go.Proofs.Ytaneaabmgnanbaa.M
open Go.RowKit Go.Proofs.YtaneaabmgnanbaaW.PrintWords Go.Proofs.YtaneaabmgnanbaaW.PrintLast Go.Proofs.YtaneaabmgnanbaaW.PrintMore Go.Proofs.Ytaneaabmgnanbaa.PAdvBack
set_option linter.unusedVariables false
set_option linter.unusedSimpArgs false

attribute [local go_sem] max2_int min2_int max_two min_two
theorem i3 : (Try.prog.info? 3).map (fun i => (i.zero, i.size, i.bytes)) = some (some (.int .i64 0), 1, 8) := by kernel_rfl

theorem R_base {w : World} {p base : Nat} {f : Nat → S24} {h : Nat → Bool} {ok : Nat → Prop} {v : Value} {os : List Int} (hR : Kd.R (Kd.int .i64) 3 w base ok v os) (H : BaseAt w p f h) (j : Nat) (u : Value) : Kd.R (Kd.int .i64) 3 (w.setCell ⟨p, j, none⟩ u) base ok v os := by
  obtain ⟨cs, hp, _⟩ := H
  exact Kd.R_set hR hp (by decide) j u
theorem R_wipe {w : World} {p base : Nat} {f : Nat → S24} {h : Nat → Bool} {ok : Nat → Prop} {v : Value} {os : List Int} (hR : Kd.R (Kd.int .i64) 3 w base ok v os) (H : BaseAt w p f h) (j0 j1 j2 j3 j4 : Nat) (u0 u1 u2 u3 u4 : Value) : Kd.R (Kd.int .i64) 3 (((((w.setCell ⟨p, j0, none⟩ u0).setCell ⟨p, j1, none⟩ u1).setCell ⟨p, j2, none⟩ u2).setCell ⟨p, j3, none⟩ u3).setCell ⟨p, j4, none⟩ u4) base ok v os := by
  obtain ⟨cs, hp, _⟩ := H
  exact Kd.R_set (Kd.R_set (Kd.R_set (Kd.R_set (Kd.R_set hR hp (by decide) j0 u0) (blk_set hp _ _) (by decide) j1 u1) (blk_set (blk_set hp _ _) _ _) (by decide) j2 u2) (blk_set (blk_set (blk_set hp _ _) _ _) _ _) (by decide) j3 u3) (blk_set (blk_set (blk_set (blk_set hp _ _) _ _) _ _) _ _) (by decide) j4 u4
theorem BaseAt.grown {w w1 : World} {p base : Nat} {f : Nat → S24} {h : Nat → Bool} {ok : Nat → Prop} {v : Value} {os : List Int} (H : BaseAt w p f h) (hR : Kd.R (Kd.int .i64) 3 w base ok v os) (hg : w.grownBy w1 v.ownBlock) : BaseAt w1 p f h :=
  H.side ⟨hg.size, fun i cs hi => hg.block i (blk_lt hi) (Kd.R_ne hR hi (by decide))⟩ (by obtain ⟨cs, hp, _⟩ := H; exact hg.block p (blk_lt hp) (Kd.R_ne hR hp (by decide)))
theorem KeepBut.grown {w w1 w2 : World} {p : Nat} {v : Value} {os : List Int} (hk : KeepBut w w1 p none) (hR : Kd.R (Kd.int .i64) 3 w1 w.heap.size (fun q => w.heap.size ≤ q) v os) (hg : w1.grownBy w2 v.ownBlock) : KeepBut w w2 p none :=
  ⟨Nat.le_trans hk.1 hg.size, fun i hi hp hr => (hg.block i (Nat.lt_of_lt_of_le hi hk.1) (fun e => by have h0 := hR.1 i e.symm; exact absurd hi (Nat.not_lt.2 h0))).trans (hk.2 i hi hp hr)⟩
theorem fT_self (d : Db) (m : Int) (k : Nat) : fT d m k k = d.1 k := if_neg (Nat.lt_irrefl k)
theorem hT_self (d : Db) (m : Int) (k : Nat) : hT d m k k = d.2 k := if_neg (Nat.lt_irrefl k)
theorem fT_step (d : Db) (m : Int) (k i : Nat) (f : Nat → S24) (hf : ∀ j, j ≠ k → f j = fT d m k j) (hk : f k = tkA d m k) : f i = fT d m (k + 1) i := by
  by_cases e : i = k
  · subst e
    rw [hk]
    unfold fT
    rw [if_pos (by omega)]
  · rw [hf i e]
    unfold fT
    by_cases h : i < k
    · rw [if_pos h, if_pos (by omega)]
    · rw [if_neg h, if_neg (by omega)]
theorem hT_step (d : Db) (m : Int) (k i : Nat) (f : Nat → Bool) (hf : ∀ j, j ≠ k → f j = hT d m k j) (hk : f k = tkH d m k) : f i = hT d m (k + 1) i := by
  by_cases e : i = k
  · subst e
    rw [hk]
    unfold hT
    rw [if_pos (by omega)]
  · rw [hf i e]
    unfold hT
    by_cases h : i < k
    · rw [if_pos h, if_pos (by omega)]
    · rw [if_neg h, if_neg (by omega)]
set_option maxHeartbeats 2000000 in
set_option maxRecDepth 100000 in
theorem Tick42 (p : Nat) (m : Int) (d : Db) (w w0 : World) (hd : DbOk d) (hm0 : 0 ≤ m) (hm : m ≤ 100000) (hb0 : Below w0.heap.size w0 w) (hp0 : w0.heap.size ≤ p) (H : Hid (BaseAt w p d.1 d.2)) :
    Calls Try.prog 42 #[.pointer (some ⟨p, 0, none⟩), .int .i64 m] w fun e w' => ∃ A c, e = .returned (.tuple #[.slice A (outTo d m 16).length c, .int .i64 0]) ∧ (outTo d m 16).length ≤ c ∧ Kd.R (Kd.int .i64) 3 w' w.heap.size (fun k => w.heap.size ≤ k) (.slice A (outTo d m 16).length c) (outTo d m 16) ∧ BaseAt w' p (tick d m).1 (tick d m).2 ∧ KeepBut w w' p none ∧ Below w0.heap.size w0 w' := by
  have hu24 := Try.underlying24
  have hu56 := Try.underlying56
  have hu90 := Try.underlying90
  have hu91 := Try.underlying91
  have hu93 := Try.underlying93
  have HD := Lib.hid hd
  have HP0 := Lib.hid hp0
  have HPL := Lib.hid H.out.lt
  have HB0 := Lib.hid hb0
  have d0 : decide (m < 0) = false := decide_eq_false (by omega)
  have d1 : decide (m > 1000000000) = false := decide_eq_false (by omega)
  clear hd hb0 hp0
  have HST : Hid (BaseAt w p (fT d m 0) (hT d m 0)) := Lib.hid (H.out.fn (fun i _ => (if_neg (Nat.not_lt_zero i)).symm) (fun i _ => (if_neg (Nat.not_lt_zero i)).symm))
  go_enter Try.func42, Try.ntmps42
  go_wp2_with fail
  go_loopw [6, 14] (fun v6 v14 wr => ∃ (k : Nat) (A : Option Addr) (c : Nat) (os : List Int), k ≤ 16 ∧ Hid (os = outTo d m k) ∧ v6 = .slice A os.length c ∧ v14 = .int .i64 k ∧ Hid (Kd.R (Kd.int .i64) 3 wr w.heap.size (fun q => w.heap.size ≤ q) (.slice A os.length c) os) ∧ Hid (BaseAt wr p (fT d m k) (hT d m k)) ∧ Hid (KeepBut w wr p none) ∧ Hid (Below w0.heap.size w0 wr)) (fun _ v _ => 16 - (intOf v).toNat)
  case atStart => exact ⟨0, none, 0, [], Nat.zero_le _, Lib.hid rfl, rfl, rfl, Lib.hid (Kd.R_nil _ _ _ _ _), HST, Lib.hid (KeepBut.refl w p none), HB0⟩
  case round =>
    obtain ⟨k, A, c, os, hk, HOS, rfl, rfl, HR, HBd, HKp, HBr⟩ := hrel
    by_cases hlt : k < 16
    · obtain ⟨B, cB, c0, c1, c2, c3, c4, hlB, hCB, hf⟩ := HBd.out.read hlt
      have hpl := HBd.out.lt
      have hsc := outTo_succ d m k
      have hosl : os.length ≤ 16 := by rw [HOS.out]; have := outTo_len d m k; omega
      rw [← HOS.out] at hsc
      have HSC := Lib.hid hsc
      rw [hT_self] at c4
      rw [fT_self] at c0 c1 c2 c3
      have hki : (k : Int) < 16 := by omega
      clear hlB hCB hsc
      obtain ⟨x, Hx⟩ : ∃ x : S24, Hid (x = d.1 k) := ⟨_, Lib.hid rfl⟩
      rw [← Hx.out] at c0 c1 c2 c3
      have Hyes : ∀ b, b = d.2 k → Hid (b = d.2 k) := fun b h => Lib.hid h
      cases hb : d.2 k with
      | false =>
        have HH := Lib.hid hb
        rw [hb] at c4
        clear hb
        have HBd2 : Hid (BaseAt wr p (fT d m (k + 1)) (hT d m (k + 1))) := Lib.hid (HBd.out.fn (fun i _ => fT_step d m k i _ (fun _ _ => rfl) (by rw [fT_self]; unfold tkA; rw [HH.out]; rfl)) (fun i _ => hT_step d m k i _ (fun _ _ => rfl) (by rw [hT_self]; unfold tkH; rw [HH.out]; rfl)))
        have HO2 : Hid (os = outTo d m (k + 1)) := Lib.hid (by rw [HSC.out, HH.out]; simp)
        clear Hyes
        go_wp2_with fail
        go_round
        case rel => exact ⟨k + 1, A, c, os, by omega, HO2, rfl, by go_num, HR, HBd2, HKp, HBr⟩
        case measure => simp [intOf]; omega
      | true =>
        have HH := Lib.hid hb
        rw [hb] at c4
        have hage := HD.out.age hb
        rw [← Hx.out] at hage
        clear hb Hyes
        obtain ⟨a, Ha⟩ : ∃ a, Hid (a = x.f2) := ⟨_, Lib.hid rfl⟩
        rw [← Ha.out] at c2 hage
        have hw : wrap64 (a + m) = a + m := wrap_in _ (by omega) (by omega)
        go_upto_region 8 with (fail)
        have hbd := below_drew (B := wr.heap.size) (Below.refl wr.heap.size wr)
        have HRd := Lib.hid (Kd.R_drew HR.out)
        have HBdd := Lib.hid (HBd.out.below hbd)
        have HKd := Lib.hid (HKp.out.trans (KeepBut.of_below hbd p none) (.inl rfl))
        have HBrd := Lib.hid (below_self HBr.out.drew (Below.refl _ _))
        have s0 : wr.drew.cell? ⟨p, k * 4 + 2, none⟩ = some (.int .i64 a) := c2
        have sf : wr.drew.frozen? ⟨p, k * 4 + 2, none⟩ = false := hf _
        have hplt : p < wr.drew.heap.size := hpl
        clear hbd c0 c1 c2 c3 c4 hf hpl
        by_cases hal : a + m < 3600
        · have hmn : (if a + m < 3600 then a + m else 3600) = a + m := if_pos hal
          refine start_ (n := 17) (S := fun w' => w'.cell? ⟨p, k * 4 + 2, none⟩ = some (.int .i64 a)) (ds := [16]) #[false, false, false, false, false, false, false, false, false, false, false, false, false, false, false, false, false] (by kernel_rfl) rfl rfl (s0) (fun hHeld => ?_)
          generalize wr.drew = wd at HRd HBdd HKd HBrd s0 sf hplt hHeld ⊢
          refine pure_ (i := 0) (N := some 24) (v := ?_) (a' := ?_) #[true, false, false, false, false, false, false, false, false, false, false, false, false, false, false, false, false] rfl rfl (by kernel_rfl) (fun _ _ _ h => h) (Or.inl ⟨by rfl, ?_⟩) ?_ ?_
          rotate_left
          · intro w'
            go_simp
            with_reducible rfl
          rotate_left
          · simp only [Act.put, List.setIfInBounds_toArray, List.set_cons_zero, List.set_cons_succ, i64_w, i32_w]
            rfl
          refine pure_ (i := 1) (N := some 25) (v := ?_) (a' := ?_) #[true, true, false, false, false, false, false, false, false, false, false, false, false, false, false, false, false] rfl rfl (by kernel_rfl) (fun _ _ _ h => h) (Or.inl ⟨by rfl, ?_⟩) ?_ ?_
          rotate_left
          · intro w'
            go_simp
            with_reducible rfl
          rotate_left
          · simp only [Act.put, List.setIfInBounds_toArray, List.set_cons_zero, List.set_cons_succ, i64_w, i32_w]
            rfl
          refine pure_ (i := 2) (N := some 26) (v := ?_) (a' := ?_) #[true, true, true, false, false, false, false, false, false, false, false, false, false, false, false, false, false] rfl rfl (by kernel_rfl) (fun _ _ _ h => h) (Or.inl ⟨by rfl, ?_⟩) ?_ ?_
          rotate_left
          · intro w'
            go_simp
            with_reducible rfl
          rotate_left
          · simp only [Act.put, List.setIfInBounds_toArray, List.set_cons_zero, List.set_cons_succ, i64_w, i32_w]
            rfl
          refine pure_ (i := 3) (N := some 27) (v := ?_) (a' := ?_) #[true, true, true, true, false, false, false, false, false, false, false, false, false, false, false, false, false] rfl rfl (by kernel_rfl) (fun _ _ _ h => h) (Or.inl ⟨by rfl, ?_⟩) ?_ ?_
          rotate_left
          · intro w'
            go_simp
            with_reducible rfl
          rotate_left
          · simp only [Act.put, List.setIfInBounds_toArray, List.set_cons_zero, List.set_cons_succ, i64_w, i32_w]
            rfl
          refine pure_ (i := 4) (N := some 28) (v := ?_) (a' := ?_) #[true, true, true, true, true, false, false, false, false, false, false, false, false, false, false, false, false] rfl rfl (by kernel_rfl) (fun _ _ _ h => h) (Or.inl ⟨by rfl, ?_⟩) ?_ ?_
          rotate_left
          · intro w'
            go_simp
            with_reducible rfl
          rotate_left
          · simp only [Act.put, List.setIfInBounds_toArray, List.set_cons_zero, List.set_cons_succ, i64_w, i32_w]
            rfl
          refine pure_ (i := 5) (N := some 29) (v := ?_) (a' := ?_) #[true, true, true, true, true, true, false, false, false, false, false, false, false, false, false, false, false] rfl rfl (by kernel_rfl) (fun _ _ _ h => h) (Or.inl ⟨by rfl, ?_⟩) ?_ ?_
          rotate_left
          · intro w'
            go_simp
            with_reducible rfl
          rotate_left
          · simp only [Act.put, List.setIfInBounds_toArray, List.set_cons_zero, List.set_cons_succ, i64_w, i32_w]
            rfl
          refine pure_ (i := 6) (N := some 30) (v := ?_) (a' := ?_) #[true, true, true, true, true, true, true, false, false, false, false, false, false, false, false, false, false] rfl rfl (by kernel_rfl) (fun _ _ _ h => h) (Or.inl ⟨by rfl, ?_⟩) ?_ ?_
          rotate_left
          · intro w'
            go_simp
            with_reducible rfl
          rotate_left
          · simp only [Act.put, List.setIfInBounds_toArray, List.set_cons_zero, List.set_cons_succ, i64_w, i32_w]
            rfl
          refine pure_ (i := 7) (N := some 31) (v := ?_) (a' := ?_) #[true, true, true, true, true, true, true, true, false, false, false, false, false, false, false, false, false] rfl rfl (by kernel_rfl) (fun _ _ _ h => h) (Or.inl ⟨by rfl, ?_⟩) ?_ ?_
          rotate_left
          · intro w'
            go_simp
            with_reducible rfl
          rotate_left
          · simp only [Act.put, List.setIfInBounds_toArray, List.set_cons_zero, List.set_cons_succ, i64_w, i32_w]
            rfl
          refine pure_ (i := 9) (N := some 33) (v := ?_) (a' := ?_) #[true, true, true, true, true, true, true, true, false, true, false, false, false, false, false, false, false] rfl rfl (by kernel_rfl) (fun _ _ _ h => h) (Or.inl ⟨by rfl, ?_⟩) ?_ ?_
          rotate_left
          · intro w'
            go_simp
            with_reducible rfl
          rotate_left
          · simp only [Act.put, List.setIfInBounds_toArray, List.set_cons_zero, List.set_cons_succ, i64_w, i32_w]
            rfl
          refine pure_ (i := 12) (N := some 36) (v := ?_) (a' := ?_) #[true, true, true, true, true, true, true, true, false, true, false, false, true, false, false, false, false] rfl rfl (by kernel_rfl) (fun _ _ _ h => h) (Or.inl ⟨by rfl, ?_⟩) ?_ ?_
          rotate_left
          · intro w'
            go_simp
            with_reducible rfl
          rotate_left
          · simp only [Act.put, List.setIfInBounds_toArray, List.set_cons_zero, List.set_cons_succ, i64_w, i32_w]
            rfl
          refine pure_ (i := 13) (N := some 37) (v := ?_) (a' := ?_) #[true, true, true, true, true, true, true, true, false, true, false, false, true, true, false, false, false] rfl rfl (by kernel_rfl) (fun _ _ _ h => h) (Or.inl ⟨by rfl, ?_⟩) ?_ ?_
          rotate_left
          · intro w'
            go_simp
            with_reducible rfl
          rotate_left
          · simp only [Act.put, List.setIfInBounds_toArray, List.set_cons_zero, List.set_cons_succ, i64_w, i32_w]
            rfl
          refine take_ (i := 8) (N := some 32) (v := ?_) (a' := ?_) #[true, true, true, true, true, true, true, true, true, true, false, false, true, true, false, false, false] rfl rfl (by kernel_rfl) (fun _ _ _ h => h) (Or.inl ⟨by rfl, ?_⟩) hHeld ?_ ?_
          rotate_left
          · intro w' s0
            go_simp
            with_reducible rfl
          rotate_left
          · simp only [Act.put, List.setIfInBounds_toArray, List.set_cons_zero, List.set_cons_succ, i64_w, i32_w]
            rfl
          refine pure_ (i := 10) (N := some 34) (v := ?_) (a' := ?_) #[true, true, true, true, true, true, true, true, true, true, true, false, true, true, false, false, false] rfl rfl (by kernel_rfl) (fun _ _ _ h => h) (Or.inl ⟨by rfl, ?_⟩) ?_ ?_
          rotate_left
          · intro w'
            go_simp
            with_reducible rfl
          rotate_left
          · simp only [Act.put, List.setIfInBounds_toArray, List.set_cons_zero, List.set_cons_succ, i64_w, i32_w]
            rfl
          refine pure_ (i := 11) (N := some 35) (v := ?_) (a' := ?_) #[true, true, true, true, true, true, true, true, true, true, true, true, true, true, false, false, false] rfl rfl (by kernel_rfl) (fun _ _ _ h => h) (Or.inl ⟨by rfl, ?_⟩) ?_ ?_
          rotate_left
          · intro w'
            go_simp
            with_reducible rfl
          rotate_left
          · simp only [Act.put, List.setIfInBounds_toArray, List.set_cons_zero, List.set_cons_succ, i64_w, i32_w]
            rfl
          refine pure_ (i := 14) (N := some 38) (v := ?_) (a' := ?_) #[true, true, true, true, true, true, true, true, true, true, true, true, true, true, true, false, false] rfl rfl (by kernel_rfl) (fun _ _ _ h => h) (Or.inl ⟨by rfl, ?_⟩) ?_ ?_
          rotate_left
          · intro w'
            go_simp
            with_reducible rfl
          rotate_left
          · simp only [Act.put, List.setIfInBounds_toArray, List.set_cons_zero, List.set_cons_succ, i64_w, i32_w]
            rfl
          refine pure_ (i := 15) (N := some 39) (v := ?_) (a' := ?_) #[true, true, true, true, true, true, true, true, true, true, true, true, true, true, true, true, false] rfl rfl (by kernel_rfl) (fun _ _ _ h => h) (Or.inl ⟨by rfl, ?_⟩) ?_ ?_
          rotate_left
          · intro w'
            go_simp
            with_reducible rfl
          rotate_left
          · simp only [Act.put, List.setIfInBounds_toArray, List.set_cons_zero, List.set_cons_succ, i64_w, i32_w]
            rfl
          refine last_ (i := 16) (N := none) #[true, true, true, true, true, true, true, true, true, true, true, true, true, true, true, true, true] rfl rfl (by kernel_rfl) (by decide) (fun K hK => ?_)
          refine skip_ (w1 := ?_) (by rfl) rfl ?_ ?_
          rotate_left
          · go_simp
            rfl
          refine hK.out _ _ ?_
          clear hK K
          refine done_ (by kernel_rfl) ?_


          have HBd3 := Lib.hid (HBdd.out.age hlt (a + m))
          have HK3 := Lib.hid (HKd.out.set_ (k * 4 + 2) (.int .i64 (a + m)))
          have HB3 := Lib.hid (Below.setCell HBrd.out (p := ⟨p, k * 4 + 2, none⟩) HP0.out (.int .i64 (a + m)))
          have HR3 := Lib.hid (R_base HRd.out HBdd.out (k * 4 + 2) (.int .i64 (a + m)))
          clear s0 sf
          generalize wd.setCell ⟨p, k * 4 + 2, none⟩ (.int .i64 (a + m)) = w3 at HBd3 HK3 HB3 HR3 ⊢
          obtain ⟨B3, cB3, e0, e1, e2, e3, e4, hl3, hC3, hf3⟩ := HBd3.out.read hlt
          have hp3 := HBd3.out.lt
          simp only [if_true] at e2
          have dn : (a + m == 3600) = false := by simp; omega
          have HBd4 : Hid (BaseAt w3 p (fT d m (k + 1)) (hT d m (k + 1))) := Lib.hid (HBd3.out.fn (fun i _ => fT_step d m k i _ (fun j hj => if_neg hj) (by rw [if_pos rfl, fT_self, ← Hx.out]; unfold tkA; rw [HH.out, ← Hx.out, ← Ha.out, if_pos rfl, if_pos hal])) (fun i _ => hT_step d m k i _ (fun _ _ => rfl) (by rw [hT_self]; unfold tkH; rw [HH.out, ← Hx.out, ← Ha.out]; simp [hal])))
          have HO2 : Hid (os = outTo d m (k + 1)) := Lib.hid (by rw [HSC.out, HH.out, ← Hx.out, ← Ha.out, decide_eq_false (show ¬ 3600 ≤ a + m by omega)]; simp)
          clear hl3 hC3 e0 e1 e3 e4
          go_wp2_with fail
          go_round
          case rel => exact ⟨k + 1, A, c, os, by omega, HO2, rfl, by go_num, HR3, HBd4, HK3, HB3⟩
          case measure => simp [intOf]; omega
        · have hmn : (if a + m < 3600 then a + m else 3600) = 3600 := if_neg hal
          refine start_ (n := 17) (S := fun w' => w'.cell? ⟨p, k * 4 + 2, none⟩ = some (.int .i64 a)) (ds := [16]) #[false, false, false, false, false, false, false, false, false, false, false, false, false, false, false, false, false] (by kernel_rfl) rfl rfl (s0) (fun hHeld => ?_)
          generalize wr.drew = wd at HRd HBdd HKd HBrd s0 sf hplt hHeld ⊢
          refine pure_ (i := 0) (N := some 24) (v := ?_) (a' := ?_) #[true, false, false, false, false, false, false, false, false, false, false, false, false, false, false, false, false] rfl rfl (by kernel_rfl) (fun _ _ _ h => h) (Or.inl ⟨by rfl, ?_⟩) ?_ ?_
          rotate_left
          · intro w'
            go_simp
            with_reducible rfl
          rotate_left
          · simp only [Act.put, List.setIfInBounds_toArray, List.set_cons_zero, List.set_cons_succ, i64_w, i32_w]
            rfl
          refine pure_ (i := 1) (N := some 25) (v := ?_) (a' := ?_) #[true, true, false, false, false, false, false, false, false, false, false, false, false, false, false, false, false] rfl rfl (by kernel_rfl) (fun _ _ _ h => h) (Or.inl ⟨by rfl, ?_⟩) ?_ ?_
          rotate_left
          · intro w'
            go_simp
            with_reducible rfl
          rotate_left
          · simp only [Act.put, List.setIfInBounds_toArray, List.set_cons_zero, List.set_cons_succ, i64_w, i32_w]
            rfl
          refine pure_ (i := 2) (N := some 26) (v := ?_) (a' := ?_) #[true, true, true, false, false, false, false, false, false, false, false, false, false, false, false, false, false] rfl rfl (by kernel_rfl) (fun _ _ _ h => h) (Or.inl ⟨by rfl, ?_⟩) ?_ ?_
          rotate_left
          · intro w'
            go_simp
            with_reducible rfl
          rotate_left
          · simp only [Act.put, List.setIfInBounds_toArray, List.set_cons_zero, List.set_cons_succ, i64_w, i32_w]
            rfl
          refine pure_ (i := 3) (N := some 27) (v := ?_) (a' := ?_) #[true, true, true, true, false, false, false, false, false, false, false, false, false, false, false, false, false] rfl rfl (by kernel_rfl) (fun _ _ _ h => h) (Or.inl ⟨by rfl, ?_⟩) ?_ ?_
          rotate_left
          · intro w'
            go_simp
            with_reducible rfl
          rotate_left
          · simp only [Act.put, List.setIfInBounds_toArray, List.set_cons_zero, List.set_cons_succ, i64_w, i32_w]
            rfl
          refine pure_ (i := 4) (N := some 28) (v := ?_) (a' := ?_) #[true, true, true, true, true, false, false, false, false, false, false, false, false, false, false, false, false] rfl rfl (by kernel_rfl) (fun _ _ _ h => h) (Or.inl ⟨by rfl, ?_⟩) ?_ ?_
          rotate_left
          · intro w'
            go_simp
            with_reducible rfl
          rotate_left
          · simp only [Act.put, List.setIfInBounds_toArray, List.set_cons_zero, List.set_cons_succ, i64_w, i32_w]
            rfl
          refine pure_ (i := 5) (N := some 29) (v := ?_) (a' := ?_) #[true, true, true, true, true, true, false, false, false, false, false, false, false, false, false, false, false] rfl rfl (by kernel_rfl) (fun _ _ _ h => h) (Or.inl ⟨by rfl, ?_⟩) ?_ ?_
          rotate_left
          · intro w'
            go_simp
            with_reducible rfl
          rotate_left
          · simp only [Act.put, List.setIfInBounds_toArray, List.set_cons_zero, List.set_cons_succ, i64_w, i32_w]
            rfl
          refine pure_ (i := 6) (N := some 30) (v := ?_) (a' := ?_) #[true, true, true, true, true, true, true, false, false, false, false, false, false, false, false, false, false] rfl rfl (by kernel_rfl) (fun _ _ _ h => h) (Or.inl ⟨by rfl, ?_⟩) ?_ ?_
          rotate_left
          · intro w'
            go_simp
            with_reducible rfl
          rotate_left
          · simp only [Act.put, List.setIfInBounds_toArray, List.set_cons_zero, List.set_cons_succ, i64_w, i32_w]
            rfl
          refine pure_ (i := 7) (N := some 31) (v := ?_) (a' := ?_) #[true, true, true, true, true, true, true, true, false, false, false, false, false, false, false, false, false] rfl rfl (by kernel_rfl) (fun _ _ _ h => h) (Or.inl ⟨by rfl, ?_⟩) ?_ ?_
          rotate_left
          · intro w'
            go_simp
            with_reducible rfl
          rotate_left
          · simp only [Act.put, List.setIfInBounds_toArray, List.set_cons_zero, List.set_cons_succ, i64_w, i32_w]
            rfl
          refine pure_ (i := 9) (N := some 33) (v := ?_) (a' := ?_) #[true, true, true, true, true, true, true, true, false, true, false, false, false, false, false, false, false] rfl rfl (by kernel_rfl) (fun _ _ _ h => h) (Or.inl ⟨by rfl, ?_⟩) ?_ ?_
          rotate_left
          · intro w'
            go_simp
            with_reducible rfl
          rotate_left
          · simp only [Act.put, List.setIfInBounds_toArray, List.set_cons_zero, List.set_cons_succ, i64_w, i32_w]
            rfl
          refine pure_ (i := 12) (N := some 36) (v := ?_) (a' := ?_) #[true, true, true, true, true, true, true, true, false, true, false, false, true, false, false, false, false] rfl rfl (by kernel_rfl) (fun _ _ _ h => h) (Or.inl ⟨by rfl, ?_⟩) ?_ ?_
          rotate_left
          · intro w'
            go_simp
            with_reducible rfl
          rotate_left
          · simp only [Act.put, List.setIfInBounds_toArray, List.set_cons_zero, List.set_cons_succ, i64_w, i32_w]
            rfl
          refine pure_ (i := 13) (N := some 37) (v := ?_) (a' := ?_) #[true, true, true, true, true, true, true, true, false, true, false, false, true, true, false, false, false] rfl rfl (by kernel_rfl) (fun _ _ _ h => h) (Or.inl ⟨by rfl, ?_⟩) ?_ ?_
          rotate_left
          · intro w'
            go_simp
            with_reducible rfl
          rotate_left
          · simp only [Act.put, List.setIfInBounds_toArray, List.set_cons_zero, List.set_cons_succ, i64_w, i32_w]
            rfl
          refine take_ (i := 8) (N := some 32) (v := ?_) (a' := ?_) #[true, true, true, true, true, true, true, true, true, true, false, false, true, true, false, false, false] rfl rfl (by kernel_rfl) (fun _ _ _ h => h) (Or.inl ⟨by rfl, ?_⟩) hHeld ?_ ?_
          rotate_left
          · intro w' s0
            go_simp
            with_reducible rfl
          rotate_left
          · simp only [Act.put, List.setIfInBounds_toArray, List.set_cons_zero, List.set_cons_succ, i64_w, i32_w]
            rfl
          refine pure_ (i := 10) (N := some 34) (v := ?_) (a' := ?_) #[true, true, true, true, true, true, true, true, true, true, true, false, true, true, false, false, false] rfl rfl (by kernel_rfl) (fun _ _ _ h => h) (Or.inl ⟨by rfl, ?_⟩) ?_ ?_
          rotate_left
          · intro w'
            go_simp
            with_reducible rfl
          rotate_left
          · simp only [Act.put, List.setIfInBounds_toArray, List.set_cons_zero, List.set_cons_succ, i64_w, i32_w]
            rfl
          refine pure_ (i := 11) (N := some 35) (v := ?_) (a' := ?_) #[true, true, true, true, true, true, true, true, true, true, true, true, true, true, false, false, false] rfl rfl (by kernel_rfl) (fun _ _ _ h => h) (Or.inl ⟨by rfl, ?_⟩) ?_ ?_
          rotate_left
          · intro w'
            go_simp
            with_reducible rfl
          rotate_left
          · simp only [Act.put, List.setIfInBounds_toArray, List.set_cons_zero, List.set_cons_succ, i64_w, i32_w]
            rfl
          refine pure_ (i := 14) (N := some 38) (v := ?_) (a' := ?_) #[true, true, true, true, true, true, true, true, true, true, true, true, true, true, true, false, false] rfl rfl (by kernel_rfl) (fun _ _ _ h => h) (Or.inl ⟨by rfl, ?_⟩) ?_ ?_
          rotate_left
          · intro w'
            go_simp
            with_reducible rfl
          rotate_left
          · simp only [Act.put, List.setIfInBounds_toArray, List.set_cons_zero, List.set_cons_succ, i64_w, i32_w]
            rfl
          refine pure_ (i := 15) (N := some 39) (v := ?_) (a' := ?_) #[true, true, true, true, true, true, true, true, true, true, true, true, true, true, true, true, false] rfl rfl (by kernel_rfl) (fun _ _ _ h => h) (Or.inl ⟨by rfl, ?_⟩) ?_ ?_
          rotate_left
          · intro w'
            go_simp
            with_reducible rfl
          rotate_left
          · simp only [Act.put, List.setIfInBounds_toArray, List.set_cons_zero, List.set_cons_succ, i64_w, i32_w]
            rfl
          refine last_ (i := 16) (N := none) #[true, true, true, true, true, true, true, true, true, true, true, true, true, true, true, true, true] rfl rfl (by kernel_rfl) (by decide) (fun K hK => ?_)
          refine skip_ (w1 := ?_) (by rfl) rfl ?_ ?_
          rotate_left
          · go_simp
            rfl
          refine hK.out _ _ ?_
          clear hK K
          refine done_ (by kernel_rfl) ?_

          have HBd3 := Lib.hid (HBdd.out.age hlt 3600)
          have HK3 := Lib.hid (HKd.out.set_ (k * 4 + 2) (.int .i64 3600))
          have HB3 := Lib.hid (Below.setCell HBrd.out (p := ⟨p, k * 4 + 2, none⟩) HP0.out (.int .i64 3600))
          have HR3 := Lib.hid (R_base HRd.out HBdd.out (k * 4 + 2) (.int .i64 3600))
          clear s0 sf
          generalize wd.setCell ⟨p, k * 4 + 2, none⟩ (.int .i64 3600) = w3 at HBd3 HK3 HB3 HR3 ⊢
          obtain ⟨B3, cB3, e0, e1, e2, e3, e4, hl3, hC3, hf3⟩ := HBd3.out.read hlt
          have hp3 := HBd3.out.lt
          simp only [if_true] at e2
          go_upto_region 10 with (fail)
          have hbd3 := below_drew (B := w3.heap.size) (Below.refl w3.heap.size w3)
          have HRd3 := Lib.hid (Kd.R_drew HR3.out)
          have HBdd3 := Lib.hid (HBd3.out.below hbd3)
          have HKd3 := Lib.hid (HK3.out.trans (KeepBut.of_below hbd3 p none) (.inl rfl))
          have HBrd3 := Lib.hid HB3.out.drew
          clear hbd3 e0 e1 e2 e3 e4 hl3 hC3 hf3 hp3
          obtain ⟨B3, cB3, e0, e1, e2, e3, e4, hl3, hC3, hf3⟩ := HBdd3.out.read hlt
          have hp3 := HBdd3.out.lt
          obtain ⟨u4, s4⟩ := set4_some (g := p) (a := k * 4) (b := 64 + k) (x0 := .int .i64 0) (x1 := .int .i64 0) (x2 := .int .i64 0) (x3 := .slice none 0 0) e4
          clear hl3 hC3
          refine start_ (n := 13) (S := fun w' => True) (ds := [8, 12]) #[false, false, false, false, false, false, false, false, false, false, false, false, false] (by kernel_rfl) rfl rfl trivial (fun hHeld => ?_)
          generalize w3.drew = we at HRd3 HBdd3 HKd3 HBrd3 e0 e1 e2 e3 e4 hf3 hp3 s4 hHeld ⊢
          refine pure_ (i := 0) (N := some 48) (v := ?_) (a' := ?_) #[true, false, false, false, false, false, false, false, false, false, false, false, false] rfl rfl (by kernel_rfl) (fun _ _ _ h => h) (Or.inl ⟨by rfl, ?_⟩) ?_ ?_
          rotate_left
          · intro w'
            go_simp
            with_reducible rfl
          rotate_left
          · simp only [Act.put, List.setIfInBounds_toArray, List.set_cons_zero, List.set_cons_succ, i64_w, i32_w]
            rfl
          refine pure_ (i := 1) (N := some 49) (v := ?_) (a' := ?_) #[true, true, false, false, false, false, false, false, false, false, false, false, false] rfl rfl (by kernel_rfl) (fun _ _ _ h => h) (Or.inl ⟨by rfl, ?_⟩) ?_ ?_
          rotate_left
          · intro w'
            go_simp
            with_reducible rfl
          rotate_left
          · simp only [Act.put, List.setIfInBounds_toArray, List.set_cons_zero, List.set_cons_succ, i64_w, i32_w]
            rfl
          refine pure_ (i := 2) (N := some 50) (v := ?_) (a' := ?_) #[true, true, true, false, false, false, false, false, false, false, false, false, false] rfl rfl (by kernel_rfl) (fun _ _ _ h => h) (Or.inl ⟨by rfl, ?_⟩) ?_ ?_
          rotate_left
          · intro w'
            go_simp
            with_reducible rfl
          rotate_left
          · simp only [Act.put, List.setIfInBounds_toArray, List.set_cons_zero, List.set_cons_succ, i64_w, i32_w]
            rfl
          refine pure_ (i := 3) (N := some 51) (v := ?_) (a' := ?_) #[true, true, true, true, false, false, false, false, false, false, false, false, false] rfl rfl (by kernel_rfl) (fun _ _ _ h => h) (Or.inl ⟨by rfl, ?_⟩) ?_ ?_
          rotate_left
          · intro w'
            go_simp
            with_reducible rfl
          rotate_left
          · simp only [Act.put, List.setIfInBounds_toArray, List.set_cons_zero, List.set_cons_succ, i64_w, i32_w]
            rfl
          refine pure_ (i := 4) (N := some 52) (v := ?_) (a' := ?_) #[true, true, true, true, true, false, false, false, false, false, false, false, false] rfl rfl (by kernel_rfl) (fun _ _ _ h => h) (Or.inl ⟨by rfl, ?_⟩) ?_ ?_
          rotate_left
          · intro w'
            go_simp
            with_reducible rfl
          rotate_left
          · simp only [Act.put, List.setIfInBounds_toArray, List.set_cons_zero, List.set_cons_succ, i64_w, i32_w]
            rfl
          refine pure_ (i := 5) (N := some 53) (v := ?_) (a' := ?_) #[true, true, true, true, true, true, false, false, false, false, false, false, false] rfl rfl (by kernel_rfl) (fun _ _ _ h => h) (Or.inl ⟨by rfl, ?_⟩) ?_ ?_
          rotate_left
          · intro w'
            go_simp
            with_reducible rfl
          rotate_left
          · simp only [Act.put, List.setIfInBounds_toArray, List.set_cons_zero, List.set_cons_succ, i64_w, i32_w]
            rfl
          refine pure_ (i := 6) (N := some 54) (v := ?_) (a' := ?_) #[true, true, true, true, true, true, true, false, false, false, false, false, false] rfl rfl (by kernel_rfl) (fun _ _ _ h => h) (Or.inl ⟨by rfl, ?_⟩) ?_ ?_
          rotate_left
          · intro w'
            go_simp
            with_reducible rfl
          rotate_left
          · simp only [Act.put, List.setIfInBounds_toArray, List.set_cons_zero, List.set_cons_succ, i64_w, i32_w]
            rfl
          refine pure_ (i := 7) (N := some 55) (v := ?_) (a' := ?_) #[true, true, true, true, true, true, true, true, false, false, false, false, false] rfl rfl (by kernel_rfl) (fun _ _ _ h => h) (Or.inl ⟨by rfl, ?_⟩) ?_ ?_
          rotate_left
          · intro w'
            go_simp
            with_reducible rfl
          rotate_left
          · simp only [Act.put, List.setIfInBounds_toArray, List.set_cons_zero, List.set_cons_succ, i64_w, i32_w]
            rfl
          refine pure_ (i := 9) (N := some 56) (v := ?_) (a' := ?_) #[true, true, true, true, true, true, true, true, false, true, false, false, false] rfl rfl (by kernel_rfl) (fun _ _ _ h => h) (Or.inl ⟨by rfl, ?_⟩) ?_ ?_
          rotate_left
          · intro w'
            go_simp
            with_reducible rfl
          rotate_left
          · simp only [Act.put, List.setIfInBounds_toArray, List.set_cons_zero, List.set_cons_succ, i64_w, i32_w]
            rfl
          refine pure_ (i := 10) (N := some 57) (v := ?_) (a' := ?_) #[true, true, true, true, true, true, true, true, false, true, true, false, false] rfl rfl (by kernel_rfl) (fun _ _ _ h => h) (Or.inl ⟨by rfl, ?_⟩) ?_ ?_
          rotate_left
          · intro w'
            go_simp
            with_reducible rfl
          rotate_left
          · simp only [Act.put, List.setIfInBounds_toArray, List.set_cons_zero, List.set_cons_succ, i64_w, i32_w]
            rfl
          refine last_ (i := 8) (N := none) #[true, true, true, true, true, true, true, true, true, true, true, false, false] rfl rfl (by kernel_rfl) (by decide) (fun K hK => ?_)
          refine skip_ (w1 := ?_) (by rfl) rfl ?_ ?_
          rotate_left
          · go_simp
            rfl
          refine hK.out _ _ ?_
          clear hK K
          refine pure_ (i := 11) (N := some 58) (v := ?_) (a' := ?_) #[true, true, true, true, true, true, true, true, true, true, true, true, false] rfl rfl (by kernel_rfl) (fun _ _ _ h => h) (Or.inl ⟨by rfl, ?_⟩) ?_ ?_
          rotate_left
          · intro w'
            go_simp
            with_reducible rfl
          rotate_left
          · simp only [Act.put, List.setIfInBounds_toArray, List.set_cons_zero, List.set_cons_succ, i64_w, i32_w]
            rfl
          refine last_ (i := 12) (N := none) #[true, true, true, true, true, true, true, true, true, true, true, true, true] rfl rfl (by kernel_rfl) (by decide) (fun K hK => ?_)
          refine skip_ (w1 := ?_) (by rfl) rfl ?_ ?_
          rotate_left
          · go_simp
            rfl
          refine hK.out _ _ ?_
          clear hK K
          refine done_ (by kernel_rfl) ?_

          have HBd5 := Lib.hid (HBdd3.out.wipe hlt)
          have HK5 := Lib.hid (HKd3.out.trans (keep_sets (w := we) p (k * 4) (k * 4 + 1) (k * 4 + 2) (k * 4 + 3) (64 + k) (.int .i64 0) (.int .i64 0) (.int .i64 0) (.slice none 0 0) (.bool false)) (.inl rfl))
          have HB5 := Lib.hid (Below.setCell (Below.setCell (Below.setCell (Below.setCell (Below.setCell HBrd3.out (p := ⟨p, k * 4, none⟩) HP0.out (.int .i64 0)) (p := ⟨p, k * 4 + 1, none⟩) HP0.out (.int .i64 0)) (p := ⟨p, k * 4 + 2, none⟩) HP0.out (.int .i64 0)) (p := ⟨p, k * 4 + 3, none⟩) HP0.out (.slice none 0 0)) (p := ⟨p, 64 + k, none⟩) HP0.out (.bool false))
          have HR5 := Lib.hid (R_wipe HRd3.out HBdd3.out (k * 4) (k * 4 + 1) (k * 4 + 2) (k * 4 + 3) (64 + k) (.int .i64 0) (.int .i64 0) (.int .i64 0) (.slice none 0 0) (.bool false))
          clear e0 e1 e2 e3 e4 hf3 hp3 s4
          generalize ((((we.setCell ⟨p, k * 4, none⟩ (.int .i64 0)).setCell ⟨p, k * 4 + 1, none⟩ (.int .i64 0)).setCell ⟨p, k * 4 + 2, none⟩ (.int .i64 0)).setCell ⟨p, k * 4 + 3, none⟩ (.slice none 0 0)).setCell ⟨p, 64 + k, none⟩ (.bool false) = w5 at HBd5 HK5 HB5 HR5 ⊢
          have h6 : ∀ i, (if i = k then z24 else (if i = k then (⟨(fT d m k k).f0, (fT d m k k).f1, 3600, (fT d m k k).f3⟩ : S24) else fT d m k i)) = fT d m (k + 1) i := fun i => by
            by_cases e : i = k
            · rw [if_pos e]
              subst e
              unfold fT
              rw [if_pos (Nat.lt_succ_self _)]
              unfold tkA
              rw [HH.out, ← Hx.out, ← Ha.out, if_pos rfl, if_neg hal]
            · rw [if_neg e, if_neg e]
              unfold fT
              by_cases h : i < k
              · rw [if_pos h, if_pos (by omega)]
              · rw [if_neg h, if_neg (by omega)]
          have HBd6 : Hid (BaseAt w5 p (fT d m (k + 1)) (hT d m (k + 1))) := Lib.hid (HBd5.out.fn (fun i _ => h6 i) (fun i _ => hT_step d m k i _ (fun j hj => if_neg hj) (by rw [if_pos rfl]; unfold tkH; rw [HH.out, ← Hx.out, ← Ha.out]; simp [hal])))
          clear h6
          have HO2 : Hid (outTo d m (k + 1) = os ++ [(k : Int)]) := Lib.hid (by rw [HSC.out, HH.out, ← Hx.out, ← Ha.out, decide_eq_true (show 3600 ≤ a + m by omega)]; simp)
          have HWS := Lib.hid (show w.heap.size ≤ w5.heap.size from HK5.out.1)
          go_wp2_with ((with_reducible refine gate_builtin (b := .append) (xs := #[.tmp 59, .tmp 61]) rfl ?_); at_builtin; refine Kd.R_append (Kd.int .i64) (w0 := w5) w.heap.size rfl (.tmp 59) (.tmp 61) 56 3 (.int .i64 0) 8 rfl Try.underlying56 i3 rfl (by decide) (by omega) (.slice A os.length c) os (k : Int) [.int .i64 k] (fun q => w.heap.size ≤ q) (fun _ => False) rfl rfl ?aP (fun _ hk => hk.elim) ?aF ?aO ?aB ?aS ?aL ?_; (case aP => exact rfl); (case aF => exact fun q hq => Nat.le_trans HWS.out hq); (case aO => exact HR5.out); (case aB => exact (Below.refl w5.heap.size w5).mono HWS.out); (case aS => exact HWS.out); (case aL => omega); intro v8 w8 ho hbb hg hat; obtain ⟨os2, Hos2⟩ : ∃ L2, Hid (L2 = os ++ [(k : Int)]) := ⟨_, Lib.hid rfl⟩; rw [← Hos2.out] at ho; obtain ⟨A8, c8, rfl, hle8, _⟩ := Kd.R_reads ho; have HR8 := Lib.hid ho; have HG8 := Lib.hid hg; have HAT8 := Lib.hid hat; clear ho hbb hg hat)
          have HBd8 := Lib.hid (HBd6.out.grown HR5.out HG8.out)
          have HK8 := Lib.hid (KeepBut.grown HK5.out HR5.out HG8.out)
          have HB8 := Lib.hid (HB5.out.grown HG8.out HB5.out.size (fun q hq => Nat.le_trans (Nat.le_trans (by exact HP0.out) (Nat.le_of_lt HPL.out)) (HR5.out.1 q hq)))
          go_round
          case rel => exact ⟨k + 1, A8, c8, os2, by omega, Lib.hid (by rw [HO2.out, Hos2.out]), rfl, by go_num, HR8, HBd8, HK8, HB8⟩
          case measure => simp [intOf]; omega
    · obtain rfl : k = 16 := by omega
      obtain ⟨hz, hle, _⟩ := Kd.R_reads' HR.out
      clear hz
      have HBF : Hid (BaseAt wr p (tick d m).1 (tick d m).2) := Lib.hid (HBd.out.fn (fun i hi => if_pos hi) (fun i hi => if_pos hi))
      go_wp2_with fail
      go_ret2
      rw [← HOS.out]
      exact ⟨A, c, rfl, hle, HR.out, HBF.out, HKp.out, HBr.out⟩

end Go.Proofs.Ytaneaabmgnanbaa.M
