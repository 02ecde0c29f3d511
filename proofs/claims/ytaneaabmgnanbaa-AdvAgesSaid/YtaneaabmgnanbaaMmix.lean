/- Own lemmas: mixed. -/
import Derived.Test.YtaneaabmgnanbaaMlist
import Derived.LoopTactic
import Derived.Deep.MidRow
import Derived.RegionTactic
import Derived.BigRegion
namespace Go.Proofs.Ytaneaabmgnanbaa.M
open Go.RowKit Go.Proofs.YtaneaabmgnanbaaW.PrintWords Go.Proofs.YtaneaabmgnanbaaW.PrintLast Go.Proofs.YtaneaabmgnanbaaW.PrintMore Go.Proofs.Ytaneaabmgnanbaa.PAdvBack
set_option linter.unusedVariables false
set_option linter.unusedSimpArgs false

theorem fx_cell {w0 w : World} {A : Option Addr} {xs : List S24} (h : Kd.C (fx w0) w A xs.length xs) (hp : 0 < xs.length) : ∃ ad, A = some ad ∧ ∀ j, j < xs.length → ∃ B c, w.cell? (ad.add (j * 4)) = some (.int .i64 (xs.getD j z24).f0) ∧ w.cell? ⟨(ad.add (j * 4)).block, (ad.add (j * 4)).off + 1, none⟩ = some (.int .i64 (xs.getD j z24).f1) ∧ w.cell? ⟨(ad.add (j * 4)).block, (ad.add (j * 4)).off + 2, none⟩ = some (.int .i64 (xs.getD j z24).f2) ∧ w.cell? ⟨(ad.add (j * 4)).block, (ad.add (j * 4)).off + 3, none⟩ = some (.slice B (xs.getD j z24).f3.length c) ∧ k24.K w0 (xs.getD j z24) [.int .i64 (xs.getD j z24).f0, .int .i64 (xs.getD j z24).f1, .int .i64 (xs.getD j z24).f2, .slice B (xs.getD j z24).f3.length c] := by
  obtain ⟨ad, _, rfl, _⟩ := Kd.C_get h z24 0 (by omega) (by omega)
  refine ⟨ad, rfl, fun j hj => ?_⟩
  obtain ⟨ad', c, e, hl, hK, hc⟩ := Kd.C_get h z24 j (by omega) (by omega)
  cases e
  have hK' : k24.K w0 (xs.getD j z24) c := hK
  obtain ⟨B, n, hcs, hle, hC⟩ := k24_open hK'
  subst hcs
  exact ⟨B, n, hc 0 _ rfl, by rw [← add_field _ _ 1 (by omega)]; exact hc 1 _ rfl, by rw [← add_field _ _ 2 (by omega)]; exact hc 2 _ rfl, by rw [← add_field _ _ 3 (by omega)]; exact hc 3 _ rfl, hK'⟩
theorem fx_set {w0 W : World} {g n cap base : Nat} {ok : Nat → Prop} {xs : List S24} (h : Kd.R (fx w0) 24 W base ok (.slice (some ⟨g, 0, none⟩) n cap) xs) {i : Nat} (hi : i < xs.length) (x : S24) {y0 y1 y2 y3 : Value} (hK : k24.K w0 x [y0, y1, y2, y3]) :
    Kd.R (fx w0) 24 ((((W.setCell ⟨g, i * 4, none⟩ y0).setCell ⟨g, i * 4 + 1, none⟩ y1).setCell ⟨g, i * 4 + 2, none⟩ y2).setCell ⟨g, i * 4 + 3, none⟩ y3) base ok (.slice (some ⟨g, 0, none⟩) n cap) (xs.set i x) ∧ W.grownBy ((((W.setCell ⟨g, i * 4, none⟩ y0).setCell ⟨g, i * 4 + 1, none⟩ y1).setCell ⟨g, i * 4 + 2, none⟩ y2).setCell ⟨g, i * 4 + 3, none⟩ y3) (some g) := by
  obtain ⟨hn, hle, hC⟩ := Kd.R_reads' h
  subst hn
  obtain ⟨ad, e, hcell⟩ := fx_cell hC (by omega)
  obtain rfl : ⟨g, 0, none⟩ = ad := by injection e
  obtain ⟨B, c, c0, c1, c2, c3, hKi⟩ := hcell i hi
  rw [add_plain] at c0 c1 c2 c3
  exact Kd.R_seg (d := fx w0) h (i : Int) (by omega) (by omega) (c := [.int .i64 (xs.getD i z24).f0, .int .i64 (xs.getD i z24).f1, .int .i64 (xs.getD i z24).f2, .slice B (xs.getD i z24).f3.length c]) (seg := [y0, y1, y2, y3]) (j := 0) rfl (fun j u hu => by
    rcases j with _ | _ | _ | _ | j
    · simp at hu; subst hu; exact c0
    · simp at hu; subst hu; exact c1
    · simp at hu; subst hu; exact c2
    · simp at hu; subst hu; exact c3
    · simp at hu) (Nat.le_refl 4) (x' := x) (okp := fun _ => False) hK (fun _ hk => hk.elim)
def swq (l : List S24) (i j : Nat) : List S24 := (l.set i (l.getD j z24)).set j (l.getD i z24)
theorem swq_perm (l : List S24) {i j : Nat} (hi : i < l.length) (hj : j < l.length) : (swq l i j).Perm l := by
  unfold swq
  have e1 : l.getD i z24 = l[i] := by simp [List.getD_eq_getElem?_getD, hi]
  have e2 : l.getD j z24 = l[j] := by simp [List.getD_eq_getElem?_getD, hj]
  rw [e1, e2]
  exact List.set_set_perm hi hj
theorem swq_length (l : List S24) (i j : Nat) : (swq l i j).length = l.length := by simp [swq]
theorem set4_some {w : World} {g a b : Nat} {x0 x1 x2 x3 u : Value} (h : w.cell? ⟨g, b, none⟩ = some u) : ∃ u', ((((w.setCell ⟨g, a, none⟩ x0).setCell ⟨g, a + 1, none⟩ x1).setCell ⟨g, a + 2, none⟩ x2).setCell ⟨g, a + 3, none⟩ x3).cell? ⟨g, b, none⟩ = some u' := by
  obtain ⟨_, h⟩ := cell?_setCell_some (w := w) (p := ⟨g, a, none⟩) (x := x0) h
  obtain ⟨_, h⟩ := cell?_setCell_some (w := w.setCell ⟨g, a, none⟩ x0) (p := ⟨g, a + 1, none⟩) (x := x1) h
  obtain ⟨_, h⟩ := cell?_setCell_some (w := (w.setCell ⟨g, a, none⟩ x0).setCell ⟨g, a + 1, none⟩ x1) (p := ⟨g, a + 2, none⟩) (x := x2) h
  exact cell?_setCell_some (w := ((w.setCell ⟨g, a, none⟩ x0).setCell ⟨g, a + 1, none⟩ x1).setCell ⟨g, a + 2, none⟩ x2) (p := ⟨g, a + 3, none⟩) (x := x3) h
theorem C_cell3 {w : World} {A : Option Addr} {xs : List Int} (h : Kd.C (Kd.int .i64) w A xs.length xs) (hp : 0 < xs.length) : ∃ ad, A = some ad ∧ ∀ j, j < xs.length → w.cell? (ad.add j) = some (.int .i64 (xs.getD j 0)) := by
  obtain ⟨ad, e, hc⟩ := h.2.2 hp
  refine ⟨ad, e, fun j hj => ?_⟩
  obtain ⟨c, hl, hK, hcell⟩ := hc j xs[j] (List.getElem?_eq_getElem hj)
  have hK : c = [.int .i64 xs[j]] := hK
  subst hK
  have := hcell 0 _ rfl
  have e1 : (Kd.int .i64).sz = 1 := rfl
  rw [e1, Nat.mul_one, Nat.add_zero] at this
  rw [this]
  simp [List.getD_eq_getElem?_getD, hj]
theorem u64_wr (v : Int) : IntKind.u64.wrap v = v % 18446744073709551616 := by simp [IntKind.wrap, IntKind.bits, IntKind.signed]
set_option maxHeartbeats 4000000 in
set_option maxRecDepth 100000 in
theorem mixed28 (A Ab : Option Addr) (c cb : Nat) (l : List S24) (bs : List Int) (w0 w : World) (hl : l.length ≤ 1000) (hb0 : Below w0.heap.size w0 w) (hbs : bs.length ≤ 9223372036854775807) (HK : Hid (Kd.C k24 w0 A l.length l)) (HKb : Hid (Kd.C (Kd.int .i64) w Ab bs.length bs)) :
    Calls Try.prog 28 #[.slice A l.length c, .slice Ab bs.length cb] w fun e w' => ∃ v L, e = .returned v ∧ L.Perm l ∧ Kd.R (fx w0) 24 w' w.heap.size (fun k => w.heap.size ≤ k) v L ∧ Below w.heap.size w w' := by
  have hu43 := Try.underlying43
  have hu24 := Try.underlying24
  have hu56 := Try.underlying56
  obtain ⟨n, Hn⟩ : ∃ n, Hid (n = l.length) := ⟨_, Lib.hid rfl⟩
  have hn : n ≤ 1000 := by rw [Hn.out]; exact hl
  have HB0 := Lib.hid hb0
  clear hb0
  go_enter Try.func28, Try.ntmps28
  go_wp2_with fail
  refine (Clone54 A c l w0 w hl HB0.out HK).mono ?_
  rintro e w1 ⟨v, rfl, hR, hb⟩
  obtain ⟨A1, c1, rfl, hl1, _⟩ := Kd.R_reads hR
  rw [← Hn.out] at hR
  rw [← Hn.out]
  have HR1 := Lib.hid hR
  have HB1 := Lib.hid hb
  clear hR hb hl1
  go_wp2_with fail
  go_loopw [12] (fun i wr => ∃ (k : Nat) (L : List S24), k ≤ n ∧ i = .int .i64 k ∧ Hid (L.Perm l) ∧ Hid (Kd.R (fx w0) 24 wr w.heap.size (fun k => w.heap.size ≤ k) (.slice A1 n c1) L) ∧ Hid (Below w.heap.size w wr)) (fun i _ => n - (intOf i).toNat)
  case atStart => exact ⟨0, l, Nat.zero_le _, rfl, Lib.hid (List.Perm.refl _), HR1, HB1⟩
  case round =>
    obtain ⟨k, L, hk, rfl, HP, HR, HB⟩ := hrel
    by_cases hlt : k < n
    · by_cases hby : k < bs.length
      · obtain ⟨bd, rfl, hcb⟩ := C_cell3 (Kd.C_below HKb.out HB.out) (by omega)
        obtain ⟨b, Hb⟩ : ∃ b, Hid (b = bs.getD k 0) := ⟨_, Lib.hid rfl⟩
        have hb := hcb k hby
        rw [← Hb.out] at hb
        have hd1 : decide (k < bs.length) = true := decide_eq_true hby
        have hnk : 0 < (n : Int) - k := by omega
        obtain ⟨r, Hr⟩ : ∃ r : Nat, Hid ((r : Int) = (b % 18446744073709551616) % ((n : Int) - k)) := ⟨((b % 18446744073709551616) % ((n : Int) - k)).toNat, Lib.hid (Int.toNat_of_nonneg (Int.emod_nonneg _ (by omega)))⟩
        have hrlt : (r : Int) < (n : Int) - k := by rw [Hr.out]; exact Int.emod_lt_of_pos _ hnk
        have hrem : (IntKind.u64.wrap b).tmod ((n : Int) - k) = (r : Int) := by rw [u64_wr, Int.tmod_eq_emod_of_nonneg (Int.emod_nonneg _ (by omega)), Hr.out]
        have hlen : L.length = n := by rw [HP.out.length_eq, Hn.out]
        obtain ⟨m, Hm⟩ : ∃ m : Nat, Hid (m = k + r) := ⟨_, Lib.hid rfl⟩
        have hkr : (k : Int) + r = (m : Int) := by rw [Hm.out]; omega
        have hmn : m < n := by rw [Hm.out]; omega
        clear hcb
        go_wp2_with fail
        clear hrem hnk hb hd1 hkr hrlt
        have HRd := Lib.hid (Kd.R_drew HR.out)
        have HBd := Lib.hid (below_drew HB.out)
        obtain ⟨inner, ho⟩ := Kd.R_own HRd.out
        obtain ⟨g, cap, e, hgb, hgl⟩ := ho.form (by rw [hlen]; omega)
        rw [hlen] at e
        injection e with e1 e2 e3
        subst e1
        subst e3
        have hfz := blk_free ((own_typed ho g (by simp [Value.ownBlock])).choose_spec)
        have hgok := HR.out.1 g (by simp [Value.ownBlock])
        obtain ⟨hnl, hle1, hC⟩ := Kd.R_reads' HRd.out
        obtain ⟨ad, e, hcell⟩ := fx_cell hC (by omega)
        obtain rfl : ⟨g, 0, none⟩ = ad := by injection e
        obtain ⟨Bk, ck, k0, k1, k2, k3, hKk⟩ := hcell k (by omega)
        obtain ⟨Bm, cm, m0, m1, m2, m3, hKm⟩ := hcell m (by omega)
        rw [add_plain] at k0 k1 k2 k3 m0 m1 m2 m3
        obtain ⟨x, Hx⟩ : ∃ x, Hid (x = L.getD k z24) := ⟨_, Lib.hid rfl⟩
        obtain ⟨y, Hy⟩ : ∃ x, Hid (x = L.getD m z24) := ⟨_, Lib.hid rfl⟩
        rw [← Hx.out] at k0 k1 k2 k3 hKk
        rw [← Hy.out] at m0 m1 m2 m3 hKm
        have HLEN := Lib.hid hlen
        have HKK := Lib.hid hKk
        have HKM := Lib.hid hKm
        have HGOK := Lib.hid hgok
        have hk2 : (k : Int) < n := by omega
        have hm2 : (m : Int) < n := by omega
        obtain ⟨u0, s0⟩ := set4_some (a := k * 4) (x0 := .int .i64 y.f0) (x1 := .int .i64 y.f1) (x2 := .int .i64 y.f2) (x3 := .slice Bm y.f3.length cm) m0
        obtain ⟨u1, s1⟩ := set4_some (a := k * 4) (x0 := .int .i64 y.f0) (x1 := .int .i64 y.f1) (x2 := .int .i64 y.f2) (x3 := .slice Bm y.f3.length cm) m1
        obtain ⟨u2, s2⟩ := set4_some (a := k * 4) (x0 := .int .i64 y.f0) (x1 := .int .i64 y.f1) (x2 := .int .i64 y.f2) (x3 := .slice Bm y.f3.length cm) m2
        obtain ⟨u3, s3⟩ := set4_some (a := k * 4) (x0 := .int .i64 y.f0) (x1 := .int .i64 y.f1) (x2 := .int .i64 y.f2) (x3 := .slice Bm y.f3.length cm) m3
        obtain ⟨u1, s1⟩ := cell?_setCell_some (p := ⟨g, m * 4, none⟩) (x := .int .i64 x.f0) s1
        obtain ⟨u2, s2⟩ := cell?_setCell_some (p := ⟨g, m * 4, none⟩) (x := .int .i64 x.f0) s2
        obtain ⟨u2, s2⟩ := cell?_setCell_some (p := ⟨g, m * 4 + 1, none⟩) (x := .int .i64 x.f1) s2
        obtain ⟨u3, s3⟩ := cell?_setCell_some (p := ⟨g, m * 4, none⟩) (x := .int .i64 x.f0) s3
        obtain ⟨u3, s3⟩ := cell?_setCell_some (p := ⟨g, m * 4 + 1, none⟩) (x := .int .i64 x.f1) s3
        obtain ⟨u3, s3⟩ := cell?_setCell_some (p := ⟨g, m * 4 + 2, none⟩) (x := .int .i64 x.f2) s3
        clear hnl ho hgb hgl hcell hKk hKm hC e e2 hle1 hgok hlen
        refine start_ (n := 16) (S := fun w' => w'.cell? ⟨g, k * 4, none⟩ = some (.int .i64 x.f0) ∧ w'.cell? ⟨g, k * 4 + 1, none⟩ = some (.int .i64 x.f1) ∧ w'.cell? ⟨g, k * 4 + 2, none⟩ = some (.int .i64 x.f2) ∧ w'.cell? ⟨g, k * 4 + 3, none⟩ = some (.slice Bk x.f3.length ck) ∧ w'.cell? ⟨g, m * 4, none⟩ = some (.int .i64 y.f0) ∧ w'.cell? ⟨g, m * 4 + 1, none⟩ = some (.int .i64 y.f1) ∧ w'.cell? ⟨g, m * 4 + 2, none⟩ = some (.int .i64 y.f2) ∧ w'.cell? ⟨g, m * 4 + 3, none⟩ = some (.slice Bm y.f3.length cm)) (ds := [13, 15]) #[false, false, false, false, false, false, false, false, false, false, false, false, false, false, false, false] (by kernel_rfl) rfl rfl ⟨k0, k1, k2, k3, m0, m1, m2, m3⟩ (fun hHeld => ?_)
        generalize wr.drew = wd at HRd HBd hfz k0 k1 k2 k3 m0 m1 m2 m3 s0 s1 s2 s3 hHeld ⊢
        refine pure_ (i := 0) (N := some 33) (v := ?_) (a' := ?_) #[true, false, false, false, false, false, false, false, false, false, false, false, false, false, false, false] rfl rfl (by kernel_rfl) (fun _ _ _ h => h) (Or.inl ⟨by rfl, ?_⟩) ?_ ?_
        rotate_left
        · intro w'
          go_simp
          with_reducible rfl
        rotate_left
        · simp only [Act.put, List.setIfInBounds_toArray, List.set_cons_zero, List.set_cons_succ, i64_w, i32_w]
          rfl
        refine pure_ (i := 1) (N := some 34) (v := ?_) (a' := ?_) #[true, true, false, false, false, false, false, false, false, false, false, false, false, false, false, false] rfl rfl (by kernel_rfl) (fun _ _ _ h => h) (Or.inl ⟨by rfl, ?_⟩) ?_ ?_
        rotate_left
        · intro w'
          go_simp
          with_reducible rfl
        rotate_left
        · simp only [Act.put, List.setIfInBounds_toArray, List.set_cons_zero, List.set_cons_succ, i64_w, i32_w]
          rfl
        refine pure_ (i := 2) (N := some 35) (v := ?_) (a' := ?_) #[true, true, true, false, false, false, false, false, false, false, false, false, false, false, false, false] rfl rfl (by kernel_rfl) (fun _ _ _ h => h) (Or.inl ⟨by rfl, ?_⟩) ?_ ?_
        rotate_left
        · intro w'
          go_simp
          with_reducible rfl
        rotate_left
        · simp only [Act.put, List.setIfInBounds_toArray, List.set_cons_zero, List.set_cons_succ, i64_w, i32_w]
          rfl
        refine pure_ (i := 3) (N := some 36) (v := ?_) (a' := ?_) #[true, true, true, true, false, false, false, false, false, false, false, false, false, false, false, false] rfl rfl (by kernel_rfl) (fun _ _ _ h => h) (Or.inl ⟨by rfl, ?_⟩) ?_ ?_
        rotate_left
        · intro w'
          go_simp
          with_reducible rfl
        rotate_left
        · simp only [Act.put, List.setIfInBounds_toArray, List.set_cons_zero, List.set_cons_succ, i64_w, i32_w]
          rfl
        refine pure_ (i := 4) (N := some 37) (v := ?_) (a' := ?_) #[true, true, true, true, true, false, false, false, false, false, false, false, false, false, false, false] rfl rfl (by kernel_rfl) (fun _ _ _ h => h) (Or.inl ⟨by rfl, ?_⟩) ?_ ?_
        rotate_left
        · intro w'
          go_simp
          with_reducible rfl
        rotate_left
        · simp only [Act.put, List.setIfInBounds_toArray, List.set_cons_zero, List.set_cons_succ, i64_w, i32_w]
          rfl
        refine pure_ (i := 5) (N := some 38) (v := ?_) (a' := ?_) #[true, true, true, true, true, true, false, false, false, false, false, false, false, false, false, false] rfl rfl (by kernel_rfl) (fun _ _ _ h => h) (Or.inl ⟨by rfl, ?_⟩) ?_ ?_
        rotate_left
        · intro w'
          go_simp
          with_reducible rfl
        rotate_left
        · simp only [Act.put, List.setIfInBounds_toArray, List.set_cons_zero, List.set_cons_succ, i64_w, i32_w]
          rfl
        refine pure_ (i := 6) (N := some 39) (v := ?_) (a' := ?_) #[true, true, true, true, true, true, true, false, false, false, false, false, false, false, false, false] rfl rfl (by kernel_rfl) (fun _ _ _ h => h) (Or.inl ⟨by rfl, ?_⟩) ?_ ?_
        rotate_left
        · intro w'
          go_simp
          with_reducible rfl
        rotate_left
        · simp only [Act.put, List.setIfInBounds_toArray, List.set_cons_zero, List.set_cons_succ, i64_w, i32_w]
          rfl
        refine pure_ (i := 8) (N := some 41) (v := ?_) (a' := ?_) #[true, true, true, true, true, true, true, false, true, false, false, false, false, false, false, false] rfl rfl (by kernel_rfl) (fun _ _ _ h => h) (Or.inl ⟨by rfl, ?_⟩) ?_ ?_
        rotate_left
        · intro w'
          go_simp
          with_reducible rfl
        rotate_left
        · simp only [Act.put, List.setIfInBounds_toArray, List.set_cons_zero, List.set_cons_succ, i64_w, i32_w]
          rfl
        refine pure_ (i := 9) (N := some 42) (v := ?_) (a' := ?_) #[true, true, true, true, true, true, true, false, true, true, false, false, false, false, false, false] rfl rfl (by kernel_rfl) (fun _ _ _ h => h) (Or.inl ⟨by rfl, ?_⟩) ?_ ?_
        rotate_left
        · intro w'
          go_simp
          with_reducible rfl
        rotate_left
        · simp only [Act.put, List.setIfInBounds_toArray, List.set_cons_zero, List.set_cons_succ, i64_w, i32_w]
          rfl
        refine pure_ (i := 10) (N := some 43) (v := ?_) (a' := ?_) #[true, true, true, true, true, true, true, false, true, true, true, false, false, false, false, false] rfl rfl (by kernel_rfl) (fun _ _ _ h => h) (Or.inl ⟨by rfl, ?_⟩) ?_ ?_
        rotate_left
        · intro w'
          go_simp
          with_reducible rfl
        rotate_left
        · simp only [Act.put, List.setIfInBounds_toArray, List.set_cons_zero, List.set_cons_succ, i64_w, i32_w]
          rfl
        refine take_ (i := 7) (N := some 40) (v := ?_) (a' := ?_) #[true, true, true, true, true, true, true, true, true, true, true, false, false, false, false, false] rfl rfl (by kernel_rfl) (fun _ _ _ h => h) (Or.inl ⟨by rfl, ?_⟩) hHeld ?_ ?_
        rotate_left
        · rintro w' ⟨s0, s1, s2, s3, s4, s5, s6, s7⟩
          go_simp
          with_reducible rfl
        rotate_left
        · simp only [Act.put, List.setIfInBounds_toArray, List.set_cons_zero, List.set_cons_succ, i64_w, i32_w]
          rfl
        refine take_ (i := 11) (N := some 44) (v := ?_) (a' := ?_) #[true, true, true, true, true, true, true, true, true, true, true, true, false, false, false, false] rfl rfl (by kernel_rfl) (fun _ _ _ h => h) (Or.inl ⟨by rfl, ?_⟩) hHeld ?_ ?_
        rotate_left
        · rintro w' ⟨s0, s1, s2, s3, s4, s5, s6, s7⟩
          go_simp
          with_reducible rfl
        rotate_left
        · simp only [Act.put, List.setIfInBounds_toArray, List.set_cons_zero, List.set_cons_succ, i64_w, i32_w]
          rfl
        refine pure_ (i := 12) (N := some 45) (v := ?_) (a' := ?_) #[true, true, true, true, true, true, true, true, true, true, true, true, true, false, false, false] rfl rfl (by kernel_rfl) (fun _ _ _ h => h) (Or.inl ⟨by rfl, ?_⟩) ?_ ?_
        rotate_left
        · intro w'
          go_simp
          with_reducible rfl
        rotate_left
        · simp only [Act.put, List.setIfInBounds_toArray, List.set_cons_zero, List.set_cons_succ, i64_w, i32_w]
          rfl
        refine last_ (i := 13) (N := none) #[true, true, true, true, true, true, true, true, true, true, true, true, true, true, false, false] rfl rfl (by kernel_rfl) (by decide) (fun K hK => ?_)
        refine skip_ (w1 := ?_) (by rfl) rfl ?_ ?_
        rotate_left
        · go_simp
          rfl
        refine hK.out _ _ ?_
        clear hK K
        refine pure_ (i := 14) (N := some 46) (v := ?_) (a' := ?_) #[true, true, true, true, true, true, true, true, true, true, true, true, true, true, true, false] rfl rfl (by kernel_rfl) (fun _ _ _ h => h) (Or.inl ⟨by rfl, ?_⟩) ?_ ?_
        rotate_left
        · intro w'
          go_simp
          with_reducible rfl
        rotate_left
        · simp only [Act.put, List.setIfInBounds_toArray, List.set_cons_zero, List.set_cons_succ, i64_w, i32_w]
          rfl
        refine last_ (i := 15) (N := none) #[true, true, true, true, true, true, true, true, true, true, true, true, true, true, true, true] rfl rfl (by kernel_rfl) (by decide) (fun K hK => ?_)
        refine skip_ (w1 := ?_) (by rfl) rfl ?_ ?_
        rotate_left
        · go_simp
          rfl
        refine hK.out _ _ ?_
        clear hK K
        refine done_ (by kernel_rfl) ?_

        have h1 := fx_set HRd.out (i := k) (by rw [HLEN.out]; exact hlt) y HKM.out
        have h2 := fx_set h1.1 (i := m) (by rw [List.length_set, HLEN.out]; exact hmn) x HKK.out
        have hG := World.grownBy.trans h1.2 h2.2
        have HR2 := Lib.hid h2.1
        have HB2 := Lib.hid (HBd.out.grown hG HBd.out.size (fun q hq => by injection hq with hq; rw [← hq]; exact HGOK.out))
        have HP2 : Hid (((L.set k y).set m x).Perm l) := by
          rw [Hx.out, Hy.out]
          exact Lib.hid ((swq_perm L (by rw [HLEN.out]; exact hlt) (by rw [HLEN.out]; exact hmn)).trans HP.out)
        clear h1 h2 hG k0 k1 k2 k3 m0 m1 m2 m3 s0 s1 s2 s3 hfz
        go_wp2_with fail
        go_round
        case rel => exact ⟨k + 1, _, by omega, by go_num, HP2, HR2, HB2⟩
        case measure => simp [intOf]; omega
      · have hd1 : decide (k < bs.length) = false := decide_eq_false hby
        go_wp2_with fail
        go_round
        case rel => exact ⟨k + 1, L, by omega, by go_num, HP, HR, HB⟩
        case measure => simp [intOf]; omega
    · go_wp2_with fail
      go_ret
      exact ⟨_, L, rfl, HP.out, HR.out, HB.out⟩

end Go.Proofs.Ytaneaabmgnanbaa.M
