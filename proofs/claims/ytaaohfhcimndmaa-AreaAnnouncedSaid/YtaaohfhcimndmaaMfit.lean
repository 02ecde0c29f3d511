/- Own lemmas: fitted. -/
import Derived.Test.YtaaohfhcimndmaaMcosts
import Derived.LoopTactic
import Derived.BigQuiet
import Derived.RegionTactic
import Derived.BigRegion
import Derived.Laws.BitsAllLaws
import Derived.Laws.BitsLemmas
namespace Go.Proofs.Ytaaohfhcimndmaa.M
open Go.RowKit Go.Proofs.YtaaohfhcimndmaaW.PrintWords Go.Proofs.YtaaohfhcimndmaaW.PrintLast Go.Proofs.YtaaohfhcimndmaaW.PrintMore 
set_option linter.unusedVariables false
set_option linter.unusedSimpArgs false

open Go.Proofs.Ytaaohfhcimndmaa.PAreaAnnounced
def fitV (N : Nat) (v : Int) : Int := (v % 18446744073709551616) % N
theorem fitV_range {N : Nat} (h : 1 ≤ N) (v : Int) : 0 ≤ fitV N v ∧ fitV N v < N := by
  unfold fitV
  exact ⟨Int.emod_nonneg _ (by omega), Int.emod_lt_of_pos _ (by omega)⟩
theorem and_range (x : Int) {m : Nat} (hm : m < 9223372036854775808) : 0 ≤ bits .and .i64 x (m : Int) ∧ bits .and .i64 x (m : Int) ≤ m := by
  have h : bits .and .i64 x (m : Int) = IntKind.i64.wrap ((BitVec.ofInt 64 x &&& BitVec.ofInt 64 (m : Int)).toNat : Int) := rfl
  have h2 : (BitVec.ofInt 64 x &&& BitVec.ofInt 64 (m : Int)).toNat ≤ m := by
    rw [BitVec.toNat_and]
    refine Nat.le_trans Nat.and_le_right ?_
    rw [BitVec.ofInt_natCast, BitVec.toNat_ofNat]
    exact Nat.mod_le _ _
  rw [h, IntKind.wrap_i64]
  omega
def fitN (a : Int) : Nat := 1 + (bits .and .i64 a 7).toNat
theorem fitN_range (a : Int) : 1 ≤ fitN a ∧ fitN a ≤ 8 ∧ 1 + bits .and .i64 a 7 = (fitN a : Int) := by
  have h := and_range a (m := 7) (by omega)
  have h1 : 0 ≤ bits .and .i64 a 7 := h.1
  have h2 : bits .and .i64 a 7 ≤ 7 := h.2
  unfold fitN
  omega
def fitC (x : Int) : Int := 1 + bits .and .i64 x 15
theorem fitC_range (x : Int) : 1 ≤ fitC x ∧ fitC x ≤ 16 := by
  have h := and_range x (m := 15) (by omega)
  have h1 : 0 ≤ bits .and .i64 x 15 := h.1
  have h2 : bits .and .i64 x 15 ≤ 15 := h.2
  unfold fitC
  omega
theorem u64_wrap (v : Int) : IntKind.u64.wrap v = v % 18446744073709551616 := by simp [IntKind.wrap, IntKind.bits, IntKind.signed]
theorem fitV_eq {N : Nat} (h1 : 1 ≤ N) (h2 : N ≤ 8) (v : Int) : wrap64 ((IntKind.u64.wrap v).tmod N) = fitV N v := by
  have e : (IntKind.u64.wrap v).tmod N = fitV N v := by
    rw [u64_wrap, Int.tmod_eq_emod_of_nonneg (Int.emod_nonneg _ (by omega))]
    rfl
  have := fitV_range h1 v
  rw [e, wrap_in _ (by omega) (by omega)]
set_option maxRecDepth 100000 in
theorem at39 (N g : Nat) (v : Int) (w : World) (h1 : 1 ≤ N) (h2 : N ≤ 8) (hc : w.cell? ⟨g, 0, none⟩ = some (.int .i64 N)) :
    Calls Try.prog 39 #[.int .i64 v, .pointer (some ⟨g, 0, none⟩)] w fun e w' => e = .returned (.int .i64 (fitV N v)) ∧ w = w' := by
  have hu42 := Try.underlying42
  have he := Lib.hid (fitV_eq h1 h2 v)
  go_enter Try.func39, Try.ntmps39
  go_wp2
  go_ret
  exact ⟨by rw [← he.out]; rfl, rfl⟩
theorem some23_any (A : Option Addr) (ls L : List S46) (c m : Nat) (hL : Hid (L = ls.take m)) (hn : ls.length ≤ c) (w : World) : Calls Try.prog 23 #[.slice A ls.length c, .int .i64 m] w fun e w' => e = .returned (.slice A L.length c) ∧ w = w' := by
  have hu := Try.underlying40
  have hL := hL.out
  subst hL
  rw [List.length_take]
  by_cases h : ls.length ≤ m
  · have e : min m ls.length = ls.length := Nat.min_eq_right h
    rw [e]
    go_enter Try.func23, Try.ntmps23
    go_wp2
    go_ret
    exact ⟨rfl, rfl⟩
  · have e : min m ls.length = m := Nat.min_eq_left (by omega)
    rw [e]
    go_enter Try.func23, Try.ntmps23
    go_wp2
    go_ret
    exact ⟨rfl, rfl⟩
theorem take_C {α : Type} {d : Kd α} {w : World} {A : Option Addr} {xs : List α} (m : Nat) (h : d.C w A xs.length xs) : d.C w A (xs.take m).length (xs.take m) := by
  by_cases hm : m ≤ xs.length
  · exact Kd.C_take h hm
  · rw [List.take_of_length_le (by omega)]; exact h
def fitE (N : Nat) (e : S46) : S46 := ⟨fitV N e.f0, fitV N e.f1, fitC e.f2⟩
theorem fit_ok {N : Nat} {L : List S46} (h1 : 1 ≤ N) (h2 : N ≤ 8) (hl : L.length ≤ 256) : GOk N (L.map (fitE N)) := by
  refine ⟨h1, by omega, by rw [List.length_map]; exact hl, fun e he => ?_⟩
  obtain ⟨x, _, rfl⟩ := List.mem_map.1 he
  have a := fitV_range h1 x.f0
  have b := fitV_range h1 x.f1
  have c := fitC_range x.f2
  exact ⟨a.1, a.2, b.1, b.2, c.1, by show fitC x.f2 ≤ 65535; omega⟩
/-- What fitted holds between its rounds. -/
def FS (w wr : World) (N br bo : Nat) (L : List S46) : Prop := Below w.heap.size w wr ∧ wr.heap[br]? = some (.cells #[.int .i64 0, .slice none 0 0] 42 (0, 0)) ∧ ∃ A c, wr.heap[bo]? = some (.cells #[.int .i64 N, .slice A L.length c] 42 (0, 0)) ∧ L.length ≤ c ∧ Kd.R k46 46 wr w.heap.size (fun k => w.heap.size ≤ k) (.slice A L.length c) L
theorem FS.below {w wr w' : World} {N br bo : Nat} {L : List S46} (h : FS w wr N br bo L) (hb : Below wr.heap.size wr w') : FS w w' N br bo L := by
  obtain ⟨h1, h2, A, c, h3, h4, h5⟩ := h
  exact ⟨h1.trans (hb.mono h1.size), blk_keep hb h2, A, c, blk_keep hb h3, h4, Kd.R_below h5 hb⟩
theorem FS.add {w wr w1 : World} {N br bo : Nat} {L L1 : List S46} {A A1 : Option Addr} {c c1 : Nat} (hb : Below w.heap.size w w1) (h2 : wr.heap[br]? = some (.cells #[.int .i64 0, .slice none 0 0] 42 (0, 0))) (h3 : wr.heap[bo]? = some (.cells #[.int .i64 N, .slice A L.length c] 42 (0, 0)))
    (hR : Kd.R k46 46 wr w.heap.size (fun k => w.heap.size ≤ k) (.slice A L.length c) L) (ho : Kd.R k46 46 w1 w.heap.size (fun k => w.heap.size ≤ k) (.slice A1 L1.length c1) L1) (hle : L1.length ≤ c1) (hg : wr.grownBy w1 (Value.slice A L.length c).ownBlock) (hne : br ≠ bo) (hbo : w.heap.size ≤ bo) :
    FS w (w1.setCell ⟨bo, 1, none⟩ (.slice A1 L1.length c1)) N br bo L1 := by
  have far : ∀ {g : Nat} {cs1 : Array Value}, wr.heap[g]? = some (.cells cs1 42 (0, 0)) → w1.heap[g]? = some (.cells cs1 42 (0, 0)) := fun {g cs1} h1 => (hg.block g (blk_lt h1) (Kd.R_ne hR h1 (by decide))).trans h1
  exact ⟨Below.setCell hb hbo _, (Below.heap_setCell w1 ⟨bo, 1, none⟩ _ _ hne).trans (far h2), A1, c1, blk_set (far h3) 1 _, hle, Kd.R_set ho (far h3) (by decide) 1 _⟩
set_option maxHeartbeats 2000000 in
set_option maxRecDepth 100000 in
theorem fitted19 (a : Int) (m : Nat) (es : List S46) (A : Option Addr) (c : Nat) (w : World) (hm : m ≤ 100) (hle : es.length ≤ c) (HK : Hid (Kd.C k46 w A es.length es)) :
    Calls Try.prog 19 #[.agg #[.int .i64 a, .slice A es.length c], .int .i64 m] w fun e w' => ∃ A' c', e = .returned (.agg #[.int .i64 (fitN a), .slice A' ((es.take m).map (fitE (fitN a))).length c']) ∧ ((es.take m).map (fitE (fitN a))).length ≤ c' ∧ Kd.R k46 46 w' w.heap.size (fun k => w.heap.size ≤ k) (.slice A' ((es.take m).map (fitE (fitN a))).length c') ((es.take m).map (fitE (fitN a))) ∧ Below w.heap.size w w' := by
  have hu40 := Try.underlying40
  have hu42 := Try.underlying42
  have hu46 := Try.underlying46
  obtain ⟨hN1, hN8, hNe⟩ := fitN_range a
  obtain ⟨ls, Hls⟩ : ∃ l, Hid (l = es.take m) := ⟨_, Lib.hid rfl⟩
  have HKL : Hid (Kd.C k46 w A ls.length ls) := by rw [Hls.out]; exact Lib.hid (take_C m HK.out)
  have hll : ls.length ≤ 100 := by rw [Hls.out, List.length_take]; omega
  rw [← Hls.out]
  generalize fitN a = N at *
  have hab := and_range a (m := 7) (by omega)
  have ha0 : 0 ≤ bits .and .i64 a 7 := hab.1
  have ha7 : bits .and .i64 a 7 ≤ 7 := hab.2
  clear hab
  go_enter Try.func19, Try.ntmps19
  go_wp2_with fail
  have HB0 := Lib.hid ((((Below.refl w.heap.size w).alloc (Nat.le_refl _) (.cells #[.int .i64 a, .slice A es.length c] 42)).alloc (by simp) (.cells #[.int .i64 0, .slice none 0 0] 42)).alloc (by simp; omega) (.cells #[.int .i64 N, .slice none 0 0] 42))
  have HT1 := Lib.hid (show (((w.alloc (.cells #[.int .i64 a, .slice A es.length c] 42)).alloc (.cells #[.int .i64 0, .slice none 0 0] 42)).alloc (.cells #[.int .i64 N, .slice none 0 0] 42)).heap[w.heap.size + 1]? = some (.cells #[.int .i64 0, .slice none 0 0] 42 (0, 0)) from blk_keep (below_alloc (Below.refl _ _) _) (blk_alloc_at (w.alloc (.cells #[.int .i64 a, .slice A es.length c] 42)) _ (by simp)))
  have HT2 := Lib.hid (show (((w.alloc (.cells #[.int .i64 a, .slice A es.length c] 42)).alloc (.cells #[.int .i64 0, .slice none 0 0] 42)).alloc (.cells #[.int .i64 N, .slice none 0 0] 42)).heap[w.heap.size + 2]? = some (.cells #[.int .i64 N, .slice none 0 0] 42 (0, 0)) from blk_alloc_at _ _ (by simp))
  refine (some23_any A es ls c m Hls hle _).mono ?_
  rintro e w1 ⟨rfl, rfl⟩
  go_wp2_with fail
  have HF0 : Hid (FS w (((w.alloc (.cells #[.int .i64 a, .slice A es.length c] 42)).alloc (.cells #[.int .i64 0, .slice none 0 0] 42)).alloc (.cells #[.int .i64 N, .slice none 0 0] 42)) N (w.heap.size + 1) (w.heap.size + 2) []) := Lib.hid ⟨HB0.out, HT1.out, none, 0, HT2.out, Nat.le_refl _, Kd.R_nil _ _ _ _ _⟩
  generalize ((w.alloc (.cells #[.int .i64 a, .slice A es.length c] 42)).alloc (.cells #[.int .i64 0, .slice none 0 0] 42)).alloc (.cells #[.int .i64 N, .slice none 0 0] 42) = w2 at HF0 HB0 HT1 HT2 ⊢
  rw [show w.heap.size + 1 + 1 = w.heap.size + 2 from rfl]
  obtain ⟨br, Hbr⟩ : ∃ b, Hid (b = w.heap.size + 1) := ⟨_, Lib.hid rfl⟩
  obtain ⟨bo, Hbo⟩ : ∃ b, Hid (b = w.heap.size + 2) := ⟨_, Lib.hid rfl⟩
  rw [← Hbr.out, ← Hbo.out] at HF0
  rw [← Hbr.out, ← Hbo.out]
  have hne : br ≠ bo := by rw [Hbr.out, Hbo.out]; omega
  have HNE := Lib.hid hne
  have HBO := Lib.hid (show w.heap.size ≤ bo from by rw [Hbo.out]; omega)
  have HBR := Lib.hid (show w.heap.size ≤ br from by rw [Hbr.out]; omega)
  clear hne HB0 HT1 HT2 hNe ha0 ha7
  go_loopw [19] (fun u wr => ∃ k : Nat, k ≤ ls.length ∧ u = .int .i64 k ∧ Hid (FS w wr N br bo ((ls.take k).map (fitE N)))) (fun u _ => ls.length - (intOf u).toNat)
  case atStart => exact ⟨0, Nat.zero_le _, rfl, HF0⟩
  case round =>
    obtain ⟨k, hk, rfl, HF⟩ := hrel
    by_cases hlt : k < ls.length
    · obtain ⟨ad, rfl, hcell⟩ := C46_cell (Kd.C_below HKL.out HF.out.1) (by omega)
      obtain ⟨x, Hx⟩ : ∃ e : S46, Hid (e = ls.getD k z46) := ⟨_, Lib.hid rfl⟩
      obtain ⟨c0, c1, c2⟩ := hcell k hlt
      rw [← Hx.out] at c0 c1 c2
      have HSN : Hid ((ls.take (k + 1)).map (fitE N) = (ls.take k).map (fitE N) ++ [fitE N x]) := Lib.hid (by
        rw [List.take_add_one, List.map_append, Hx.out]
        simp [List.getD_eq_getElem?_getD, hlt])
      obtain ⟨L, HL⟩ : ∃ l, Hid (l = (ls.take k).map (fitE N)) := ⟨_, Lib.hid rfl⟩
      have hLl : L.length ≤ 100 := by rw [HL.out, List.length_map, List.length_take]; omega
      rw [← HL.out] at HF HSN
      clear hcell
      go_wp2_with fail
      have HX3 := Lib.hid (blk_alloc wr (.cells #[.int .i64 x.f0, .int .i64 x.f1, .int .i64 x.f2] 46))
      have HF3 := Lib.hid (HF.out.below (below_alloc (Below.refl _ _) (.cells #[.int .i64 x.f0, .int .i64 x.f1, .int .i64 x.f2] 46)))
      obtain ⟨xb, Hxb⟩ : ∃ b, Hid (b = wr.heap.size) := ⟨_, Lib.hid rfl⟩
      rw [← Hxb.out] at HX3
      rw [← Hxb.out]
      generalize wr.alloc (.cells #[.int .i64 x.f0, .int .i64 x.f1, .int .i64 x.f2] 46) = w3 at HX3 HF3 ⊢
      obtain ⟨hb3, hr3, A3, cc3, ho3, hle3, hR3⟩ := HF3.out
      have hbd := below_drew (B := w.heap.size) hb3
      have HBd := Lib.hid hbd
      have HRrd := Lib.hid (show w3.drew.heap[br]? = _ from hr3)
      have HOd := Lib.hid (show w3.drew.heap[bo]? = _ from ho3)
      have HXd := Lib.hid (show w3.drew.heap[xb]? = _ from HX3.out)
      have HRd := Lib.hid (Kd.R_drew hR3)
      have hsd : w.heap.size ≤ w3.drew.heap.size := hb3.size
      have hfd : ∀ k, w3.drew.heap.size ≤ k → w.heap.size ≤ k := fun k hk => Nat.le_trans hsd hk
      have HFD := Lib.hid hfd
      have o1 : w3.drew.cell? ⟨bo, 1, none⟩ = some (.slice A3 L.length cc3) := blk_cell ho3 1
      have o0 : w3.drew.cell? ⟨bo, 0, none⟩ = some (.int .i64 N) := blk_cell ho3 0
      have x0 : w3.drew.cell? ⟨xb, 0, none⟩ = some (.int .i64 x.f0) := blk_cell HX3.out 0
      have x1 : w3.drew.cell? ⟨xb, 1, none⟩ = some (.int .i64 x.f1) := blk_cell HX3.out 1
      have x2 : w3.drew.cell? ⟨xb, 2, none⟩ = some (.int .i64 x.f2) := blk_cell HX3.out 2
      have hsum : IntKind.i64.wrap (1 + bits .and .i64 x.f2 15) = fitC x.f2 := by have := fitC_range x.f2; rw [i64_w]; exact wrap_in _ (by unfold fitC at this; omega) (by unfold fitC at this; omega)
      have HO0 := Lib.hid o0
      clear hb3 hr3 ho3 hle3 hR3 hbd hfd o0
      refine start_ (n := 19) (S := fun w' => w'.cell? ⟨bo, 1, none⟩ = some (.slice A3 L.length cc3) ∧ w'.cell? ⟨xb, 0, none⟩ = some (.int .i64 x.f0) ∧ w'.cell? ⟨xb, 1, none⟩ = some (.int .i64 x.f1) ∧ w'.cell? ⟨xb, 2, none⟩ = some (.int .i64 x.f2)) (ds := [16, 18]) #[false, false, false, false, false, false, false, false, false, false, false, false, false, false, false, false, false, false, false] (by kernel_rfl) rfl rfl ⟨o1, x0, x1, x2⟩ (fun hHeld => ?_)
      generalize w3.drew = wd at HBd HRrd HOd HXd HRd hsd HFD o1 HO0 x0 x1 x2 hHeld ⊢
      refine pure_ (i := 0) (N := some 24) (v := ?_) (a' := ?_) #[true, false, false, false, false, false, false, false, false, false, false, false, false, false, false, false, false, false, false] rfl rfl (by kernel_rfl) (fun _ _ _ h => h) (Or.inl ⟨by rfl, ?_⟩) ?_ ?_
      rotate_left
      · intro w'
        go_simp
        with_reducible rfl
      rotate_left
      · simp only [Act.put, List.setIfInBounds_toArray, List.set_cons_zero, List.set_cons_succ, i64_w, i32_w]
        rfl
      refine pure_ (i := 2) (N := some 26) (v := ?_) (a' := ?_) #[true, false, true, false, false, false, false, false, false, false, false, false, false, false, false, false, false, false, false] rfl rfl (by kernel_rfl) (fun _ _ _ h => h) (Or.inl ⟨by rfl, ?_⟩) ?_ ?_
      rotate_left
      · intro w'
        go_simp
        with_reducible rfl
      rotate_left
      · simp only [Act.put, List.setIfInBounds_toArray, List.set_cons_zero, List.set_cons_succ, i64_w, i32_w]
        rfl
      refine pure_ (i := 3) (N := some 27) (v := ?_) (a' := ?_) #[true, false, true, true, false, false, false, false, false, false, false, false, false, false, false, false, false, false, false] rfl rfl (by kernel_rfl) (fun _ _ _ h => h) (Or.inl ⟨by rfl, ?_⟩) ?_ ?_
      rotate_left
      · intro w'
        go_simp
        with_reducible rfl
      rotate_left
      · simp only [Act.put, List.setIfInBounds_toArray, List.set_cons_zero, List.set_cons_succ, i64_w, i32_w]
        rfl
      refine pure_ (i := 6) (N := some 30) (v := ?_) (a' := ?_) #[true, false, true, true, false, false, true, false, false, false, false, false, false, false, false, false, false, false, false] rfl rfl (by kernel_rfl) (fun _ _ _ h => h) (Or.inl ⟨by rfl, ?_⟩) ?_ ?_
      rotate_left
      · intro w'
        go_simp
        with_reducible rfl
      rotate_left
      · simp only [Act.put, List.setIfInBounds_toArray, List.set_cons_zero, List.set_cons_succ, i64_w, i32_w]
        rfl
      refine pure_ (i := 7) (N := some 31) (v := ?_) (a' := ?_) #[true, false, true, true, false, false, true, true, false, false, false, false, false, false, false, false, false, false, false] rfl rfl (by kernel_rfl) (fun _ _ _ h => h) (Or.inl ⟨by rfl, ?_⟩) ?_ ?_
      rotate_left
      · intro w'
        go_simp
        with_reducible rfl
      rotate_left
      · simp only [Act.put, List.setIfInBounds_toArray, List.set_cons_zero, List.set_cons_succ, i64_w, i32_w]
        rfl
      refine pure_ (i := 10) (N := some 34) (v := ?_) (a' := ?_) #[true, false, true, true, false, false, true, true, false, false, true, false, false, false, false, false, false, false, false] rfl rfl (by kernel_rfl) (fun _ _ _ h => h) (Or.inl ⟨by rfl, ?_⟩) ?_ ?_
      rotate_left
      · intro w'
        go_simp
        with_reducible rfl
      rotate_left
      · simp only [Act.put, List.setIfInBounds_toArray, List.set_cons_zero, List.set_cons_succ, i64_w, i32_w]
        rfl
      refine take_ (i := 1) (N := some 25) (v := ?_) (a' := ?_) #[true, true, true, true, false, false, true, true, false, false, true, false, false, false, false, false, false, false, false] rfl rfl (by kernel_rfl) (fun _ _ _ h => h) (Or.inl ⟨by rfl, ?_⟩) hHeld ?_ ?_
      rotate_left
      · rintro w' ⟨s0, s1, s2, s3⟩
        go_simp
        with_reducible rfl
      rotate_left
      · simp only [Act.put, List.setIfInBounds_toArray, List.set_cons_zero, List.set_cons_succ, i64_w, i32_w]
        rfl
      refine take_ (i := 4) (N := some 28) (v := ?_) (a' := ?_) #[true, true, true, true, true, false, true, true, false, false, true, false, false, false, false, false, false, false, false] rfl rfl (by kernel_rfl) (fun _ _ _ h => h) (Or.inl ⟨by rfl, ?_⟩) hHeld ?_ ?_
      rotate_left
      · rintro w' ⟨s0, s1, s2, s3⟩
        go_simp
        with_reducible rfl
      rotate_left
      · simp only [Act.put, List.setIfInBounds_toArray, List.set_cons_zero, List.set_cons_succ, i64_w, i32_w]
        rfl
      refine take_ (i := 8) (N := some 32) (v := ?_) (a' := ?_) #[true, true, true, true, true, false, true, true, true, false, true, false, false, false, false, false, false, false, false] rfl rfl (by kernel_rfl) (fun _ _ _ h => h) (Or.inl ⟨by rfl, ?_⟩) hHeld ?_ ?_
      rotate_left
      · rintro w' ⟨s0, s1, s2, s3⟩
        go_simp
        with_reducible rfl
      rotate_left
      · simp only [Act.put, List.setIfInBounds_toArray, List.set_cons_zero, List.set_cons_succ, i64_w, i32_w]
        rfl
      refine take_ (i := 11) (N := some 35) (v := ?_) (a' := ?_) #[true, true, true, true, true, false, true, true, true, false, true, true, false, false, false, false, false, false, false] rfl rfl (by kernel_rfl) (fun _ _ _ h => h) (Or.inl ⟨by rfl, ?_⟩) hHeld ?_ ?_
      rotate_left
      · rintro w' ⟨s0, s1, s2, s3⟩
        go_simp
        with_reducible rfl
      rotate_left
      · simp only [Act.put, List.setIfInBounds_toArray, List.set_cons_zero, List.set_cons_succ, i64_w, i32_w]
        rfl
      refine pure_ (i := 12) (N := some 36) (v := ?_) (a' := ?_) #[true, true, true, true, true, false, true, true, true, false, true, true, true, false, false, false, false, false, false] rfl rfl (by kernel_rfl) (fun _ _ _ h => h) (Or.inl ⟨by rfl, ?_⟩) ?_ ?_
      rotate_left
      · intro w'
        go_simp
        with_reducible rfl
      rotate_left
      · simp only [Act.put, List.setIfInBounds_toArray, List.set_cons_zero, List.set_cons_succ, i64_w, i32_w]
        rfl
      refine pure_ (i := 13) (N := some 37) (v := ?_) (a' := ?_) #[true, true, true, true, true, false, true, true, true, false, true, true, true, true, false, false, false, false, false] rfl rfl (by kernel_rfl) (fun _ _ _ h => h) (Or.inl ⟨by rfl, ?_⟩) ?_ ?_
      rotate_left
      · intro w'
        go_simp
        with_reducible rfl
      rotate_left
      · simp only [Act.put, List.setIfInBounds_toArray, List.set_cons_zero, List.set_cons_succ, i64_w, i32_w]
        rfl
      refine one_ (i := 5) (N := some 29) #[true, true, true, true, true, true, true, true, true, false, true, true, true, true, false, false, false, false, false] rfl rfl (by kernel_rfl) (by decide) (fun K hK => ?_)
      refine call_ 39 #[.int .i64 x.f0, .pointer (some ⟨bo, 0, none⟩)] (by rfl) rfl ?_ ?_
      · have he := enters_ (P := Try.prog) Try.func39 (by kernel_rfl) rfl #[.int .i64 x.f0, .pointer (some ⟨bo, 0, none⟩)]
        unfold execOp
        simp [resolve, Deferred.ofValue, invoke, Act.eval, he]
      with_reducible refine (at39 N bo x.f0 _ hN1 hN8 HO0.out).mono ?_
      rintro e w4 ⟨rfl, rfl⟩
      refine ⟨_, rfl, ?_⟩
      refine hK.out _ _ ⟨o1, x0, x1, x2⟩ (fun hHeld => ?_)
      clear hK K
      refine norm_ (a' := ?_) ?_ ?_
      rotate_left
      · show Act.put _ (some 29) _ = _
        simp only [Act.put, List.setIfInBounds_toArray, List.set_cons_zero, List.set_cons_succ, i64_w, i32_w]
        rfl
      refine one_ (i := 9) (N := some 33) #[true, true, true, true, true, true, true, true, true, true, true, true, true, true, false, false, false, false, false] rfl rfl (by kernel_rfl) (by decide) (fun K hK => ?_)
      refine call_ 39 #[.int .i64 x.f1, .pointer (some ⟨bo, 0, none⟩)] (by rfl) rfl ?_ ?_
      · have he := enters_ (P := Try.prog) Try.func39 (by kernel_rfl) rfl #[.int .i64 x.f1, .pointer (some ⟨bo, 0, none⟩)]
        unfold execOp
        simp [resolve, Deferred.ofValue, invoke, Act.eval, he]
      with_reducible refine (at39 N bo x.f1 _ hN1 hN8 HO0.out).mono ?_
      rintro e w5 ⟨rfl, rfl⟩
      refine ⟨_, rfl, ?_⟩
      refine hK.out _ _ ⟨o1, x0, x1, x2⟩ (fun hHeld => ?_)
      clear hK K
      refine norm_ (a' := ?_) ?_ ?_
      rotate_left
      · show Act.put _ (some 33) _ = _
        simp only [Act.put, List.setIfInBounds_toArray, List.set_cons_zero, List.set_cons_succ, i64_w, i32_w]
        rfl
      refine pure_ (i := 14) (N := some 38) (v := ?_) (a' := ?_) #[true, true, true, true, true, true, true, true, true, true, true, true, true, true, true, false, false, false, false] rfl rfl (by kernel_rfl) (fun _ _ _ h => h) (Or.inl ⟨by rfl, ?_⟩) ?_ ?_
      rotate_left
      · intro w'
        go_simp
        with_reducible rfl
      rotate_left
      · simp only [Act.put, List.setIfInBounds_toArray, List.set_cons_zero, List.set_cons_succ, i64_w, i32_w]
        rfl
      refine one_ (i := 15) (N := some 39) #[true, true, true, true, true, true, true, true, true, true, true, true, true, true, true, true, false, false, false] rfl rfl (by kernel_rfl) (by decide) (fun K hK => ?_)
      refine value_ (w1 := ?_) (v := ?_) (by rfl) rfl ?_ ?_
      rotate_left 2
      · go_simp
        constructor
        · rfl
        · rfl
      have HOe := Lib.hid (show (wd.alloc (.cells #[.int .i64 (fitV N x.f0), .int .i64 (fitV N x.f1), .int .i64 (fitC x.f2)] 46)).heap[bo]? = _ from blk_keep (below_alloc (Below.refl _ _) _) HOd.out)
      have HXe := Lib.hid (show (wd.alloc (.cells #[.int .i64 (fitV N x.f0), .int .i64 (fitV N x.f1), .int .i64 (fitC x.f2)] 46)).heap[xb]? = _ from blk_keep (below_alloc (Below.refl _ _) _) HXd.out)
      have t1 := blk_cell HOe.out 1
      have t2 := blk_cell HXe.out 0
      have t3 := blk_cell HXe.out 1
      have t4 := blk_cell HXe.out 2
      refine hK.out _ _ ⟨t1, t2, t3, t4⟩ (fun hHeld => ?_)
      clear hK K
      refine norm_ (a' := ?_) ?_ ?_
      rotate_left
      · show Act.put _ (some 39) _ = _
        simp only [Act.put, List.setIfInBounds_toArray, List.set_cons_zero, List.set_cons_succ, i64_w, i32_w]
        rfl
      refine last_ (i := 16) (N := some 40) #[true, true, true, true, true, true, true, true, true, true, true, true, true, true, true, true, true, false, false] rfl rfl (by kernel_rfl) (by decide) (fun K hK => ?_)
      refine Kd.R_append_step k46 (w0 := w) w.heap.size (by rfl) (.tmp 25) (.tmp 39) 40 46 (.agg #[.int .i64 0, .int .i64 0, .int .i64 0]) 24 rfl Try.underlying40 info46 rfl (by decide) (by omega) (.slice A3 L.length cc3) (L) ((fitE N x)) [.int .i64 (fitV N x.f0), .int .i64 (fitV N x.f1), .int .i64 (fitC x.f2)] (fun k => w.heap.size ≤ k) (fun _ => False) rfl rfl ?aP (fun _ hk => hk.elim) ?aF ?aO ?aB ?aS ?aL ?_
      (case aP => exact k46_mkM _ _ _ (fitE N x))
      (case aF => exact HFD.out)
      (case aO => exact HRd.out)
      (case aB => exact HBd.out)
      (case aS => exact hsd)
      (case aL => omega)
      intro v6 w6 ho hb hg hat
      obtain ⟨L2, HL2⟩ : ∃ L2, Hid (L2 = L ++ [fitE N x]) := ⟨_, Lib.hid rfl⟩
      rw [← HL2.out] at ho
      obtain ⟨A6, c6, rfl, hle6, _⟩ := Kd.R_reads ho
      have HFS := Lib.hid (FS.add hb HRrd.out HOd.out HRd.out ho hle6 hg HNE.out HBO.out)
      have hbo6 := (hg.block bo (blk_lt HOd.out) (Kd.R_ne HRd.out HOd.out (by decide))).trans HOd.out
      have hbl6 := blk_lt hbo6
      have s1 := blk_cell hbo6 1
      have sf := blk_free hbo6 1
      clear ho hb hg hat hbo6
      refine hK.out _ _ ?_
      clear hK K
      refine norm_ (a' := ?_) ?_ ?_
      rotate_left
      · show Act.put _ (some 40) _ = _
        simp only [Act.put, List.setIfInBounds_toArray, List.set_cons_zero, List.set_cons_succ, i64_w, i32_w]
        rfl
      refine pure_ (i := 17) (N := some 41) (v := ?_) (a' := ?_) #[true, true, true, true, true, true, true, true, true, true, true, true, true, true, true, true, true, true, false] rfl rfl (by kernel_rfl) (fun _ _ _ h => h) (Or.inl ⟨by rfl, ?_⟩) ?_ ?_
      rotate_left
      · intro w'
        go_simp
        with_reducible rfl
      rotate_left
      · simp only [Act.put, List.setIfInBounds_toArray, List.set_cons_zero, List.set_cons_succ, i64_w, i32_w]
        rfl
      refine last_ (i := 18) (N := none) #[true, true, true, true, true, true, true, true, true, true, true, true, true, true, true, true, true, true, true] rfl rfl (by kernel_rfl) (by decide) (fun K hK => ?_)
      refine skip_ (w1 := ?_) (by rfl) rfl ?_ ?_
      rotate_left
      · go_simp
        rfl
      refine hK.out _ _ ?_
      clear hK K
      refine done_ (by kernel_rfl) ?_

      go_wp2_with fail
      go_round
      case rel => exact ⟨k + 1, by omega, by go_num, by rw [HSN.out, ← HL2.out]; exact HFS⟩
      case measure => simp [intOf]; omega
    · obtain ⟨L, HL⟩ : ∃ l, Hid (l = ls.map (fitE N)) := ⟨_, Lib.hid rfl⟩
      have HF2 : Hid (FS w wr N br bo L) := by
        have h := HF.out
        rw [List.take_of_length_le (by omega), ← HL.out] at h
        exact Lib.hid h
      obtain ⟨hb3, hr3, A3, cc3, ho3, hle3, hR3⟩ := HF2.out
      have o0 := blk_cell ho3 0
      have o1 := blk_cell ho3 1
      have r0 := blk_cell hr3 0
      have r1 := blk_cell hr3 1
      have rf := blk_free hr3
      have hrl := blk_lt hr3
      have hol := blk_lt ho3
      have HB3 := Lib.hid hb3
      have HR3 := Lib.hid hR3
      have HRR := Lib.hid hr3
      have HLE := Lib.hid hle3
      clear hb3 hr3 ho3 hle3 hR3
      go_wp2_with fail
      have hx := blk_set (blk_set HRR.out 0 (.int .i64 N)) 1 (.slice A3 L.length cc3)
      have y0 := blk_cell hx 0
      have y1 := blk_cell hx 1
      have hrw := HBR.out
      refine bodyPost_ret (v := .agg #[.int .i64 N, .slice A3 L.length cc3]) (by simp [results, Try.results19, go_sem, y0, y1]) rfl ?_
      rw [← HL.out]
      exact ⟨A3, cc3, rfl, HLE.out, Kd.R_set (Kd.R_set HR3.out HRR.out (by decide) 0 _) (blk_set HRR.out 0 (.int .i64 N)) (by decide) 1 _, Below.setCell (Below.setCell HB3.out hrw _) hrw _⟩

end Go.Proofs.Ytaaohfhcimndmaa.M
