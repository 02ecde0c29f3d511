/- Own lemmas: rows of costs, Clone, merge. -/
import Derived.Test.YtaaohfhcimndmaaMtree
import Derived.LoopTactic
import Derived.BigQuiet
import Derived.RegionTactic
import Derived.BigRegion
namespace Go.Proofs.Ytaaohfhcimndmaa.M
open Go.RowKit Go.Proofs.YtaaohfhcimndmaaW.PrintWords Go.Proofs.YtaaohfhcimndmaaW.PrintLast Go.Proofs.YtaaohfhcimndmaaW.PrintMore 
set_option linter.unusedVariables false
set_option linter.unusedSimpArgs false

open Go.Proofs.Ytaaohfhcimndmaa.PAreaAnnounced
/-- A row of ints at the begin of a block, whatever lies behind it. -/
def RowAt (w : World) (G : Nat) (xs : List Int) : Prop := ∃ cs : Array Value, w.heap[G]? = some (.cells cs 3 (0, 0)) ∧ ∀ i, i < xs.length → cs[i]? = some (.int .i64 (rd xs i))
theorem RowAt.keep {w w1 : World} {G : Nat} {xs : List Int} (h : RowAt w G xs) (hb : Below w.heap.size w w1) : RowAt w1 G xs := by
  obtain ⟨cs, h1, h2⟩ := h
  exact ⟨cs, blk_keep hb h1, h2⟩
theorem RowAt.lt {w : World} {G : Nat} {xs : List Int} (h : RowAt w G xs) : G < w.heap.size := by
  obtain ⟨cs, h1, _⟩ := h
  exact blk_lt h1
theorem RowAt.free {w : World} {G : Nat} {xs : List Int} (h : RowAt w G xs) (i : Nat) : w.frozen? ⟨G, i, none⟩ = false := by
  obtain ⟨cs, h1, _⟩ := h
  exact blk_free h1 i
theorem RowAt.cell {w : World} {G : Nat} {xs : List Int} (h : RowAt w G xs) {i : Nat} (hi : i < xs.length) : w.cell? ⟨G, i, none⟩ = some (.int .i64 (rd xs i)) := by
  obtain ⟨cs, h1, h2⟩ := h
  rw [blk_cell h1, h2 i hi]
theorem rd_setn (xs : List Int) {i j : Nat} {v : Int} (hi : i < xs.length) : rd (xs.set i v) j = if j = i then v else rd xs j := by
  have := rd_set (cost := xs) (i := (i : Int)) (c := v) (v := (j : Int)) (by omega) (by omega) (by omega)
  simp only [Int.toNat_natCast] at this
  rw [this]
  by_cases h : j = i
  · rw [if_pos h, if_pos (by omega)]
  · rw [if_neg h, if_neg (by omega)]
theorem RowAt.set {w : World} {G : Nat} {xs : List Int} (h : RowAt w G xs) {i : Nat} (hi : i < xs.length) (v : Int) : RowAt (w.setCell ⟨G, i, none⟩ (.int .i64 v)) G (xs.set i v) := by
  obtain ⟨cs, h1, h2⟩ := h
  refine ⟨_, blk_set h1 i _, fun j hj => ?_⟩
  rw [List.length_set] at hj
  have hci : i < cs.size := by
    have := h2 i hi
    exact (Array.getElem?_eq_some_iff.1 this).1
  rw [rd_setn xs hi, Array.getElem?_setIfInBounds]
  by_cases e : j = i
  · rw [if_pos e.symm, if_pos e, if_pos hci]
  · rw [if_neg (fun h => e h.symm), if_neg e, h2 j hj]
theorem RowAt.other {w : World} {G : Nat} {xs : List Int} (h : RowAt w G xs) {p : Addr} (hne : G ≠ p.block) (v : Value) : RowAt (w.setCell p v) G xs := by
  obtain ⟨cs, h1, h2⟩ := h
  exact ⟨cs, (Below.heap_setCell w p v _ hne).trans h1, h2⟩
theorem RowAt.whole {w : World} {G : Nat} {xs : List Int} (h : w.heap[G]? = some (.cells (nums .i64 xs).toArray 3 (0, 0))) : RowAt w G xs := by
  refine ⟨_, h, fun i hi => ?_⟩
  have := row_cell h hi
  rwa [blk_cell h] at this
theorem RowAt.C {w : World} {G : Nat} {xs : List Int} (h : RowAt w G xs) (hl : xs.length ≤ 1000000) : Kd.C (Kd.int .i64) w (some ⟨G, 0, none⟩) xs.length xs := by
  refine ⟨rfl, by omega, fun _ => ⟨_, rfl, fun j p hj => ⟨[.int .i64 p], rfl, rfl, fun i u hu => ?_⟩⟩⟩
  rcases i with _ | i
  · simp at hu
    subst hu
    have hlt : j < xs.length := (List.getElem?_eq_some_iff.1 hj).1
    have e1 : (Kd.int .i64).sz = 1 := rfl
    rw [add_plain, e1, Nat.mul_one, Nat.add_zero, h.cell hlt]
    simp [rd, List.getD_eq_getElem?_getD, hj]
  · simp at hu
theorem RowAt.of_R {w : World} {base : Nat} {ok : Nat → Prop} {v : Value} {xs : List Int} (h : Kd.R (Kd.int .i64) 3 w base ok v xs) (hp : 0 < xs.length) : ∃ g c, v = .slice (some ⟨g, 0, none⟩) xs.length c ∧ xs.length ≤ c ∧ base ≤ g ∧ RowAt w g xs := by
  obtain ⟨g, c, rfl, hb, _, cs, hcs⟩ := Kd.R_form h hp
  obtain ⟨_, hle, hC⟩ := Kd.R_reads' h
  refine ⟨g, c, rfl, hle, hb, cs, hcs, fun i hi => ?_⟩
  obtain ⟨ad, e, hc⟩ := hC.2.2 hp
  obtain rfl : ⟨g, 0, none⟩ = ad := by injection e
  obtain ⟨c', hl, hK, hcell⟩ := hc i xs[i] (List.getElem?_eq_getElem hi)
  have hK : c' = [.int .i64 xs[i]] := hK
  subst hK
  have := hcell 0 _ rfl
  have e1 : (Kd.int .i64).sz = 1 := rfl
  rw [e1, Nat.mul_one, Nat.add_zero, add_plain, blk_cell hcs] at this
  rw [this]
  simp [rd, List.getD_eq_getElem?_getD, hi]
set_option maxHeartbeats 1000000 in
set_option maxRecDepth 100000 in
theorem Clone47 (G c : Nat) (xs : List Int) (w : World) (h1 : 1 ≤ xs.length) (hn : xs.length ≤ 1000) (HR : Hid (RowAt w G xs)) :
    Calls Try.prog 47 #[.slice (some ⟨G, 0, none⟩) xs.length c] w fun e w' => ∃ g c', e = .returned (.slice (some ⟨g, 0, none⟩) xs.length c') ∧ xs.length ≤ c' ∧ w.heap.size ≤ g ∧ RowAt w' g xs ∧ Below w.heap.size w w' := by
  have hu := Try.underlying25
  have he : ∀ (n c : Nat) (W : World), Sem.run Try.prog (binOp BinOp.eql 25 (.slice (some ⟨G, 0, none⟩) n c) (.slice none 0 0)) W = .ok (.bool false) W := fun n c W => by kernel_rfl
  go_enter Try.func47, Try.ntmps47
  have HB0 := Lib.hid (below_alloc (Below.refl w.heap.size w) (.cells #[] 3))
  have HRe : Hid (Kd.R (Kd.int .i64) 3 (w.alloc (.cells #[] 3)) w.heap.size (fun k => w.heap.size ≤ k) (.slice (some ⟨w.heap.size, 0, none⟩) 0 0) []) := Lib.hid ⟨fun k hk => by simp [Value.ownBlock] at hk; omega, OwnRow.lit w w.heap.size (inner := []) (Reps.none _ _) (Nat.le_refl _) (by simp)⟩
  have HRd := Lib.hid (show ReadsRow ((Kd.int .i64).K w) (Kd.int .i64).sz (w.alloc (.cells #[] 3)) (some ⟨G, 0, none⟩) xs.length xs from ReadsRow.imp_ (HR.out.C (by omega)) HB0.out (fun _ _ h => h))
  go_wp2_with ((with_reducible refine gate_builtin (b := .append) (xs := #[.tmp 5, .tmp 6]) rfl ?_); at_builtin; refine Kd.R_append_rows (Kd.int .i64) (Rr := (Kd.int .i64).K w) (w0 := w) w.heap.size rfl (.tmp 5) (.tmp 6) 25 3 (.int .i64 0) 8 rfl Try.underlying25 i3 rfl (show 0 < 1 from by decide) (by omega) _ [] xs (some ⟨G, 0, none⟩) xs.length c (fun k => w.heap.size ≤ k) (fun _ => False) rfl rfl ?aO ?aC (fun x cs h => h) (fun _ hk => hk.elim) ?aF ?aB ?aS ?aL ?_; (case aO => exact HRe.out); (case aC => exact HRd.out); (case aF => exact fun k hk => Nat.le_trans HB0.out.size hk); (case aB => exact HB0.out); (case aS => exact HB0.out.size); (case aL => simp; omega); intro v1 w1 ho hb hg hat; have HR1 := Lib.hid ho; have HB1 := Lib.hid hb; clear ho hb hg hat)
  go_ret
  have ho := HR1.out
  rw [List.nil_append] at ho
  obtain ⟨g, c', e, hle, hbg, hrow⟩ := RowAt.of_R ho (by omega)
  exact ⟨g, c', by rw [e]; rfl, hle, hbg, hrow, HB1.out⟩
def lsr (a b : Int) : Int := if a < 0 then b else if b ≥ 0 then (if b < a then b else a) else a
theorem lsr_f (a b : Int) : area_lesser.f a b = some (lsr a b) := by
  unfold area_lesser.f lsr
  split
  · rfl
  · split
    · split <;> rfl
    · rfl
def mrg (xs ys : List Int) : List Int := xs.zipWith lsr ys
theorem mrg_length {xs ys : List Int} (h : xs.length = ys.length) : (mrg xs ys).length = xs.length := by
  unfold mrg
  rw [List.length_zipWith]
  omega
theorem mrg_rd {xs ys : List Int} {i : Nat} (h1 : i < xs.length) (h2 : i < ys.length) : rd (mrg xs ys) i = lsr (rd xs i) (rd ys i) := by
  unfold mrg rd
  simp [List.getD_eq_getElem?_getD, List.getElem?_zipWith, h1, h2]
/-- The rows of a merge that stands at k. -/
def mrgTo (k : Nat) (xs ys : List Int) : List Int := (mrg xs ys).take k ++ xs.drop k
set_option maxHeartbeats 2000000 in
set_option maxRecDepth 100000 in
theorem merge48 (n G1 G2 c1 c2 : Nat) (xs ys : List Int) (w : World) (h1 : 1 ≤ n) (hn : n ≤ 16) (hx : xs.length = n) (hy : ys.length = n) (hc1 : n ≤ c1) (hc2 : n ≤ c2) (HX : Hid (RowAt w G1 xs)) (HY : Hid (RowAt w G2 ys)) :
    Calls Try.prog 48 #[.slice (some ⟨G1, 0, none⟩) n c1, .slice (some ⟨G2, 0, none⟩) n c2] w fun e w' => ∃ g c', e = .returned (.slice (some ⟨g, 0, none⟩) n c') ∧ n ≤ c' ∧ w.heap.size ≤ g ∧ RowAt w' g (mrg xs ys) ∧ Below w.heap.size w w' := by
  have hu := Try.underlying25
  have HXl := Lib.hid hx
  have HYl := Lib.hid hy
  go_enter Try.func48, Try.ntmps48
  go_wp2_with fail
  rw [← HXl.out]
  refine (Clone47 G1 c1 xs w (by omega) (by omega) HX).mono ?_
  rw [HXl.out]
  rintro e w1 ⟨g, cg, rfl, hgc, hgl, hrow, hb⟩
  have HGW := Lib.hid hgl
  have HGN := Lib.hid (show G2 ≠ g from Nat.ne_of_lt (Nat.lt_of_lt_of_le HY.out.lt hgl))
  have HR1 := Lib.hid hrow
  have HY1 := Lib.hid (HY.out.keep hb)
  have HB1 := Lib.hid hb
  clear hgl hrow hb
  go_wp2_with fail
  go_loopw [11] (fun i wr => ∃ (k : Nat) (zs : List Int), k ≤ n ∧ i = .int .i64 k ∧ zs.length = n ∧ Hid (∀ j, j < n → rd zs j = if j < k then lsr (rd xs j) (rd ys j) else rd xs j) ∧ Hid (RowAt wr g zs) ∧ Hid (RowAt wr G2 ys) ∧ Hid (Below w.heap.size w wr)) (fun i _ => n - (intOf i).toNat)
  case atStart => exact ⟨0, xs, Nat.zero_le _, rfl, hx, Lib.hid (fun j hj => by rw [if_neg (by omega)]), HR1, HY1, HB1⟩
  case round =>
    obtain ⟨k, zs, hk, rfl, hzl, HZ, HRr, HYr, HBr⟩ := hrel
    by_cases hlt : k < n
    · have hbd := below_drew (B := wr.heap.size) (Below.refl wr.heap.size wr)
      have HRd := Lib.hid (HRr.out.keep hbd)
      have HYd := Lib.hid (HYr.out.keep hbd)
      have HBd := Lib.hid (below_self HBr.out hbd)
      clear hbd
      obtain ⟨a, Ha⟩ : ∃ v, Hid (v = rd zs k) := ⟨_, Lib.hid rfl⟩
      obtain ⟨b, Hb⟩ : ∃ v, Hid (v = rd ys k) := ⟨_, Lib.hid rfl⟩
      have a0 : wr.drew.cell? ⟨g, k, none⟩ = some (.int .i64 a) := by rw [Ha.out]; exact HRd.out.cell (by omega)
      have b0 : wr.drew.cell? ⟨G2, k, none⟩ = some (.int .i64 b) := by rw [Hb.out]; exact HYd.out.cell (by omega)
      have hkn : (k : Int) < n := by omega
      have hkg : k < cg := by omega
      have HLF := Lib.hid (lsr_f a b)
      obtain ⟨v, Hv⟩ : ∃ v, Hid (v = lsr a b) := ⟨_, Lib.hid rfl⟩
      rw [← Hv.out] at HLF
      go_upto_region 5 with (fail)
      refine start_ (n := 13) (S := fun w' => w'.cell? ⟨g, k, none⟩ = some (.int .i64 a) ∧ w'.cell? ⟨G2, k, none⟩ = some (.int .i64 b)) (ds := [12]) #[false, false, false, false, false, false, false, false, false, false, false, false, false] (by kernel_rfl) rfl rfl ⟨a0, b0⟩ (fun hHeld => ?_)
      generalize wr.drew = wd at HRd HYd HBd a0 b0 hHeld ⊢
      refine pure_ (i := 0) (N := some 14) (v := ?_) (a' := ?_) #[true, false, false, false, false, false, false, false, false, false, false, false, false] rfl rfl (by kernel_rfl) (fun _ _ _ h => h) (Or.inl ⟨by rfl, ?_⟩) ?_ ?_
      rotate_left
      · intro w'
        go_simp
        with_reducible rfl
      rotate_left
      · simp only [Act.put, List.setIfInBounds_toArray, List.set_cons_zero, List.set_cons_succ, i64_w, i32_w]
        rfl
      refine pure_ (i := 1) (N := some 15) (v := ?_) (a' := ?_) #[true, true, false, false, false, false, false, false, false, false, false, false, false] rfl rfl (by kernel_rfl) (fun _ _ _ h => h) (Or.inl ⟨by rfl, ?_⟩) ?_ ?_
      rotate_left
      · intro w'
        go_simp
        with_reducible rfl
      rotate_left
      · simp only [Act.put, List.setIfInBounds_toArray, List.set_cons_zero, List.set_cons_succ, i64_w, i32_w]
        rfl
      refine pure_ (i := 2) (N := some 16) (v := ?_) (a' := ?_) #[true, true, true, false, false, false, false, false, false, false, false, false, false] rfl rfl (by kernel_rfl) (fun _ _ _ h => h) (Or.inl ⟨by rfl, ?_⟩) ?_ ?_
      rotate_left
      · intro w'
        go_simp
        with_reducible rfl
      rotate_left
      · simp only [Act.put, List.setIfInBounds_toArray, List.set_cons_zero, List.set_cons_succ, i64_w, i32_w]
        rfl
      refine pure_ (i := 3) (N := some 17) (v := ?_) (a' := ?_) #[true, true, true, true, false, false, false, false, false, false, false, false, false] rfl rfl (by kernel_rfl) (fun _ _ _ h => h) (Or.inl ⟨by rfl, ?_⟩) ?_ ?_
      rotate_left
      · intro w'
        go_simp
        with_reducible rfl
      rotate_left
      · simp only [Act.put, List.setIfInBounds_toArray, List.set_cons_zero, List.set_cons_succ, i64_w, i32_w]
        rfl
      refine pure_ (i := 4) (N := some 18) (v := ?_) (a' := ?_) #[true, true, true, true, true, false, false, false, false, false, false, false, false] rfl rfl (by kernel_rfl) (fun _ _ _ h => h) (Or.inl ⟨by rfl, ?_⟩) ?_ ?_
      rotate_left
      · intro w'
        go_simp
        with_reducible rfl
      rotate_left
      · simp only [Act.put, List.setIfInBounds_toArray, List.set_cons_zero, List.set_cons_succ, i64_w, i32_w]
        rfl
      refine pure_ (i := 6) (N := some 20) (v := ?_) (a' := ?_) #[true, true, true, true, true, false, true, false, false, false, false, false, false] rfl rfl (by kernel_rfl) (fun _ _ _ h => h) (Or.inl ⟨by rfl, ?_⟩) ?_ ?_
      rotate_left
      · intro w'
        go_simp
        with_reducible rfl
      rotate_left
      · simp only [Act.put, List.setIfInBounds_toArray, List.set_cons_zero, List.set_cons_succ, i64_w, i32_w]
        rfl
      refine pure_ (i := 7) (N := some 21) (v := ?_) (a' := ?_) #[true, true, true, true, true, false, true, true, false, false, false, false, false] rfl rfl (by kernel_rfl) (fun _ _ _ h => h) (Or.inl ⟨by rfl, ?_⟩) ?_ ?_
      rotate_left
      · intro w'
        go_simp
        with_reducible rfl
      rotate_left
      · simp only [Act.put, List.setIfInBounds_toArray, List.set_cons_zero, List.set_cons_succ, i64_w, i32_w]
        rfl
      refine pure_ (i := 8) (N := some 22) (v := ?_) (a' := ?_) #[true, true, true, true, true, false, true, true, true, false, false, false, false] rfl rfl (by kernel_rfl) (fun _ _ _ h => h) (Or.inl ⟨by rfl, ?_⟩) ?_ ?_
      rotate_left
      · intro w'
        go_simp
        with_reducible rfl
      rotate_left
      · simp only [Act.put, List.setIfInBounds_toArray, List.set_cons_zero, List.set_cons_succ, i64_w, i32_w]
        rfl
      refine take_ (i := 5) (N := some 19) (v := ?_) (a' := ?_) #[true, true, true, true, true, true, true, true, true, false, false, false, false] rfl rfl (by kernel_rfl) (fun _ _ _ h => h) (Or.inl ⟨by rfl, ?_⟩) hHeld ?_ ?_
      rotate_left
      · rintro w' ⟨s0, s1⟩
        go_simp
        with_reducible rfl
      rotate_left
      · simp only [Act.put, List.setIfInBounds_toArray, List.set_cons_zero, List.set_cons_succ, i64_w, i32_w]
        rfl
      refine take_ (i := 9) (N := some 23) (v := ?_) (a' := ?_) #[true, true, true, true, true, true, true, true, true, true, false, false, false] rfl rfl (by kernel_rfl) (fun _ _ _ h => h) (Or.inl ⟨by rfl, ?_⟩) hHeld ?_ ?_
      rotate_left
      · rintro w' ⟨s0, s1⟩
        go_simp
        with_reducible rfl
      rotate_left
      · simp only [Act.put, List.setIfInBounds_toArray, List.set_cons_zero, List.set_cons_succ, i64_w, i32_w]
        rfl
      refine one_ (i := 10) (N := some 24) #[true, true, true, true, true, true, true, true, true, true, true, false, false] rfl rfl (by kernel_rfl) (by decide) (fun K hK => ?_)
      refine goes_ Try.func60 (by kernel_rfl) rfl #[.int .i64 a, .int .i64 b] (by rfl) rfl rfl (by simp only [List.map_toArray, List.map_cons, List.map_nil]; rfl) ?_
      with_reducible refine (area_lesser.calls a b v _ HLF.out).mono ?_
      rintro e w6 ⟨rfl, hb⟩
      refine ⟨_, rfl, ?_⟩
      have hb := hb.below
      have HR6 := Lib.hid (HRd.out.keep hb)
      have HY6 := Lib.hid (HYd.out.keep hb)
      have HB6 := Lib.hid (below_self HBd.out hb)
      clear hb
      have q0 : w6.cell? ⟨g, k, none⟩ = some (.int .i64 a) := by rw [Ha.out]; exact HR6.out.cell (by omega)
      have q1 : w6.cell? ⟨G2, k, none⟩ = some (.int .i64 b) := by rw [Hb.out]; exact HY6.out.cell (by omega)
      have qf := HR6.out.free k
      refine hK.out _ _ ⟨q0, q1⟩ (fun hHeld => ?_)
      clear hK K
      refine norm_ (a' := ?_) ?_ ?_
      rotate_left
      · show Act.put _ (some 24) _ = _
        simp only [Act.put, List.setIfInBounds_toArray, List.set_cons_zero, List.set_cons_succ, i64_w, i32_w]
        rfl
      refine pure_ (i := 11) (N := some 25) (v := ?_) (a' := ?_) #[true, true, true, true, true, true, true, true, true, true, true, true, false] rfl rfl (by kernel_rfl) (fun _ _ _ h => h) (Or.inl ⟨by rfl, ?_⟩) ?_ ?_
      rotate_left
      · intro w'
        go_simp
        with_reducible rfl
      rotate_left
      · simp only [Act.put, List.setIfInBounds_toArray, List.set_cons_zero, List.set_cons_succ, i64_w, i32_w]
        rfl
      refine last_ (i := 12) (N := none) #[true, true, true, true, true, true, true, true, true, true, true, true, true] rfl rfl (by kernel_rfl) (by decide) (fun K hK => ?_)
      refine skip_ (w1 := ?_) (by rfl) rfl ?_ ?_
      rotate_left
      · go_simp
        rfl
      refine hK.out _ _ ?_
      clear hK K
      refine done_ (by kernel_rfl) ?_

      go_wp2_with fail
      have HZ7 := Lib.hid (HR6.out.set (i := k) (by omega) v)
      have HY7 := Lib.hid (HY6.out.other (p := ⟨g, k, none⟩) HGN.out (.int .i64 v))
      have HB7 := Lib.hid (Below.setCell HB6.out (p := ⟨g, k, none⟩) HGW.out (.int .i64 v))
      have HZZ := Lib.hid (fun j (hj : j < n) => show rd (zs.set k v) j = if j < k + 1 then lsr (rd xs j) (rd ys j) else rd xs j from by
        rw [rd_setn zs (by omega)]
        by_cases e : j = k
        · rw [if_pos e, if_pos (by omega), Hv.out, Ha.out, Hb.out, e, HZ.out k (by omega), if_neg (by omega)]
        · rw [if_neg e, HZ.out j hj]
          by_cases e2 : j < k
          · rw [if_pos e2, if_pos (by omega)]
          · rw [if_neg e2, if_neg (by omega)])
      go_round
      case rel => exact ⟨k + 1, zs.set k v, by omega, by go_num, by rw [List.length_set]; exact hzl, HZZ, HZ7, HY7, HB7⟩
      case measure => simp [intOf]; omega
    · have hke : k = n := by omega
      subst hke
      have hz : zs = mrg xs ys := by
        refine List.ext_getElem (by rw [mrg_length (by omega)]; omega) (fun i h1 h2 => ?_)
        have h3 := HZ.out i (by omega)
        rw [if_pos (by omega), ← mrg_rd (by omega) (by omega)] at h3
        simpa [rd, List.getD_eq_getElem?_getD, h1, h2] using h3
      have HE := Lib.hid hz
      clear hz
      go_wp2_with fail
      go_ret
      exact ⟨g, cg, rfl, hgc, HGW.out, by rw [← HE.out]; exact HRr.out, HBr.out⟩

end Go.Proofs.Ytaaohfhcimndmaa.M
