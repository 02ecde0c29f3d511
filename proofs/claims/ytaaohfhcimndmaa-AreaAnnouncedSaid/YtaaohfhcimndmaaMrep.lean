/- Own lemmas: Repeat. -/
import Derived.Test.YtaaohfhcimndmaaMhpure
import Derived.LoopTactic
import Derived.BigQuiet
import Derived.RegionTactic
import Derived.BigRegion
import Derived.Deep.RegionLaw
import Derived.Laws.CopyOwn
namespace Go.Proofs.Ytaaohfhcimndmaa.M
open Go.RowKit Go.Proofs.YtaaohfhcimndmaaW.PrintWords Go.Proofs.YtaaohfhcimndmaaW.PrintLast Go.Proofs.YtaaohfhcimndmaaW.PrintMore 
set_option linter.unusedVariables false
set_option linter.unusedSimpArgs false

open Go.Proofs.Ytaaohfhcimndmaa.PAreaAnnounced
theorem i3 : (Try.prog.info? 3).map (fun i => (i.zero, i.size, i.bytes)) = some (some (.int .i64 0), 1, 8) := by kernel_rfl
theorem i3s : (Try.prog.info? 3).map (·.size) = some 1 := by kernel_rfl
theorem mul_one {N : Nat} (h1 : 1 ≤ N) (h2 : N ≤ 16) : bits_Mul.f 1 N = some (0, (N : Int)) := by
  have : N = 1 ∨ N = 2 ∨ N = 3 ∨ N = 4 ∨ N = 5 ∨ N = 6 ∨ N = 7 ∨ N = 8 ∨ N = 9 ∨ N = 10 ∨ N = 11 ∨ N = 12 ∨ N = 13 ∨ N = 14 ∨ N = 15 ∨ N = 16 := by omega
  rcases this with rfl | rfl | rfl | rfl | rfl | rfl | rfl | rfl | rfl | rfl | rfl | rfl | rfl | rfl | rfl | rfl <;> rfl
theorem made_repl (N : Nat) : madeCells #[Value.int .i64 0] N = (List.replicate N (Value.int .i64 0)).toArray := by
  apply Array.toList_inj.1
  apply List.ext_getElem
  · simp [madeCells]
  · intro i h1 h2
    simp [madeCells, Nat.mod_one]
theorem splice_repl {N m q : Nat} {a b : Value} (h : m + q ≤ N) : splice (List.replicate m a ++ List.replicate (N - m) b) m (List.replicate q a) = List.replicate (m + q) a ++ List.replicate (N - (m + q)) b := by
  unfold splice
  rw [List.take_append, List.length_replicate, List.take_of_length_le (by simp), Nat.sub_self, List.take_zero, List.append_nil, List.length_replicate, List.drop_append, List.drop_of_length_le (by simp), List.nil_append, List.length_replicate, List.drop_replicate, ← List.append_assoc, List.replicate_append_replicate, show N - m - (m + q - m) = N - (m + q) by omega]
theorem copy_src {w : World} {G m q N : Nat} {v : Int} (h : w.heap[G]? = some (.cells (List.replicate m (Value.int .i64 v) ++ List.replicate (N - m) (Value.int .i64 0)).toArray 3 (0, 0))) (hqm : m + q ≤ N) (hq1 : 1 ≤ q) (hq : q ≤ m) {j : Nat} {u : Value} (hu : (List.replicate q (Value.int .i64 v))[j]? = some u) : w.cell? ((⟨G, 0, none⟩ : Addr).add j) = some u := by
  have hj : j < q := by have := (List.getElem?_eq_some_iff.1 hu).1; simpa using this
  rw [add_plain, blk_cell h]
  rw [List.getElem?_toArray, List.getElem?_append_left (by simp; omega)]
  rw [List.getElem?_replicate] at hu ⊢
  rw [if_pos hj] at hu
  rw [if_pos (by omega)]
  exact hu
theorem below_self {w w1 w2 : World} (h : Below w.heap.size w w1) (h2 : Below w1.heap.size w1 w2) : Below w.heap.size w w2 := h.trans (h2.mono h.size)
set_option maxHeartbeats 1000000 in
set_option maxRecDepth 100000 in
theorem Repeat42 (gx : Nat) (v : Int) (N : Nat) (w : World) (h1 : 1 ≤ N) (h2 : N ≤ 16) (hx : w.cell? ⟨gx, 0, none⟩ = some (.int .i64 v)) :
    Calls Try.prog 42 #[.slice (some ⟨gx, 0, none⟩) 1 1, .int .i64 N] w fun e w' => ∃ g, e = .returned (.slice (some ⟨g, 0, none⟩) N N) ∧ w.heap.size ≤ g ∧ w'.heap[g]? = some (.cells (List.replicate N (Value.int .i64 v)).toArray 3 (0, 0)) ∧ Below w.heap.size w w' := by
  have hu := Try.underlying25
  have hmul := Lib.hid (mul_one h1 h2)
  have hmk := print_make (P := Try.prog) 25 3 .i64 8 Try.underlying25 i3 (by omega) N (by omega)
  have hgx := World.block_lt_of_cell? w _ hx
  go_enter Try.func42, Try.ntmps42
  go_wp2_with fail
  refine (bits_Mul.calls 1 N 0 N _ hmul.out).mono ?_
  rintro e w1 ⟨rfl, hb⟩
  have hb1 := hb.below
  have hx1 : w1.cell? ⟨gx, 0, none⟩ = some (.int .i64 v) := (hb1.cell (p := ⟨gx, 0, none⟩) hgx).trans hx
  have HB1 := Lib.hid (below_self hb1 (below_alloc (Below.refl _ _) (.cells (madeCells #[.int .i64 0] N) 3)))
  have hgx1 : gx < w1.heap.size := Nat.lt_of_lt_of_le hgx hb1.size
  have HG := Lib.hid (show (w1.alloc (.cells (madeCells #[.int .i64 0] N) 3)).heap[w1.heap.size]? = some (.cells (List.replicate N (Value.int .i64 0)).toArray 3 (0, 0)) from by rw [blk_alloc, made_repl])
  have HWG := Lib.hid hb1.size
  clear hb hb1
  go_wp2_with ((with_reducible refine gate_builtin (b := .copy) (xs := #[.tmp 31, .tmp 32]) rfl ?_); refine wpList_copy_splice rfl (.tmp 31) (.tmp 32) 25 25 rfl 3 Try.underlying25 i3s (some ⟨w1.heap.size, 0, none⟩) (some ⟨gx, 0, none⟩) N N 1 1 rfl rfl w1.heap.size 0 (List.replicate N (.int .i64 0)) 3 HG.out [.int .i64 v] ?cn ?cp ?cf ?c1 w.heap.size w HB1.out HWG.out ?_; (case cn => show 1 = min 1 N; omega); (case cp => exact fun _ => ⟨rfl, _, rfl, fun j u hu => by cases j with | zero => simp at hu; subst hu; rw [add_plain]; exact (World.cell?_alloc_lt w1 _ ⟨gx, 0, none⟩ hgx1).trans hx1 | succ j => simp at hu⟩); (case cf => simp; omega); (case c1 => intro u hu; rw [List.mem_singleton.1 hu]; rfl); intro w2 HX2 hb2; have HB2 := Lib.hid hb2; clear hb2)
  obtain ⟨G, HGw⟩ : ∃ G, Hid (G = w1.heap.size) := ⟨_, Lib.hid rfl⟩
  have HX3 := Lib.hid (show w2.heap[G]? = some (.cells (List.replicate 1 (Value.int .i64 v) ++ List.replicate (N - 1) (Value.int .i64 0)).toArray 3 (0, 0)) from by
    rw [HGw.out, HX2.out, splice, List.take_zero, List.nil_append]
    simp [List.drop_replicate])
  have hGl : w.heap.size ≤ G := by rw [HGw.out]; exact HWG.out
  have HGL := Lib.hid hGl
  rw [← HGw.out]
  clear hx hx1 hgx hgx1 hmk hGl HX2 HG HWG HGw HB1
  go_loopw [8] (fun u wr => ∃ m : Nat, 1 ≤ m ∧ m ≤ N ∧ u = .int .i64 m ∧ Hid (wr.heap[G]? = some (.cells (List.replicate m (Value.int .i64 v) ++ List.replicate (N - m) (Value.int .i64 0)).toArray 3 (0, 0))) ∧ Hid (Below w.heap.size w wr)) (fun u _ => N - (intOf u).toNat)
  case atStart => exact ⟨1, Nat.le_refl _, h1, rfl, HX3, HB2⟩
  case round =>
    obtain ⟨m, hm1, hmN, rfl, HXr, HBr⟩ := hrel
    by_cases hlt : m < N
    · have hne : ¬ N = m := by omega
      obtain ⟨q, Hq⟩ : ∃ q, Hid (q = min m (N - m)) := ⟨_, Lib.hid rfl⟩
      have hq1 : 1 ≤ q := by rw [Hq.out]; omega
      have hqm : m + q ≤ N := by rw [Hq.out]; omega
      have HXd := Lib.hid (show wr.drew.heap[G]? = _ from HXr.out)
      have HBd := Lib.hid (HBr.out.drew)
      go_wp2_with fail
      refine start_ (n := 10) (S := fun w' => True) (ds := []) #[false, false, false, false, false, false, false, false, false, false] (by kernel_rfl) rfl rfl trivial (fun hHeld => ?_)
      generalize wr.drew = wd at HXd HBd hHeld ⊢
      refine pure_ (i := 0) (N := some 38) (v := ?_) (a' := ?_) #[true, false, false, false, false, false, false, false, false, false] rfl rfl (by kernel_rfl) (fun _ _ _ h => h) (Or.inl ⟨by rfl, ?_⟩) ?_ ?_
      rotate_left
      · intro w'
        go_simp
        with_reducible rfl
      rotate_left
      · simp only [Act.put, List.setIfInBounds_toArray, List.set_cons_zero, List.set_cons_succ, i64_w, i32_w]
        rfl
      refine pure_ (i := 1) (N := some 39) (v := ?_) (a' := ?_) #[true, true, false, false, false, false, false, false, false, false] rfl rfl (by kernel_rfl) (fun _ _ _ h => h) (Or.inl ⟨by rfl, ?_⟩) ?_ ?_
      rotate_left
      · intro w'
        go_simp
        with_reducible rfl
      rotate_left
      · simp only [Act.put, List.setIfInBounds_toArray, List.set_cons_zero, List.set_cons_succ, i64_w, i32_w]
        rfl
      refine pure_ (i := 2) (N := some 40) (v := ?_) (a' := ?_) #[true, true, true, false, false, false, false, false, false, false] rfl rfl (by kernel_rfl) (fun _ _ _ h => h) (Or.inl ⟨by rfl, ?_⟩) ?_ ?_
      rotate_left
      · intro w'
        go_simp
        with_reducible rfl
      rotate_left
      · simp only [Act.put, List.setIfInBounds_toArray, List.set_cons_zero, List.set_cons_succ, i64_w, i32_w]
        rfl
      refine pure_ (i := 3) (N := some 41) (v := ?_) (a' := ?_) #[true, true, true, true, false, false, false, false, false, false] rfl rfl (by kernel_rfl) (fun _ _ _ h => h) (Or.inl ⟨by rfl, ?_⟩) ?_ ?_
      rotate_left
      · intro w'
        go_simp
        with_reducible rfl
      rotate_left
      · simp only [Act.put, List.setIfInBounds_toArray, List.set_cons_zero, List.set_cons_succ, i64_w, i32_w]
        rfl
      refine pure_ (i := 4) (N := some 42) (v := ?_) (a' := ?_) #[true, true, true, true, true, false, false, false, false, false] rfl rfl (by kernel_rfl) (fun _ _ _ h => h) (Or.inl ⟨by rfl, ?_⟩) ?_ ?_
      rotate_left
      · intro w'
        go_simp
        with_reducible rfl
      rotate_left
      · simp only [Act.put, List.setIfInBounds_toArray, List.set_cons_zero, List.set_cons_succ, i64_w, i32_w]
        rfl
      refine pure_ (i := 5) (N := some 43) (v := ?_) (a' := ?_) #[true, true, true, true, true, true, false, false, false, false] rfl rfl (by kernel_rfl) (fun _ _ _ h => h) (Or.inl ⟨by rfl, ?_⟩) ?_ ?_
      rotate_left
      · intro w'
        go_simp
        with_reducible rfl
      rotate_left
      · simp only [Act.put, List.setIfInBounds_toArray, List.set_cons_zero, List.set_cons_succ, i64_w, i32_w]
        rfl
      refine pure_ (i := 6) (N := some 44) (v := ?_) (a' := ?_) #[true, true, true, true, true, true, true, false, false, false] rfl rfl (by kernel_rfl) (fun _ _ _ h => h) (Or.inl ⟨by rfl, ?_⟩) ?_ ?_
      rotate_left
      · intro w'
        go_simp
        with_reducible rfl
      rotate_left
      · simp only [Act.put, List.setIfInBounds_toArray, List.set_cons_zero, List.set_cons_succ, i64_w, i32_w]
        rfl
      refine one_ (i := 7) (N := some 45) #[true, true, true, true, true, true, true, true, false, false] rfl rfl (by kernel_rfl) (by decide) (fun K hK => ?_)
      refine step_copy_splice rfl (.tmp 41) (.tmp 44) 25 25 rfl 3 Try.underlying25 i3s (some ⟨G, m, none⟩) (some ⟨G, 0, none⟩) (N - m) (N - m) m N (by rfl) (by rfl) G m (List.replicate m (Value.int .i64 v) ++ List.replicate (N - m) (Value.int .i64 0)) 3 HXd.out (List.replicate q (Value.int .i64 v)) ?cn ?cp ?cf ?c1 w.heap.size w HBd.out HGL.out ?_
      (case cn => show _ = min m (N - m); rw [List.length_replicate]; exact Hq.out)
      (case cp => exact fun _ => ⟨rfl, _, rfl, fun j u hu => copy_src HXd.out hqm hq1 (by have := Hq.out; omega) hu⟩)
      (case cf => simp; omega)
      (case c1 => intro u hu; rw [List.eq_of_mem_replicate hu]; rfl)
      intro w3 HX3' hb3
      rw [List.length_replicate]
      have HB3 := Lib.hid hb3
      clear hb3
      refine hK.out _ _ trivial (fun hHeld => ?_)
      clear hK K
      refine norm_ (a' := ?_) ?_ ?_
      rotate_left
      · show Act.put _ (some 45) _ = _
        simp only [Act.put, List.setIfInBounds_toArray, List.set_cons_zero, List.set_cons_succ, i64_w, i32_w]
        rfl
      refine pure_ (i := 8) (N := some 46) (v := ?_) (a' := ?_) #[true, true, true, true, true, true, true, true, true, false] rfl rfl (by kernel_rfl) (fun _ _ _ h => h) (Or.inl ⟨by rfl, ?_⟩) ?_ ?_
      rotate_left
      · intro w'
        go_simp
        with_reducible rfl
      rotate_left
      · simp only [Act.put, List.setIfInBounds_toArray, List.set_cons_zero, List.set_cons_succ, i64_w, i32_w]
        rfl
      refine pure_ (i := 9) (N := some 8) (v := ?_) (a' := ?_) #[true, true, true, true, true, true, true, true, true, true] rfl rfl (by kernel_rfl) (fun _ _ _ h => h) (Or.inl ⟨by rfl, ?_⟩) ?_ ?_
      rotate_left
      · intro w'
        go_simp
        with_reducible rfl
      rotate_left
      · simp only [Act.put, List.setIfInBounds_toArray, List.set_cons_zero, List.set_cons_succ, i64_w, i32_w]
        rfl
      refine done_ (by kernel_rfl) ?_

      go_wp2_with fail
      go_round
      case rel =>
        refine ⟨m + q, by omega, hqm, ?_, Lib.hid ?_, HB3⟩
        · rw [wrap_in _ (by omega) (by omega)]; rfl
        · rw [HX3'.out, splice_repl hqm]
      case measure =>
        rw [wrap_in _ (by omega) (by omega)]; simp [intOf]; omega
    · have hNm := Lib.hid (show N = m by omega)
      have hE : wr.heap[G]? = some (.cells (List.replicate N (Value.int .i64 v)).toArray 3 (0, 0)) := by
        have := HXr.out
        rw [← hNm.out] at this
        simpa using this
      have HE := Lib.hid hE
      clear hE
      go_wp2_with fail
      go_ret
      exact ⟨G, rfl, HGL.out, HE.out, HBr.out⟩

end Go.Proofs.Ytaaohfhcimndmaa.M
