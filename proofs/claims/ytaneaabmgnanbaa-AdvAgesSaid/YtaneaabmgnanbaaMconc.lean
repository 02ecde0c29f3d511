/- Own lemmas: Grow, Concat over ints. -/
import Derived.Test.YtaneaabmgnanbaaMtick
import Derived.LoopTactic
import Derived.Lib.AppendZeros
namespace Go.Proofs.Ytaneaabmgnanbaa.M
open Go.RowKit Go.Proofs.YtaneaabmgnanbaaW.PrintWords Go.Proofs.YtaneaabmgnanbaaW.PrintLast Go.Proofs.YtaneaabmgnanbaaW.PrintMore Go.Proofs.Ytaneaabmgnanbaa.PAdvBack
set_option linter.unusedVariables false
set_option linter.unusedSimpArgs false

set_option maxHeartbeats 1000000 in
set_option maxRecDepth 100000 in
theorem Grow63 (n : Nat) (w : World) (hn : n ≤ 1000) :
    Calls Try.prog 63 #[.slice none 0 0, .int .i64 n] w fun e w' => ∃ v, e = .returned v ∧ Kd.R (Kd.int .i64) 3 w' w.heap.size (fun k => w.heap.size ≤ k) v [] ∧ Below w.heap.size w w' := by
  have hu := Try.underlying56
  rcases Nat.eq_zero_or_pos n with h0 | h0
  · subst h0
    go_enter Try.func63, Try.ntmps63
    go_wp2_with fail
    go_ret
    exact ⟨_, rfl, Kd.R_nil _ _ _ _ _, Below.refl _ _⟩
  · obtain ⟨i, hi, hz⟩ := Option.map_eq_some_iff.1 i3
    simp only [Prod.mk.injEq] at hz
    obtain ⟨hz0, hz1, hz2⟩ := hz
    have happ := Lib.run_append_nil_zeros (P := Try.prog) w 56 3 56 3 i (.int .i64 0) .i64 .i64 Try.underlying56 Try.underlying3 hi hz0 n h0 (by omega) (by omega) (by rw [hz2]; omega)
    have hge := grownCap_ge w n 0 3
    have hle := grownCap_le_maxLen w n 0 3 (by unfold maxLen; omega)
    generalize grownCap w n 0 3 = cap at happ hge hle
    generalize hZ : Builtin.zeroCells (Value.int .i64 0).cells n ++ Builtin.zeroCells (Value.int .i64 0).cells (cap - n) = Z at happ
    have hZs : Z.size = cap := by rw [← hZ]; simp [size_zeroCells, Value.cells]; omega
    have HZ := Lib.hid hZs
    have HLE := Lib.hid hle
    have HAP := Lib.hid happ
    have hpos : decide ((n : Int) > 0) = true := decide_eq_true (by omega)
    have hpos2 : decide (0 < n) = true := decide_eq_true h0
    clear hZ hZs hle happ hi hz0 hz1 hz2 hge
    go_enter Try.func63, Try.ntmps63
    go_wp2_with ((with_reducible refine gate_builtin (b := .append) (xs := #[.tmp 20, .tmp 21]) rfl ?_); at_builtin; refine Lib.wpList_append_run _ rfl _ _ _ _ rfl _ _ rfl rfl _ _ HAP.out ?_)
    go_ret
    refine ⟨_, rfl, ⟨fun k hk => ?_, [], ⟨by simp, .inr ⟨w.heap.size, cap, Z, rfl, Nat.le_refl _, blk_alloc_at w.drew _ rfl, Nat.zero_le _, HLE.out, by rw [HZ.out]; show cap = cap * 1; omega, by simp⟩⟩, Reps.none _ _⟩, Below.alloc (Below.refl w.heap.size w).drew (Nat.le_refl _) _⟩
    simp [Value.ownBlock] at hk
    omega

set_option maxHeartbeats 2000000 in
set_option maxRecDepth 100000 in
theorem Concat43 (g : Nat) (A1 A2 : Option Addr) (c1 c2 : Nat) (xs ys : List Int) (w : World) (h1 : xs.length ≤ 100) (h2 : ys.length ≤ 100) (HX : Hid (Kd.C (Kd.int .i64) w A1 xs.length xs)) (HY : Hid (Kd.C (Kd.int .i64) w A2 ys.length ys)) (HG : Hid (w.heap[g]? = some (.cells #[.slice A1 xs.length c1, .slice A2 ys.length c2] 56 (0, 0)))) :
    Calls Try.prog 43 #[.slice (some ⟨g, 0, none⟩) 2 2] w fun e w' => ∃ v, e = .returned v ∧ Kd.R (Kd.int .i64) 3 w' w.heap.size (fun k => w.heap.size ≤ k) v (xs ++ ys) ∧ Below w.heap.size w w' := by
  have hu := Try.underlying56
  have hu2 := Try.underlying116
  obtain ⟨n1, Hn1⟩ : ∃ n, Hid (n = xs.length) := ⟨_, Lib.hid rfl⟩
  obtain ⟨n2, Hn2⟩ : ∃ n, Hid (n = ys.length) := ⟨_, Lib.hid rfl⟩
  rw [← Hn1.out] at h1 HX HG
  rw [← Hn2.out] at h2 HY HG
  have g0 := blk_cell HG.out 0
  have g1 := blk_cell HG.out 1
  have gl := blk_lt HG.out
  have e1 : wrap64 (0 + (n1 : Int)) = n1 := by rw [Int.zero_add]; exact wrap_in _ (by omega) (by omega)
  have e1' : wrap64 (n1 : Int) = n1 := wrap_in _ (by omega) (by omega)
  have e2 : wrap64 ((n1 : Int) + n2) = ((n1 + n2 : Nat) : Int) := by rw [wrap_in _ (by omega) (by omega)]; omega
  have p1 : decide ((n1 : Int) < 0) = false := decide_eq_false (by omega)
  have p2 : decide (((n1 + n2 : Nat) : Int) < 0) = false := decide_eq_false (by omega)
  go_enter Try.func43, Try.ntmps43
  go_wp2_with fail
  go_loopw [3, 11] (fun v3 v11 wr => ∃ k : Nat, k ≤ 2 ∧ v11 = .int .i64 k ∧ v3 = .int .i64 (if k = 0 then 0 else if k = 1 then (n1 : Int) else ((n1 + n2 : Nat) : Int)) ∧ Hid (w = wr)) (fun _ v _ => 2 - (intOf v).toNat)
  case atStart => exact ⟨0, Nat.zero_le _, rfl, rfl, Lib.hid rfl⟩
  case round =>
    obtain ⟨k, hk, rfl, rfl, hww⟩ := hrel
    obtain rfl := hww.out
    clear hww
    rcases (show k = 0 ∨ k = 1 ∨ k = 2 by omega) with rfl | rfl | rfl
    · simp only [if_true]
      go_wp2_with fail
      go_round
      case rel => exact ⟨1, by omega, rfl, rfl, by first | exact Lib.hid rfl | exact Lib.hid trivial⟩
      case measure => simp [intOf]
    · simp only [if_neg (show ¬ (1 : Nat) = 0 by omega), if_true]
      go_wp2_with fail
      go_round
      case rel => exact ⟨2, by omega, rfl, rfl, by first | exact Lib.hid rfl | exact Lib.hid trivial⟩
      case measure => simp [intOf]
    · simp only [if_neg (show ¬ (2 : Nat) = 0 by omega), if_neg (show ¬ (2 : Nat) = 1 by omega)]
      go_wp2_with fail
      refine (Grow63 (n1 + n2) w (by omega)).mono ?_
      rintro e w1 ⟨v, rfl, hR, hb⟩
      have HR1 := Lib.hid hR
      have HB1 := Lib.hid hb
      clear hR hb
      go_wp2_with fail
      clear g0 g1 gl e1 e1' e2 p1 p2
      go_loopw [6, 27] (fun v6 v27 wr => ∃ (k : Nat) (l : List Int), k ≤ 2 ∧ v27 = .int .i64 k ∧ Hid (l = if k = 0 then [] else if k = 1 then xs else xs ++ ys) ∧ Hid (Kd.R (Kd.int .i64) 3 wr w.heap.size (fun q => w.heap.size ≤ q) v6 l) ∧ Hid (Below w.heap.size w wr)) (fun _ v _ => 2 - (intOf v).toNat)
      case atStart => exact ⟨0, [], Nat.zero_le _, rfl, Lib.hid rfl, HR1, HB1⟩
      case round =>
        obtain ⟨k, l, hk, rfl, HL, HR, HB⟩ := hrel
        have HGr := Lib.hid (blk_keep HB.out HG.out)
        have g0 := blk_cell HGr.out 0
        have g1 := blk_cell HGr.out 1
        have gl := blk_lt HGr.out
        have HWS := Lib.hid HB.out.size
        rcases (show k = 0 ∨ k = 1 ∨ k = 2 by omega) with rfl | rfl | rfl
        · have hl := HL.out
          simp only [if_true] at hl
          subst hl
          have HXr := Lib.hid (Kd.C_below HX.out HB.out)
          go_wp2_with ((with_reducible refine gate_builtin (b := .append) (xs := #[.tmp 31, .tmp 32]) rfl ?_); at_builtin; refine Kd.R_append_rows (Kd.int .i64) (Rr := (Kd.int .i64).K wr) (w0 := w) w.heap.size rfl (.tmp 31) (.tmp 32) 56 3 (.int .i64 0) 8 rfl Try.underlying56 i3 rfl (show 0 < 1 from by decide) (by omega) u6 [] xs A1 n1 c1 (fun q => w.heap.size ≤ q) (fun _ => False) rfl rfl ?aO ?aC (fun x cs h => h) (fun _ hk => hk.elim) ?aF ?aB ?aS ?aL ?_; (case aO => exact HR.out); (case aC => exact HXr.out); (case aF => exact fun q hq => Nat.le_trans HWS.out hq); (case aB => exact HB.out); (case aS => exact HWS.out); (case aL => simp; omega); intro v2 w2 ho hb hg hat; have HR2 := Lib.hid ho; have HB2 := Lib.hid hb; clear ho hb hg hat)
          go_round
          case rel => exact ⟨1, xs, by omega, rfl, Lib.hid rfl, HR2, HB2⟩
          case measure => simp [intOf]
        · have hl := HL.out
          simp only [if_neg (show ¬ (1 : Nat) = 0 by omega), if_true] at hl
          have HYr := Lib.hid (Kd.C_below HY.out HB.out)
          have HLX := Lib.hid hl
          have hll : l.length ≤ 100 := by rw [hl, ← Hn1.out]; exact h1
          clear hl
          go_wp2_with ((with_reducible refine gate_builtin (b := .append) (xs := #[.tmp 31, .tmp 32]) rfl ?_); at_builtin; refine Kd.R_append_rows (Kd.int .i64) (Rr := (Kd.int .i64).K wr) (w0 := w) w.heap.size rfl (.tmp 31) (.tmp 32) 56 3 (.int .i64 0) 8 rfl Try.underlying56 i3 rfl (show 0 < 1 from by decide) (by omega) u6 l ys A2 n2 c2 (fun q => w.heap.size ≤ q) (fun _ => False) rfl rfl ?aO ?aC (fun x cs h => h) (fun _ hk => hk.elim) ?aF ?aB ?aS ?aL ?_; (case aO => exact HR.out); (case aC => exact HYr.out); (case aF => exact fun q hq => Nat.le_trans HWS.out hq); (case aB => exact HB.out); (case aS => exact HWS.out); (case aL => omega); intro v2 w2 ho hb hg hat; have HR2 := Lib.hid ho; have HB2 := Lib.hid hb; clear ho hb hg hat)
          go_round
          case rel => exact ⟨2, l ++ ys, by omega, rfl, Lib.hid (by rw [HLX.out]; rfl), HR2, HB2⟩
          case measure => simp [intOf]
        · have hl := HL.out
          simp only [if_neg (show ¬ (2 : Nat) = 0 by omega), if_neg (show ¬ (2 : Nat) = 1 by omega)] at hl
          have HLX := Lib.hid hl
          clear hl
          go_wp2_with fail
          go_ret
          exact ⟨_, rfl, by rw [← HLX.out]; exact HR.out, HB.out⟩

end Go.Proofs.Ytaneaabmgnanbaa.M
