/- Own lemmas: Sort, Equal over ints. -/
import Derived.Test.YtaneaabmgnanbaaMsort
import Derived.LoopTactic
import Derived.BigQuiet
import Derived.RegionTactic
import Derived.BigRegion
namespace Go.Proofs.Ytaneaabmgnanbaa.M
open Go.RowKit Go.Proofs.YtaneaabmgnanbaaW.PrintWords Go.Proofs.YtaneaabmgnanbaaW.PrintLast Go.Proofs.YtaneaabmgnanbaaW.PrintMore Go.Proofs.Ytaneaabmgnanbaa.PAdvBack
set_option linter.unusedVariables false
set_option linter.unusedSimpArgs false

set_option maxHeartbeats 4000000 in
set_option maxRecDepth 100000 in
theorem Len90 (n : Nat) (hn : n ≤ 12) (w : World) : Calls Try.prog 90 #[.int .u64 n] w fun e w' => ∃ k : Int, e = .returned (.int .i64 k) ∧ w = w' := by
  rcases (show n = 0 ∨ n = 1 ∨ n = 2 ∨ n = 3 ∨ n = 4 ∨ n = 5 ∨ n = 6 ∨ n = 7 ∨ n = 8 ∨ n = 9 ∨ n = 10 ∨ n = 11 ∨ n = 12 by omega) with rfl | rfl | rfl | rfl | rfl | rfl | rfl | rfl | rfl | rfl | rfl | rfl | rfl <;>
  · go_enter Try.func90, Try.ntmps90
    go_wp2_with fail
    go_ret
    exact ⟨_, rfl, rfl⟩

set_option maxHeartbeats 1000000 in
set_option maxRecDepth 100000 in
theorem Len65 (n : Nat) (hn : n ≤ 12) (w : World) : Calls Try.prog 65 #[.int .u64 n] w fun e w' => ∃ k : Int, e = .returned (.int .i64 k) ∧ w = w' := by
  go_enter Try.func65, Try.ntmps65
  go_wp2_with fail
  refine (Len90 n hn w).mono ?_
  rintro e w1 ⟨k, rfl, rfl⟩
  go_wp2_with fail
  go_ret
  exact ⟨k, rfl, rfl⟩
set_option maxHeartbeats 1000000 in
set_option maxRecDepth 100000 in
theorem Isort80_nil (A : Option Addr) (c : Nat) (w : World) : Calls Try.prog 80 #[.slice A 0 c, .int .i64 0, .int .i64 0] w fun e w' => e = .returned (.tuple #[]) ∧ w = w' := by
  have hu := Try.underlying56
  go_enter Try.func80, Try.ntmps80
  go_wp2_with fail
  refine wp_loop_rounds 1 ?_
  rw [rounds_succ]
  go_wp2_with fail
  go_end0
  exact ⟨rfl, rfl⟩
set_option maxHeartbeats 1000000 in
set_option maxRecDepth 100000 in
theorem Pdq64 (n g c : Nat) (k : Int) (xs : List Int) (w w0 : World) (h1 : 1 ≤ n) (hn : n ≤ 12) (hx : xs.length = n) (hc : n ≤ c) (hb0 : Below w0.heap.size w0 w) (hg0 : w0.heap.size ≤ g) (HX : Hid (RowAt w g xs)) :
    Calls Try.prog 64 #[.slice (some ⟨g, 0, none⟩) n c, .int .i64 0, .int .i64 n, .int .i64 k] w fun e w' => e = .returned (.tuple #[]) ∧ ∃ zs : List Int, zs.Perm xs ∧ Srt zs n ∧ RowAt w' g zs ∧ KeepBut w w' g none ∧ Below w0.heap.size w0 w' := by
  have hu := Try.underlying56
  have HB0 := Lib.hid hb0
  have HG0 := Lib.hid hg0
  clear hb0 hg0
  have d1 : decide (n ≤ 12) = true := decide_eq_true hn
  have d2 : wrap64 ((n : Int) - 0) = n := by rw [wrap_in _ (by omega) (by omega)]; omega
  have d3 : wrap64 (n : Int) = n := wrap_in _ (by omega) (by omega)
  have d4 : decide ((n : Int) ≤ 12) = true := decide_eq_true (by omega)
  go_enter Try.func64, Try.ntmps64
  go_wp2_with fail
  refine wp_loop_rounds 1 ?_
  rw [rounds_succ]
  go_wp2_with fail
  refine (Isort80 n g c xs w w0 h1 (by omega) hx hc HB0.out HG0.out HX).mono ?_
  rintro e w1 ⟨rfl, zs, hp, hs, hr, hk, hb⟩
  have HP := Lib.hid hp
  have HS := Lib.hid hs
  have HR := Lib.hid hr
  have HK := Lib.hid hk
  have HB := Lib.hid hb
  clear hp hs hr hk hb
  go_wp2_with fail
  refine bodyPost_ret (results_none rfl _ _ _) rfl ?_
  exact ⟨rfl, zs, HP.out, HS.out, HR.out, HK.out, HB.out⟩
set_option maxHeartbeats 1000000 in
set_option maxRecDepth 100000 in
theorem Pdq64_nil (A : Option Addr) (c : Nat) (k : Int) (w : World) : Calls Try.prog 64 #[.slice A 0 c, .int .i64 0, .int .i64 0, .int .i64 k] w fun e w' => e = .returned (.tuple #[]) ∧ w = w' := by
  have hu := Try.underlying56
  go_enter Try.func64, Try.ntmps64
  go_wp2_with fail
  refine wp_loop_rounds 1 ?_
  rw [rounds_succ]
  go_wp2_with fail
  refine (Isort80_nil A c w).mono ?_
  rintro e w1 ⟨rfl, rfl⟩
  go_wp2_with fail
  refine bodyPost_ret (results_none rfl _ _ _) rfl ?_
  exact ⟨rfl, rfl⟩
set_option maxHeartbeats 1000000 in
set_option maxRecDepth 100000 in
theorem Sort44 (A : Option Addr) (c base : Nat) (xs : List Int) (w w0 : World) (hn : xs.length ≤ 12) (hb0 : Below w0.heap.size w0 w) (hg0 : w0.heap.size ≤ base) (HR : Hid (Kd.R (Kd.int .i64) 3 w base (fun k => base ≤ k) (.slice A xs.length c) xs)) :
    Calls Try.prog 44 #[.slice A xs.length c] w fun e w' => e = .returned (.tuple #[]) ∧ ∃ zs : List Int, zs.Perm xs ∧ Srt zs xs.length ∧ Kd.C (Kd.int .i64) w' A zs.length zs ∧ KA w w' ∧ (∀ q, q < base → w'.heap[q]? = w.heap[q]?) ∧ Below w0.heap.size w0 w' := by
  have hu := Try.underlying56
  have HB0 := Lib.hid hb0
  have HG0 := Lib.hid hg0
  clear hb0 hg0
  rcases Nat.eq_zero_or_pos xs.length with h0 | h0
  · have hx : xs = [] := List.eq_nil_of_length_eq_zero h0
    subst hx
    obtain ⟨_, _, hC⟩ := Kd.R_reads' HR.out
    have HC := Lib.hid hC
    clear hC
    have e0 : ([] : List Int).length = 0 := rfl
    rw [e0]
    go_enter Try.func44, Try.ntmps44
    go_wp2_with fail
    refine (Len65 0 (by omega) w).mono ?_
    rintro e w1 ⟨k, rfl, rfl⟩
    go_wp2_with fail
    refine (Pdq64_nil A c k w).mono ?_
    rintro e w1 ⟨rfl, rfl⟩
    go_wp2_with fail
    go_end0
    exact ⟨rfl, [], List.Perm.refl _, fun p q h1 h2 => absurd h2 (Nat.not_lt_zero _), HC.out, KA.refl w, fun _ _ => rfl, HB0.out⟩
  · obtain ⟨hz, hle, _⟩ := Kd.R_reads' HR.out
    clear hz
    obtain ⟨g, cap, e, hgb, _, cs, hcs⟩ := Kd.R_form HR.out h0
    injection e with e1 e2 e3
    subst e1
    subst e3
    have hrow : RowAt w g xs := by
      obtain ⟨_, _, hC⟩ := Kd.R_reads' HR.out
      obtain ⟨ad, e, hcell⟩ := C_cell3 hC h0
      obtain rfl : ⟨g, 0, none⟩ = ad := by injection e
      refine ⟨cs, hcs, fun i hi => ?_⟩
      have := hcell i hi
      rw [add_plain, blk_cell hcs] at this
      rw [this, rd_nat]
    have HROW := Lib.hid hrow
    have HCS := Lib.hid hcs
    obtain ⟨n, Hn⟩ : ∃ n, Hid (n = xs.length) := ⟨_, Lib.hid rfl⟩
    have hn2 : n ≤ 12 := by rw [Hn.out]; exact hn
    have hn1 : 1 ≤ n := by rw [Hn.out]; exact h0
    rw [← Hn.out] at hle
    rw [← Hn.out]
    clear e2 hcs hrow hn h0
    have hw : IntKind.u64.wrap (n : Int) = n := by rw [u64_wr]; exact Int.emod_eq_of_lt (by omega) (by omega)
    go_enter Try.func44, Try.ntmps44
    go_wp2_with fail
    refine (Len65 n hn2 w).mono ?_
    rintro e w1 ⟨k, rfl, rfl⟩
    go_wp2_with fail
    refine (Pdq64 n g c k xs w w0 hn1 hn2 Hn.out.symm hle HB0.out (Nat.le_trans HG0.out hgb) HROW).mono ?_
    rintro e w1 ⟨rfl, zs, hp, hs, hr, hk, hb⟩
    have HP := Lib.hid hp
    have HS := Lib.hid hs
    have HR2 := Lib.hid hr
    have HK := Lib.hid hk
    have HB := Lib.hid hb
    clear hp hs hr hk hb
    go_wp2_with fail
    go_end0
    have hl := HP.out.length_eq
    exact ⟨rfl, zs, HP.out, HS.out, HR2.out.C (by rw [hl, ← Hn.out]; omega), KA.of_keep HK.out HCS.out (by decide), fun q hq => by
      by_cases hlt : q < w.heap.size
      · exact HK.out.2 q hlt (by omega) (by simp)
      · exact absurd (blk_lt HCS.out) (by omega), HB.out⟩
set_option maxHeartbeats 1000000 in
set_option maxRecDepth 100000 in
theorem Equal45 (A B : Option Addr) (c d : Nat) (l : List Int) (w : World) (hl : l.length ≤ 1000) (HA : Hid (Kd.C (Kd.int .i64) w A l.length l)) (HB : Hid (Kd.C (Kd.int .i64) w B l.length l)) :
    Calls Try.prog 45 #[.slice A l.length c, .slice B l.length d] w fun e w' => e = .returned (.bool true) ∧ Below w.heap.size w w' := by
  have hu := Try.underlying56
  obtain ⟨n, Hn⟩ : ∃ n, Hid (n = l.length) := ⟨_, Lib.hid rfl⟩
  rw [← Hn.out] at hl
  rw [← Hn.out]
  go_enter Try.func45, Try.ntmps45
  go_wp2_with fail
  go_loopw [13] (fun v wr => ∃ k : Nat, k ≤ n ∧ v = .int .i64 k ∧ Hid (Below w.heap.size w wr)) (fun v _ => n - (intOf v).toNat)
  case atStart => exact ⟨0, Nat.zero_le _, rfl, Lib.hid (Below.refl _ _)⟩
  case round =>
    obtain ⟨k, hk, rfl, HBr⟩ := hrel
    by_cases hlt : k < n
    · obtain ⟨ad, rfl, hcA⟩ := C_cell3 (Kd.C_below HA.out HBr.out) (by rw [← Hn.out]; omega)
      obtain ⟨bd, rfl, hcB⟩ := C_cell3 (Kd.C_below HB.out HBr.out) (by rw [← Hn.out]; omega)
      have a0 := hcA k (by rw [← Hn.out]; exact hlt)
      have b0 := hcB k (by rw [← Hn.out]; exact hlt)
      obtain ⟨v, Hv⟩ : ∃ v, Hid (v = l.getD k 0) := ⟨_, Lib.hid rfl⟩
      rw [← Hv.out] at a0 b0
      have hkn : (k : Int) < n := by omega
      clear hcA hcB
      go_wp2_with fail
      go_quiet (fail)
      have HBn := Lib.hid (below_self HBr.out (pw_below_drewN (Below.refl wr.heap.size wr) nq))
      go_wp2_with fail
      go_round
      case rel => exact ⟨k + 1, by omega, by go_num, HBn⟩
      case measure => simp [intOf]; omega
    · go_wp2_with fail
      go_ret
      exact ⟨rfl, HBr.out⟩

end Go.Proofs.Ytaneaabmgnanbaa.M
