/- Own lemmas: IndexFunc, ContainsFunc over beyond. -/
import Derived.Test.YtaaohfhcimndmaaMbase
import Derived.LoopTactic
namespace Go.Proofs.Ytaaohfhcimndmaa.M
open Go.RowKit Go.Proofs.YtaaohfhcimndmaaW.PrintWords Go.Proofs.YtaaohfhcimndmaaW.PrintLast Go.Proofs.YtaaohfhcimndmaaW.PrintMore 
set_option linter.unusedVariables false
set_option linter.unusedSimpArgs false

def bey (n : Int) : Bool := decide (n < 1 ∨ 65535 < n)
theorem beyond_any (n : Int) (w : World) : Calls Try.prog 35 #[.int .i64 n] w fun e w' => e = .returned (.bool (bey n)) ∧ w = w' := by
  by_cases h : n < 1
  · rw [show bey n = true by simp [bey, h]]
    go_enter Try.func35, Try.ntmps35
    go_wp2
    go_ret
    exact ⟨rfl, rfl⟩
  · by_cases h2 : 65535 < n
    · rw [show bey n = true by simp [bey, h2]]
      go_enter Try.func35, Try.ntmps35
      go_wp2
      go_ret
      exact ⟨by simp, rfl⟩
    · rw [show bey n = false by simp [bey]; omega]
      go_enter Try.func35, Try.ntmps35
      go_wp2
      go_ret
      exact ⟨by simp, rfl⟩
theorem beyond_yes (n : Int) (h : bey n = true) (w : World) : Calls Try.prog 35 #[.int .i64 n] w fun e w' => e = .returned (.bool true) ∧ w = w' := by
  rw [← h]; exact beyond_any n w
theorem beyond_no (n : Int) (h : bey n = false) (w : World) : Calls Try.prog 35 #[.int .i64 n] w fun e w' => e = .returned (.bool false) ∧ w = w' := by
  rw [← h]; exact beyond_any n w

/-- What IndexFunc answers: a place of a number beyond, or none. -/
def idx (p : Int → Bool) (xs : List Int) : Int := if xs.any p then (xs.findIdx p : Int) else -1
theorem idx_none {p : Int → Bool} {xs : List Int} (h : ∀ j, j < xs.length → p (xs.getD j 0) = false) : idx p xs = -1 := by
  unfold idx
  rw [if_neg]
  simp only [List.any_eq_true, not_exists, not_and, Bool.not_eq_true]
  intro x hx
  obtain ⟨j, hj, rfl⟩ := List.mem_iff_getElem.1 hx
  have := h j hj
  simpa [List.getD_eq_getElem?_getD, hj] using this
theorem idx_some {p : Int → Bool} {xs : List Int} {k : Nat} (hk : k < xs.length) (h : ∀ j, j < k → p (xs.getD j 0) = false) (hp : p (xs.getD k 0) = true) : idx p xs = k := by
  have e : ∀ j (hj : j < xs.length), xs.getD j 0 = xs[j] := fun j hj => by simp [List.getD_eq_getElem?_getD, hj]
  unfold idx
  rw [if_pos]
  · congr 1
    rw [List.findIdx_eq hk]
    refine ⟨by rw [← e k hk]; exact hp, fun j hj => ?_⟩
    rw [← e j (by omega)]
    exact h j hj
  · rw [List.any_eq_true]
    exact ⟨xs[k], List.getElem_mem hk, by rw [← e k hk]; exact hp⟩
theorem idx_geq (p : Int → Bool) (xs : List Int) : decide (0 ≤ idx p xs) = xs.any p := by
  unfold idx
  cases h : xs.any p
  · simp
  · simp

set_option maxHeartbeats 1000000 in
theorem IndexFunc_any (A : Option Addr) (c : Nat) (xs : List Int) (w : World) (hn : xs.length ≤ 9223372036854775807) (hK : Hid (Kd.C (Kd.int .i64) w A xs.length xs)) :
    Calls Try.prog 54 #[.slice A xs.length c, .func (.func 35) #[] #[]] w fun e w' => e = .returned (.int .i64 (idx bey xs)) ∧ w = w' := by
  have hu := Try.underlying25
  rcases Nat.eq_zero_or_pos xs.length with h0 | h0
  · have hx : xs = [] := List.eq_nil_of_length_eq_zero h0
    subst hx
    rw [show idx bey [] = -1 from rfl]
    clear hK
    go_enter Try.func54, Try.ntmps54
    go_wp2
    refine wp_loop_rounds 1 ?_
    rw [rounds_succ]
    go_wp2
    go_ret
    exact ⟨rfl, rfl⟩
  · obtain ⟨ad, rfl, hcell⟩ := C_cell hK.out h0
    have HC := Lib.hid hcell
    clear hcell hK
    go_enter Try.func54, Try.ntmps54
    go_wp2
    go_loop [8] (fun i => ∃ k : Nat, k ≤ xs.length ∧ i = .int .i64 k ∧ Hid (∀ j, j < k → bey (xs.getD j 0) = false)) (fun i => xs.length - (intOf i).toNat)
    case atStart => exact ⟨0, Nat.zero_le _, rfl, fun j hj => absurd hj (by omega)⟩
    case round =>
      obtain ⟨k, hk, rfl, HN⟩ := hrel
      by_cases hlt : k < xs.length
      · obtain ⟨v, Hv⟩ : ∃ v, Hid (v = xs.getD k 0) := ⟨_, Lib.hid rfl⟩
        have hc : w.cell? (ad.add k) = some (.int .i64 v) := by rw [Hv.out]; exact HC.out k hlt
        cases hb : bey v with
        | true =>
          have HB := Lib.hid hb
          have HI := Lib.hid (idx_some hlt HN.out (by rw [← Hv.out]; exact hb))
          clear hb
          go_wp2_with fail
          refine (beyond_yes _ HB.out _).mono ?_
          rintro e w' ⟨rfl, rfl⟩
          go_wp2_with fail
          go_ret
          exact ⟨by rw [HI.out]; rfl, rfl⟩
        | false =>
          have HB := Lib.hid hb
          clear hb
          go_wp2_with fail
          refine (beyond_no _ HB.out _).mono ?_
          rintro e w' ⟨rfl, rfl⟩
          go_wp2_with fail
          go_round
          case rel => exact ⟨k + 1, by omega, by go_num, fun j hj => by
            by_cases e : j = k
            · subst e; rw [← Hv.out]; exact HB.out
            · exact HN.out j (by omega)⟩
          case measure => simp [intOf]; omega
      · have HI := Lib.hid (idx_none (p := bey) (xs := xs) (fun j hj => HN.out j (by omega)))
        go_wp2_with fail
        go_ret
        exact ⟨by rw [HI.out]; rfl, rfl⟩

end Go.Proofs.Ytaaohfhcimndmaa.M
