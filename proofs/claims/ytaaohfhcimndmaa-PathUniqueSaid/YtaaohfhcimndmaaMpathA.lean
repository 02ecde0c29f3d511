/- Own lemmas: ContainsFunc, addr.Check. -/
import Derived.Test.YtaaohfhcimndmaaMfunc
import Derived.Test.YtaaohfhcimndmaaPPathBackx
namespace Go.Proofs.Ytaaohfhcimndmaa.M
open Go.RowKit Go.Proofs.YtaaohfhcimndmaaW.PrintWords Go.Proofs.YtaaohfhcimndmaaW.PrintLast Go.Proofs.YtaaohfhcimndmaaW.PrintMore Go.Proofs.Ytaaohfhcimndmaa.PPathBack
set_option linter.unusedVariables false
set_option linter.unusedSimpArgs false

theorem ContainsFunc_any (A : Option Addr) (c : Nat) (xs : List Int) (w : World) (hn : xs.length ≤ 9223372036854775807) (hK : Hid (Kd.C (Kd.int .i64) w A xs.length xs)) :
    Calls Try.prog 36 #[.slice A xs.length c, .func (.func 35) #[] #[]] w fun e w' => e = .returned (.bool (xs.any bey)) ∧ w = w' := by
  have hq := idx_geq bey xs
  obtain ⟨r, Hr⟩ : ∃ r, Hid (r = idx bey xs) := ⟨_, Lib.hid rfl⟩
  have HI := IndexFunc_any A c xs w hn hK
  rw [← Hr.out] at hq HI
  have HII := Lib.hid HI
  have HQ := Lib.hid hq
  rw [← hq]
  clear hq HI hK
  go_enter Try.func36, Try.ntmps36
  go_wp2_with fail
  refine HII.out.mono ?_
  rintro e w' ⟨rfl, rfl⟩
  go_wp2_with fail
  go_ret
  exact ⟨by simp, rfl⟩

/-- addr.Check as one number. -/
def ac (a b : Int) : Int := (addr_Check.f a b).getD 10
theorem ac_some (a b : Int) : addr_Check.f a b = some (ac a b) := by
  unfold ac
  have h : ∃ r, addr_Check.f a b = some r := by
    unfold addr_Check.f addr_Mask.f
    by_cases h1 : b < 0
    · rw [if_pos h1]; exact ⟨10, rfl⟩
    · rw [if_neg h1]
      by_cases h2 : b > 32
      · rw [if_pos h2]; exact ⟨10, rfl⟩
      · rw [if_neg h2, if_pos (by rw [wrap_in _ (by omega) (by omega)]; omega)]
        simp only [Option.bind_some, if_true]
        split
        · exact ⟨_, rfl⟩
        · exact ⟨_, rfl⟩
  obtain ⟨r, hr⟩ := h
  rw [hr]; rfl
theorem ac_zero {a b : Int} (h : ac a b = 0) : 0 ≤ b ∧ b ≤ 32 := by
  have e := ac_some a b
  rw [h] at e
  unfold addr_Check.f addr_Mask.f at e
  by_cases h1 : b < 0
  · rw [if_pos h1] at e; simp at e
  · rw [if_neg h1] at e
    by_cases h2 : b > 32
    · rw [if_pos h2] at e; simp at e
    · omega
theorem ac_any (a b : Int) (w : World) : Calls Try.prog 34 #[.agg #[.int .u32 a, .int .i64 b]] w fun e w' => e = .returned (.int .i64 (ac a b)) ∧ Below w.heap.size w w' := addr_Check.calls a b _ w (ac_some a b)

/-- What Check answers. -/
def disorder (ts : List Int) (i : Nat) : Bool := decide (ts.getD i 0 ≥ ts.getD (i + 1) 0)
def pchk (a b : Int) (ws : List Int) (pr md : Int) (ts : List Int) : Int :=
  if ac a b ≠ 0 then ac a b else if 32 < ws.length ∨ 8 < ts.length then 2 else if ws.any bey = true ∨ ts.any bey = true then 10
  else if mn pr md < 0 ∨ 1000000 < mx pr md then 10 else if (List.range' 0 (ts.length - 1)).any (disorder ts) then 3 else 0

end Go.Proofs.Ytaaohfhcimndmaa.M
