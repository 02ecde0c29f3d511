import Derived.Test.YtaneaabmgnanbaaKMedge
import Derived.LoopTactic
namespace Go.Proofs.Ytaneaabmgnanbaa.M
open Go.RowKit Go.Proofs.YtaneaabmgnanbaaW.PrintWords Go.Proofs.YtaneaabmgnanbaaW.PrintLast Go.Proofs.YtaneaabmgnanbaaW.PrintMore Go.Proofs.Ytaneaabmgnanbaa.PAdvBack
set_option linter.unusedVariables false
set_option linter.unusedSimpArgs false
theorem take_C {α : Type} {d : Kd α} {w : World} {A : Option Addr} {xs : List α} (m : Nat) (h : d.C w A xs.length xs) : d.C w A (xs.take m).length (xs.take m) := by
 by_cases hm : m ≤ xs.length
 · exact Kd.C_take h hm
 · rw [List.take_of_length_le (by omega)]; exact h
theorem some23_any (A : Option Addr) (ls L : List S24) (c m : Nat) (hL : Hid (L = ls.take m)) (hn : ls.length ≤ c) (w : World) : Calls Try.prog 23 #[.slice A ls.length c, .int .i64 m] w fun e w' => e = .returned (.slice A L.length c) ∧ w = w' := by
 have hu := Try.underlying43
 have hL := hL.out
 subst hL
 rw [List.length_take]
 by_cases h : ls.length ≤ m
 · have e : min m ls.length = ls.length := Nat.min_eq_right h
   rw [e]
   go_enter Try.func23, Try.ntmps23
   go_wp2
   go_ret
   exact ⟨rfl, rfl⟩
 · have e : min m ls.length = m := Nat.min_eq_left (by omega)
   rw [e]
   go_enter Try.func23, Try.ntmps23
   go_wp2
   go_ret
   exact ⟨rfl, rfl⟩
end Go.Proofs.Ytaneaabmgnanbaa.M
