/- Own lemmas: the walk of AdvBoth. -/
import Derived.Test.YtaneaabmgnanbaaMedge
import Derived.LoopTactic
namespace Go.Proofs.Ytaneaabmgnanbaa.M
open Go.RowKit Go.Proofs.YtaneaabmgnanbaaW.PrintWords Go.Proofs.YtaneaabmgnanbaaW.PrintLast Go.Proofs.YtaneaabmgnanbaaW.PrintMore Go.Proofs.Ytaneaabmgnanbaa.PAdvBack
set_option linter.unusedVariables false
set_option linter.unusedSimpArgs false

theorem take_C {α : Type} {d : Kd α} {w : World} {A : Option Addr} {xs : List α} (m : Nat) (h : d.C w A xs.length xs) : d.C w A (xs.take m).length (xs.take m) := by
  by_cases hm : m ≤ xs.length
  · exact Kd.C_take h hm
  · rw [List.take_of_length_le (by omega)]; exact h
theorem some23_any (A : Option Addr) (ls L : List S24) (c m : Nat) (hL : Hid (L = ls.take m)) (hn : ls.length ≤ c) (w : World) : Calls Try.prog 23 #[.slice A ls.length c, .int .i64 m] w fun e w' => e = .returned (.slice A L.length c) ∧ w = w' := by
  have hu := Try.underlying43
  have hL := hL.out
  subst hL
  rw [List.length_take]
  by_cases h : ls.length ≤ m
  · have e : min m ls.length = ls.length := Nat.min_eq_right h
    rw [e]
    go_enter Try.func23, Try.ntmps23
    go_wp2
    go_ret
    exact ⟨rfl, rfl⟩
  · have e : min m ls.length = m := Nat.min_eq_left (by omega)
    rw [e]
    go_enter Try.func23, Try.ntmps23
    go_wp2
    go_ret
    exact ⟨rfl, rfl⟩
theorem some23_six (A : Option Addr) (ls L : List S24) (c : Nat) (hL : Hid (L = ls.take 6)) (hn : ls.length ≤ c) (w : World) : Calls Try.prog 23 #[.slice A ls.length c, .int .i64 6] w fun e w' => e = .returned (.slice A L.length c) ∧ w = w' := some23_any A ls L c 6 hL hn w
theorem C28_one {W : World} {g : Nat} {p c : Int} (h : W.heap[g]? = some (.cells #[.int .i64 p, .int .i64 c] 28 (0, 0))) : Kd.C k28 W (some ⟨g, 0, none⟩) 1 [⟨p, c⟩] := by
  refine ⟨rfl, by omega, fun _ => ⟨_, rfl, fun j q hj => ?_⟩⟩
  rcases j with _ | j
  · obtain rfl : (⟨p, c⟩ : S28) = q := by simpa using hj
    refine ⟨[.int .i64 p, .int .i64 c], rfl, k28_mk W ⟨p, c⟩, fun i u hu => ?_⟩
    rw [add_plain, Nat.zero_mul, Nat.zero_add, blk_cell h i]
    simpa using hu
  · simp at hj
theorem k24_mk {W : World} {a b c : Int} {A : Option Addr} {n : Nat} {ls : List S28} (hn : ls.length ≤ n) (h : Kd.C k28 W A ls.length ls) : k24.K W ⟨a, b, c, ls⟩ [.int .i64 a, .int .i64 b, .int .i64 c, .slice A ls.length n] :=
  ⟨[.int .i64 a], [.int .i64 b, .int .i64 c, .slice A ls.length n], rfl, rfl, [.int .i64 b], [.int .i64 c, .slice A ls.length n], rfl, rfl, [.int .i64 c], [.slice A ls.length n], rfl, rfl, A, n, rfl, hn, h⟩
def one0 : S24 := ⟨0, 1, 0, [⟨1, 5⟩]⟩
def one1 : S24 := ⟨1, 1, 0, [⟨0, 6⟩]⟩
theorem C24_two {W : World} {g g0 g1 : Nat} (h0 : W.heap[g0]? = some (.cells #[.int .i64 1, .int .i64 5] 28 (0, 0))) (h1 : W.heap[g1]? = some (.cells #[.int .i64 0, .int .i64 6] 28 (0, 0)))
    (h : W.heap[g]? = some (.cells #[.int .i64 0, .int .i64 1, .int .i64 0, .slice (some ⟨g0, 0, none⟩) 1 1, .int .i64 1, .int .i64 1, .int .i64 0, .slice (some ⟨g1, 0, none⟩) 1 1] 24 (0, 0))) : Kd.C k24 W (some ⟨g, 0, none⟩) [one0, one1].length [one0, one1] := by
  refine ⟨rfl, by simp, fun _ => ⟨_, rfl, fun j q hj => ?_⟩⟩
  rcases j with _ | _ | j
  · obtain rfl : one0 = q := by simpa using hj
    refine ⟨[.int .i64 0, .int .i64 1, .int .i64 0, .slice (some ⟨g0, 0, none⟩) 1 1], rfl, k24_mk (ls := [⟨1, 5⟩]) (by simp) (C28_one h0), fun i u hu => ?_⟩
    rw [add_plain, Nat.zero_mul, Nat.zero_add, blk_cell h i]
    rcases i with _ | _ | _ | _ | i <;> first | exact hu | simp at hu
  · obtain rfl : one1 = q := by simpa using hj
    refine ⟨[.int .i64 1, .int .i64 1, .int .i64 0, .slice (some ⟨g1, 0, none⟩) 1 1], rfl, k24_mk (ls := [⟨0, 6⟩]) (by simp) (C28_one h1), fun i u hu => ?_⟩
    rw [add_plain, blk_cell h]
    rcases i with _ | _ | _ | _ | i <;> first | exact hu | simp at hu
  · simp at hj
theorem one_ok0 : Chk one0 = 0 := chk_of_valid ⟨by decide, by decide, by decide, by decide, by decide, by decide, by decide, by decide, by decide⟩
theorem one_ok1 : Chk one1 = 0 := chk_of_valid ⟨by decide, by decide, by decide, by decide, by decide, by decide, by decide, by decide, by decide⟩
theorem one_db : dbOf [one0, one1] = setDb (setDb noDb 0 one0) 1 one1 := by
  have e0 : put noDb one0 = setDb noDb 0 one0 := if_pos ⟨one_ok0, fun h => nomatch h⟩
  have e1 : put (setDb noDb 0 one0) one1 = setDb (setDb noDb 0 one0) 1 one1 := if_pos ⟨one_ok1, fun h => nomatch h⟩
  unfold dbOf
  rw [List.foldl_cons, e0, List.foldl_cons, e1, List.foldl_nil]
theorem one_two : (edgesOf (dbOf [one0, one1]) 16).length = 2 := by
  rw [one_db]
  kernel_rfl

end Go.Proofs.Ytaneaabmgnanbaa.M
