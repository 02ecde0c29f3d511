/- Own lemmas: put. -/
import Derived.Test.YtaaohfhcimndmaaMpathB
namespace Go.Proofs.Ytaaohfhcimndmaa.M
open Go.RowKit Go.Proofs.YtaaohfhcimndmaaW.PrintWords Go.Proofs.YtaaohfhcimndmaaW.PrintLast Go.Proofs.YtaaohfhcimndmaaW.PrintMore Go.Proofs.Ytaaohfhcimndmaa.PPathBack
set_option linter.unusedVariables false
set_option linter.unusedSimpArgs false

def pb4 (n : Int) : List Int := [n / 16777216 % 256, n / 65536 % 256, n / 256 % 256, n % 256]
def pb2 (n : Int) : List Int := [n / 256 % 256, n % 256]
theorem put4 (l : List Int) (n : Int) (hl : l.length < 100000) : path_put.f 6 l n 4 = some (l ++ pb4 n) := by
  have e : ∀ j : Nat, shr .i64 n ((8 * j : Nat) : Int) = n / 2 ^ (min (8 * j) 64) := fun j => by unfold shr; rw [show ((8 * j : Nat) : Int).toNat = 8 * j by omega]; rfl
  unfold path_put.f
  have w3 : wrap64 (4 - 1) = 3 := by unfold wrap64; omega
  rw [w3]
  simp only [path_put.l0]
  have q3 : wrap64 (8 * 3) = 24 := by unfold wrap64; omega
  have q2 : wrap64 (8 * 2) = 16 := by unfold wrap64; omega
  have q1 : wrap64 (8 * 1) = 8 := by unfold wrap64; omega
  have q0 : wrap64 (8 * 0) = 0 := by unfold wrap64; omega
  have v3 : wrap64 (3 - 1) = 2 := by unfold wrap64; omega
  have v2 : wrap64 (2 - 1) = 1 := by unfold wrap64; omega
  have v1 : wrap64 (1 - 1) = 0 := by unfold wrap64; omega
  have v0 : wrap64 (0 - 1) = -1 := by unfold wrap64; omega
  have s24 : shr .i64 n 24 = n / 16777216 := e 3
  have s16 : shr .i64 n 16 = n / 65536 := e 2
  have s8 : shr .i64 n 8 = n / 256 := e 1
  have s0 : shr .i64 n 0 = n := by have := e 0; simpa using this
  rw [if_pos (by omega), q3, if_pos (by omega), if_pos (by omega), v3, if_pos (by omega), q2, if_pos (by omega), if_pos (by simp; omega), v2, if_pos (by omega), q1, if_pos (by omega), if_pos (by simp; omega), v1, if_pos (by omega), q0, if_pos (by omega), if_pos (by simp; omega), v0, if_neg (by omega), s24, s16, s8, s0]
  simp [pb4]
theorem put2 (l : List Int) (n : Int) (hl : l.length < 100000) : path_put.f 6 l n 2 = some (l ++ pb2 n) := by
  have e : ∀ j : Nat, shr .i64 n ((8 * j : Nat) : Int) = n / 2 ^ (min (8 * j) 64) := fun j => by unfold shr; rw [show ((8 * j : Nat) : Int).toNat = 8 * j by omega]; rfl
  unfold path_put.f
  have w3 : wrap64 (2 - 1) = 1 := by unfold wrap64; omega
  rw [w3]
  simp only [path_put.l0]
  have q1 : wrap64 (8 * 1) = 8 := by unfold wrap64; omega
  have q0 : wrap64 (8 * 0) = 0 := by unfold wrap64; omega
  have v1 : wrap64 (1 - 1) = 0 := by unfold wrap64; omega
  have v0 : wrap64 (0 - 1) = -1 := by unfold wrap64; omega
  have s8 : shr .i64 n 8 = n / 256 := e 1
  have s0 : shr .i64 n 0 = n := by have := e 0; simpa using this
  rw [if_pos (by omega), q1, if_pos (by omega), if_pos (by omega), v1, if_pos (by omega), q0, if_pos (by omega), if_pos (by simp; omega), v0, if_neg (by omega), s8, s0]
  simp [pb2]

/-- The call of put with a row of one's own; block g is kept. -/
theorem put4_any (g : Nat) (u : Value) (l : List Int) (n : Int) (w0 w : World) (hl : l.length < 100000) (hg : g < w.heap.size) (hB : Hid (Below w0.heap.size w0 w)) (hR : Hid (Kd.R (Kd.int .u8) 5 w w0.heap.size (fun k => k ≠ g) u l)) :
    Calls Try.prog 33 #[u, .int .i64 n, .int .i64 4] w fun e w' => ∃ v : Value, e = .returned v ∧ Kd.R (Kd.int .u8) 5 w' w0.heap.size (fun k => k ≠ g) v (l ++ pb4 n) ∧ Below w0.heap.size w0 w' ∧ w'.heap[g]? = w.heap[g]? ∧ w.heap.size ≤ w'.heap.size := by
  refine (path_put.calls 6 (fun k => k ≠ g) u l n 4 _ w0 w hB.out hR.out (put4 l n hl)).mono ?_
  rintro e w' ⟨v, rfl, h1, h2, h3⟩
  exact ⟨v, rfl, Kd.R_mono h1 (fun k hk => by rcases hk with hk | hk; exact hk; omega), h2, h3.2 g hg (by simp), h3.1⟩
theorem put2_any (g : Nat) (u : Value) (l : List Int) (n : Int) (w0 w : World) (hl : l.length < 100000) (hg : g < w.heap.size) (hB : Hid (Below w0.heap.size w0 w)) (hR : Hid (Kd.R (Kd.int .u8) 5 w w0.heap.size (fun k => k ≠ g) u l)) :
    Calls Try.prog 33 #[u, .int .i64 n, .int .i64 2] w fun e w' => ∃ v : Value, e = .returned v ∧ Kd.R (Kd.int .u8) 5 w' w0.heap.size (fun k => k ≠ g) v (l ++ pb2 n) ∧ Below w0.heap.size w0 w' ∧ w'.heap[g]? = w.heap[g]? ∧ w.heap.size ≤ w'.heap.size := by
  refine (path_put.calls 6 (fun k => k ≠ g) u l n 2 _ w0 w hB.out hR.out (put2 l n hl)).mono ?_
  rintro e w' ⟨v, rfl, h1, h2, h3⟩
  exact ⟨v, rfl, Kd.R_mono h1 (fun k hk => by rcases hk with hk | hk; exact hk; omega), h2, h3.2 g hg (by simp), h3.1⟩
/-- A literal of one byte is a row of one's own. -/
theorem lit_R (W : World) (base g : Nat) (y : Int) (hb : base ≤ W.heap.size) (hg : g < W.heap.size) : Kd.R (Kd.int .u8) 5 (W.alloc (.cells #[.int .u8 y] 5)) base (fun k => k ≠ g) (.slice (some ⟨W.heap.size, 0, none⟩) 1 1) [y] := by
  have h := own_lit W base 5 .u8 [y] hb (by simp)
  refine Kd.R_of_own (enc := Value.int .u8) ?_ ?_
  · simpa [nums, encs] using h
  · intro k hk
    have : W.heap.size = k := by simpa [Value.ownBlock] using hk
    omega

end Go.Proofs.Ytaaohfhcimndmaa.M
