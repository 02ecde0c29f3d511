/- Own lemmas: the reader. -/
import Derived.Test.YtaaohfhcimndmaaMpathE
namespace Go.Proofs.Ytaaohfhcimndmaa.M
open Go.RowKit Go.Proofs.YtaaohfhcimndmaaW.PrintWords Go.Proofs.YtaaohfhcimndmaaW.PrintLast Go.Proofs.YtaaohfhcimndmaaW.PrintMore Go.Proofs.Ytaaohfhcimndmaa.PPathBack
set_option linter.unusedVariables false
set_option linter.unusedSimpArgs false

def Byte (c : Int) : Prop := 0 ≤ c ∧ c ≤ 255
theorem wraps_i64 (n : Int) (h₀ : 0 ≤ n) (h₁ : n < 2 ^ 62) : IntKind.i64.wrap n = n := by rw [IntKind.wrap_i64]; omega
theorem or8 {x y : Int} (hx₀ : 0 ≤ x) (hx : x % 256 = 0) (hx₁ : x < 4611686018427387904) (h₀ : 0 ≤ y) (h₁ : y < 256) : bits .or .i64 x y = x + y :=
  bits_join .i64 62 (by decide) wraps_i64 8 x y hx₀ hx hx₁ h₀ h₁ (by omega)
theorem wbt (s : ByteArray) (i : Int) : wrap64 (bt s i) = bt s i := by
  have := bt_range s i
  exact wrap_in _ (by omega) (by omega)
theorem step8 {x y : Int} (hx₀ : 0 ≤ x) (hx₁ : x < 100000000) (h₀ : 0 ≤ y) (h₁ : y ≤ 255) : Go.bits .or .i64 (wrap64 (x * 256)) y = x * 256 + y := by
  rw [wrap_in _ (by omega) (by omega), or8 (by omega) (by omega) (by omega) h₀ (by omega)]
theorem bt_str (l : List Int) (h : ∀ c ∈ l, Byte c) (i : Nat) (hi : i < l.length) : bt (strOfNums l) (i : Int) = l[i] := by
  unfold bt
  have hs : (i : Int).toNat < (strOfNums l).size := by rw [strOfNums_size]; omega
  rw [dif_pos hs]
  have hb := h l[i] (List.getElem_mem hi)
  unfold Byte at hb
  have e : (strOfNums l)[(i : Int).toNat]'hs = UInt8.ofNat (l[i]).toNat := by
    show (strOfNums l).data[(i : Int).toNat]'_ = _
    simp [strOfNums]
  rw [e]
  simp only [UInt8.toNat_ofNat']
  omega
theorem str_drop (l : List Int) (q : Nat) : (strOfNums l).extract q (strOfNums l).size = strOfNums (l.drop q) := by
  apply ByteArray.ext
  rw [ByteArray.data_extract, strOfNums_size]
  simp [strOfNums, List.map_drop]
  rw [List.take_of_length_le (by simp)]
/-- Every string is its bytes. -/
theorem str_bytes (s : ByteArray) : strOfNums (bytesOf s) = s := by
  apply ByteArray.ext
  unfold strOfNums bytesOf
  simp only [List.map_map]
  have : (fun n : Int => UInt8.ofNat n.toNat) ∘ (fun b : UInt8 => (b.toNat : Int)) = id := by
    funext b; simp
  rw [this]
  simp
theorem bytes_byte (s : ByteArray) : ∀ c ∈ bytesOf s, Byte c := by
  intro c hc
  unfold bytesOf at hc
  obtain ⟨b, _, rfl⟩ := List.mem_map.1 hc
  have := b.toNat_lt
  unfold Byte
  omega
def g (l : List Int) (i : Nat) : Int := l.getD i 0
theorem g_at {l : List Int} {i : Nat} (h : i < l.length) : g l i = l[i] := by simp [g, List.getD_eq_getElem?_getD, h]
theorem g_byte {l : List Int} (hb : ∀ c ∈ l, Byte c) (i : Nat) : 0 ≤ g l i ∧ g l i ≤ 255 := by
  by_cases h : i < l.length
  · rw [g_at h]; exact hb _ (List.getElem_mem h)
  · unfold g
    rw [List.getD_eq_getElem?_getD, List.getElem?_eq_none (by omega)]
    decide
theorem bt_g (l : List Int) (h : ∀ c ∈ l, Byte c) (i : Nat) (hi : i < l.length) : bt (strOfNums l) (i : Int) = g l i := by rw [bt_str l h i hi, g_at hi]

/-- What num answers. -/
def num (v : List Int → Int) (n : Nat) (l : List Int) (b : Bool) : Int × List Int × Bool := if l.length < n then (0, [], true) else (v l, l.drop n, b)
def u1 (l : List Int) : Int := g l 0
def u2 (l : List Int) : Int := g l 0 * 256 + g l 1
def u4 (l : List Int) : Int := ((g l 0 * 256 + g l 1) * 256 + g l 2) * 256 + g l 3
def out (r : Int × List Int × Bool) : Option (Int × ByteArray × Bool) := some (r.1, strOfNums r.2.1, r.2.2)
theorem num_short {l : List Int} {b : Bool} {n : Nat} {v : List Int → Int} (k : Nat) (h : l.length < n) : path_reader_num.f k (strOfNums l) b (n : Int) = out (num v n l b) := by
  unfold path_reader_num.f num
  rw [if_pos (by rw [strOfNums_size]; omega), if_pos h]
  rfl
theorem w1 (i : Nat) (h : i < 100) : wrap64 ((i : Int) + 1) = ((i + 1 : Nat) : Int) := by rw [wrap_in _ (by omega) (by omega)]; omega
/-- One round of num. -/
theorem num_round (k : Nat) (l : List Int) (hb : ∀ c ∈ l, Byte c) (b : Bool) (n i : Nat) (x : Int) (hi : i < n) (hn : n ≤ l.length) (hs : n ≤ 4) (hx0 : 0 ≤ x) (hx1 : x < 100000000) :
    path_reader_num.l0 (k + 1) (n : Int) x (n : Int) (i : Int) (strOfNums l) b = path_reader_num.l0 k (n : Int) (x * 256 + g l i) (n : Int) ((i + 1 : Nat) : Int) (strOfNums l) b := by
  have r := g_byte hb i
  simp only [path_reader_num.l0]
  rw [if_pos (by omega), if_pos (by omega), if_pos (by rw [strOfNums_size]; omega), wbt, bt_g l hb i (by omega), step8 hx0 hx1 r.1 r.2, w1 i (by omega)]
theorem num_last (k : Nat) (l : List Int) (b : Bool) (n : Nat) (x : Int) (hn : n ≤ l.length) : path_reader_num.l0 (k + 1) (n : Int) x (n : Int) (n : Int) (strOfNums l) b = some (x, strOfNums (l.drop n), b) := by
  simp only [path_reader_num.l0]
  rw [if_neg (by omega), if_pos (by omega), if_pos (by rw [strOfNums_size]; omega), Int.toNat_natCast, str_drop]
theorem num1 (l : List Int) (hb : ∀ c ∈ l, Byte c) (b : Bool) : path_reader_num.f 5 (strOfNums l) b 1 = out (num u1 1 l b) := by
  by_cases h : l.length < 1
  · exact num_short (n := 1) 5 h
  · have r := g_byte hb 0
    unfold path_reader_num.f num
    rw [if_neg (by rw [strOfNums_size]; omega), if_neg h]
    have e := num_round 4 l hb b 1 0 0 (by omega) (by omega) (by omega) (by omega) (by omega)
    have e2 := num_last 3 l b 1 (0 * 256 + g l 0) (by omega)
    refine (e.trans e2).trans ?_
    unfold out u1
    simp
theorem num2 (l : List Int) (hb : ∀ c ∈ l, Byte c) (b : Bool) : path_reader_num.f 5 (strOfNums l) b 2 = out (num u2 2 l b) := by
  by_cases h : l.length < 2
  · exact num_short (n := 2) 5 h
  · have r := g_byte hb 0
    have r1 := g_byte hb 1
    unfold path_reader_num.f num
    rw [if_neg (by rw [strOfNums_size]; omega), if_neg h]
    have e := num_round 4 l hb b 2 0 0 (by omega) (by omega) (by omega) (by omega) (by omega)
    have e1 := num_round 3 l hb b 2 1 (0 * 256 + g l 0) (by omega) (by omega) (by omega) (by omega) (by omega)
    have e2 := num_last 2 l b 2 ((0 * 256 + g l 0) * 256 + g l 1) (by omega)
    refine ((e.trans e1).trans e2).trans ?_
    unfold out u2
    simp
theorem num4 (l : List Int) (hb : ∀ c ∈ l, Byte c) (b : Bool) : path_reader_num.f 5 (strOfNums l) b 4 = out (num u4 4 l b) := by
  by_cases h : l.length < 4
  · exact num_short (n := 4) 5 h
  · have r := g_byte hb 0
    have r1 := g_byte hb 1
    have r2 := g_byte hb 2
    have r3 := g_byte hb 3
    unfold path_reader_num.f num
    rw [if_neg (by rw [strOfNums_size]; omega), if_neg h]
    have e := num_round 4 l hb b 4 0 0 (by omega) (by omega) (by omega) (by omega) (by omega)
    have e1 := num_round 3 l hb b 4 1 (0 * 256 + g l 0) (by omega) (by omega) (by omega) (by omega) (by omega)
    have e2 := num_round 2 l hb b 4 2 ((0 * 256 + g l 0) * 256 + g l 1) (by omega) (by omega) (by omega) (by omega) (by omega)
    have e3 := num_round 1 l hb b 4 3 (((0 * 256 + g l 0) * 256 + g l 1) * 256 + g l 2) (by omega) (by omega) (by omega) (by omega) (by omega)
    have e4 := num_last 0 l b 4 ((((0 * 256 + g l 0) * 256 + g l 1) * 256 + g l 2) * 256 + g l 3) (by omega)
    refine ((((e.trans e1).trans e2).trans e3).trans e4).trans ?_
    unfold out u4
    simp

/-- What list's loop answers. -/
def rdL : Nat → List Int → Bool → List Int → List Int × List Int × Bool
  | 0, l, b, acc => (acc, l, b)
  | n + 1, l, b, acc => if b = true then (acc, l, b) else rdL n (num u2 2 l b).2.1 (num u2 2 l b).2.2 (acc ++ [(num u2 2 l b).1])
def outL (r : List Int × List Int × Bool) : Option (List Int × ByteArray × Bool) := some (r.1, strOfNums r.2.1, r.2.2)
theorem num_bytes {v : List Int → Int} {n : Nat} {l : List Int} {b : Bool} (hb : ∀ c ∈ l, Byte c) : ∀ c ∈ (num v n l b).2.1, Byte c := by
  intro c hc
  unfold num at hc
  split at hc
  · cases hc
  · exact hb c (List.mem_of_mem_drop hc)
theorem list_l0 : ∀ (n : Nat) (l : List Int) (b : Bool) (acc : List Int), (∀ c ∈ l, Byte c) → acc.length + n ≤ 1000 → ∃ k, path_reader_list.l0 k acc (n : Int) (strOfNums l) b = outL (rdL n l b acc)
  | 0, l, b, acc, _, _ => ⟨1, by simp only [path_reader_list.l0]; rw [if_neg (by omega)]; rfl⟩
  | n + 1, l, b, acc, hb, ha => by
    cases b with
    | true => exact ⟨1, by simp only [path_reader_list.l0]; rw [if_pos (by omega)]; simp [outL, rdL]⟩
    | false =>
      obtain ⟨k, hk⟩ := list_l0 n (num u2 2 l false).2.1 (num u2 2 l false).2.2 (acc ++ [(num u2 2 l false).1]) (num_bytes hb) (by rw [List.length_append]; simp; omega)
      obtain ⟨K, hK⟩ : ∃ K, K = k + 5 := ⟨_, rfl⟩
      refine ⟨K + 1, ?_⟩
      simp only [path_reader_list.l0]
      rw [if_pos (by omega), if_neg (by simp), up (fun k => path_reader_num.mono _ _ _ k) (num2 l hb false) (by omega)]
      simp only [Option.bind_some]
      rw [if_pos (by omega), show wrap64 (((n + 1 : Nat) : Int) - 1) = (n : Int) by rw [wrap_in _ (by omega) (by omega)]; omega]
      have hk' := at_rounds (g := fun k => path_reader_list.l0 k (acc ++ [(num u2 2 l false).1]) (n : Int) (strOfNums (num u2 2 l false).2.1) (num u2 2 l false).2.2) (fun k => (path_reader_list.mono_l k) _ _ _ _) (show k ≤ K by omega) hk
      exact hk'
def rlist (l : List Int) (b : Bool) : List Int × List Int × Bool := rdL (num u1 1 l b).1.toNat (num u1 1 l b).2.1 (num u1 1 l b).2.2 []
theorem u1_range {l : List Int} (hb : ∀ c ∈ l, Byte c) (b : Bool) : 0 ≤ (num u1 1 l b).1 ∧ (num u1 1 l b).1 ≤ 255 := by
  unfold num
  split
  · decide
  · exact g_byte hb 0
theorem list_ends (l : List Int) (hb : ∀ c ∈ l, Byte c) (b : Bool) : ∃ k, path_reader_list.f k (strOfNums l) b = outL (rlist l b) := by
  have r := u1_range hb b
  obtain ⟨k, hk⟩ := list_l0 (num u1 1 l b).1.toNat (num u1 1 l b).2.1 (num u1 1 l b).2.2 [] (num_bytes hb) (by simp; omega)
  refine ⟨k + 5, ?_⟩
  unfold path_reader_list.f
  rw [up (fun k => path_reader_num.mono _ _ _ k) (num1 l hb b) (by omega)]
  simp only [Option.bind_some]
  rw [show (((num u1 1 l b).1.toNat : Nat) : Int) = (num u1 1 l b).1 by omega] at hk
  exact at_rounds (g := fun k => path_reader_list.l0 k [] (num u1 1 l b).1 (strOfNums (num u1 1 l b).2.1) (num u1 1 l b).2.2) (fun k => (path_reader_list.mono_l k) _ _ _ _) (show k ≤ k + 5 by omega) hk
theorem rdL_bytes : ∀ (n : Nat) (l : List Int) (b : Bool) (acc : List Int), (∀ c ∈ l, Byte c) → ∀ c ∈ (rdL n l b acc).2.1, Byte c
  | 0, l, b, acc, hb => hb
  | n + 1, l, b, acc, hb => by
    unfold rdL
    split
    · exact hb
    · exact rdL_bytes n _ _ _ (num_bytes hb)
theorem rlist_bytes {l : List Int} {b : Bool} (hb : ∀ c ∈ l, Byte c) : ∀ c ∈ (rlist l b).2.1, Byte c := rdL_bytes _ _ _ _ (num_bytes hb)

/-! what a reading that is not short has read -/
theorem num_inv {v : List Int → Int} {n : Nat} {l : List Int} {b : Bool} (h : (num v n l b).2.2 = false) : b = false ∧ n ≤ l.length ∧ num v n l b = (v l, l.drop n, false) := by
  unfold num at h ⊢
  split at h
  · cases h
  · rename_i hn
    have h : b = false := h
    subst h
    rw [if_neg hn]
    exact ⟨rfl, by omega, rfl⟩
theorem split2 {l : List Int} (hb : ∀ c ∈ l, Byte c) (h : 2 ≤ l.length) : l = pb2 (u2 l) ++ l.drop 2 ∧ 0 ≤ u2 l ∧ u2 l ≤ 65535 := by
  have r0 := g_byte hb 0
  have r1 := g_byte hb 1
  match l, h with
  | a :: c :: l, _ =>
    have e0 : g (a :: c :: l) 0 = a := rfl
    have e1 : g (a :: c :: l) 1 = c := rfl
    rw [e0] at r0
    rw [e1] at r1
    unfold u2
    rw [e0, e1]
    refine ⟨?_, by omega, by omega⟩
    unfold pb2
    rw [show (a * 256 + c) / 256 % 256 = a by omega, show (a * 256 + c) % 256 = c by omega]
    rfl
theorem split4 {l : List Int} (hb : ∀ c ∈ l, Byte c) (h : 4 ≤ l.length) : l = pb4 (u4 l) ++ l.drop 4 ∧ 0 ≤ u4 l ∧ u4 l ≤ 4294967295 := by
  have r0 := g_byte hb 0
  have r1 := g_byte hb 1
  have r2 := g_byte hb 2
  have r3 := g_byte hb 3
  match l, h with
  | a :: c :: d :: e :: l, _ =>
    have e0 : g (a :: c :: d :: e :: l) 0 = a := rfl
    have e1 : g (a :: c :: d :: e :: l) 1 = c := rfl
    have e2 : g (a :: c :: d :: e :: l) 2 = d := rfl
    have e3 : g (a :: c :: d :: e :: l) 3 = e := rfl
    rw [e0] at r0
    rw [e1] at r1
    rw [e2] at r2
    rw [e3] at r3
    unfold u4
    rw [e0, e1, e2, e3]
    refine ⟨?_, by omega, by omega⟩
    unfold pb4
    rw [show (((a * 256 + c) * 256 + d) * 256 + e) / 16777216 % 256 = a by omega, show (((a * 256 + c) * 256 + d) * 256 + e) / 65536 % 256 = c by omega, show (((a * 256 + c) * 256 + d) * 256 + e) / 256 % 256 = d by omega, show (((a * 256 + c) * 256 + d) * 256 + e) % 256 = e by omega]
    rfl
theorem rdL_inv : ∀ (n : Nat) (l : List Int) (b : Bool) (acc : List Int), (∀ c ∈ l, Byte c) → (rdL n l b acc).2.2 = false →
    b = false ∧ ∃ xs, (rdL n l b acc).1 = acc ++ xs ∧ xs.length = n ∧ l = xs.flatMap pb2 ++ (rdL n l b acc).2.1
  | 0, l, b, acc, hb, h => ⟨h, [], by simp [rdL]⟩
  | n + 1, l, b, acc, hb, h => by
    unfold rdL at h ⊢
    cases b with
    | true => rw [if_pos rfl] at h; cases h
    | false =>
      rw [if_neg (by simp)] at h ⊢
      obtain ⟨h1, xs, h2, h3, h4⟩ := rdL_inv n _ _ _ (num_bytes hb) h
      obtain ⟨_, hl, he⟩ := num_inv h1
      rw [he] at h2 h4 ⊢
      refine ⟨rfl, u2 l :: xs, by rw [h2]; simp, by simp [h3], ?_⟩
      rw [List.flatMap_cons, List.append_assoc]
      conv => lhs; rw [(split2 hb hl).1]
      congr 1
theorem rlist_inv {l : List Int} {b : Bool} (hb : ∀ c ∈ l, Byte c) (h : (rlist l b).2.2 = false) : b = false ∧ (rlist l b).1.length ≤ 255 ∧ l = [((rlist l b).1.length : Int)] ++ (rlist l b).1.flatMap pb2 ++ (rlist l b).2.1 := by
  have r := u1_range hb b
  unfold rlist at h ⊢
  obtain ⟨h1, xs, h2, h3, h4⟩ := rdL_inv _ _ _ _ (num_bytes hb) h
  obtain ⟨hbb, hl, he⟩ := num_inv h1
  rw [he] at r h2 h3 h4 ⊢
  refine ⟨hbb, by rw [h2]; simp [h3]; omega, ?_⟩
  rw [h2, List.nil_append, h3, List.append_assoc, ← h4]
  have e : ((u1 l).toNat : Int) = u1 l := by have := r.1; simp at this; omega
  rw [e]
  match l, hl with
  | a :: l, _ => rfl

end Go.Proofs.Ytaaohfhcimndmaa.M
