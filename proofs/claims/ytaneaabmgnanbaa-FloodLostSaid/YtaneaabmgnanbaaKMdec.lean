import Derived.Test.YtaneaabmgnanbaaKMpure
namespace Go.Proofs.Ytaneaabmgnanbaa.M
open Go.RowKit Go.Proofs.YtaneaabmgnanbaaW.PrintWords Go.Proofs.Ytaneaabmgnanbaa.PAdvBack
set_option linter.unusedVariables false
set_option linter.unusedSimpArgs false
theorem wraps_i64 (n : Int) (h₀ : 0 ≤ n) (h₁ : n < 2 ^ 62) : IntKind.i64.wrap n = n := by rw [IntKind.wrap_i64]; omega
theorem or8 {x y : Int} (hx₀ : 0 ≤ x) (hx : x % 256 = 0) (hx₁ : x < 4611686018427387904) (h₀ : 0 ≤ y) (h₁ : y < 256) : bits .or .i64 x y = x + y :=
 bits_join .i64 62 (by decide) wraps_i64 8 x y hx₀ hx hx₁ h₀ h₁ (by omega)
theorem or16 {x y : Int} (hx₀ : 0 ≤ x) (hx : x % 65536 = 0) (hx₁ : x < 4611686018427387904) (h₀ : 0 ≤ y) (h₁ : y < 65536) : bits .or .i64 x y = x + y :=
 bits_join .i64 62 (by decide) wraps_i64 16 x y hx₀ hx hx₁ h₀ h₁ (by omega)
theorem or24 {x y : Int} (hx₀ : 0 ≤ x) (hx : x % 16777216 = 0) (hx₁ : x < 4611686018427387904) (h₀ : 0 ≤ y) (h₁ : y < 16777216) : bits .or .i64 x y = x + y :=
 bits_join .i64 62 (by decide) wraps_i64 24 x y hx₀ hx hx₁ h₀ h₁ (by omega)
theorem wbt (s : ByteArray) (i : Int) : wrap64 (bt s i) = bt s i := by
 have := bt_range s i
 exact wrap_in _ (by omega) (by omega)
def lkAt (s : ByteArray) (i : Nat) : S28 := ⟨bt s (i : Int), bt s ((i : Int) + 1) * 256 + bt s ((i : Int) + 2)⟩
def lksFrom (s : ByteArray) : Nat → Nat → List S28
 | _, 0 => []
 | i, n + 1 => lkAt s i :: lksFrom s (i + 3) n
def decEnd (s : ByteArray) (id seq age : Int) (ls : List S28) : Int × Int × Int × List S28 × Int :=
 if bt s ((s.size : Int) - 2) = (sums id seq ls).1 ∧ bt s ((s.size : Int) - 1) = (sums id seq ls).2 then
  (if chk id seq age ls = 0 then (id, seq, age, ls, 0) else (0, 0, 0, [], chk id seq age ls))
 else (0, 0, 0, [], 8)
theorem j1_false (k : Nat) (id seq age : Int) (ls : List S28) (h : adv_Check.f k id seq age ls = some (chk id seq age ls)) :
 adv_Decode.j1 (k + 1) false id seq age ls = some (if chk id seq age ls = 0 then (id, seq, age, ls, 0) else (0, 0, 0, [], chk id seq age ls)) := by
 simp only [adv_Decode.j1]
 rw [if_neg (by simp), h]
 simp only [Option.bind_some]
 split <;> rfl
theorem j1_true (k : Nat) (id seq age : Int) (ls : List S28) : adv_Decode.j1 (k + 1) true id seq age ls = some (0, 0, 0, [], 8) := by
 simp only [adv_Decode.j1]
 simp
theorem dec_l0 (s : ByteArray) (id seq age : Int) (hs : s.size < 100000) : ∀ d i acc, i + 3 * d + 2 = s.size → acc.length + d ≤ 10000 → ∃ k, adv_Decode.l0 k s (i : Int) id seq age acc = some (decEnd s id seq age (acc ++ lksFrom s i d))
 | 0, i, acc, h, ha => by
  obtain ⟨k1, h1, h2⟩ := sum_bytes_ends id seq age acc (by omega)
  obtain ⟨k3, h3⟩ := Check_ends id seq age acc
  refine ⟨k1 + k3 + 1 + 1, ?_⟩
  have hw2 : wrap64 ((s.size : Int) - 2) = (s.size : Int) - 2 := wrap_in _ (by omega) (by omega)
  have hw1 : wrap64 ((s.size : Int) - 1) = (s.size : Int) - 1 := wrap_in _ (by omega) (by omega)
  have e0 : acc ++ lksFrom s i 0 = acc := by simp [lksFrom]
  rw [e0]
  unfold decEnd
  simp only [adv_Decode.l0]
  rw [hw2, if_neg (by omega), up (fun k => adv_bytes.mono _ _ _ _ _ k) h1 (by omega)]
  simp only [Option.bind_some]
  rw [up (fun k => adv_sum.mono _ k) h2 (by omega)]
  simp only [Option.bind_some]
  rw [if_pos (by omega), if_pos (by omega), wbt]
  by_cases c1 : bt s ((s.size : Int) - 2) = (sums id seq acc).1
  · rw [if_pos c1, hw1, if_pos (by omega), if_pos (by omega), wbt]
    by_cases c2 : bt s ((s.size : Int) - 1) = (sums id seq acc).2
    · rw [if_pos ⟨c1, c2⟩, show (bt s ((s.size : Int) - 1) != (sums id seq acc).2) = false from bne_eq_false_iff_eq.mpr c2]
      exact j1_false _ _ _ _ _ (up (fun k => adv_Check.mono _ _ _ _ k) h3 (by omega))
    · rw [if_neg (fun h => c2 h.2), show (bt s ((s.size : Int) - 1) != (sums id seq acc).2) = true from bne_iff_ne.mpr c2]
      exact j1_true _ _ _ _ _
  · rw [if_neg c1, if_neg (fun h => c1 h.1)]
    exact j1_true _ _ _ _ _
 | d + 1, i, acc, h, ha => by
  obtain ⟨k, hk⟩ := dec_l0 s id seq age hs d (i + 3) (acc ++ [lkAt s i]) (by omega) (by rw [List.length_append]; simp; omega)
  refine ⟨k + 1, ?_⟩
  have hw2 : wrap64 ((s.size : Int) - 2) = (s.size : Int) - 2 := wrap_in _ (by omega) (by omega)
  have w1 : wrap64 ((i : Int) + 1) = (i : Int) + 1 := wrap_in _ (by omega) (by omega)
  have w2 : wrap64 ((i : Int) + 2) = (i : Int) + 2 := wrap_in _ (by omega) (by omega)
  have w3 : wrap64 ((i : Int) + 3) = ((i + 3 : Nat) : Int) := by rw [wrap_in _ (by omega) (by omega)]; omega
  have r1 := bt_range s ((i : Int) + 1)
  have r2 := bt_range s ((i : Int) + 2)
  simp only [adv_Decode.l0]
  rw [hw2, if_pos (by omega), if_pos (by omega), if_pos (by omega), w1, if_pos (by omega), if_pos (by omega), w2, if_pos (by omega), if_pos (by omega), if_pos (by omega), w3, wbt, wbt, wbt]
  rw [wrap_in (bt s ((i : Int) + 1) * 256) (by omega) (by omega), or8 (by omega) (by omega) (by omega) (by omega) (by omega)]
  refine hk.trans ?_
  rw [lksFrom, List.append_assoc]
  rfl
def decSeq (s : ByteArray) : Int := bt s 1 * 16777216 + bt s 2 * 65536 + bt s 3 * 256 + bt s 4
def decAge (s : ByteArray) : Int := bt s 5 * 256 + bt s 6
def dec (s : ByteArray) : Int × Int × Int × List S28 × Int :=
 if (s.size : Int) < 10 then (0, 0, 0, [], 9) else if (s.size : Int) < 10 + 3 * bt s 7 then (0, 0, 0, [], 9) else if (s.size : Int) > 10 + 3 * bt s 7 then (0, 0, 0, [], 3)
 else decEnd s (bt s 0) (decSeq s) (decAge s) (lksFrom s 8 (bt s 7).toNat)
theorem Decode_ends (s : ByteArray) : ∃ k, adv_Decode.f k s = some (dec s) := by
 have r0 := bt_range s 0; have r1 := bt_range s 1; have r2 := bt_range s 2; have r3 := bt_range s 3; have r4 := bt_range s 4; have r5 := bt_range s 5; have r6 := bt_range s 6; have r7 := bt_range s 7
 have hw : wrap64 (10 + wrap64 (3 * wrap64 (bt s 7))) = 10 + 3 * bt s 7 := by
  rw [wbt, wrap_in (3 * bt s 7) (by omega) (by omega), wrap_in _ (by omega) (by omega)]
 unfold adv_Decode.f dec
 by_cases h1 : (s.size : Int) < 10
 · exact ⟨0, by rw [if_pos h1, if_pos h1]⟩
 by_cases h2 : (s.size : Int) < 10 + 3 * bt s 7
 · exact ⟨0, by rw [if_neg h1, if_pos (by omega), hw, if_pos h2, if_neg h1, if_pos h2]⟩
 by_cases h3 : (s.size : Int) > 10 + 3 * bt s 7
 · exact ⟨0, by rw [if_neg h1, if_pos (by omega), hw, if_neg h2, if_pos h3, if_neg h1, if_neg h2, if_pos h3]⟩
 obtain ⟨k, hk⟩ := dec_l0 s (bt s 0) (decSeq s) (decAge s) (by omega) (bt s 7).toNat 8 [] (by omega) (by simp; omega)
 refine ⟨k, ?_⟩
 rw [if_neg h1, if_pos (by omega), hw, if_neg h2, if_neg h3, if_pos (by omega), if_pos (by omega), if_pos (by omega), if_pos (by omega), if_pos (by omega), if_pos (by omega), if_pos (by omega), if_neg h1, if_neg h2, if_neg h3]
 simp only [wbt]
 rw [wrap_in (bt s 1 * 16777216) (by omega) (by omega), wrap_in (bt s 2 * 65536) (by omega) (by omega), wrap_in (bt s 3 * 256) (by omega) (by omega), wrap_in (bt s 5 * 256) (by omega) (by omega)]
 rw [or8 (x := bt s 5 * 256) (by omega) (by omega) (by omega) (by omega) (by omega)]
 rw [or24 (x := bt s 1 * 16777216) (by omega) (by omega) (by omega) (by omega) (by omega), or16 (x := bt s 1 * 16777216 + bt s 2 * 65536) (by omega) (by omega) (by omega) (by omega) (by omega),
  or8 (x := bt s 1 * 16777216 + bt s 2 * 65536 + bt s 3 * 256) (by omega) (by omega) (by omega) (by omega) (by omega)]
 exact hk
theorem bt_str (l : List Int) (h : ∀ c ∈ l, Byte c) (i : Nat) (hi : i < l.length) : bt (strOfNums l) (i : Int) = l[i] := by
 unfold bt
 have hs : (i : Int).toNat < (strOfNums l).size := by rw [strOfNums_size]; omega
 rw [dif_pos hs]
 have hb := h l[i] (List.getElem_mem hi)
 unfold Byte at hb
 have e : (strOfNums l)[(i : Int).toNat]'hs = UInt8.ofNat (l[i]).toNat := by
  show (strOfNums l).data[(i : Int).toNat]'_ = _
  simp [strOfNums]
 rw [e]
 simp only [UInt8.toNat_ofNat']
 omega
theorem encL_length (id seq age : Int) (ls : List S28) : (encL id seq age ls).length = 10 + 3 * ls.length := by
 rw [encL, List.length_append, byts_length]; simp; omega
theorem encL_byte (id seq age : Int) (ls : List S28) : ∀ c ∈ encL id seq age ls, Byte c := by
 intro c hc
 rcases List.mem_append.1 hc with hc | hc
 · exact byts_byte _ _ _ _ c hc
 · have := sums_range id seq ls
   unfold Byte
   simp at hc
   omega
theorem flat_getElem : ∀ (ls : List S28) (j : Nat) (h : j < ls.length) (q : Nat) (hq : q < 3) (hh : 3 * j + q < (ls.flatMap lk).length), (ls.flatMap lk)[3 * j + q] = (lk ls[j])[q]'(by rw [lk_length]; exact hq)
 | x :: ls, 0, _, q, hq, hh => by
  simp only [List.flatMap_cons, Nat.mul_zero, Nat.zero_add, List.getElem_cons_zero]
  rw [List.getElem_append_left]
 | x :: ls, j + 1, h, q, hq, hh => by
  simp only [List.flatMap_cons, List.getElem_cons_succ]
  rw [List.getElem_append_right (by rw [lk_length]; omega)]
  have e := flat_getElem ls j (by simpa using h) q hq (by rw [flat_length]; have : j + 1 < (x :: ls).length := h; simp at this; omega)
  rw [← e]
  congr 1
  rw [lk_length]; omega
theorem enc_link (id seq age : Int) (ls : List S28) (j : Nat) (h : j < ls.length) (q : Nat) (hq : q < 3) (hh : 8 + 3 * j + q < (encL id seq age ls).length) :
 (encL id seq age ls)[8 + 3 * j + q] = (lk ls[j])[q]'(by rw [lk_length]; exact hq) := by
 simp only [encL, byts]
 rw [List.getElem_append_left (by rw [List.length_append, flat_length]; simp [hd]; omega), List.getElem_append_right (by simp [hd]; omega)]
 rw [← flat_getElem ls j h q hq (by rw [flat_length]; omega)]
 congr 1
 simp [hd]; omega
theorem enc_head (id seq age : Int) (ls : List S28) (q : Nat) (hq : q < 8) (hh : q < (encL id seq age ls).length) : (encL id seq age ls)[q] = (hd id seq ls.length age)[q]'(by simp [hd]; exact hq) := by
 simp only [encL, byts]
 rw [List.getElem_append_left (by rw [List.length_append, flat_length]; simp [hd]; omega), List.getElem_append_left (by simp [hd]; omega)]
theorem enc_tail (id seq age : Int) (ls : List S28) (hh : 8 + 3 * ls.length < (encL id seq age ls).length) (hh1 : 9 + 3 * ls.length < (encL id seq age ls).length) :
 (encL id seq age ls)[8 + 3 * ls.length] = (sums id seq ls).1 ∧ (encL id seq age ls)[9 + 3 * ls.length] = (sums id seq ls).2 := by
 simp only [encL]
 constructor
 · rw [List.getElem_append_right (by rw [byts_length]; omega)]
   simp [byts_length]
 · rw [List.getElem_append_right (by rw [byts_length]; omega)]
   have : 9 + 3 * ls.length - (byts id seq ls age).length = 1 := by rw [byts_length]; omega
   simp [this]
theorem lks_enc {id seq age : Int} {ls : List S28} (hp : ∀ x ∈ ls, 0 ≤ x.f0 ∧ x.f0 < 16 ∧ 1 ≤ x.f1 ∧ x.f1 ≤ 65535) :
 ∀ d j, j + d = ls.length → lksFrom (strOfNums (encL id seq age ls)) (8 + 3 * j) d = ls.drop j
 | 0, j, h => by rw [lksFrom, List.drop_of_length_le (by omega)]
 | d + 1, j, h => by
  have hj : j < ls.length := by omega
  have hl := encL_length id seq age ls
  rw [lksFrom, List.drop_eq_getElem_cons hj, show 8 + 3 * j + 3 = 8 + 3 * (j + 1) by omega, lks_enc hp d (j + 1) (by omega)]
  congr 1
  have e0 := bt_str _ (encL_byte id seq age ls) (8 + 3 * j + 0) (by omega)
  have e1 := bt_str _ (encL_byte id seq age ls) (8 + 3 * j + 1) (by omega)
  have e2 := bt_str _ (encL_byte id seq age ls) (8 + 3 * j + 2) (by omega)
  rw [enc_link id seq age ls j hj _ (by omega) (by omega)] at e0 e1 e2
  unfold lkAt
  have i1 : ((8 + 3 * j + 1 : Nat) : Int) = ((8 + 3 * j : Nat) : Int) + 1 := by omega
  have i2 : ((8 + 3 * j + 2 : Nat) : Int) = ((8 + 3 * j : Nat) : Int) + 2 := by omega
  rw [i1] at e1
  rw [i2] at e2
  rw [e1, e2]
  have e0' : bt (strOfNums (encL id seq age ls)) ((8 + 3 * j : Nat) : Int) = _ := e0
  rw [e0']
  have hx := hp ls[j] (List.getElem_mem hj)
  simp only [lk, List.getElem_cons_zero, List.getElem_cons_succ]
  have a0 : ls[j].f0 % 256 = ls[j].f0 := by omega
  have a1 : ls[j].f1 / 256 % 256 * 256 + ls[j].f1 % 256 = ls[j].f1 := by omega
  rw [a0, a1]
theorem dec_enc {id seq age : Int} {ls : List S28} (h : Valid id seq age ls) : dec (strOfNums (encL id seq age ls)) = (id, seq, age, ls, 0) := by
 have h1 := h.id0; have h2 := h.id1; have h3 := h.seq0; have h4 := h.seq1; have h5 := h.age0; have h6 := h.age1; have h7 := h.len
 have hl := encL_length id seq age ls
 have hb := encL_byte id seq age ls
 have hz : (strOfNums (encL id seq age ls)).size = 10 + 3 * ls.length := by rw [strOfNums_size, hl]
 have b0 := bt_str _ hb 0 (by omega)
 have b1 := bt_str _ hb 1 (by omega)
 have b2 := bt_str _ hb 2 (by omega)
 have b3 := bt_str _ hb 3 (by omega)
 have b4 := bt_str _ hb 4 (by omega)
 have b5 := bt_str _ hb 5 (by omega)
 have b6 := bt_str _ hb 6 (by omega)
 have b7 := bt_str _ hb 7 (by omega)
 have t := enc_tail id seq age ls (by omega) (by omega)
 have c0 := bt_str _ hb (8 + 3 * ls.length) (by omega)
 have c1 := bt_str _ hb (9 + 3 * ls.length) (by omega)
 rw [t.1] at c0
 rw [t.2] at c1
 rw [enc_head _ _ _ _ _ (by omega)] at b0 b1 b2 b3 b4 b5 b6 b7
 simp only [hd, List.getElem_cons_zero, List.getElem_cons_succ] at b0 b1 b2 b3 b4 b5 b6 b7
 have e0 : bt (strOfNums (encL id seq age ls)) 0 = id := by have : bt (strOfNums (encL id seq age ls)) 0 = _ := b0; rw [this]; omega
 have e7 : bt (strOfNums (encL id seq age ls)) 7 = (ls.length : Int) := by have : bt (strOfNums (encL id seq age ls)) 7 = _ := b7; rw [this]; omega
 have es : decSeq (strOfNums (encL id seq age ls)) = seq := by
  have f1 : bt (strOfNums (encL id seq age ls)) 1 = _ := b1
  have f2 : bt (strOfNums (encL id seq age ls)) 2 = _ := b2
  have f3 : bt (strOfNums (encL id seq age ls)) 3 = _ := b3
  have f4 : bt (strOfNums (encL id seq age ls)) 4 = _ := b4
  unfold decSeq
  rw [f1, f2, f3, f4]; omega
 have ea : decAge (strOfNums (encL id seq age ls)) = age := by
  have f5 : bt (strOfNums (encL id seq age ls)) 5 = _ := b5
  have f6 : bt (strOfNums (encL id seq age ls)) 6 = _ := b6
  unfold decAge
  rw [f5, f6]; omega
 have el : lksFrom (strOfNums (encL id seq age ls)) 8 ls.length = ls := by
  have := lks_enc (id := id) (seq := seq) (age := age) h.peer ls.length 0 (by omega)
  simpa using this
 unfold dec
 rw [if_neg (by omega), if_neg (by omega), if_neg (by omega), e0, es, ea, e7, Int.toNat_natCast, el]
 unfold decEnd
 rw [if_pos, if_pos (chk_of_valid h)]
 refine ⟨?_, ?_⟩
 · rw [hz, show (((10 + 3 * ls.length : Nat) : Int) - 2) = ((8 + 3 * ls.length : Nat) : Int) by omega]; exact c0
 · rw [hz, show (((10 + 3 * ls.length : Nat) : Int) - 1) = ((9 + 3 * ls.length : Nat) : Int) by omega]; exact c1
end Go.Proofs.Ytaneaabmgnanbaa.M
