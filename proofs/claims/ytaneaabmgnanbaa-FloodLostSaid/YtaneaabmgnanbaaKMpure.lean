import Derived.Test.YtaneaabmgnanbaaKMbase
namespace Go.Proofs.Ytaneaabmgnanbaa.M
open Go.RowKit Go.Proofs.YtaneaabmgnanbaaW.PrintWords Go.Proofs.Ytaneaabmgnanbaa.PAdvBack
set_option linter.unusedVariables false
set_option linter.unusedSimpArgs false
theorem wrap_in (x : Int) (h0 : -9223372036854775808 ≤ x) (h : x < 9223372036854775808) : wrap64 x = x := by unfold wrap64; omega
def at28 (ls : List S28) (i : Nat) : S28 := ls.getD i z28
theorem rd28 (ls : List S28) (i : Nat) : rd_T28 ls (i : Int) = at28 ls i := by simp [rd_T28, at28]
def badR (x : S28) : Bool := decide (x.f0 < 0 ∨ 16 ≤ x.f0 ∨ x.f1 < 1 ∨ 65535 < x.f1)
def formBad (id : Int) (ls : List S28) (i : Nat) : Bool := decide ((at28 ls i).f0 = id) || (decide (0 < i) && decide ((at28 ls i).f0 ≤ (at28 ls (i - 1)).f0))
def badHead (id seq age : Int) : Prop := id < 0 ∨ 16 ≤ id ∨ seq < 1 ∨ 1073741824 < seq ∨ age < 0 ∨ 3600 < age
instance (id seq age : Int) : Decidable (badHead id seq age) := by unfold badHead; infer_instance
def chk (id seq age : Int) (ls : List S28) : Int :=
 if badHead id seq age then 10 else if 16 < ls.length then 2 else if (List.range' 0 ls.length).any (fun i => badR (at28 ls i)) then 10
 else if (List.range' 0 ls.length).any (formBad id ls) then 3 else 0
theorem l1_ends (id seq age : Int) (ls : List S28) (hl : ls.length ≤ 16) : ∀ d i, i + d = ls.length → ∃ k, adv_Check.l1 k ls (ls.length : Int) (i : Int) id seq age ls = some (if (List.range' i d).any (formBad id ls) then 3 else 0)
 | 0, i, h => ⟨1, by simp only [adv_Check.l1]; rw [if_neg (by omega)]; simp⟩
 | d + 1, i, h => by
  obtain ⟨k, hk⟩ := l1_ends id seq age ls hl d (i + 1) (by omega)
  refine ⟨k + 1, ?_⟩
  simp only [adv_Check.l1]
  rw [if_pos (by omega), if_pos (by omega), if_pos (by omega), rd28]
  have hw : wrap64 ((i : Int) + 1) = ((i + 1 : Nat) : Int) := by rw [wrap_in _ (by omega) (by omega)]; omega
  rw [hw, hk, List.range'_succ, List.any_cons]
  by_cases h1 : (at28 ls i).f0 = id
  · rw [if_pos h1]; simp [formBad, h1]
  · rw [if_neg h1]
    by_cases h2 : (0 : Int) < (i : Int)
    · have hw1 : wrap64 ((i : Int) - 1) = ((i - 1 : Nat) : Int) := by rw [wrap_in _ (by omega) (by omega)]; omega
      rw [if_pos h2, hw1, if_pos (by omega), if_pos (by omega), rd28]
      by_cases h3 : (at28 ls i).f0 ≤ (at28 ls (i - 1)).f0
      · rw [if_pos h3]
        have : formBad id ls i = true := by simp [formBad, h3]; omega
        simp [this]
      · rw [if_neg h3]
        have : formBad id ls i = false := by simp [formBad, h1]; omega
        rw [this, Bool.false_or]
    · rw [if_neg h2]
      have : formBad id ls i = false := by simp [formBad, h1]; omega
      rw [this, Bool.false_or]
theorem l0_ends (id seq age : Int) (ls : List S28) (hl : ls.length ≤ 16) : ∀ d i, i + d = ls.length → ∃ k, adv_Check.l0 k ls (ls.length : Int) (i : Int) id seq age ls =
 some (if (List.range' i d).any (fun i => badR (at28 ls i)) then 10 else if (List.range' 0 ls.length).any (formBad id ls) then 3 else 0)
 | 0, i, h => by
  obtain ⟨k, hk⟩ := l1_ends id seq age ls hl ls.length 0 (by omega)
  refine ⟨k + 1, ?_⟩
  simp only [adv_Check.l0]
  rw [if_neg (by omega)]
  simpa using hk
 | d + 1, i, h => by
  obtain ⟨k, hk⟩ := l0_ends id seq age ls hl d (i + 1) (by omega)
  refine ⟨k + 1, ?_⟩
  simp only [adv_Check.l0]
  rw [if_pos (by omega), if_pos (by omega), if_pos (by omega), rd28]
  have hw : wrap64 ((i : Int) + 1) = ((i + 1 : Nat) : Int) := by rw [wrap_in _ (by omega) (by omega)]; omega
  rw [hw, hk, List.range'_succ, List.any_cons]
  by_cases h1 : (at28 ls i).f0 < 0
  · rw [if_pos h1]; simp [badR, h1]
  rw [if_neg h1]
  by_cases h2 : 16 ≤ (at28 ls i).f0
  · rw [if_pos h2]; simp [badR, h2]
  rw [if_neg h2]
  by_cases h3 : (at28 ls i).f1 < 1
  · rw [if_pos h3]; simp [badR, h3]
  rw [if_neg h3]
  by_cases h4 : (at28 ls i).f1 > 65535
  · rw [if_pos h4]
    have : badR (at28 ls i) = true := by simp [badR]; omega
    simp [this]
  rw [if_neg h4]
  have : badR (at28 ls i) = false := by simp [badR]; omega
  rw [this, Bool.false_or]
theorem j0_true (id seq age : Int) (ls : List S28) : adv_Check.j0 1 true id seq age ls = some 10 := by simp [adv_Check.j0]
theorem Check_ends (id seq age : Int) (ls : List S28) : ∃ k, adv_Check.f k id seq age ls = some (chk id seq age ls) := by
 unfold adv_Check.f chk
 by_cases h1 : id < 0
 · exact ⟨1, by rw [if_pos h1, j0_true, if_pos (show badHead id seq age by unfold badHead; omega)]⟩
 by_cases h2 : id ≥ 16
 · exact ⟨1, by rw [if_neg h1, if_pos h2, j0_true, if_pos (show badHead id seq age by unfold badHead; omega)]⟩
 by_cases h3 : seq < 1
 · exact ⟨1, by rw [if_neg h1, if_neg h2, if_pos h3, j0_true, if_pos (show badHead id seq age by unfold badHead; omega)]⟩
 by_cases h4 : seq > 1073741824
 · exact ⟨1, by rw [if_neg h1, if_neg h2, if_neg h3, if_pos h4, j0_true, if_pos (show badHead id seq age by unfold badHead; omega)]⟩
 by_cases h5 : age < 0
 · exact ⟨1, by rw [if_neg h1, if_neg h2, if_neg h3, if_neg h4, if_pos h5, j0_true, if_pos (show badHead id seq age by unfold badHead; omega)]⟩
 by_cases h6 : age > 3600
 · exact ⟨1, by rw [if_neg h1, if_neg h2, if_neg h3, if_neg h4, if_neg h5, show decide (age > 3600) = true from decide_eq_true h6, j0_true, if_pos (show badHead id seq age by unfold badHead; omega)]⟩
 have hh : ¬ badHead id seq age := by unfold badHead; omega
 by_cases h7 : 16 < ls.length
 · exact ⟨1, by rw [if_neg h1, if_neg h2, if_neg h3, if_neg h4, if_neg h5, show decide (age > 3600) = false from decide_eq_false h6, if_neg hh]; simp only [adv_Check.j0]; rw [if_neg (by simp), if_pos (by omega), if_pos h7]⟩
 · obtain ⟨k, hk⟩ := l0_ends id seq age ls (by omega) ls.length 0 (by omega)
   refine ⟨k + 1, ?_⟩
   rw [if_neg h1, if_neg h2, if_neg h3, if_neg h4, if_neg h5, show decide (age > 3600) = false from decide_eq_false h6, if_neg hh]
   simp only [adv_Check.j0]
   rw [if_neg (by simp), if_neg (by omega), if_neg h7]
   exact hk
theorem at28_mem {ls : List S28} {x : S28} (h : x ∈ ls) : ∃ i, i < ls.length ∧ at28 ls i = x := by
 obtain ⟨i, hi, rfl⟩ := List.mem_iff_getElem.1 h
 exact ⟨i, hi, by simp [at28, List.getD_eq_getElem?_getD, hi]⟩
structure Valid (id seq age : Int) (ls : List S28) : Prop where
 id0 : 0 ≤ id
 id1 : id < 16
 seq0 : 1 ≤ seq
 seq1 : seq ≤ 1073741824
 age0 : 0 ≤ age
 age1 : age ≤ 3600
 len : ls.length ≤ 16
 peer : ∀ x ∈ ls, 0 ≤ x.f0 ∧ x.f0 < 16 ∧ 1 ≤ x.f1 ∧ x.f1 ≤ 65535
 form : ∀ i, i < ls.length → (at28 ls i).f0 ≠ id ∧ (0 < i → (at28 ls (i - 1)).f0 < (at28 ls i).f0)
theorem chk_zero {id seq age : Int} {ls : List S28} (h : chk id seq age ls = 0) : Valid id seq age ls := by
 unfold chk at h
 split at h
 · cases h
 rename_i h1
 unfold badHead at h1
 split at h
 · cases h
 split at h
 · cases h
 rename_i h2 h3
 split at h
 · cases h
 rename_i h4
 simp only [List.any_eq_true, not_exists, not_and, Bool.not_eq_true] at h3 h4
 refine ⟨by omega, by omega, by omega, by omega, by omega, by omega, by omega, fun x hx => ?_, fun i hi => ?_⟩
 · obtain ⟨i, hi, rfl⟩ := at28_mem hx
   have := h3 i (by simp [hi])
   simp [badR] at this
   omega
 · have := h4 i (by simp [hi])
   simp [formBad] at this
   exact ⟨this.1, fun hp => this.2 hp⟩
theorem chk_of_valid {id seq age : Int} {ls : List S28} (h : Valid id seq age ls) : chk id seq age ls = 0 := by
 have h1 := h.id0; have h2 := h.id1; have h3 := h.seq0; have h4 := h.seq1; have h5 := h.age0; have h6 := h.age1; have h7 := h.len
 unfold chk
 rw [if_neg (by unfold badHead; omega), if_neg (by omega), if_neg, if_neg]
 · simp only [List.any_eq_true, not_exists, not_and, Bool.not_eq_true]
   intro i hi
   have hi : i < ls.length := by simpa using hi
   have := h.form i hi
   simp [formBad, this.1]
   intro hp
   exact this.2 hp
 · simp only [List.any_eq_true, not_exists, not_and, Bool.not_eq_true]
   intro i hi
   have hi : i < ls.length := by simpa using hi
   have := h.peer (at28 ls i) (by simp [at28, List.getD_eq_getElem?_getD, hi])
   simp [badR]
   omega
def fl : Int → Int → List Int → Int × Int
 | x, y, [] => (x, y)
 | x, y, c :: l => fl ((x + c) % 255) ((y + (x + c) % 255) % 255) l
def Byte (c : Int) : Prop := 0 ≤ c ∧ c ≤ 255
theorem fl_range : ∀ (l : List Int) (x y : Int), (∀ c ∈ l, Byte c) → 0 ≤ x → x < 255 → 0 ≤ y → y < 255 → 0 ≤ (fl x y l).1 ∧ (fl x y l).1 < 255 ∧ 0 ≤ (fl x y l).2 ∧ (fl x y l).2 < 255
 | [], x, y, _, h0, h1, h2, h3 => ⟨h0, h1, h2, h3⟩
 | c :: l, x, y, h, h0, h1, h2, h3 => fl_range l _ _ (fun d hd => h d (List.mem_cons_of_mem _ hd)) (by omega) (by omega) (by omega) (by omega)
theorem sum_l0 (l : List Int) (hb : ∀ c ∈ l, Byte c) (hl : l.length < 9223372036854775807) : ∀ d i x y, i + d = l.length → 0 ≤ x → x < 255 → 0 ≤ y → y < 255 →
 ∃ k, adv_sum.l0 k x y l (l.length : Int) (i : Int) = some (fl x y (l.drop i))
 | 0, i, x, y, h, _, _, _, _ => ⟨1, by simp only [adv_sum.l0]; rw [if_neg (by omega), List.drop_of_length_le (by omega)]; rfl⟩
 | d + 1, i, x, y, h, hx0, hx1, hy0, hy1 => by
  have hi : i < l.length := by omega
  have hc := hb l[i] (List.getElem_mem hi)
  have hr : rd l (i : Int) = l[i] := by simp [rd, List.getD_eq_getElem?_getD, hi]
  have hw : wrap64 ((i : Int) + 1) = ((i + 1 : Nat) : Int) := by rw [wrap_in _ (by omega) (by omega)]; omega
  unfold Byte at hc
  have e1 : Int.tmod (wrap64 (x + wrap64 (l[i]))) 255 = (x + l[i]) % 255 := by
   rw [wrap_in l[i] (by omega) (by omega), wrap_in _ (by omega) (by omega), Int.tmod_eq_emod_of_nonneg (by omega)]
  have e2 : Int.tmod (wrap64 (y + (x + l[i]) % 255)) 255 = (y + (x + l[i]) % 255) % 255 := by
   rw [wrap_in _ (by omega) (by omega), Int.tmod_eq_emod_of_nonneg (by omega)]
  obtain ⟨k, hk⟩ := sum_l0 l hb hl d (i + 1) ((x + l[i]) % 255) ((y + (x + l[i]) % 255) % 255) (by omega) (by omega) (by omega) (by omega) (by omega)
  refine ⟨k + 1, ?_⟩
  simp only [adv_sum.l0]
  rw [if_pos (by omega), if_pos (by omega), if_pos (by omega), hr, e1, e2, hw, hk]
  conv => rhs; rw [List.drop_eq_getElem_cons hi]
  rfl
theorem sum_ends (l : List Int) (hb : ∀ c ∈ l, Byte c) (hl : l.length < 9223372036854775807) : ∃ k, adv_sum.f k l = some (fl 0 0 l) := by
 obtain ⟨k, hk⟩ := sum_l0 l hb hl l.length 0 0 0 (by omega) (by omega) (by omega) (by omega) (by omega)
 exact ⟨k, by simpa [adv_sum.f] using hk⟩
def lk (x : S28) : List Int := [x.f0 % 256, x.f1 / 256 % 256, x.f1 % 256]
def hd (id seq : Int) (n : Nat) (a : Int) : List Int := [id % 256, seq / 16777216 % 256, seq / 65536 % 256, seq / 256 % 256, seq % 256, a / 256 % 256, a % 256, (n : Int) % 256]
def byts (id seq : Int) (ls : List S28) (a : Int) : List Int := hd id seq ls.length a ++ ls.flatMap lk
theorem lk_length (x : S28) : (lk x).length = 3 := rfl
theorem flat_length : ∀ ls : List S28, (ls.flatMap lk).length = 3 * ls.length
 | [] => rfl
 | x :: ls => by rw [List.flatMap_cons, List.length_append, flat_length ls, lk_length, List.length_cons]; omega
theorem byts_length (id seq : Int) (ls : List S28) (a : Int) : (byts id seq ls a).length = 8 + 3 * ls.length := by
 rw [byts, List.length_append, flat_length]; rfl
theorem byts_byte (id seq : Int) (ls : List S28) (a : Int) : ∀ c ∈ byts id seq ls a, Byte c := by
 intro c hc
 unfold byts hd at hc
 unfold Byte
 simp only [List.mem_append, List.mem_cons, List.not_mem_nil, or_false, List.mem_flatMap, lk] at hc
 rcases hc with hc | ⟨x, _, hc⟩
 · omega
 · omega
theorem bytes_l0 (ls : List S28) (hl : ls.length ≤ 100000) : ∀ d i acc, i + d = ls.length → acc.length ≤ 8 + 3 * i → ∃ k, adv_bytes.l0 k acc ls (ls.length : Int) (i : Int) = some (acc ++ (ls.drop i).flatMap lk)
 | 0, i, acc, h, _ => ⟨1, by simp only [adv_bytes.l0]; rw [if_neg (by omega), List.drop_of_length_le (by omega)]; simp⟩
 | d + 1, i, acc, h, ha => by
  have hi : i < ls.length := by omega
  have hr : rd_T28 ls (i : Int) = ls[i] := by simp [rd_T28, List.getD_eq_getElem?_getD, hi]
  have hw : wrap64 ((i : Int) + 1) = ((i + 1 : Nat) : Int) := by rw [wrap_in _ (by omega) (by omega)]; omega
  obtain ⟨k, hk⟩ := bytes_l0 ls hl d (i + 1) (acc ++ lk ls[i]) (by omega) (by rw [List.length_append, lk_length]; omega)
  refine ⟨k + 1, ?_⟩
  simp only [adv_bytes.l0]
  rw [if_pos (by omega), if_pos (by omega), if_pos (by omega), hr]
  simp only [Option.bind_some]
  rw [if_pos (by simp; omega), hw]
  refine hk.trans ?_
  rw [List.drop_eq_getElem_cons hi, List.flatMap_cons, List.append_assoc]
theorem bytes_ends (id seq age : Int) (ls : List S28) (a : Int) (hl : ls.length ≤ 100000) : ∃ k, adv_bytes.f k id seq age ls a = some (byts id seq ls a) := by
 obtain ⟨k, hk⟩ := bytes_l0 ls hl ls.length 0 (hd id seq ls.length a) (by omega) (by simp [hd])
 exact ⟨k, by simpa [adv_bytes.f, byts, hd] using hk⟩
theorem up {α : Type} {g : Nat → Option α} (h : ∀ k, LeO (g k) (g (k + 1))) {k k' : Nat} {r : α} (hr : g k = some r) (hk : k ≤ k') : g k' = some r := at_rounds h hk hr
def sums (id seq : Int) (ls : List S28) : Int × Int := fl 0 0 (byts id seq ls 0)
theorem sums_range (id seq : Int) (ls : List S28) : 0 ≤ (sums id seq ls).1 ∧ (sums id seq ls).1 < 255 ∧ 0 ≤ (sums id seq ls).2 ∧ (sums id seq ls).2 < 255 :=
 fl_range _ 0 0 (byts_byte _ _ _ _) (by omega) (by omega) (by omega) (by omega)
def encL (id seq age : Int) (ls : List S28) : List Int := byts id seq ls age ++ [(sums id seq ls).1, (sums id seq ls).2]
theorem sum_bytes_ends (id seq age : Int) (ls : List S28) (hl : ls.length ≤ 100000) : ∃ k, adv_bytes.f k id seq age ls 0 = some (byts id seq ls 0) ∧ adv_sum.f k (byts id seq ls 0) = some (sums id seq ls) :=
 together (fun k => adv_bytes.mono _ _ _ _ _ k) (fun k => adv_sum.mono _ k) (bytes_ends id seq age ls 0 hl) (sum_ends _ (byts_byte _ _ _ _) (by rw [byts_length]; omega))
theorem Encode_ok (id seq age : Int) (ls : List S28) (h : Valid id seq age ls) : ∃ k, adv_Encode.f k id seq age ls = some (strOfNums (encL id seq age ls), 0) := by
 have hl := h.len
 obtain ⟨k1, h1⟩ := Check_ends id seq age ls
 rw [chk_of_valid h] at h1
 obtain ⟨k2, h2, h3⟩ := sum_bytes_ends id seq age ls (by omega)
 obtain ⟨k4, h4⟩ := bytes_ends id seq age ls age (by omega)
 refine ⟨k1 + k2 + k4, ?_⟩
 have hr := sums_range id seq ls
 unfold adv_Encode.f
 rw [up (fun k => adv_Check.mono _ _ _ _ k) h1 (by omega)]
 simp only [Option.bind_some, if_true]
 rw [up (fun k => adv_bytes.mono _ _ _ _ _ k) h2 (by omega)]
 simp only [Option.bind_some]
 rw [up (fun k => adv_sum.mono _ k) h3 (by omega)]
 simp only [Option.bind_some]
 rw [up (fun k => adv_bytes.mono _ _ _ _ _ k) h4 (by omega)]
 simp only [Option.bind_some]
 rw [if_pos (by rw [byts_length]; simp; omega), Int.emod_eq_of_lt hr.1 (by omega), Int.emod_eq_of_lt hr.2.2.1 (by omega)]
 rfl
end Go.Proofs.Ytaneaabmgnanbaa.M
