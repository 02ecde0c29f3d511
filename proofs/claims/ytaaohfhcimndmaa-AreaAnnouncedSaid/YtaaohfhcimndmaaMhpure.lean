/- Plain lemmas: the heap. -/
import Derived.Test.YtaaohfhcimndmaaMheap6
namespace Go.Proofs.Ytaaohfhcimndmaa.M
open Go.RowKit Go.Proofs.YtaaohfhcimndmaaW.PrintWords Go.Proofs.YtaaohfhcimndmaaW.PrintLast Go.Proofs.YtaaohfhcimndmaaW.PrintMore 
set_option linter.unusedVariables false
set_option linter.unusedSimpArgs false

open Go.Proofs.Ytaaohfhcimndmaa.PAreaAnnounced
/-! the heap, plainly -/
def LEq (a b : S99) : Prop := a.f1 < b.f1 ∨ (a.f1 = b.f1 ∧ a.f0 ≤ b.f0)
theorem lss_false {a b : S99} (h : lss b a = false) : LEq a b := by
  unfold lss at h
  simp only [Bool.or_eq_false_iff, Bool.and_eq_false_iff, decide_eq_false_iff_not, beq_eq_false_iff_ne] at h
  unfold LEq
  omega
theorem lss_true {a b : S99} (h : lss a b = true) : LEq a b := by
  unfold lss at h
  simp only [Bool.or_eq_true, Bool.and_eq_true, decide_eq_true_eq, beq_iff_eq] at h
  unfold LEq
  omega
theorem LEq.trans {a b c : S99} (h : LEq a b) (k : LEq b c) : LEq a c := by unfold LEq at *; omega
theorem LEq.refl (a : S99) : LEq a a := by unfold LEq; omega
theorem swp_getD (l : List S99) {i j : Nat} (hi : i < l.length) (hj : j < l.length) (k : Nat) : (swp l i j).getD k z99 = if k = j then l.getD i z99 else if k = i then l.getD j z99 else l.getD k z99 := by
  unfold swp
  simp only [List.getD_eq_getElem?_getD, List.getElem?_set, List.length_set]
  by_cases h1 : k = j
  · subst h1; simp [hj]
  · have h1' : ¬ j = k := fun h => h1 h.symm
    rw [if_neg h1', if_neg h1]
    by_cases h2 : k = i
    · subst h2; simp [hi]
    · have h2' : ¬ i = k := fun h => h2 h.symm
      rw [if_neg h2', if_neg h2]
theorem swp_perm (l : List S99) {i j : Nat} (hi : i < l.length) (hj : j < l.length) : (swp l i j).Perm l := by
  unfold swp
  have e1 : l.getD i z99 = l[i] := by simp [List.getD_eq_getElem?_getD, hi]
  have e2 : l.getD j z99 = l[j] := by simp [List.getD_eq_getElem?_getD, hj]
  rw [e1, e2]
  exact List.set_set_perm hi hj
def HP (l : List S99) (n : Nat) : Prop := ∀ i, 0 < i → i < n → LEq (l.getD ((i - 1) / 2) z99) (l.getD i z99)
theorem HP.min {l : List S99} {n : Nat} (h : HP l n) : ∀ i, i < n → LEq (l.getD 0 z99) (l.getD i z99) := by
  intro i
  induction i using Nat.strongRecOn with
  | _ i ih =>
    intro hi
    rcases Nat.eq_zero_or_pos i with h0 | h0
    · subst h0; exact LEq.refl _
    · exact (ih ((i - 1) / 2) (by omega) (by omega)).trans (h i h0 hi)
theorem upF_heap : ∀ (k : Nat) (l : List S99) (j : Nat), j < k → j < l.length →
    (∀ i, 0 < i → i < l.length → i ≠ j → LEq (l.getD ((i - 1) / 2) z99) (l.getD i z99)) →
    (∀ i, 0 < i → i < l.length → (i - 1) / 2 = j → 0 < j → LEq (l.getD ((j - 1) / 2) z99) (l.getD i z99)) → HP (upF k l j) l.length := by
  intro k
  induction k with
  | zero => intro l j hj; omega
  | succ k ih =>
    intro l j hj hn h1 h2
    unfold upF
    by_cases h0 : j = 0
    · rw [if_pos h0]
      intro i hi hin
      exact h1 i hi hin (by omega)
    · rw [if_neg h0]
      have hp : (j - 1) / 2 < l.length := by omega
      cases hls : lss (l.getD j z99) (l.getD ((j - 1) / 2) z99) with
      | true =>
        rw [if_pos rfl]
        have hpj := lss_true hls
        have hl := swp_length l ((j - 1) / 2) j
        have hg := swp_getD l hp hn
        have := ih (swp l ((j - 1) / 2) j) ((j - 1) / 2) (by omega) (by rw [hl]; exact hp) ?_ ?_
        · rw [hl] at this; exact this
        · intro i hi hin hne
          rw [hl] at hin
          by_cases e1 : i = j
          · subst e1
            rw [hg, hg, if_pos rfl, if_neg (by omega), if_pos rfl]
            exact hpj
          · by_cases e2 : (i - 1) / 2 = j
            · rw [hg, hg, if_pos e2, if_neg e1, if_neg hne]
              exact h2 i hi hin e2 (by omega)
            · by_cases e3 : (i - 1) / 2 = (j - 1) / 2
              · rw [hg, hg, if_neg e2, if_pos e3, if_neg e1, if_neg hne]
                exact hpj.trans (by rw [← e3]; exact h1 i hi hin e1)
              · rw [hg, hg, if_neg e2, if_neg e3, if_neg e1, if_neg hne]
                exact h1 i hi hin e1
        · intro i hi hin hpi hp0
          rw [hl] at hin
          have hpp := h1 ((j - 1) / 2) hp0 hp (by omega)
          rw [hg, hg, if_neg (by omega), if_neg (by omega)]
          by_cases e1 : i = j
          · rw [if_pos e1]; exact hpp
          · rw [if_neg e1, if_neg (by omega)]
            refine hpp.trans ?_
            rw [← hpi]
            exact h1 i hi hin e1
      | false =>
        rw [if_neg (by simp)]
        intro i hi hin
        by_cases e : i = j
        · subst e; exact lss_false hls
        · exact h1 i hi hin e
theorem upF_perm : ∀ (k : Nat) (l : List S99) (j : Nat), j < l.length → (upF k l j).Perm l := by
  intro k
  induction k with
  | zero => intro l j _; exact List.Perm.refl _
  | succ k ih =>
    intro l j hj
    unfold upF
    split
    · exact List.Perm.refl _
    · split
      · exact (ih _ _ (by rw [swp_length]; omega)).trans (swp_perm l (by omega) hj)
      · exact List.Perm.refl _
theorem big_spec (l : List S99) {i n : Nat} (h : 2 * i + 1 < n) : (big l (2 * i + 1) n = 2 * i + 1 ∨ big l (2 * i + 1) n = 2 * i + 2) ∧ big l (2 * i + 1) n < n ∧ (∀ c, 0 < c → c < n → (c - 1) / 2 = i → LEq (l.getD (big l (2 * i + 1) n) z99) (l.getD c z99)) := by
  unfold big
  by_cases hc : 2 * i + 1 + 1 < n ∧ lss (l.getD (2 * i + 1 + 1) z99) (l.getD (2 * i + 1) z99) = true
  · rw [if_pos hc]
    refine ⟨.inr rfl, hc.1, fun c h0 hcn hp => ?_⟩
    have : c = 2 * i + 1 ∨ c = 2 * i + 1 + 1 := by omega
    rcases this with rfl | rfl
    · exact lss_true hc.2
    · exact LEq.refl _
  · rw [if_neg hc]
    refine ⟨.inl rfl, h, fun c h0 hcn hp => ?_⟩
    have : c = 2 * i + 1 ∨ c = 2 * i + 1 + 1 := by omega
    rcases this with rfl | rfl
    · exact LEq.refl _
    · refine lss_false ?_
      cases hb : lss (l.getD (2 * i + 1 + 1) z99) (l.getD (2 * i + 1) z99) with
      | false => rfl
      | true => exact absurd ⟨hcn, hb⟩ hc
theorem dnF_heap : ∀ (k : Nat) (l : List S99) (i n : Nat), n < k + i → n ≤ l.length →
    (∀ c, 0 < c → c < n → (c - 1) / 2 ≠ i → LEq (l.getD ((c - 1) / 2) z99) (l.getD c z99)) →
    (∀ c, 0 < c → c < n → (c - 1) / 2 = i → 0 < i → LEq (l.getD ((i - 1) / 2) z99) (l.getD c z99)) → HP (dnF k l i n) n := by
  intro k
  induction k with
  | zero =>
    intro l i n hk hl h1 h2 c hc hcn
    exact h1 c hc hcn (by omega)
  | succ k ih =>
    intro l i n hk hl h1 h2
    unfold dnF
    by_cases hq : n ≤ 2 * i + 1
    · rw [if_pos hq]
      intro c hc hcn
      exact h1 c hc hcn (by omega)
    · rw [if_neg hq]
      obtain ⟨hb, hbn, hmin⟩ := big_spec l (i := i) (n := n) (by omega)
      generalize big l (2 * i + 1) n = b at *
      have hil : i < l.length := by omega
      have hbl : b < l.length := by omega
      have hbp : (b - 1) / 2 = i := by omega
      cases hls : lss (l.getD b z99) (l.getD i z99) with
      | true =>
        rw [if_pos rfl]
        have hbi := lss_true hls
        have hg := swp_getD l hil hbl
        refine ih (swp l i b) b n (by omega) (by rw [swp_length]; exact hl) ?_ ?_
        · intro c hc hcn hne
          by_cases e1 : (c - 1) / 2 = i
          · by_cases e2 : c = b
            · rw [hg, hg, if_neg hne, if_pos e1, if_pos e2]; exact hbi
            · rw [hg, hg, if_neg hne, if_pos e1, if_neg e2, if_neg (by omega)]
              exact hmin c hc hcn e1
          · by_cases e2 : c = i
            · rw [hg, hg, if_neg hne, if_neg e1, if_neg (by omega), if_pos e2]
              rw [e2]
              exact h2 b (by omega) hbn hbp (by omega)
            · rw [hg, hg, if_neg hne, if_neg e1, if_neg (by omega), if_neg e2]
              exact h1 c hc hcn e1
        · intro c hc hcn hpc hb0
          rw [hg, hg, if_neg (by omega), if_pos hbp, if_neg (by omega), if_neg (by omega)]
          have := h1 c hc hcn (by omega)
          rw [hpc] at this
          exact this
      | false =>
        rw [if_neg (by simp)]
        intro c hc hcn
        by_cases e : (c - 1) / 2 = i
        · rw [e]; exact (lss_false hls).trans (hmin c hc hcn e)
        · exact h1 c hc hcn e
theorem dnF_perm : ∀ (k : Nat) (l : List S99) (i n : Nat), n ≤ l.length → (dnF k l i n).Perm l := by
  intro k
  induction k with
  | zero => intro l i n _; exact List.Perm.refl _
  | succ k ih =>
    intro l i n hn
    unfold dnF
    by_cases hq : n ≤ 2 * i + 1
    · rw [if_pos hq]
    · rw [if_neg hq]
      obtain ⟨hb, hbn, _⟩ := big_spec l (i := i) (n := n) (by omega)
      split
      · exact (ih _ _ _ (by rw [swp_length]; exact hn)).trans (swp_perm l (by omega) (by omega))
      · exact List.Perm.refl _
theorem dnF_above : ∀ (k : Nat) (l : List S99) (i n j : Nat), n ≤ l.length → n ≤ j → (dnF k l i n).getD j z99 = l.getD j z99 := by
  intro k
  induction k with
  | zero => intro l i n j _ _; rfl
  | succ k ih =>
    intro l i n j hn hj
    unfold dnF
    by_cases hq : n ≤ 2 * i + 1
    · rw [if_pos hq]
    · rw [if_neg hq]
      obtain ⟨hb, hbn, _⟩ := big_spec l (i := i) (n := n) (by omega)
      split
      · rw [ih _ _ _ _ (by rw [swp_length]; exact hn) hj, swp_getD l (by omega) (by omega), if_neg (by omega), if_neg (by omega)]
      · rfl
theorem push_pure {l : List S99} (h : HP l l.length) (x : S99) : HP (upF (l.length + 1) (l ++ [x]) l.length) (upF (l.length + 1) (l ++ [x]) l.length).length ∧ (upF (l.length + 1) (l ++ [x]) l.length).Perm (x :: l) := by
  have hp := upF_perm (l.length + 1) (l ++ [x]) l.length (by simp)
  refine ⟨?_, hp.trans (List.perm_append_comm (l₁ := l) (l₂ := [x]))⟩
  rw [hp.length_eq]
  have hlen : (l ++ [x]).length = l.length + 1 := by simp
  have ha : ∀ i, i < l.length → (l ++ [x]).getD i z99 = l.getD i z99 := fun i hi => by simp [List.getD_eq_getElem?_getD, List.getElem?_append_left hi]
  refine upF_heap _ _ _ (by omega) (by omega) (fun i hi hin hne => ?_) (fun i hi hin hpi => by omega)
  rw [ha i (by omega), ha _ (by omega)]
  exact h i hi (by omega)
theorem pop_pure {l : List S99} {m : Nat} (h : HP l l.length) (hm : l.length = m + 1) :
    HP ((dnF (m + 1) (swp l 0 m) 0 m).take m) ((dnF (m + 1) (swp l 0 m) 0 m).take m).length ∧ l.Perm ((dnF (m + 1) (swp l 0 m) 0 m).getD m z99 :: (dnF (m + 1) (swp l 0 m) 0 m).take m) ∧ ∀ y ∈ l, LEq ((dnF (m + 1) (swp l 0 m) 0 m).getD m z99) y := by
  have hl := swp_length l 0 m
  have hg := swp_getD l (i := 0) (j := m) (by omega) (by omega)
  have hd := dnF_heap (m + 1) (swp l 0 m) 0 m (by omega) (by omega) (fun c hc hcm hne => by
    rw [hg, hg, if_neg (by omega), if_neg hne, if_neg (by omega), if_neg (by omega)]
    exact h c hc (by omega)) (fun c hc hcm hp h0 => by omega)
  have hpm := dnF_perm (m + 1) (swp l 0 m) 0 m (by omega)
  have hlen : (dnF (m + 1) (swp l 0 m) 0 m).length = m + 1 := by rw [hpm.length_eq, hl, hm]
  have htop : (dnF (m + 1) (swp l 0 m) 0 m).getD m z99 = l.getD 0 z99 := by
    rw [dnF_above _ _ _ _ _ (by omega) (Nat.le_refl _), hg, if_pos rfl]
  have hps := hpm.trans (swp_perm l (i := 0) (j := m) (by omega) (by omega))
  generalize dnF (m + 1) (swp l 0 m) 0 m = D at *
  have htl : (D.take m).length = m := by rw [List.length_take]; omega
  have hsplit : D = D.take m ++ [D.getD m z99] := by
    conv => lhs; rw [← List.take_append_drop m D]
    congr 1
    rw [List.drop_eq_getElem_cons (by omega), List.drop_of_length_le (by omega)]
    simp [List.getD_eq_getElem?_getD, hlen]
  refine ⟨?_, ?_, ?_⟩
  · rw [htl]
    intro i hi him
    have := hd i hi him
    have e : ∀ j, j < m → (D.take m).getD j z99 = D.getD j z99 := fun j hj => by simp [List.getD_eq_getElem?_getD, List.getElem?_take, hj]
    rw [e _ (by omega), e _ him]
    exact this
  · refine hps.symm.trans ?_
    conv => lhs; rw [hsplit]
    exact List.perm_append_comm (l₁ := D.take m) (l₂ := [D.getD m z99])
  · intro y hy
    rw [htop]
    obtain ⟨i, hi, rfl⟩ := List.mem_iff_getElem.1 hy
    have := HP.min h i hi
    simpa [List.getD_eq_getElem?_getD, hi] using this

end Go.Proofs.Ytaaohfhcimndmaa.M
