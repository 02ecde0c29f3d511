/- Own lemmas: what regular paths cost, plainly. -/
import Derived.Test.YtaaohfhcimndmaaMarin
namespace Go.Proofs.Ytaaohfhcimndmaa.M
open Go.RowKit Go.Proofs.YtaaohfhcimndmaaW.PrintWords Go.Proofs.YtaaohfhcimndmaaW.PrintLast Go.Proofs.YtaaohfhcimndmaaW.PrintMore 
set_option linter.unusedVariables false
set_option linter.unusedSimpArgs false

open Go.Proofs.Ytaaohfhcimndmaa.PAreaAnnounced
structure AOk (n : Nat) (es : List S59) : Prop where
  n1 : 1 ≤ n
  n16 : n ≤ 16
  len : es.length ≤ 256
  ok : ∀ e ∈ es, 0 ≤ e.f0 ∧ e.f0 < 16 ∧ 0 ≤ e.f1 ∧ e.f1 < n ∧ 0 ≤ e.f2 ∧ e.f2 < n ∧ 1 ≤ e.f3 ∧ e.f3 ≤ 65535
def toE (e : S59) : S46 := ⟨e.f1, e.f2, e.f3⟩
def fl (es : List S59) : List S46 := es.map toE
def pt (es : List S59) (a : Int) : List S46 := (es.filter fun e => e.f0 == a).map toE
theorem AOk.fl {n : Nat} {es : List S59} (h : AOk n es) : GOk n (fl es) := by
  refine ⟨h.n1, h.n16, by unfold M.fl; rw [List.length_map]; exact h.len, fun e he => ?_⟩
  obtain ⟨x, hx, rfl⟩ := List.mem_map.1 he
  obtain ⟨_, _, h1, h2, h3, h4, h5, h6⟩ := h.ok x hx
  exact ⟨h1, h2, h3, h4, h5, h6⟩
theorem pt_sub (es : List S59) (a : Int) : ∀ e ∈ pt es a, e ∈ fl es := by
  intro e he
  obtain ⟨x, hx, rfl⟩ := List.mem_map.1 he
  exact List.mem_map_of_mem (List.mem_filter.1 hx).1
theorem AOk.pt {n : Nat} {es : List S59} (h : AOk n es) (a : Int) : GOk n (pt es a) := by
  refine ⟨h.n1, h.n16, ?_, fun e he => h.fl.ok e (pt_sub es a e he)⟩
  unfold M.pt
  rw [List.length_map]
  exact Nat.le_trans (List.length_filter_le _ _) h.len
theorem part_loop {es : List S59} (hl : es.length ≤ 256) (a n : Int) : ∀ (d k i : Nat) (acc : List S46), es.length - i = d → d < k → i ≤ es.length → acc.length ≤ i → area_part.l0 k a es (es.length : Int) (i : Int) n acc = some (n, acc ++ pt (es.drop i) a) := by
  intro d
  induction d with
  | zero =>
    intro k i acc hd hk hi hacc
    obtain ⟨k, rfl⟩ : ∃ k', k = k' + 1 := ⟨k - 1, by omega⟩
    simp only [area_part.l0]
    rw [if_neg (by omega), List.drop_of_length_le (by omega)]
    simp [pt]
  | succ d ih =>
    intro k i acc hd hk hi hacc
    obtain ⟨k, rfl⟩ : ∃ k', k = k' + 1 := ⟨k - 1, by omega⟩
    have hil : i < es.length := by omega
    have hx : rd_T59 es i = es[i] := by simp [rd_T59, List.getD_eq_getElem?_getD, hil]
    simp only [area_part.l0]
    rw [if_pos (by omega), if_pos (by omega), if_pos (by omega), hx, wrap_in _ (by omega) (by omega), List.drop_eq_getElem_cons hil]
    by_cases he : es[i].f0 = a
    · rw [if_pos he, if_pos (by omega)]
      have := ih k (i + 1) (acc ++ [toE es[i]]) (by omega) (by omega) (by omega) (by simp; omega)
      refine Eq.trans this ?_
      generalize es.drop (i + 1) = r
      simp [pt, List.filter_cons, he]
    · rw [if_neg he]
      have := ih k (i + 1) acc (by omega) (by omega) (by omega) (by omega)
      refine Eq.trans this ?_
      generalize es.drop (i + 1) = r
      simp [pt, List.filter_cons, he]
theorem part_f {es : List S59} (hl : es.length ≤ 256) (a n : Int) : area_part.f (es.length + 1) n es a = some (n, pt es a) := by
  unfold area_part.f
  have := part_loop hl a n es.length (es.length + 1) 0 [] rfl (by omega) (by omega) (by simp)
  simpa using this
theorem flat_loop {es : List S59} (hl : es.length ≤ 256) (n : Int) : ∀ (d k i : Nat) (acc : List S46), es.length - i = d → d < k → i ≤ es.length → acc.length ≤ i → patchbaykeep2_flat.l0 k es (es.length : Int) (i : Int) n acc = some (n, acc ++ fl (es.drop i)) := by
  intro d
  induction d with
  | zero =>
    intro k i acc hd hk hi hacc
    obtain ⟨k, rfl⟩ : ∃ k', k = k' + 1 := ⟨k - 1, by omega⟩
    simp only [patchbaykeep2_flat.l0]
    rw [if_neg (by omega), List.drop_of_length_le (by omega)]
    simp [fl]
  | succ d ih =>
    intro k i acc hd hk hi hacc
    obtain ⟨k, rfl⟩ : ∃ k', k = k' + 1 := ⟨k - 1, by omega⟩
    have hil : i < es.length := by omega
    have hx : rd_T59 es i = es[i] := by simp [rd_T59, List.getD_eq_getElem?_getD, hil]
    simp only [patchbaykeep2_flat.l0]
    rw [if_pos (by omega), if_pos (by omega), if_pos (by omega), if_pos (by omega), hx, wrap_in _ (by omega) (by omega), List.drop_eq_getElem_cons hil]
    have := ih k (i + 1) (acc ++ [toE es[i]]) (by omega) (by omega) (by omega) (by simp; omega)
    refine Eq.trans this ?_
    generalize es.drop (i + 1) = r
    simp [fl, toE]
theorem flat_f {es : List S59} (hl : es.length ≤ 256) (n : Int) : patchbaykeep2_flat.f (es.length + 1) n es = some (n, fl es) := by
  unfold patchbaykeep2_flat.f
  have := flat_loop hl n es.length (es.length + 1) 0 [] rfl (by omega) (by omega) (by simp)
  simpa using this
theorem acheck_loop {n : Nat} {es : List S59} (hg : AOk n es) : ∀ (d k i : Nat), es.length - i = d → d < k → i ≤ es.length → area_Check.l0 k es (es.length : Int) (i : Int) (n : Int) es = some 0 := by
  intro d
  induction d with
  | zero =>
    intro k i hd hk hi
    obtain ⟨k, rfl⟩ : ∃ k', k = k' + 1 := ⟨k - 1, by omega⟩
    simp only [area_Check.l0]
    rw [if_neg (by omega)]
  | succ d ih =>
    intro k i hd hk hi
    obtain ⟨k, rfl⟩ : ∃ k', k = k' + 1 := ⟨k - 1, by omega⟩
    have hil : i < es.length := by omega
    have hx : rd_T59 es i = es[i] := by simp [rd_T59, List.getD_eq_getElem?_getD, hil]
    obtain ⟨h1, h2, h3, h4, h5, h6, h7, h8⟩ := hg.ok _ (List.getElem_mem hil)
    have hl := hg.len
    simp only [area_Check.l0]
    rw [hx, if_pos (by omega), if_pos (by omega), if_pos (by omega), if_neg (by omega), if_neg (by omega), if_neg (by omega), if_neg (by omega), if_neg (by omega), if_neg (by omega), if_neg (by omega), if_neg (by omega), wrap_in _ (by omega) (by omega)]
    exact ih k (i + 1) (by omega) (by omega) (by omega)
theorem acheck_f {n : Nat} {es : List S59} (hg : AOk n es) : area_Check.f (es.length + 2) n es = some 0 := by
  have h1 := hg.n1
  have h2 := hg.n16
  have h3 := hg.len
  unfold area_Check.f
  rw [if_neg (by omega), decide_eq_false (show ¬ (n : Int) > 16 by omega)]
  simp only [area_Check.j0]
  rw [if_neg (by simp), if_neg (by omega)]
  exact acheck_loop hg es.length (es.length + 1) 0 rfl (by omega) (by omega)
theorem rch_trans {es : List S46} {s u v a b : Int} (h1 : Rch es s u a) (h2 : Rch es u v b) : Rch es s v (a + b) := by
  induction h2 with
  | start => rwa [Int.add_zero]
  | step hr he hu ih =>
    have := Rch.step ih he hu
    rwa [Int.add_assoc] at this
theorem rch_none {es : List S46} {s v d : Int} (hn : ∀ e ∈ es, e.f0 ≠ s) (h : Rch es s v d) : v = s ∧ d = 0 := by
  induction h with
  | start => exact ⟨rfl, rfl⟩
  | step hr he hu ih => exact absurd (hu.trans ih.1) (hn _ he)
theorem not_in {es : List S59} {a s : Int} (h : inA es a s = false) : ∀ e ∈ pt es a, e.f0 ≠ s := by
  intro e he hs
  obtain ⟨x, hx, rfl⟩ := List.mem_map.1 he
  obtain ⟨h1, h2⟩ := List.mem_filter.1 hx
  unfold inA at h
  rw [List.any_eq_false] at h
  refine h x h1 ?_
  have hs : x.f1 = s := hs
  have h2 : x.f0 = a := by simpa using h2
  simp [inq, hs, h2]
theorem lsr_spec (a b : Int) (ha : -1 ≤ a) (hb : -1 ≤ b) : -1 ≤ lsr a b ∧ (0 ≤ a → 0 ≤ lsr a b ∧ lsr a b ≤ a) ∧ (0 ≤ b → 0 ≤ lsr a b ∧ lsr a b ≤ b) ∧ (lsr a b = a ∨ lsr a b = b) := by
  unfold lsr
  split
  · omega
  · split
    · split <;> omega
    · omega
theorem mrg_rdI {n : Nat} {xs ys : List Int} (h1 : xs.length = n) (h2 : ys.length = n) {v : Int} (v0 : 0 ≤ v) (vn : v < n) : rd (mrg xs ys) v = lsr (rd xs v) (rd ys v) := by
  have := mrg_rd (xs := xs) (ys := ys) (i := v.toNat) (by omega) (by omega)
  rwa [Int.toNat_of_nonneg v0] at this
/-- Costs that ways of the whole graph have. -/
structure Up (n : Nat) (es : List S59) (s : Int) (X : Nat) (F : List Int) : Prop where
  l : F.length = n
  lo : ∀ v : Int, 0 ≤ v → v < n → -1 ≤ rd F v
  hi : ∀ v : Int, 0 ≤ v → v < n → rd F v ≤ X
  up : ∀ v : Int, 0 ≤ v → v < n → 0 ≤ rd F v → Rch (fl es) s v (rd F v)
theorem Up.mono {n : Nat} {es : List S59} {s : Int} {X Y : Nat} {F : List Int} (h : Up n es s X F) (hXY : X ≤ Y) : Up n es s Y F :=
  ⟨h.l, h.lo, fun v h0 h1 => by have := h.hi v h0 h1; omega, h.up⟩
theorem Up.mrg {n : Nat} {es : List S59} {s : Int} {X : Nat} {F G : List Int} (h1 : Up n es s X F) (h2 : Up n es s X G) : Up n es s X (mrg F G) := by
  refine ⟨by rw [mrg_length (by rw [h1.l, h2.l])]; exact h1.l, fun v v0 vn => ?_, fun v v0 vn => ?_, fun v v0 vn => ?_⟩
  all_goals rw [mrg_rdI h1.l h2.l v0 vn]
  all_goals have hs := lsr_spec (rd F v) (rd G v) (h1.lo v v0 vn) (h2.lo v v0 vn)
  · exact hs.1
  · have := h1.hi v v0 vn
    have := h2.hi v v0 vn
    rcases hs.2.2.2 with e | e <;> omega
  · intro h
    rcases hs.2.2.2 with e | e
    · rw [e] at h ⊢; exact h1.up v v0 vn h
    · rw [e] at h ⊢; exact h2.up v v0 vn h
theorem Sp.up {n : Nat} {es : List S59} {s a : Int} {X : Nat} {F G : List Int} (h1 : Up n es s X F) (h2 : Sp n (pt es a) X F G) : Up n es s (X + 1048560) G := by
  refine ⟨h2.yl, h2.lo, fun v v0 vn => by have := h2.hi v v0 vn; omega, fun v v0 vn h => ?_⟩
  obtain ⟨u, d, u0, un, hu, hr, hd⟩ := h2.rc v v0 vn h
  rw [hd]
  exact rch_trans (h1.up u u0 un hu) (rch_mono (pt_sub es a) hr)
/-- No cost of F is less than one of G. -/
def Under (n : Nat) (G F : List Int) : Prop := ∀ v : Int, 0 ≤ v → v < n → 0 ≤ rd F v → 0 ≤ rd G v ∧ rd G v ≤ rd F v
theorem Under.refl (n : Nat) (F : List Int) : Under n F F := fun v _ _ h => ⟨h, Int.le_refl _⟩
theorem Under.trans {n : Nat} {H G F : List Int} (h1 : Under n H G) (h2 : Under n G F) : Under n H F := fun v v0 vn h => by
  have := h2 v v0 vn h
  have := h1 v v0 vn this.1
  omega
theorem mrg_left {n : Nat} {es es2 : List S59} {s s2 : Int} {X Y : Nat} {F G : List Int} (h1 : Up n es s X F) (h2 : Up n es2 s2 Y G) : Under n (mrg F G) F := fun v v0 vn h => by
  rw [mrg_rdI h1.l h2.l v0 vn]
  exact (lsr_spec (rd F v) (rd G v) (h1.lo v v0 vn) (h2.lo v v0 vn)).2.1 h
theorem mrg_right {n : Nat} {es es2 : List S59} {s s2 : Int} {X Y : Nat} {F G : List Int} (h1 : Up n es s X F) (h2 : Up n es2 s2 Y G) : Under n (mrg F G) G := fun v v0 vn h => by
  rw [mrg_rdI h1.l h2.l v0 vn]
  exact (lsr_spec (rd F v) (rd G v) (h1.lo v v0 vn) (h2.lo v v0 vn)).2.2.1 h
/-- Below the ways within the areas 1 .. k - 1 that begin at costs of B. -/
def Wys (n : Nat) (es : List S59) (B O : List Int) (k : Nat) : Prop := ∀ a : Int, 1 ≤ a → a < k → ∀ u v d : Int, 0 ≤ u → u < n → 0 ≤ rd B u → Rch (pt es a) u v d → 0 ≤ v → v < n → 0 ≤ rd O v ∧ rd O v ≤ rd B u + d
theorem Wys.start (n : Nat) (es : List S59) (B O : List Int) : Wys n es B O 1 := fun a h1 h2 => absurd h2 (by omega)
theorem Wys.step {n : Nat} {es : List S59} {B O O2 Z : List Int} {k : Nat} {X : Nat} (h : Wys n es B O k) (hz : Sp n (pt es k) X B Z) (h1 : Under n O2 O) (h2 : Under n O2 Z) : Wys n es B O2 (k + 1) := by
  intro a a1 a2 u v d u0 un hB hr v0 vn
  by_cases e : a = k
  · subst e
    have h3 := hz.min u0 un hB hr
    have h4 := h2 v v0 vn h3.1
    omega
  · have h3 := h a a1 (by omega) u v d u0 un hB hr v0 vn
    have h4 := h1 v v0 vn h3.1
    omega
/-- What area.Costs tells. -/
structure Ac (n : Nat) (es : List S59) (s : Int) (O : List Int) : Prop where
  l : O.length = n
  lo : ∀ v : Int, 0 ≤ v → v < n → -1 ≤ rd O v
  hi : ∀ v : Int, 0 ≤ v → v < n → rd O v ≤ 3145680
  up : ∀ v : Int, 0 ≤ v → v < n → 0 ≤ rd O v → Rch (fl es) s v (rd O v)
  in_ : ∀ a v d : Int, 0 ≤ a → a < 16 → Rch (pt es a) s v d → 0 ≤ v → v < n → 0 ≤ rd O v ∧ rd O v ≤ d
  an : ∀ a b v d0 d1 : Int, 1 ≤ a → a < 16 → inA es 0 b = true → 0 ≤ b → b < n → Rch (pt es 0) s b d0 → Rch (pt es a) b v d1 → 0 ≤ v → v < n → 0 ≤ rd O v ∧ rd O v ≤ d0 + d1
  thr : ∀ a1 u b d1 d0 : Int, 1 ≤ a1 → a1 < 16 → 0 ≤ u → u < n → inA es 0 u = true → Rch (pt es a1) s u d1 → 0 ≤ b → b < n → Rch (pt es 0) u b d0 → (0 ≤ rd O b ∧ rd O b ≤ d1 + d0) ∧ ∀ a2 v d2 : Int, 1 ≤ a2 → a2 < 16 → 0 ≤ v → v < n → Rch (pt es a2) b v d2 → 0 ≤ rd O v ∧ rd O v ≤ d1 + d0 + d2
theorem Ac.make {n : Nat} {es : List S59} {s : Int} {start F S0 S O : List Int} (s0 : 0 ≤ s) (sn : s < n) (hst : rd start s = 0)
    (hF : Wys n es start F 16) (hFs : Under n F start) (h0 : ∀ v : Int, 0 ≤ v → v < n → rd S0 v = if inA es 0 v = true then rd F v else -1)
    (hS : Sp n (pt es 0) 1048560 S0 S) (hOF : Under n O F) (hOS : Under n O S) (hO : Wys n es S O 16) (hu : Up n es s 3145680 O) : Ac n es s O := by
  have hFz : 0 ≤ rd F s ∧ rd F s ≤ 0 := by have := hFs s s0 sn (by omega); omega
  have key : ∀ v d : Int, 0 ≤ v → v < n → Rch (pt es 0) s v d → (0 ≤ rd S v ∧ rd S v ≤ d) ∨ (inA es 0 s = false ∧ v = s ∧ d = 0) := by
    intro v d v0 vn hr
    cases hi : inA es 0 s with
    | true =>
      left
      have e := h0 s s0 sn
      rw [if_pos hi] at e
      have := hS.min s0 sn (by omega) hr
      omega
    | false =>
      right
      obtain ⟨h1, h2⟩ := rch_none (not_in hi) hr
      exact ⟨rfl, h1, h2⟩
  refine ⟨hu.l, hu.lo, hu.hi, hu.up, fun a v d a0 a1 hr v0 vn => ?_, fun a b v d0 d1 a1 a2 hb b0 bn hr0 hr1 v0 vn => ?_, fun a1 u b d1 d0 a11 a12 u0 un hin hr1 b0 bn hr0 => ?_⟩
  · by_cases e : a = 0
    · subst e
      rcases key v d v0 vn hr with h | ⟨_, h1, h2⟩
      · have := hOS v v0 vn h.1
        omega
      · subst h1
        have := hOF v v0 vn hFz.1
        omega
    · have h := hF a (by omega) (by omega) s v d s0 sn (by omega) hr v0 vn
      have := hOF v v0 vn h.1
      omega
  · rcases key b d0 b0 bn hr0 with h | ⟨h1, h2, _⟩
    · have := hO a a1 (by omega) b v d1 b0 bn h.1 hr1 v0 vn
      omega
    · subst h2
      rw [hb] at h1
      cases h1
  · have h1 := hF a1 a11 (by omega) s u d1 s0 sn (by omega) hr1 u0 un
    have h2 := h0 u u0 un
    rw [if_pos hin] at h2
    have h3 := hS.min u0 un (by omega) hr0
    refine ⟨?_, fun a2 v d2 a21 a22 v0 vn hr2 => ?_⟩
    · have := hOS b b0 bn h3.1
      omega
    · have := hO a2 a21 (by omega) b v d2 b0 bn h3.1 hr2 v0 vn
      omega

end Go.Proofs.Ytaaohfhcimndmaa.M
