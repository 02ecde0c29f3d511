/- Plain lemmas: the search. -/
import Derived.Test.YtaaohfhcimndmaaMrep
namespace Go.Proofs.Ytaaohfhcimndmaa.M
open Go.RowKit Go.Proofs.YtaaohfhcimndmaaW.PrintWords Go.Proofs.YtaaohfhcimndmaaW.PrintLast Go.Proofs.YtaaohfhcimndmaaW.PrintMore 
set_option linter.unusedVariables false
set_option linter.unusedSimpArgs false

open Go.Proofs.Ytaaohfhcimndmaa.PAreaAnnounced
/-! the search, plainly -/
structure GOk (n : Nat) (es : List S46) : Prop where
  n1 : 1 ≤ n
  n16 : n ≤ 16
  len : es.length ≤ 256
  ok : ∀ e ∈ es, 0 ≤ e.f0 ∧ e.f0 < n ∧ 0 ≤ e.f1 ∧ e.f1 < n ∧ 1 ≤ e.f2 ∧ e.f2 ≤ 65535
inductive Rch (es : List S46) (s : Int) : Int → Int → Prop
  | start : Rch es s s 0
  | step {u d : Int} {e : S46} : Rch es s u d → e ∈ es → e.f0 = u → Rch es s e.f1 (d + e.f2)
structure SInv (n : Nat) (es : List S46) (s : Int) (rest : List S46) (x : Int) (cost order : List Int) (q : List S99) : Prop where
  cl : cost.length = n
  c0 : rd cost s = 0
  clo : ∀ v : Int, 0 ≤ v → v < n → -1 ≤ rd cost v
  chi : ∀ v : Int, 0 ≤ v → v < n → rd cost v ≤ 65535 * 16
  cr : ∀ v : Int, 0 ≤ v → v < n → 0 ≤ rd cost v → Rch es s v (rd cost v)
  on : order.Nodup
  om : ∀ u ∈ order, (0 : Int) ≤ u ∧ u < (n : Int)
  qm : ∀ y ∈ q, 0 ≤ y.f0 ∧ y.f0 < n ∧ 0 ≤ rd cost y.f0 ∧ rd cost y.f0 ≤ y.f1 ∧ y.f1 ≤ 65535 * order.length
  fr : ∀ v : Int, 0 ≤ v → v < n → 0 ≤ rd cost v → v ∈ order ∨ (⟨v, rd cost v⟩ : S99) ∈ q
  oc : ∀ u ∈ order, 0 ≤ rd cost u ∧ ∀ y ∈ q, rd cost u ≤ y.f1
  done : ∀ e ∈ es, e.f0 ∈ order → (e.f0 = x ∧ e ∈ rest) ∨ (0 ≤ rd cost e.f1 ∧ rd cost e.f1 ≤ rd cost e.f0 + e.f2)
  hp : HP q q.length
  ql : q.length + rest.length ≤ 1 + order.length * es.length
structure XInv (n : Nat) (x xc : Int) (cost order : List Int) : Prop where
  xo : x ∈ order
  xe : rd cost x = xc
  xm : ∀ u ∈ order, rd cost u ≤ xc
  xb : xc + 65535 ≤ 65535 * order.length
  x0 : 0 ≤ xc
theorem nodup_len : ∀ {n : Nat} {l : List Int}, l.Nodup → (∀ u ∈ l, 0 ≤ u ∧ u < (n : Int)) → l.length ≤ n := by
  intro n
  induction n with
  | zero =>
    intro l _ hm
    cases l with
    | nil => exact Nat.le_refl _
    | cons a l => have := hm a List.mem_cons_self; omega
  | succ n ih =>
    intro l h hm
    have h1 := ih (l := l.erase (n : Int)) (h.erase _) (fun u hu => by
      have h2 := (List.Nodup.mem_erase_iff h).1 hu
      have h3 := hm u h2.2
      have h4 := h2.1
      omega)
    by_cases hn : (n : Int) ∈ l
    · rw [List.length_erase_of_mem hn] at h1
      omega
    · rw [List.erase_of_not_mem hn] at h1
      omega
theorem rd_set {cost : List Int} {i c v : Int} (h0 : 0 ≤ i) (h1 : i < cost.length) (v0 : 0 ≤ v) : rd (cost.set i.toNat c) v = if v = i then c else rd cost v := by
  unfold rd
  simp only [List.getD_eq_getElem?_getD, List.getElem?_set]
  by_cases e : v = i
  · subst e
    rw [if_pos rfl, if_pos rfl, if_pos (by omega)]
    rfl
  · rw [if_neg e, if_neg (by omega)]
theorem SInv.pop_skip {n : Nat} {es : List S46} {s x : Int} {cost order : List Int} {q q' : List S99} {y : S99} (h : SInv n es s [] x cost order q) (hp : q.Perm (y :: q')) (hh : HP q' q'.length)
    (hs : rd cost y.f0 ≠ y.f1 ∨ y.f0 ∈ order) : SInv n es s [] x cost order q' := by
  have hsub : ∀ z ∈ q', z ∈ q := fun z hz => hp.mem_iff.2 (List.mem_cons_of_mem _ hz)
  refine { h with qm := fun z hz => h.qm z (hsub z hz), fr := fun v h0 h1 h2 => ?_, oc := fun u hu => ⟨(h.oc u hu).1, fun z hz => (h.oc u hu).2 z (hsub z hz)⟩, hp := hh, ql := ?_ }
  · rcases h.fr v h0 h1 h2 with h3 | h3
    · exact .inl h3
    · rcases List.mem_cons.1 (hp.mem_iff.1 h3) with h4 | h4
      · subst h4
        rcases hs with hs | hs
        · exact absurd rfl hs
        · exact .inl hs
      · exact .inr h4
  · have := h.ql
    have := hp.length_eq
    simp only [List.length_cons] at this
    simp only [List.length_nil] at *
    omega
theorem SInv.pop_take {n : Nat} {es : List S46} {s x : Int} {cost order : List Int} {q q' : List S99} {y : S99} (h : SInv n es s [] x cost order q) (hp : q.Perm (y :: q')) (hh : HP q' q'.length)
    (hmin : ∀ z ∈ q, LEq y z) (h1 : rd cost y.f0 = y.f1) (h2 : y.f0 ∉ order) : SInv n es s es y.f0 cost (order ++ [y.f0]) q' ∧ XInv n y.f0 y.f1 cost (order ++ [y.f0]) := by
  have hsub : ∀ z ∈ q', z ∈ q := fun z hz => hp.mem_iff.2 (List.mem_cons_of_mem _ hz)
  have hy := h.qm y (hp.mem_iff.2 List.mem_cons_self)
  have hge : ∀ z ∈ q, y.f1 ≤ z.f1 := fun z hz => by have := hmin z hz; unfold LEq at this; omega
  have hlen : (order ++ [y.f0]).length = order.length + 1 := by simp
  refine ⟨{ h with on := ?_, om := ?_, qm := ?_, fr := ?_, oc := ?_, done := ?_, hp := hh, ql := ?_ }, ?_⟩
  · rw [List.nodup_append]
    exact ⟨h.on, by simp, fun a ha b hb => by rw [List.mem_singleton.1 hb]; rintro rfl; exact h2 ha⟩
  · intro u hu
    rcases List.mem_append.1 hu with hu | hu
    · exact h.om u hu
    · rw [List.mem_singleton.1 hu]; exact ⟨hy.1, hy.2.1⟩
  · intro z hz
    obtain ⟨a, b, c, d, e⟩ := h.qm z (hsub z hz)
    exact ⟨a, b, c, d, by rw [hlen]; omega⟩
  · intro v h0 h3 h4
    rcases h.fr v h0 h3 h4 with h5 | h5
    · exact .inl (List.mem_append_left _ h5)
    · rcases List.mem_cons.1 (hp.mem_iff.1 h5) with h6 | h6
      · have : v = y.f0 := by rw [← h6]
        exact .inl (List.mem_append_right _ (by rw [this]; exact List.mem_cons_self))
      · exact .inr h6
  · intro u hu
    rcases List.mem_append.1 hu with hu | hu
    · exact ⟨(h.oc u hu).1, fun z hz => (h.oc u hu).2 z (hsub z hz)⟩
    · rw [List.mem_singleton.1 hu]
      exact ⟨hy.2.2.1, fun z hz => by rw [h1]; exact hge z (hsub z hz)⟩
  · intro e he ho
    rcases List.mem_append.1 ho with ho | ho
    · rcases h.done e he ho with h5 | h5
      · exact absurd h5.2 List.not_mem_nil
      · exact .inr h5
    · exact .inl ⟨List.mem_singleton.1 ho, he⟩
  · have := h.ql
    have := hp.length_eq
    simp only [List.length_cons] at this
    simp only [List.length_nil] at *
    rw [hlen, Nat.add_mul]
    omega
  · refine ⟨List.mem_append_right _ List.mem_cons_self, h1, fun u hu => ?_, by rw [hlen]; omega, by omega⟩
    rcases List.mem_append.1 hu with hu | hu
    · exact (h.oc u hu).2 y (hp.mem_iff.2 List.mem_cons_self)
    · rw [List.mem_singleton.1 hu]; omega
theorem SInv.edge_keep {n : Nat} {es rest : List S46} {s x xc : Int} {cost order : List Int} {q : List S99} {e : S46} (h : SInv n es s (e :: rest) x cost order q) (hx : XInv n x xc cost order)
    (hk : e.f0 = x → 0 ≤ rd cost e.f1 ∧ rd cost e.f1 ≤ xc + e.f2) : SInv n es s rest x cost order q := by
  refine { h with done := fun d hd ho => ?_, ql := by have := h.ql; simp only [List.length_cons] at this; omega }
  rcases h.done d hd ho with ⟨h1, h2⟩ | h1
  · rcases List.mem_cons.1 h2 with h3 | h3
    · subst h3
      right
      rw [h1, hx.xe]
      exact hk h1
    · exact .inl ⟨h1, h3⟩
  · exact .inr h1
theorem SInv.edge_relax {n : Nat} {es rest : List S46} {s x xc : Int} {cost order : List Int} {q q' : List S99} {e : S46} (hg : GOk n es) (h : SInv n es s (e :: rest) x cost order q) (hx : XInv n x xc cost order) (he : e ∈ es)
    (h0 : e.f0 = x) (hr : rd cost e.f1 < 0 ∨ xc + e.f2 < rd cost e.f1) (hp : q'.Perm (⟨e.f1, xc + e.f2⟩ :: q)) (hh : HP q' q'.length) :
    SInv n es s rest x (cost.set e.f1.toNat (xc + e.f2)) order q' ∧ XInv n x xc (cost.set e.f1.toNat (xc + e.f2)) order := by
  obtain ⟨g0, g1, g2, g3, g4, g5⟩ := hg.ok e he
  have hol : order.length ≤ n := nodup_len h.on h.om
  have hn16 := hg.n16
  have hcl := h.cl
  have hset : ∀ v : Int, 0 ≤ v → rd (cost.set e.f1.toNat (xc + e.f2)) v = if v = e.f1 then xc + e.f2 else rd cost v := fun v hv => rd_set g2 (by omega) hv
  have hno : e.f1 ∉ order := fun hm => by
    have h1 := (h.oc e.f1 hm).1
    have h2 := hx.xm e.f1 hm
    omega
  have hordne : ∀ u ∈ order, u ≠ e.f1 := fun u hu => by rintro rfl; exact hno hu
  have hx0 := hx.x0
  have hxb := hx.xb
  have hs : s ≠ e.f1 := by
    intro hs
    have := h.c0
    rw [hs] at this
    omega
  have hqle : ∀ y ∈ q, y.f0 = e.f1 → xc + e.f2 ≤ y.f1 := fun y hy hye => by
    obtain ⟨_, _, a, b, _⟩ := h.qm y hy
    rw [hye] at a b
    omega
  have hs0 : 0 ≤ s ∨ s < 0 := by omega
  have hrs : ∀ v : Int, v ≠ e.f1 → rd (cost.set e.f1.toNat (xc + e.f2)) v = rd cost v ∨ v < 0 := fun v hv => by
    rcases Int.lt_or_le v 0 with h1 | h1
    · exact .inr h1
    · left; rw [hset v h1, if_neg hv]
  have hc0 : rd (cost.set e.f1.toNat (xc + e.f2)) s = 0 := by
    rcases Int.lt_or_le s 0 with h1 | h1
    · have h2 : rd cost s = 0 := h.c0
      unfold rd at h2 ⊢
      have : s.toNat = 0 := by omega
      rw [this] at h2 ⊢
      simp only [List.getD_eq_getElem?_getD, List.getElem?_set] at h2 ⊢
      by_cases h3 : e.f1.toNat = 0
      · exfalso
        rcases hr with hr | hr
        · unfold rd at hr; rw [h3] at hr; simp only [List.getD_eq_getElem?_getD] at hr; omega
        · unfold rd at hr; rw [h3] at hr; simp only [List.getD_eq_getElem?_getD] at hr; omega
      · rw [if_neg h3]; exact h2
    · rw [hset s h1, if_neg hs]; exact h.c0
  refine ⟨{ cl := by rw [List.length_set]; exact h.cl, c0 := hc0, clo := ?_, chi := ?_, cr := ?_, on := h.on, om := h.om, qm := ?_, fr := ?_, oc := ?_, done := ?_, hp := hh, ql := ?_ }, ?_⟩
  · intro v hv hvn
    rw [hset v hv]
    split
    · omega
    · exact h.clo v hv hvn
  · intro v hv hvn
    rw [hset v hv]
    split
    · omega
    · exact h.chi v hv hvn
  · intro v hv hvn h1
    rw [hset v hv] at h1 ⊢
    split
    · rename_i hve
      subst hve
      have hxn := h.om x hx.xo
      have := Rch.step (h.cr x hxn.1 hxn.2 (by rw [hx.xe]; exact hx0)) he h0
      rw [hx.xe] at this
      exact this
    · rename_i hve
      rw [if_neg hve] at h1
      exact h.cr v hv hvn h1
  · intro y hy
    rcases List.mem_cons.1 (hp.mem_iff.1 hy) with h1 | h1
    · subst h1
      show 0 ≤ e.f1 ∧ e.f1 < n ∧ 0 ≤ rd _ e.f1 ∧ rd _ e.f1 ≤ xc + e.f2 ∧ xc + e.f2 ≤ 65535 * order.length
      rw [hset e.f1 g2, if_pos rfl]
      exact ⟨g2, g3, by omega, Int.le_refl _, by omega⟩
    · obtain ⟨a, b, c, d, f⟩ := h.qm y h1
      rw [hset y.f0 a]
      by_cases h2 : y.f0 = e.f1
      · rw [if_pos h2]
        exact ⟨a, b, by omega, hqle y h1 h2, f⟩
      · rw [if_neg h2]
        exact ⟨a, b, c, d, f⟩
  · intro v hv hvn h1
    by_cases h2 : v = e.f1
    · right
      rw [hset v hv, if_pos h2, h2]
      exact hp.mem_iff.2 List.mem_cons_self
    · rw [hset v hv, if_neg h2] at h1
      rcases h.fr v hv hvn h1 with h3 | h3
      · exact .inl h3
      · right
        rw [hset v hv, if_neg h2]
        exact hp.mem_iff.2 (List.mem_cons_of_mem _ h3)
  · intro u hu
    rw [hset u (h.om u hu).1, if_neg (hordne u hu)]
    refine ⟨(h.oc u hu).1, fun y hy => ?_⟩
    rcases List.mem_cons.1 (hp.mem_iff.1 hy) with h1 | h1
    · subst h1
      show rd cost u ≤ xc + e.f2
      have := hx.xm u hu
      omega
    · exact (h.oc u hu).2 y h1
  · intro d hd ho
    obtain ⟨_, _, d2, d3, _, _⟩ := hg.ok d hd
    have hd0 := (h.om d.f0 ho).1
    rw [hset d.f1 d2, hset d.f0 hd0, if_neg (hordne _ ho)]
    rcases h.done d hd ho with ⟨h1, h2⟩ | ⟨h1, h2⟩
    · rcases List.mem_cons.1 h2 with h3 | h3
      · subst h3
        right
        rw [if_pos rfl, h1, hx.xe]
        omega
      · exact .inl ⟨h1, h3⟩
    · right
      split
      · rename_i h3
        rw [h3] at h1 h2
        have := (h.oc d.f0 ho).1
        omega
      · exact ⟨h1, h2⟩
  · have := h.ql
    have := hp.length_eq
    simp only [List.length_cons] at *
    omega
  · have hxn := (h.om x hx.xo).1
    exact ⟨hx.xo, by rw [hset x hxn, if_neg (hordne x hx.xo)]; exact hx.xe, fun u hu => by rw [hset u (h.om u hu).1, if_neg (hordne u hu)]; exact hx.xm u hu, hx.xb, hx.x0⟩
/-- What a search finds. -/
structure Dist (n : Nat) (es : List S46) (s : Int) (cost : List Int) : Prop where
  cl : cost.length = n
  c0 : rd cost s = 0
  clo : ∀ v : Int, 0 ≤ v → v < n → -1 ≤ rd cost v
  chi : ∀ v : Int, 0 ≤ v → v < n → rd cost v ≤ 65535 * 16
  cr : ∀ v : Int, 0 ≤ v → v < n → 0 ≤ rd cost v → Rch es s v (rd cost v)
  le : ∀ e ∈ es, 0 ≤ rd cost e.f0 → 0 ≤ rd cost e.f1 ∧ rd cost e.f1 ≤ rd cost e.f0 + e.f2
theorem SInv.end_ {n : Nat} {es : List S46} {s x : Int} {cost order : List Int} (hg : GOk n es) (h : SInv n es s [] x cost order []) : Dist n es s cost := by
  refine ⟨h.cl, h.c0, h.clo, h.chi, h.cr, fun e he h0 => ?_⟩
  obtain ⟨g0, g1, _⟩ := hg.ok e he
  rcases h.fr e.f0 g0 g1 h0 with h1 | h1
  · rcases h.done e he h1 with h2 | h2
    · exact absurd h2.2 List.not_mem_nil
    · exact h2
  · exact absurd h1 List.not_mem_nil
theorem SInv.start {n : Nat} {es : List S46} {s x : Int} (hg : GOk n es) (h0 : 0 ≤ s) (h1 : s < n) : SInv n es s [] x ((List.replicate n (-1)).set s.toNat 0) [] [⟨s, 0⟩] := by
  have hn16 := hg.n16
  have hset : ∀ v : Int, 0 ≤ v → v < n → rd ((List.replicate n (-1)).set s.toNat 0) v = if v = s then 0 else -1 := fun v hv hvn => by
    rw [rd_set h0 (by simp; omega) hv]
    split
    · rfl
    · unfold rd
      rw [List.getD_eq_getElem?_getD, List.getElem?_replicate, if_pos (by omega)]
      rfl
  have hs := hset s h0 h1
  rw [if_pos rfl] at hs
  refine { cl := by simp, c0 := hs, clo := ?_, chi := ?_, cr := ?_, on := List.nodup_nil, om := fun u hu => absurd hu List.not_mem_nil, qm := ?_, fr := ?_, oc := fun u hu => absurd hu List.not_mem_nil, done := fun e he ho => absurd ho List.not_mem_nil, hp := fun i hi hl => by simp at hl; omega, ql := by simp }
  · intro v hv hvn
    rw [hset v hv hvn]
    split <;> omega
  · intro v hv hvn
    rw [hset v hv hvn]
    split <;> omega
  · intro v hv hvn h2
    rw [hset v hv hvn] at h2 ⊢
    split
    · rename_i h3; rw [h3]; exact Rch.start
    · rename_i h3; rw [if_neg h3] at h2; omega
  · intro y hy
    rw [List.mem_singleton.1 hy]
    exact ⟨h0, h1, by show 0 ≤ rd _ s; rw [hs]; omega, by show rd _ s ≤ 0; rw [hs]; omega, by simp⟩
  · intro v hv hvn h2
    rw [hset v hv hvn] at h2
    by_cases h3 : v = s
    · right
      rw [h3, hs]
      exact List.mem_cons_self
    · rw [if_neg h3] at h2
      omega
theorem Dist.min {n : Nat} {es : List S46} {s : Int} {cost : List Int} (h : Dist n es s cost) {v d : Int} (hr : Rch es s v d) : 0 ≤ rd cost v ∧ rd cost v ≤ d := by
  induction hr with
  | start => rw [h.c0]; omega
  | step hr he hu ih =>
    subst hu
    have := h.le _ he ih.1
    omega
/-- Costs are told by what can be reached. -/
theorem Dist.eq {n : Nat} {es : List S46} {s : Int} {cost : List Int} (h : Dist n es s cost) {v : Int} (h0 : 0 ≤ v) (h1 : v < n) :
    (rd cost v = -1 ∧ ∀ d, ¬ Rch es s v d) ∨ (0 ≤ rd cost v ∧ Rch es s v (rd cost v) ∧ ∀ d, Rch es s v d → rd cost v ≤ d) := by
  rcases Int.lt_or_le (rd cost v) 0 with h2 | h2
  · left
    have := h.clo v h0 h1
    exact ⟨by omega, fun d hd => by have := (h.min hd).1; omega⟩
  · exact .inr ⟨h2, h.cr v h0 h1 h2, fun d hd => (h.min hd).2⟩

end Go.Proofs.Ytaaohfhcimndmaa.M
