import Derived.Test.YtaneaabmgnanbaaKWWords
import Derived.Deep.Slices
import Derived.ChangeArms
namespace Go.Proofs.Ytaneaabmgnanbaa.M
open Go.RowKit Go.Proofs.YtaneaabmgnanbaaW.PrintWords
structure Opens (P : Program) {α : Type} (d : Kd α) (Wf : α → Prop) (t : TypeId) : Prop where
 sz : P.cellsOf t = d.sz
 out : ∀ {H : Type} {enc : TypeId × Value → H} {w : World} {base : Nat} {spare : Nat → Bool} {held : Bool} {n : Nat} {cs : List Value} {y : DataW H × List MemPlace},
  DataW.trod enc P w base spare held n t cs = some y → ∃ x, d.K w x cs ∧ Wf x
variable {P : Program}
theorem opens_int {k : IntKind} {t : TypeId} (hu : P.underlying t = some (.int k)) (hc : P.cellsOf t = 1) : Opens P (Kd.int k) (fun x => (Lit.int k x).wf = true) t :=
 ⟨hc, fun h => by
  obtain ⟨n, rfl, _, hw⟩ := DataW.trod_int hu h
  exact ⟨n, rfl, hw⟩⟩
theorem opens_slice {α : Type} {d : Kd α} {Wf : α → Prop} {t e : TypeId} [Inhabited α] (hd : Opens P d Wf e) (hu : P.underlying t = some (.slice e)) (hc : P.cellsOf t = 1) :
 Opens P (Kd.slice e d) (fun xs => ∀ x ∈ xs, Wf x) t :=
 ⟨hc, fun {H enc w base spare held n cs y} h => by
  rcases Deep.open_slice hu h with ⟨rfl, _⟩ | ⟨a, len, cap, m, n', D, Pl, rfl, _, hl, hm, hmm, _, hx⟩
  · exact ⟨[], ⟨none, 0, rfl, Nat.le_refl _, rfl, by simp, fun h => absurd h (by simp)⟩, by simp⟩
  · have hlm : len ≤ m := by rw [hmm]; split <;> omega
    obtain ⟨f, hf⟩ := Deep.choose_lt (α := α) (n := len) (p := fun i x => ∃ cs', w.cells? base (a.add (i * P.cellsOf e)) (P.cellsOf e) = some cs' ∧ d.K w x cs' ∧ Wf x) (fun i hi => by
     obtain ⟨cs', h1, h2⟩ := hx i (by omega)
     obtain ⟨x, h3, h4⟩ := hd.out h2
     exact ⟨x, cs', h1, h3, h4⟩)
    refine ⟨(List.range len).map f, ⟨some a, cap, by simp, by simpa using hl, by simp, by simp only [maxLen] at hm; simp; omega, fun _ => ⟨a, rfl, ?_⟩⟩, ?_⟩
    · intro j p hj
      have hjl : j < len := by
       have := (List.getElem?_eq_some_iff.1 hj).1
       simpa using this
      obtain ⟨cs', h1, h2, _⟩ := hf j hjl
      obtain rfl : f j = p := by simpa [List.getElem?_map, hjl] using hj
      refine ⟨cs', d.K_len h2, h2, fun i u hu => ?_⟩
      obtain ⟨_, hlen, hcell⟩ := World.cells?_some h1
      have hi : i < P.cellsOf e := by
       have := (List.getElem?_eq_some_iff.1 hu).1
       omega
      have h5 := hcell i hi
      rw [Deep.add_add, hd.sz] at h5
      rw [← hu]
      exact h5
    · intro x hx
      obtain ⟨i, hi, rfl⟩ := List.mem_map.1 hx
      exact (hf i (List.mem_range.1 hi)).choose_spec.2.2⟩
theorem opens_struct2 {α β γ : Type} {a : Kd α} {b : Kd β} {Wa : α → Prop} {Wb : β → Prop} {t : TypeId} {f0 f1 : Field} {g : γ → α × β} (mk : α × β → γ) (hmk : ∀ p, g (mk p) = p)
 (hu : P.underlying t = some (.struct #[f0, f1])) (hc : P.cellsOf t = a.sz + b.sz) (o0 : f0.offset = 0) (o1 : f1.offset = a.sz) (ha : Opens P a Wa f0.type) (hb : Opens P b Wb f1.type) :
 Opens P (Kd.iso (Kd.pair a b) g) (fun x => Wa (g x).1 ∧ Wb (g x).2) t :=
 ⟨hc, fun {H enc w base spare held n cs y} h => by
  obtain ⟨xs, k, hk, hxy, hlen, hxl, hf⟩ := DataW.trod_struct hu h
  obtain ⟨y0, h0⟩ : ∃ y0, xs[0]? = some y0 := ⟨xs[0]'(by simp at hxl; omega), by simp⟩
  obtain ⟨y1, h1⟩ : ∃ y1, xs[1]? = some y1 := ⟨xs[1]'(by simp at hxl; omega), by simp⟩
  have e0 := (hf 0 f0 rfl).trans h0
  have e1 := (hf 1 f1 rfl).trans h1
  obtain ⟨x0, k0, w0⟩ := ha.out e0
  obtain ⟨x1, k1, w1⟩ := hb.out e1
  refine ⟨mk (x0, x1), ?_, by rw [hmk]; exact ⟨w0, w1⟩⟩
  show (Kd.pair a b).K w (g (mk (x0, x1))) cs
  rw [hmk]
  refine ⟨_, _, ?_, k0, k1⟩
  rw [o0, o1, ha.sz, hb.sz, List.drop_zero]
  rw [List.take_of_length_le (l := List.drop a.sz cs) (by rw [List.length_drop]; omega)]
  exact (List.take_append_drop _ _).symm⟩
theorem opens_struct4 {α β γ δ ε : Type} {a : Kd α} {b : Kd β} {c : Kd γ} {d : Kd δ} {Wa : α → Prop} {Wb : β → Prop} {Wc : γ → Prop} {Wd : δ → Prop} {t : TypeId} {f0 f1 f2 f3 : Field} {g : ε → α × β × γ × δ} (mk : α × β × γ × δ → ε) (hmk : ∀ p, g (mk p) = p)
 (hu : P.underlying t = some (.struct #[f0, f1, f2, f3])) (hc : P.cellsOf t = a.sz + (b.sz + (c.sz + d.sz))) (o0 : f0.offset = 0) (o1 : f1.offset = a.sz) (o2 : f2.offset = a.sz + b.sz) (o3 : f3.offset = a.sz + b.sz + c.sz)
 (ha : Opens P a Wa f0.type) (hb : Opens P b Wb f1.type) (hcc : Opens P c Wc f2.type) (hd : Opens P d Wd f3.type) :
 Opens P (Kd.iso (Kd.pair a (Kd.pair b (Kd.pair c d))) g) (fun x => Wa (g x).1 ∧ Wb (g x).2.1 ∧ Wc (g x).2.2.1 ∧ Wd (g x).2.2.2) t :=
 ⟨hc, fun {H enc w base spare held n cs y} h => by
  obtain ⟨xs, k, hk, hxy, hlen, hxl, hf⟩ := DataW.trod_struct hu h
  obtain ⟨y0, h0⟩ : ∃ y0, xs[0]? = some y0 := ⟨xs[0]'(by simp at hxl; omega), by simp⟩
  obtain ⟨y1, h1⟩ : ∃ y1, xs[1]? = some y1 := ⟨xs[1]'(by simp at hxl; omega), by simp⟩
  obtain ⟨y2, h2⟩ : ∃ y2, xs[2]? = some y2 := ⟨xs[2]'(by simp at hxl; omega), by simp⟩
  obtain ⟨y3, h3⟩ : ∃ y3, xs[3]? = some y3 := ⟨xs[3]'(by simp at hxl; omega), by simp⟩
  have e0 := (hf 0 f0 rfl).trans h0
  have e1 := (hf 1 f1 rfl).trans h1
  have e2 := (hf 2 f2 rfl).trans h2
  have e3 := (hf 3 f3 rfl).trans h3
  obtain ⟨x0, k0, w0⟩ := ha.out e0
  obtain ⟨x1, k1, w1⟩ := hb.out e1
  obtain ⟨x2, k2, w2⟩ := hcc.out e2
  obtain ⟨x3, k3, w3⟩ := hd.out e3
  refine ⟨mk (x0, x1, x2, x3), ?_, by rw [hmk]; exact ⟨w0, w1, w2, w3⟩⟩
  show (Kd.pair a (Kd.pair b (Kd.pair c d))).K w (g (mk (x0, x1, x2, x3))) cs
  rw [hmk]
  refine ⟨_, _, ?_, k0, _, _, rfl, k1, _, _, rfl, k2, k3⟩
  rw [o0, o1, o2, o3, ha.sz, hb.sz, hcc.sz, hd.sz, List.drop_zero]
  rw [List.take_of_length_le (l := List.drop (a.sz + b.sz + c.sz) cs) (by rw [List.length_drop]; omega)]
  rw [← List.drop_drop (i := c.sz), List.take_append_drop, ← List.drop_drop, List.take_append_drop, List.take_append_drop]⟩
theorem C_take {α : Type} {d : Kd α} {w : World} {A : Option Addr} {n : Nat} {xs : List α} (m : Nat) (h : d.C w A n xs) : d.C w A (xs.take m).length (xs.take m) := by
 refine ⟨rfl, by have := h.1; have := h.2.1; rw [List.length_take]; omega, fun hp => ?_⟩
 obtain ⟨ad, e, hc⟩ := h.2.2 (by have := h.1; rw [List.length_take] at hp; omega)
 refine ⟨ad, e, fun j p hj => hc j p ?_⟩
 rw [List.getElem?_take] at hj
 split at hj
 · exact hj
 · cases hj
end Go.Proofs.Ytaneaabmgnanbaa.M
