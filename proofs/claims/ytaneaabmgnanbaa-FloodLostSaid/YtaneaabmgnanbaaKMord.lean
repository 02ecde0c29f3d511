import Derived.Test.YtaneaabmgnanbaaKMmix
namespace Go.Proofs.Ytaneaabmgnanbaa.M
open Go.RowKit Go.Proofs.YtaneaabmgnanbaaW.PrintWords Go.Proofs.YtaneaabmgnanbaaW.PrintLast Go.Proofs.YtaneaabmgnanbaaW.PrintMore Go.Proofs.Ytaneaabmgnanbaa.PAdvBack
set_option linter.unusedVariables false
set_option linter.unusedSimpArgs false
theorem cmpI_neg (x y : Int) : cmpI x y = - cmpI y x := by unfold cmpI; split <;> split <;> (try split) <;> omega
theorem newerP_neg (a b : S24) : newerP a b = - newerP b a := by
 unfold newerP or3
 rw [cmpI_neg a.f1 b.f1, cmpI_neg (gone a.f2) (gone b.f2), cmpI_neg (rankv a.f0 a.f1 a.f3) (rankv b.f0 b.f1 b.f3)]
 split <;> split <;> (try split) <;> (try split) <;> omega
theorem cmpI_cases (x y : Int) : (x < y ∧ cmpI x y = -1) ∨ (x = y ∧ cmpI x y = 0) ∨ (y < x ∧ cmpI x y = 1) := by
 unfold cmpI
 rcases Int.lt_trichotomy x y with h | h | h
 · exact .inl ⟨h, if_pos h⟩
 · exact .inr (.inl ⟨h, by rw [if_neg (by omega), if_neg (by omega)]⟩)
 · exact .inr (.inr ⟨h, by rw [if_neg (by omega), if_pos h]⟩)
theorem newerP_trans (a b c : S24) (h1 : 0 ≤ newerP a b) (h2 : 0 ≤ newerP b c) : 0 ≤ newerP a c := by
 unfold newerP or3 at *
 generalize rankv a.f0 a.f1 a.f3 = ra at *
 generalize rankv b.f0 b.f1 b.f3 = rb at *
 generalize rankv c.f0 c.f1 c.f3 = rc at *
 generalize gone a.f2 = ga at *
 generalize gone b.f2 = gb at *
 generalize gone c.f2 = gc at *
 rcases cmpI_cases a.f1 b.f1 with ⟨l1, e1⟩ | ⟨l1, e1⟩ | ⟨l1, e1⟩ <;> rcases cmpI_cases b.f1 c.f1 with ⟨l2, e2⟩ | ⟨l2, e2⟩ | ⟨l2, e2⟩ <;> rw [e1] at h1 <;> rw [e2] at h2 <;>
  rcases cmpI_cases a.f1 c.f1 with ⟨l3, e3⟩ | ⟨l3, e3⟩ | ⟨l3, e3⟩ <;> rw [e3] <;> (try omega) <;> simp at h1 h2 ⊢ <;>
  rcases cmpI_cases ga gb with ⟨l4, e4⟩ | ⟨l4, e4⟩ | ⟨l4, e4⟩ <;> rcases cmpI_cases gb gc with ⟨l5, e5⟩ | ⟨l5, e5⟩ | ⟨l5, e5⟩ <;> rw [e4] at h1 <;> rw [e5] at h2 <;>
  rcases cmpI_cases ga gc with ⟨l6, e6⟩ | ⟨l6, e6⟩ | ⟨l6, e6⟩ <;> rw [e6] <;> (try omega) <;> simp at h1 h2 ⊢ <;>
  rcases cmpI_cases ra rb with ⟨l7, e7⟩ | ⟨l7, e7⟩ | ⟨l7, e7⟩ <;> rcases cmpI_cases rb rc with ⟨l8, e8⟩ | ⟨l8, e8⟩ | ⟨l8, e8⟩ <;> rw [e7] at h1 <;> rw [e8] at h2 <;>
  rcases cmpI_cases ra rc with ⟨l9, e9⟩ | ⟨l9, e9⟩ | ⟨l9, e9⟩ <;> rw [e9] <;> omega
theorem NewerP_good {a b : S24} (h1 : chk a.f0 a.f1 a.f2 a.f3 = 0) (h2 : chk b.f0 b.f1 b.f2 b.f3 = 0) (h3 : a.f0 = b.f0) : NewerP a b = (newerP a b, 0) := by
 unfold NewerP
 rw [if_neg (not_not_intro h1), if_neg (not_not_intro h2), if_neg (not_not_intro h3)]
theorem newerP_refl (a : S24) : newerP a a = 0 := by
 have := newerP_neg a a
 omega
structure SpecDb (d : Db) (S : List S24) : Prop where
 has : ∀ i, d.2 i = true ↔ ∃ a ∈ S, Chk a = 0 ∧ a.f0.toNat = i
 top : ∀ i, d.2 i = true → d.1 i ∈ S ∧ Chk (d.1 i) = 0 ∧ (d.1 i).f0.toNat = i ∧ ∀ b ∈ S, Chk b = 0 → b.f0.toNat = i → 0 ≤ newerP (d.1 i) b
 none : ∀ i, d.2 i = false → d.1 i = ⟨0, 0, 0, []⟩
theorem SpecDb.put {d : Db} {S : List S24} (h : SpecDb d S) (a : S24) : SpecDb (put d a) (S ++ [a]) := by
 have old : ∀ (hn : ∀ i, Chk a = 0 → a.f0.toNat = i → d.2 i = true ∧ 0 ≤ newerP (d.1 i) a), SpecDb d (S ++ [a]) := fun hn => by
  refine ⟨fun i => ⟨fun hi => ?_, fun ⟨b, hb, h1, h2⟩ => ?_⟩, fun i hi => ?_, h.none⟩
  · obtain ⟨b, hb, h1⟩ := (h.has i).1 hi
    exact ⟨b, List.mem_append_left _ hb, h1⟩
  · rcases List.mem_append.1 hb with hb | hb
    · exact (h.has i).2 ⟨b, hb, h1, h2⟩
    · rw [List.mem_singleton.1 hb] at h1 h2
      exact (hn i h1 h2).1
  · obtain ⟨h1, h2, h3, h4⟩ := h.top i hi
    refine ⟨List.mem_append_left _ h1, h2, h3, fun b hb hv hi' => ?_⟩
    rcases List.mem_append.1 hb with hb | hb
    · exact h4 b hb hv hi'
    · rw [List.mem_singleton.1 hb] at hv hi' ⊢
      exact (hn i hv hi').2
 unfold M.put
 split
 · rename_i hc
   obtain ⟨hv, hnew⟩ := hc
   have all : ∀ b ∈ S ++ [a], Chk b = 0 → b.f0.toNat = a.f0.toNat → 0 ≤ newerP a b := fun b hb hbv hbi => by
    rcases List.mem_append.1 hb with hb | hb
    · have hh := (h.has a.f0.toNat).2 ⟨b, hb, hbv, hbi⟩
      have h1 := hnew hh
      exact newerP_trans a _ b (by omega) ((h.top _ hh).2.2.2 b hb hbv hbi)
    · rw [List.mem_singleton.1 hb, newerP_refl]; exact Int.le_refl 0
   have hma : a ∈ S ++ [a] := List.mem_append_right _ List.mem_cons_self
   refine ⟨fun i => ?_, fun i hi => ?_, fun i hi => ?_⟩
   · by_cases e : i = a.f0.toNat
     · simp only [setDb, e, if_true]
       exact ⟨fun _ => ⟨a, hma, hv, rfl⟩, fun _ => trivial⟩
     · simp only [setDb, if_neg e]
       constructor
       · intro hi
         obtain ⟨b, hb, h1⟩ := (h.has i).1 hi
         exact ⟨b, List.mem_append_left _ hb, h1⟩
       · rintro ⟨b, hb, h1, h2⟩
         rcases List.mem_append.1 hb with hb | hb
         · exact (h.has i).2 ⟨b, hb, h1, h2⟩
         · rw [List.mem_singleton.1 hb] at h2
           exact absurd h2.symm e
   · by_cases e : i = a.f0.toNat
     · subst e
       simp only [setDb, if_true]
       exact ⟨hma, hv, trivial, all⟩
     · simp only [setDb, if_neg e] at hi ⊢
       obtain ⟨h1, h2, h3, h4⟩ := h.top i hi
       refine ⟨List.mem_append_left _ h1, h2, h3, fun b hb hbv hbi => ?_⟩
       rcases List.mem_append.1 hb with hb | hb
       · exact h4 b hb hbv hbi
       · rw [List.mem_singleton.1 hb] at hbi
         exact absurd hbi.symm e
   · by_cases e : i = a.f0.toNat
     · simp only [setDb, e, if_true] at hi
       exact absurd hi (by simp)
     · simp only [setDb, if_neg e] at hi ⊢
       exact h.none i hi
 · rename_i hc
   refine old (fun i hv hi => ?_)
   subst hi
   have hh : d.2 a.f0.toNat = true := by
    cases hb : d.2 a.f0.toNat with
    | true => rfl
    | false => exact absurd ⟨hv, fun h => by rw [hb] at h; cases h⟩ hc
   refine ⟨hh, ?_⟩
   have h1 : ¬ 0 < newerP a (d.1 a.f0.toNat) := fun h => hc ⟨hv, fun _ => h⟩
   have := newerP_neg a (d.1 a.f0.toNat)
   omega
def Same (a b : S24) : Prop := Chk a = 0 ∧ Chk b = 0 ∧ a.f0 = b.f0 ∧ newerP a b = 0
theorem Same.symm {a b : S24} (h : Same a b) : Same b a := ⟨h.2.1, h.1, h.2.2.1.symm, by have := newerP_neg b a; have := h.2.2.2; omega⟩
theorem list_len {d : Db} (hd : DbOk d) : ∀ x ∈ listOf d, x.f3.length ≤ 1000 := by
 intro x hx
 unfold listOf listTo at hx
 obtain ⟨i, _, rfl⟩ := List.mem_map.1 hx
 have := (hd.valid i).1
 omega
end Go.Proofs.Ytaneaabmgnanbaa.M
