/- Own lemmas: kinds of the arguments. -/
import Derived.Test.YtaaohfhcimndmaaMbase
namespace Go.Proofs.Ytaaohfhcimndmaa.M
open Go.RowKit Go.Proofs.YtaaohfhcimndmaaW.PrintWords Go.Proofs.YtaaohfhcimndmaaW.PrintLast Go.Proofs.YtaaohfhcimndmaaW.PrintMore 
set_option linter.unusedVariables false
set_option linter.unusedSimpArgs false

structure S24 where
  f0 : Int
  f1 : Int
def WfU (x : Int) : Prop := (Lit.int .u32 x).wf = true
structure S27 where
  f0 : Int
  f1 : Int
  f2 : List Int
  f3 : Int
  f4 : Int
  f5 : List Int
def k24 : Kd S24 := Kd.iso (Kd.pair (Kd.int .u32) (Kd.int .i64)) (fun x : S24 => (x.f0, x.f1))
theorem opens24 : Opens Try.prog k24 (fun x => WfU x.f0 ∧ WfI x.f1) 24 :=
  opens_struct2 (a := Kd.int .u32) (b := Kd.int .i64) (g := fun x : S24 => (x.f0, x.f1)) (fun p => ⟨p.1, p.2⟩) (fun _ => rfl) Try.underlying24 (by kernel_rfl) rfl rfl (opens_int Try.underlying22 (by kernel_rfl)) (opens_int Try.underlying3 (by kernel_rfl))
theorem opens25 : Opens Try.prog (Kd.slice 3 (Kd.int .i64)) (fun xs => ∀ x ∈ xs, WfI x) 25 :=
  opens_slice (opens_int Try.underlying3 (by kernel_rfl)) Try.underlying25 (by kernel_rfl)
def k27 : Kd (S24 × List Int × Int × Int × List Int) := Kd.iso (Kd.pair k24 (Kd.pair (Kd.slice 3 (Kd.int .i64)) (Kd.pair (Kd.int .i64) (Kd.pair (Kd.int .i64) (Kd.slice 3 (Kd.int .i64)))))) (fun x => x)
theorem opens27 : Opens Try.prog k27 (fun x => (WfU x.1.f0 ∧ WfI x.1.f1) ∧ (∀ y ∈ x.2.1, WfI y) ∧ WfI x.2.2.1 ∧ WfI x.2.2.2.1 ∧ (∀ y ∈ x.2.2.2.2, WfI y)) 27 :=
  opens_struct5 (g := fun x : S24 × List Int × Int × Int × List Int => x) (fun p => p) (fun _ => rfl) Try.underlying27 (by kernel_rfl) rfl rfl rfl rfl rfl opens24 opens25 (opens_int Try.underlying3 (by kernel_rfl)) (opens_int Try.underlying3 (by kernel_rfl)) opens25
theorem k27_open {w : World} {x : S24 × List Int × Int × Int × List Int} {cs : List Value} (h : k27.K w x cs) : ∃ A c B d, cs = [.int .u32 x.1.f0, .int .i64 x.1.f1, .slice A x.2.1.length c, .int .i64 x.2.2.1, .int .i64 x.2.2.2.1, .slice B x.2.2.2.2.length d] ∧ (x.2.1.length ≤ c ∧ Kd.C (Kd.int .i64) w A x.2.1.length x.2.1) ∧ (x.2.2.2.2.length ≤ d ∧ Kd.C (Kd.int .i64) w B x.2.2.2.2.length x.2.2.2.2) := by
  obtain ⟨_, _, rfl, ⟨_, _, rfl, rfl, rfl⟩, _, _, rfl, ⟨A, c, rfl, hl, hC⟩, _, _, rfl, rfl, _, _, rfl, rfl, B, d, rfl, hl2, hC2⟩ := h
  exact ⟨A, c, B, d, rfl, ⟨hl, hC⟩, hl2, hC2⟩

end Go.Proofs.Ytaaohfhcimndmaa.M
