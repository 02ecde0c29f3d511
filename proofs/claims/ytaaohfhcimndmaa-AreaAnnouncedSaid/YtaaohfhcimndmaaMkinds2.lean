/- Own lemmas: how graphs come in. -/
import Derived.Test.YtaaohfhcimndmaaMlives
namespace Go.Proofs.Ytaaohfhcimndmaa.M
open Go.RowKit Go.Proofs.YtaaohfhcimndmaaW.PrintWords Go.Proofs.YtaaohfhcimndmaaW.PrintLast Go.Proofs.YtaaohfhcimndmaaW.PrintMore 
set_option linter.unusedVariables false
set_option linter.unusedSimpArgs false

open Go.Proofs.Ytaaohfhcimndmaa.PAreaAnnounced
instance : Inhabited S46 := ⟨z46⟩
def Wf46 (x : S46) : Prop := WfI x.f0 ∧ WfI x.f1 ∧ WfI x.f2
theorem opens46 : Opens Try.prog k46 Wf46 46 :=
  opens_struct3 (a := Kd.int .i64) (b := Kd.int .i64) (c := Kd.int .i64) (g := fun x : S46 => (x.f0, x.f1, x.f2)) (fun p => ⟨p.1, p.2.1, p.2.2⟩) (fun _ => rfl) Try.underlying46 (by kernel_rfl) rfl rfl rfl (opens_int Try.underlying3 (by kernel_rfl)) (opens_int Try.underlying3 (by kernel_rfl)) (opens_int Try.underlying3 (by kernel_rfl))
theorem opens40 : Opens Try.prog (Kd.slice 46 k46) (fun xs => ∀ x ∈ xs, Wf46 x) 40 :=
  opens_slice opens46 Try.underlying40 (by kernel_rfl)
structure S42 where
  f0 : Int
  f1 : List S46
def k42 : Kd S42 := Kd.iso (Kd.pair (Kd.int .i64) (Kd.slice 46 k46)) (fun x : S42 => (x.f0, x.f1))
theorem opens42 : Opens Try.prog k42 (fun x => WfI x.f0 ∧ ∀ y ∈ x.f1, Wf46 y) 42 :=
  opens_struct2 (g := fun x : S42 => (x.f0, x.f1)) (fun p => ⟨p.1, p.2⟩) (fun _ => rfl) Try.underlying42 (by kernel_rfl) rfl rfl (opens_int Try.underlying3 (by kernel_rfl)) opens40
theorem k42_open {w : World} {x : S42} {cs : List Value} (h : k42.K w x cs) : ∃ A c, cs = [.int .i64 x.f0, .slice A x.f1.length c] ∧ x.f1.length ≤ c ∧ Kd.C k46 w A x.f1.length x.f1 := by
  obtain ⟨_, _, rfl, rfl, A, c, rfl, hl, hC⟩ := h
  exact ⟨A, c, rfl, hl, hC⟩

end Go.Proofs.Ytaaohfhcimndmaa.M
