/- Own lemmas: blocks of cells that are known whole; kinds of the arguments; small contracts. -/
import Derived.Test.YtaneaabmgnanbaaPAdvBackx
import Derived.Test.YtaneaabmgnanbaaMopen
import Derived.Lib.Hide
namespace Go.Proofs.Ytaneaabmgnanbaa.M
open Go.RowKit Go.Proofs.YtaneaabmgnanbaaW.PrintWords Go.Proofs.YtaneaabmgnanbaaW.PrintLast Go.Proofs.YtaneaabmgnanbaaW.PrintMore Go.Proofs.Ytaneaabmgnanbaa.PAdvBack
set_option linter.unusedVariables false
set_option linter.unusedSimpArgs false

theorem bcell {W w1 : World} (hb : Below W.heap.size W w1) : (∀ b o, b < W.heap.size → w1.cell? ⟨b, o, none⟩ = W.cell? ⟨b, o, none⟩) ∧ (∀ b o, b < W.heap.size → w1.frozen? ⟨b, o, none⟩ = W.frozen? ⟨b, o, none⟩) :=
  ⟨fun b o h => hb.cell (p := ⟨b, o, none⟩) h, fun b o h => hb.frozen (p := ⟨b, o, none⟩) h⟩
theorem blk_alloc (w : World) (o : Obj) : (w.alloc o).heap[w.heap.size]? = some o := heap_alloc_new w o
theorem blk_alloc_at (w : World) (o : Obj) {n : Nat} (h : w.heap.size = n) : (w.alloc o).heap[n]? = some o := by subst h; exact heap_alloc_new w o
theorem blk_keep {W w1 : World} (hb : Below W.heap.size W w1) {g : Nat} {o : Obj} (h : W.heap[g]? = some o) : w1.heap[g]? = some o := by
  rw [hb.block g (Array.getElem?_eq_some_iff.1 h).1]; exact h
theorem blk_lt {w : World} {g : Nat} {o : Obj} (h : w.heap[g]? = some o) : g < w.heap.size := (Array.getElem?_eq_some_iff.1 h).1
theorem blk_set {w : World} {g : Nat} {cs : Array Value} {t : Nat} {fr : Nat × Nat} (h : w.heap[g]? = some (.cells cs t fr)) (i : Nat) (v : Value) : (w.setCell ⟨g, i, none⟩ v).heap[g]? = some (.cells (cs.setIfInBounds i v) t fr) := by
  simp [World.setCell, Array.getElem?_modify, h]
theorem blk_cell {w : World} {g : Nat} {cs : Array Value} {t : Nat} {fr : Nat × Nat} (h : w.heap[g]? = some (.cells cs t fr)) (i : Nat) : w.cell? ⟨g, i, none⟩ = cs[i]? := by
  simp [World.cell?, h]
theorem blk_free {w : World} {g : Nat} {cs : Array Value} {t : Nat} (h : w.heap[g]? = some (.cells cs t (0, 0))) (i : Nat) : w.frozen? ⟨g, i, none⟩ = false := by
  simp [World.frozen?, h]
theorem blk_cells4 {w : World} {g : Nat} {a b c d : Value} {t : Nat} (h : w.heap[g]? = some (.cells #[a, b, c, d] t (0, 0))) :
    w.cell? ⟨g, 0, none⟩ = some a ∧ w.cell? ⟨g, 1, none⟩ = some b ∧ w.cell? ⟨g, 2, none⟩ = some c ∧ w.cell? ⟨g, 3, none⟩ = some d ∧ ∀ i, w.frozen? ⟨g, i, none⟩ = false :=
  ⟨blk_cell h 0, blk_cell h 1, blk_cell h 2, blk_cell h 3, blk_free h⟩
theorem some15_any (A : Option Addr) (ls L : List S28) (c m : Nat) (hL : Hid (L = ls.take m)) (hn : ls.length ≤ c) (w : World) : Calls Try.prog 15 #[.slice A ls.length c, .int .i64 m] w fun e w' => e = .returned (.slice A L.length c) ∧ w = w' := by
  have hu := Try.underlying22
  have hL := hL.out
  subst hL
  rw [List.length_take]
  by_cases h : ls.length ≤ m
  · have e : min m ls.length = ls.length := Nat.min_eq_right h
    rw [e]
    go_enter Try.func15, Try.ntmps15
    go_wp2
    go_ret
    exact ⟨rfl, rfl⟩
  · have e : min m ls.length = m := Nat.min_eq_left (by omega)
    rw [e]
    go_enter Try.func15, Try.ntmps15
    go_wp2
    go_ret
    exact ⟨rfl, rfl⟩
theorem advLives_ok : ∃ k, patchbaykeep2_advLives.f k = some true := ⟨30, by kernel_rfl⟩


instance : Inhabited S28 := ⟨z28⟩
def WfI (x : Int) : Prop := (Lit.int .i64 x).wf = true
def Wf28 (x : S28) : Prop := WfI x.f0 ∧ WfI x.f1
theorem opens28 : Opens Try.prog k28 Wf28 28 :=
  opens_struct2 (a := Kd.int .i64) (b := Kd.int .i64) (g := fun x : S28 => (x.f0, x.f1)) (fun p => ⟨p.1, p.2⟩) (fun _ => rfl) Try.underlying28 (by kernel_rfl) rfl rfl (opens_int Try.underlying3 (by kernel_rfl)) (opens_int Try.underlying3 (by kernel_rfl))
theorem opens22 : Opens Try.prog (Kd.slice 28 k28) (fun xs => ∀ x ∈ xs, Wf28 x) 22 :=
  opens_slice opens28 Try.underlying22 (by kernel_rfl)
structure S24 where
  f0 : Int
  f1 : Int
  f2 : Int
  f3 : List S28
def k24 : Kd S24 := Kd.iso (Kd.pair (Kd.int .i64) (Kd.pair (Kd.int .i64) (Kd.pair (Kd.int .i64) (Kd.slice 28 k28)))) (fun x : S24 => (x.f0, x.f1, x.f2, x.f3))
theorem opens24 : Opens Try.prog k24 (fun x => WfI x.f0 ∧ WfI x.f1 ∧ WfI x.f2 ∧ ∀ y ∈ x.f3, Wf28 y) 24 :=
  opens_struct4 (g := fun x : S24 => (x.f0, x.f1, x.f2, x.f3)) (fun p => ⟨p.1, p.2.1, p.2.2.1, p.2.2.2⟩) (fun _ => rfl) Try.underlying24 (by kernel_rfl) rfl rfl rfl rfl (opens_int Try.underlying3 (by kernel_rfl)) (opens_int Try.underlying3 (by kernel_rfl)) (opens_int Try.underlying3 (by kernel_rfl)) opens22
/-- What a struct argument's value is. -/
theorem k24_open {w : World} {x : S24} {cs : List Value} (h : k24.K w x cs) : ∃ A c, cs = [.int .i64 x.f0, .int .i64 x.f1, .int .i64 x.f2, .slice A x.f3.length c] ∧ x.f3.length ≤ c ∧ Kd.C k28 w A x.f3.length x.f3 := by
  obtain ⟨_, _, rfl, rfl, _, _, rfl, rfl, _, _, rfl, rfl, A, c, rfl, hl, hC⟩ := h
  exact ⟨A, c, rfl, hl, hC⟩

end Go.Proofs.Ytaneaabmgnanbaa.M
