/- Own lemmas: the queue (heap) of short. -/
import Derived.Test.YtaaohfhcimndmaaMbase
import Derived.Test.YtaaohfhcimndmaaPAreaAnnouncedx
import Derived.LoopTactic
import Derived.BigQuiet
import Derived.RegionTactic
import Derived.BigRegion
namespace Go.Proofs.Ytaaohfhcimndmaa.M
open Go.RowKit Go.Proofs.YtaaohfhcimndmaaW.PrintWords Go.Proofs.YtaaohfhcimndmaaW.PrintLast Go.Proofs.YtaaohfhcimndmaaW.PrintMore 
set_option linter.unusedVariables false
set_option linter.unusedSimpArgs false

open Go.Proofs.Ytaaohfhcimndmaa.PAreaAnnounced
/-! seen: a node and its cost; the queue's rows -/
structure S99 where
  f0 : Int
  f1 : Int
def z99 : S99 := ⟨0, 0⟩
instance : Inhabited S99 := ⟨z99⟩
def k99 : Kd S99 := Kd.iso (Kd.pair (Kd.int .i64) (Kd.int .i64)) (fun x : S99 => (x.f0, x.f1))
theorem info99 : (Try.prog.info? 99).map (fun i => (i.zero, i.size, i.bytes)) = some (some (.agg #[.int .i64 0, .int .i64 0]), 2, 16) := by kernel_rfl
theorem k99_open {w : World} {x : S99} {cs : List Value} (h : k99.K w x cs) : cs = [.int .i64 x.f0, .int .i64 x.f1] := by
  obtain ⟨_, _, rfl, rfl, rfl⟩ := h
  rfl
theorem k99_mk (w : World) (x : S99) : k99.K w x [.int .i64 x.f0, .int .i64 x.f1] := ⟨[.int .i64 x.f0], [.int .i64 x.f1], rfl, rfl, rfl⟩
theorem k99_mkM (w : World) (base : Nat) (ok : Nat → Prop) (x : S99) : k99.M w base ok x [.int .i64 x.f0, .int .i64 x.f1] := ⟨[.int .i64 x.f0], [.int .i64 x.f1], rfl, rfl, rfl⟩
theorem C99_cell {w : World} {A : Option Addr} {xs : List S99} (h : Kd.C k99 w A xs.length xs) (hp : 0 < xs.length) : ∃ ad, A = some ad ∧ ∀ j, j < xs.length → w.cell? (ad.add (j * 2)) = some (.int .i64 (xs.getD j z99).f0) ∧ w.cell? ⟨(ad.add (j * 2)).block, (ad.add (j * 2)).off + 1, none⟩ = some (.int .i64 (xs.getD j z99).f1) := by
  obtain ⟨ad, _, rfl, _⟩ := Kd.C_get h z99 0 (by omega) (by omega)
  refine ⟨ad, rfl, fun j hj => ?_⟩
  obtain ⟨ad', c, e, hl, hK, hc⟩ := Kd.C_get h z99 j (by omega) (by omega)
  cases e
  have hcs := k99_open hK
  subst hcs
  exact ⟨hc 0 _ rfl, by rw [← add_field _ _ 1 (by omega)]; exact hc 1 _ rfl⟩
def lss (a b : S99) : Bool := decide (a.f1 < b.f1) || (a.f1 == b.f1 && decide (a.f0 < b.f0))
set_option maxHeartbeats 1000000 in
set_option maxRecDepth 100000 in
theorem Less88 (A : Option Addr) (c i j : Nat) (l : List S99) (w : World) (hi : i < l.length) (hj : j < l.length) (hn : l.length ≤ 1000000) (hK : Hid (Kd.C k99 w A l.length l)) :
    Calls Try.prog 88 #[.slice A l.length c, .int .i64 i, .int .i64 j] w fun e w' => e = .returned (.bool (lss (l.getD i z99) (l.getD j z99))) ∧ Drawn0 w w' := by
  have hu := Try.underlying101
  have hu2 := Try.underlying99
  obtain ⟨ad, rfl, hcell⟩ := C99_cell hK.out (by omega)
  obtain ⟨i0, i1⟩ := hcell i hi
  obtain ⟨j0, j1⟩ := hcell j hj
  have hi2 : (i : Int) < l.length := by omega
  have hj2 : (j : Int) < l.length := by omega
  have hi3 : 0 ≤ (i : Int) := by omega
  have hj3 : 0 ≤ (j : Int) := by omega
  generalize l.getD i z99 = a at *
  generalize l.getD j z99 = b at *
  clear hcell hK
  unfold lss
  by_cases h1 : a.f1 < b.f1
  · have d1 : decide (a.f1 < b.f1) = true := decide_eq_true h1
    rw [d1, Bool.true_or]
    clear h1
    go_enter Try.func88, Try.ntmps88
    go_wp2
    go_quiet (fail)
    go_wp2
    go_ret
    exact ⟨rfl, ⟨⟨_, rfl⟩⟩⟩
  · have d1 : decide (a.f1 < b.f1) = false := decide_eq_false h1
    rw [d1, Bool.false_or]
    by_cases h2 : a.f1 = b.f1
    · have d2 : (a.f1 == b.f1) = true := beq_iff_eq.mpr h2
      rw [d2, Bool.true_and]
      clear h1 h2
      go_enter Try.func88, Try.ntmps88
      go_wp2
      go_quiet (fail)
      go_wp2
      go_ret
      exact ⟨rfl, ⟨⟨_, rfl⟩⟩⟩
    · have d2 : (a.f1 == b.f1) = false := beq_eq_false_iff_ne.mpr h2
      rw [d2, Bool.false_and]
      clear h1 h2
      go_enter Try.func88, Try.ntmps88
      go_wp2
      go_quiet (fail)
      go_wp2
      go_ret
      exact ⟨rfl, ⟨⟨_, rfl⟩⟩⟩
theorem Len87 (A : Option Addr) (c n : Nat) (w : World) : Calls Try.prog 87 #[.slice A n c] w fun e w' => e = .returned (.int .i64 n) ∧ w = w' := by
  have hu := Try.underlying101
  go_enter Try.func87, Try.ntmps87
  go_wp2
  go_ret
  exact ⟨rfl, rfl⟩
theorem R99_set {W : World} {g n cap base : Nat} {ok : Nat → Prop} {xs : List S99} (h : Kd.R k99 99 W base ok (.slice (some ⟨g, 0, none⟩) n cap) xs) {i : Nat} (hi : i < xs.length) (x : S99) :
    Kd.R k99 99 ((W.setCell ⟨g, i * 2, none⟩ (.int .i64 x.f0)).setCell ⟨g, i * 2 + 1, none⟩ (.int .i64 x.f1)) base ok (.slice (some ⟨g, 0, none⟩) n cap) (xs.set i x) ∧ W.grownBy ((W.setCell ⟨g, i * 2, none⟩ (.int .i64 x.f0)).setCell ⟨g, i * 2 + 1, none⟩ (.int .i64 x.f1)) (some g) := by
  obtain ⟨hn, hle, hC⟩ := Kd.R_reads' h
  subst hn
  obtain ⟨ad, e, hcell⟩ := C99_cell hC (by omega)
  obtain rfl : ⟨g, 0, none⟩ = ad := by injection e
  obtain ⟨i0, i1⟩ := hcell i hi
  rw [add_plain] at i0 i1
  have hs := Kd.R_seg (d := k99) h (i : Int) (by omega) (by omega) (c := [.int .i64 (xs.getD i z99).f0, .int .i64 (xs.getD i z99).f1]) (seg := [.int .i64 x.f0, .int .i64 x.f1]) (j := 0) rfl (fun j u hu => by
    rcases j with _ | _ | j
    · simp at hu; subst hu; exact i0
    · simp at hu; subst hu; exact i1
    · simp at hu) (by simp; decide) (x' := x) (okp := fun _ => False) (k99_mkM _ _ _ x) (fun _ hk => hk.elim)
  exact hs
def swp (l : List S99) (i j : Nat) : List S99 := (l.set i (l.getD j z99)).set j (l.getD i z99)
set_option maxHeartbeats 1000000 in
set_option maxRecDepth 100000 in
theorem Swap89 (g c i j base : Nat) (ok : Nat → Prop) (l : List S99) (w : World) (hi : i < l.length) (hj : j < l.length) (hn : l.length ≤ 1000000) (HR : Hid (Kd.R k99 99 w base ok (.slice (some ⟨g, 0, none⟩) l.length c) l)) :
    Calls Try.prog 89 #[.slice (some ⟨g, 0, none⟩) l.length c, .int .i64 i, .int .i64 j] w fun e w' => e = .returned (.tuple #[]) ∧ Kd.R k99 99 w' base ok (.slice (some ⟨g, 0, none⟩) l.length c) (swp l i j) ∧ w.grownBy w' (some g) := by
  have hu := Try.underlying101
  have hu2 := Try.underlying99
  obtain ⟨_, hle, hC⟩ := Kd.R_reads' HR.out
  obtain ⟨ad, e, hcell⟩ := C99_cell hC (by omega)
  obtain rfl : ⟨g, 0, none⟩ = ad := by injection e
  obtain ⟨i0, i1⟩ := hcell i hi
  obtain ⟨j0, j1⟩ := hcell j hj
  rw [add_plain] at i0 i1 j0 j1
  have hi2 : (i : Int) < l.length := by omega
  have hj2 : (j : Int) < l.length := by omega
  have hi3 : 0 ≤ (i : Int) := by omega
  have hj3 : 0 ≤ (j : Int) := by omega
  have hfz : ∀ k, w.frozen? ⟨g, k, none⟩ = false := by
    obtain ⟨_, inner, ho, _⟩ := HR.out
    obtain ⟨cells, hc⟩ := own_typed ho g (by simp [Value.ownBlock])
    exact blk_free hc
  obtain ⟨a, Ha⟩ : ∃ a, Hid (a = l.getD i z99) := ⟨_, Lib.hid rfl⟩
  obtain ⟨b, Hb⟩ : ∃ a, Hid (a = l.getD j z99) := ⟨_, Lib.hid rfl⟩
  rw [← Ha.out] at i0 i1
  rw [← Hb.out] at j0 j1
  clear hcell hC e
  obtain ⟨u0, s0⟩ : ∃ u, ((w.setCell ⟨g, i * 2, none⟩ (.int .i64 b.f0)).setCell ⟨g, i * 2 + 1, none⟩ (.int .i64 b.f1)).cell? ⟨g, j * 2, none⟩ = some u := by
    obtain ⟨_, h⟩ := cell?_setCell_some (w := w) (p := ⟨g, i * 2, none⟩) (x := .int .i64 b.f0) j0
    exact cell?_setCell_some (w := w.setCell ⟨g, i * 2, none⟩ (.int .i64 b.f0)) (p := ⟨g, i * 2 + 1, none⟩) (x := .int .i64 b.f1) h
  obtain ⟨u1, s1⟩ : ∃ u, (((w.setCell ⟨g, i * 2, none⟩ (.int .i64 b.f0)).setCell ⟨g, i * 2 + 1, none⟩ (.int .i64 b.f1)).setCell ⟨g, j * 2, none⟩ (.int .i64 a.f0)).cell? ⟨g, j * 2 + 1, none⟩ = some u := by
    obtain ⟨_, h⟩ := cell?_setCell_some (w := w) (p := ⟨g, i * 2, none⟩) (x := .int .i64 b.f0) j1
    obtain ⟨_, h⟩ := cell?_setCell_some (w := w.setCell ⟨g, i * 2, none⟩ (.int .i64 b.f0)) (p := ⟨g, i * 2 + 1, none⟩) (x := .int .i64 b.f1) h
    exact cell?_setCell_some (w := (w.setCell ⟨g, i * 2, none⟩ (.int .i64 b.f0)).setCell ⟨g, i * 2 + 1, none⟩ (.int .i64 b.f1)) (p := ⟨g, j * 2, none⟩) (x := .int .i64 a.f0) h
  go_enter Try.func89, Try.ntmps89
  go_wp2
  go_region
  go_end0
  have h1 := R99_set HR.out hi b
  have h2 := R99_set h1.1 (i := j) (by simpa using hj) a
  refine ⟨rfl, ?_, ?_⟩
  · unfold swp
    rw [← Ha.out, ← Hb.out]
    exact Kd.R_drew h2.1
  · exact World.grownBy.trans (World.grownBy.trans h1.2 h2.2) ⟨rfl, rfl, rfl, Nat.le_refl _, fun _ _ _ => rfl⟩

end Go.Proofs.Ytaaohfhcimndmaa.M
