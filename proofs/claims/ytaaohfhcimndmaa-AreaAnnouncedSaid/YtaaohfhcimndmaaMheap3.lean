/- Own lemmas: Pop of the queue. -/
import Derived.Test.YtaaohfhcimndmaaMheap2
import Derived.LoopTactic
import Derived.BigQuiet
import Derived.RegionTactic
import Derived.BigRegion
namespace Go.Proofs.Ytaaohfhcimndmaa.M
open Go.RowKit Go.Proofs.YtaaohfhcimndmaaW.PrintWords Go.Proofs.YtaaohfhcimndmaaW.PrintLast Go.Proofs.YtaaohfhcimndmaaW.PrintMore 
set_option linter.unusedVariables false
set_option linter.unusedSimpArgs false

open Go.Proofs.Ytaaohfhcimndmaa.PAreaAnnounced
set_option maxHeartbeats 1000000 in
set_option maxRecDepth 100000 in
theorem Pop90 (base qb m : Nat) (ok : Nat → Prop) (l : List S99) (w : World) (hbase : base ≤ w.heap.size) (hn : l.length ≤ 1000000) (hm : l.length = m + 1) (H : Hid (QAt w base qb ok l)) :
    Calls Try.prog 90 #[.pointer (some ⟨qb, 0, none⟩)] w fun e w' => e = .returned (.iface 99 (.agg #[.int .i64 (l.getD m z99).f0, .int .i64 (l.getD m z99).f1])) ∧ QAt w' base qb ok (l.take m) ∧ Fr w w' (fun k => k = qb) := by
  have hu := Try.underlying101
  have hu2 := Try.underlying99
  obtain ⟨A, c, hb, hle, hR⟩ := H.out
  obtain ⟨ad, rfl, hcell⟩ := C99_cell (Kd.R_reads' hR).2.2 (by omega)
  obtain ⟨c0, c1⟩ := hcell m (by omega)
  have HB := Lib.hid hb
  have HR := Lib.hid hR
  have HM := Lib.hid hm
  have HLE := Lib.hid hle
  have q0 := blk_cell hb 0
  have qf := blk_free hb 0
  have hql := blk_lt hb
  obtain ⟨x, Hx⟩ : ∃ x, Hid (x = l.getD m z99) := ⟨_, Lib.hid rfl⟩
  rw [← Hx.out] at c0 c1
  rw [← Hx.out]
  obtain ⟨n, Hnn⟩ : ∃ n, Hid (n = l.length) := ⟨_, Lib.hid rfl⟩
  have hnm : (n : Int) - 1 = (m : Int) := by rw [Hnn.out]; omega
  have hmn : (m : Int) < n := by omega
  have hmc : (m : Int) ≤ c := by omega
  have hnn : n ≤ 1000000 := by rw [Hnn.out]; exact hn
  rw [← Hnn.out] at q0
  clear hb hR hm hle hn hcell
  go_enter Try.func90, Try.ntmps90
  go_wp2
  go_ret
  have hl : (l.take m).length = m := by rw [List.length_take, HM.out]; omega
  have h1 := Kd.R_set (Kd.R_take HR.out (m := m) (by rw [HM.out]; omega)) HB.out (by decide) 0 (.slice (some ad) m c)
  refine ⟨rfl, ⟨some ad, c, ?_, ?_, ?_⟩, ?_⟩
  · rw [hl]; exact blk_keep (below_alloc (Below.refl _ _) _) (blk_set HB.out 0 _)
  · rw [hl]; omega
  · rw [hl]; exact Kd.R_below h1 (below_alloc (Below.refl _ _) _)
  · exact Fr.alloc (Fr.set (p := ⟨qb, 0, none⟩) (Fr.refl w (fun k => k = qb)) (.inl rfl) _) _
/-! the methods as the interface finds them -/
set_option maxRecDepth 100000 in
theorem mPush (a : Addr) (w : World) : (method 242 103 (.pointer (some a)) "Push").run Try.prog w = .ok (91, .pointer (some a)) w := by kernel_rfl
set_option maxRecDepth 100000 in
theorem mPop (a : Addr) (w : World) : (method 242 103 (.pointer (some a)) "Pop").run Try.prog w = .ok (90, .pointer (some a)) w := by kernel_rfl
set_option maxRecDepth 100000 in
theorem mLen' (a : Addr) (w : World) : (method 242 103 (.pointer (some a)) "Len").run Try.prog w = (do let v ← loadVar 101 a; pure (87, v) : Sem (FuncId × Value)).run Try.prog w := by kernel_rfl
theorem mLen (qb : Nat) (A : Option Addr) (n c : Nat) (w : World) (h : w.cell? ⟨qb, 0, none⟩ = some (.slice A n c)) : (method 242 103 (.pointer (some ⟨qb, 0, none⟩)) "Len").run Try.prog w = .ok (87, .slice A n c) w := by
  rw [mLen']
  have hu := Try.underlying101
  simp [go_sem, h]
set_option maxRecDepth 100000 in
theorem mLess' (a : Addr) (w : World) : (method 242 103 (.pointer (some a)) "Less").run Try.prog w = (do let v ← loadVar 101 a; pure (88, v) : Sem (FuncId × Value)).run Try.prog w := by kernel_rfl
theorem mLess (qb : Nat) (A : Option Addr) (n c : Nat) (w : World) (h : w.cell? ⟨qb, 0, none⟩ = some (.slice A n c)) : (method 242 103 (.pointer (some ⟨qb, 0, none⟩)) "Less").run Try.prog w = .ok (88, .slice A n c) w := by
  rw [mLess']
  have hu := Try.underlying101
  simp [go_sem, h]
set_option maxRecDepth 100000 in
theorem mSwap' (a : Addr) (w : World) : (method 242 103 (.pointer (some a)) "Swap").run Try.prog w = (do let v ← loadVar 101 a; pure (89, v) : Sem (FuncId × Value)).run Try.prog w := by kernel_rfl
theorem mSwap (qb : Nat) (A : Option Addr) (n c : Nat) (w : World) (h : w.cell? ⟨qb, 0, none⟩ = some (.slice A n c)) : (method 242 103 (.pointer (some ⟨qb, 0, none⟩)) "Swap").run Try.prog w = .ok (89, .slice A n c) w := by
  rw [mSwap']
  have hu := Try.underlying101
  simp [go_sem, h]

end Go.Proofs.Ytaaohfhcimndmaa.M
