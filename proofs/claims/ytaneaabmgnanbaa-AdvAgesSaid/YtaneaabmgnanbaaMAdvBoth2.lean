/- Own lemmas: the walk of AdvBoth. -/
import Derived.Test.YtaneaabmgnanbaaMAdvBoth
import Derived.LoopTactic
namespace Go.Proofs.Ytaneaabmgnanbaa.M
open Go.RowKit Go.Proofs.YtaneaabmgnanbaaW.PrintWords Go.Proofs.YtaneaabmgnanbaaW.PrintLast Go.Proofs.YtaneaabmgnanbaaW.PrintMore Go.Proofs.Ytaneaabmgnanbaa.PAdvBack
set_option linter.unusedVariables false
set_option linter.unusedSimpArgs false

theorem blk_cells2 {w : World} {g : Nat} {a b : Value} {t : Nat} (h : w.heap[g]? = some (.cells #[a, b] t (0, 0))) :
    w.cell? ⟨g, 0, none⟩ = some a ∧ w.cell? ⟨g, 1, none⟩ = some b ∧ ∀ i, w.frozen? ⟨g, i, none⟩ = false :=
  ⟨blk_cell h 0, blk_cell h 1, blk_free h⟩
theorem fld46_1 (n : Nat) (A : Option Addr) (c : Nat) (W : World) : (Instr.field 46 (.agg #[.int .i64 16, .slice A n c]) 1).run Try.prog W = .ok (.slice A n c) W := by kernel_rfl
theorem below_self {w w1 w2 : World} (h : Below w.heap.size w w1) (h2 : Below w1.heap.size w1 w2) : Below w.heap.size w w2 := h.trans (h2.mono h.size)
set_option maxHeartbeats 2000000 in
set_option maxRecDepth 100000 in
theorem AdvBoth_walk (A : Option Addr) (c : Nat) (l : List S24) (w : World) (hlc : l.length ≤ c) (hC : Kd.C k24 w A l.length l) :
    Calls Try.prog 6 #[.slice A l.length c] w fun e w' => e = .returned (.bool true) ∧ Below w.heap.size w w' := by
  have hu22 := Try.underlying22
  have hu24 := Try.underlying24
  have hu28 := Try.underlying28
  have hu43 := Try.underlying43
  have hu44 := Try.underlying44
  have hu46 := Try.underlying46
  have hu52 := Try.underlying52
  obtain ⟨k0, hk0⟩ := advLives_ok
  have Hk0 := Lib.hid hk0
  have HC := Lib.hid hC
  obtain ⟨L, HL⟩ : ∃ L, Hid (L = l.take 6) := ⟨_, Lib.hid rfl⟩
  have HCL : Hid (Kd.C k24 w A L.length L) := by rw [HL.out]; exact Lib.hid (take_C 6 hC)
  have hLl : L.length ≤ 6 := by rw [HL.out, List.length_take]; omega
  have HLL := Lib.hid hLl
  have HLC := Lib.hid hlc
  clear hk0 hC hLl hlc
  go_enter Try.func6, Try.ntmps6
  go_wp2_with fail
  have HB0 := Lib.hid ((((Below.refl w.heap.size w).alloc (Nat.le_refl _) (.cells #[.int .i64 1, .int .i64 5] 28)).alloc (by simp) (.cells #[.int .i64 0, .int .i64 6] 28)).alloc (by simp; omega) (.cells #[.int .i64 0, .int .i64 1, .int .i64 0, .slice (some ⟨w.heap.size, 0, none⟩) 1 1, .int .i64 1, .int .i64 1, .int .i64 0, .slice (some ⟨w.heap.size + 1, 0, none⟩) 1 1] 24))
  have HT0 := Lib.hid (show (((w.alloc (.cells #[.int .i64 1, .int .i64 5] 28)).alloc (.cells #[.int .i64 0, .int .i64 6] 28)).alloc (.cells #[.int .i64 0, .int .i64 1, .int .i64 0, .slice (some ⟨w.heap.size, 0, none⟩) 1 1, .int .i64 1, .int .i64 1, .int .i64 0, .slice (some ⟨w.heap.size + 1, 0, none⟩) 1 1] 24)).heap[w.heap.size]? = some (.cells #[.int .i64 1, .int .i64 5] 28 (0, 0)) from blk_keep (below_alloc (Below.refl _ _) _) (blk_keep (below_alloc (Below.refl _ _) _) (blk_alloc w _)))
  have HT1 := Lib.hid (show (((w.alloc (.cells #[.int .i64 1, .int .i64 5] 28)).alloc (.cells #[.int .i64 0, .int .i64 6] 28)).alloc (.cells #[.int .i64 0, .int .i64 1, .int .i64 0, .slice (some ⟨w.heap.size, 0, none⟩) 1 1, .int .i64 1, .int .i64 1, .int .i64 0, .slice (some ⟨w.heap.size + 1, 0, none⟩) 1 1] 24)).heap[w.heap.size + 1]? = some (.cells #[.int .i64 0, .int .i64 6] 28 (0, 0)) from blk_keep (below_alloc (Below.refl _ _) _) (blk_alloc_at (w.alloc (.cells #[.int .i64 1, .int .i64 5] 28)) _ (by simp)))
  have HT2 := Lib.hid (show (((w.alloc (.cells #[.int .i64 1, .int .i64 5] 28)).alloc (.cells #[.int .i64 0, .int .i64 6] 28)).alloc (.cells #[.int .i64 0, .int .i64 1, .int .i64 0, .slice (some ⟨w.heap.size, 0, none⟩) 1 1, .int .i64 1, .int .i64 1, .int .i64 0, .slice (some ⟨w.heap.size + 1, 0, none⟩) 1 1] 24)).heap[w.heap.size + 2]? = some (.cells #[.int .i64 0, .int .i64 1, .int .i64 0, .slice (some ⟨w.heap.size, 0, none⟩) 1 1, .int .i64 1, .int .i64 1, .int .i64 0, .slice (some ⟨w.heap.size + 1, 0, none⟩) 1 1] 24 (0, 0)) from blk_alloc_at _ _ (by simp))
  refine (patchbaykeep2_advLives.calls k0 true _ Hk0.out).mono ?_
  rintro e w1 ⟨rfl, hb1⟩
  have HB1 := Lib.hid (HB0.out.trans (hb1.mono HB0.out.size))
  have HO1 := Lib.hid (C24_two (blk_keep hb1 HT0.out) (blk_keep hb1 HT1.out) (blk_keep hb1 HT2.out))
  clear hb1
  go_wp2_with fail
  refine (base21 (some ⟨w.heap.size + 2, 0, none⟩) 2 [one0, one1] w1 (by simp) HO1).mono ?_
  rintro e w2 ⟨rfl, hbd, hb2⟩
  have HD2 := Lib.hid hbd
  have HB2 := Lib.hid (HB1.out.trans (hb2.mono HB1.out.size))
  clear hbd hb2
  go_wp2_with fail
  refine (Graph22 w1.heap.size (dbOf [one0, one1]) (dbOf_ok _) w2 HD2).mono ?_
  rintro e w3 ⟨A3, c3, rfl, hle3, hR3, hb3⟩
  rw [one_two]
  have HB3 := Lib.hid (HB2.out.trans (hb3.mono HB2.out.size))
  clear hle3 hR3 hb3
  have hfd := fld46_1 2 A3 c3 w3
  go_wp2_with fail
  clear hfd
  refine (some23_six A l L c HL HLC.out w3).mono ?_
  rintro e w4 ⟨rfl, rfl⟩
  go_wp2_with fail
  refine (base21 A c L w3 (by have := HLL.out; omega) (Lib.hid (Kd.C_below HCL.out HB3.out))).mono ?_
  rintro e w5 ⟨rfl, hbd, hb5⟩
  have HD5 := Lib.hid hbd
  have HB5 := Lib.hid (HB3.out.trans (hb5.mono HB3.out.size))
  clear hbd hb5
  go_wp2_with fail
  obtain ⟨d, Hd⟩ : ∃ d, Hid (d = dbOf L) := ⟨_, Lib.hid rfl⟩
  have HOK : Hid (DbOk d) := by rw [Hd.out]; exact Lib.hid (dbOf_ok L)
  refine (Graph22 w3.heap.size d HOK.out w5 (by rw [Hd.out]; exact HD5)).mono ?_
  rintro e w6 ⟨A6, c6, rfl, hle6, hR6, hb6⟩
  have HEB := Lib.hid (fun (x : S52) (h : x ∈ edgesOf d 16) => edges_back HOK.out h)
  have hlen := edges_le d HOK.out 16
  obtain ⟨es, Hes⟩ : ∃ es, Hid (es = edgesOf d 16) := ⟨_, Lib.hid rfl⟩
  rw [← Hes.out] at hle6 hR6 HEB hlen
  rw [← Hes.out]
  obtain ⟨_, hle', hC6⟩ := Kd.R_reads' hR6
  have HB6 := Lib.hid (HB5.out.trans (hb6.mono HB5.out.size))
  have HC6 := Lib.hid hC6
  have HLEN := Lib.hid hlen
  clear hle6 hR6 hb6 hC6 hle' hlen
  go_wp2_with fail
  have HB7 := Lib.hid (below_self HB6.out (below_alloc (Below.refl _ _) (.cells #[.int .i64 16, .slice A6 es.length c6] 46)))
  have HX7 := Lib.hid (blk_alloc w6 (.cells #[.int .i64 16, .slice A6 es.length c6] 46))
  have HC7 := Lib.hid (Kd.C_below HC6.out (below_alloc (Below.refl _ _) (.cells #[.int .i64 16, .slice A6 es.length c6] 46)))
  obtain ⟨b6, Hb6⟩ : ∃ b, Hid (b = w6.heap.size) := ⟨_, Lib.hid rfl⟩
  rw [← Hb6.out] at HX7
  rw [← Hb6.out]
  go_loopw [31] (fun i wr => ∃ k : Nat, k ≤ es.length ∧ i = .int .i64 k ∧ Hid (Below w.heap.size w wr) ∧ Hid (wr.heap[b6]? = some (.cells #[.int .i64 16, .slice A6 es.length c6] 46 (0, 0))) ∧ Hid (Kd.C k52 wr A6 es.length es)) (fun i _ => es.length - (intOf i).toNat)
  case atStart => exact ⟨0, Nat.zero_le _, rfl, HB7, HX7, HC7⟩
  case round =>
    obtain ⟨k, hk, rfl, HBr, HXr, HCr⟩ := hrel
    obtain ⟨g0, g1, gf⟩ := blk_cells2 HXr.out
    have hgl := blk_lt HXr.out
    have hlen := HLEN.out
    by_cases hlt : k < es.length
    · obtain ⟨ad, rfl, hcell⟩ := C52_cell HCr.out (by omega)
      obtain ⟨x, Hx⟩ : ∃ x, Hid (x = es.getD k z52) := ⟨_, Lib.hid rfl⟩
      obtain ⟨q0, q1, q2⟩ := hcell k hlt
      have hany := HEB.out x (by rw [Hx.out, List.getD_eq_getElem?_getD, List.getElem?_eq_getElem hlt]; exact List.getElem_mem hlt)
      rw [← Hx.out] at q0 q1 q2
      have HANY := Lib.hid hany
      clear hcell hany
      go_wp2_with fail
      refine (Contains24 (some ad) c6 wr.heap.size x es _ (by have := HLEN.out; omega) (Lib.hid (Kd.C_below HCr.out (below_alloc (Below.refl _ _) _))) (Lib.hid (blk_alloc wr _))).mono ?_
      rw [HANY.out]
      rintro e w8 ⟨rfl, hb8⟩
      have hb9 := below_self (below_alloc (Below.refl wr.heap.size wr) (.cells #[.int .i64 x.f0, .int .i64 x.f1, .int .i64 x.f2] 52)) hb8
      have HB8 := Lib.hid (below_self HBr.out hb9)
      have HX8 := Lib.hid (blk_keep hb9 HXr.out)
      have HC8 := Lib.hid (Kd.C_below HCr.out hb9)
      clear hb8 hb9 g0 g1 gf q0 q1 q2
      go_wp2_with fail
      go_round
      case rel => exact ⟨k + 1, by omega, by go_num, HB8, HX8, HC8⟩
      case measure => simp [intOf]; omega
    · go_wp2_with fail
      go_ret
      exact ⟨rfl, HBr.out⟩

end Go.Proofs.Ytaneaabmgnanbaa.M
