/- Own lemmas: heap.Push, heap.Pop. -/
import Derived.Test.YtaaohfhcimndmaaMheap5
import Derived.LoopTactic
import Derived.BigQuiet
import Derived.RegionTactic
import Derived.BigRegion
namespace Go.Proofs.Ytaaohfhcimndmaa.M
open Go.RowKit Go.Proofs.YtaaohfhcimndmaaW.PrintWords Go.Proofs.YtaaohfhcimndmaaW.PrintLast Go.Proofs.YtaaohfhcimndmaaW.PrintMore 
set_option linter.unusedVariables false
set_option linter.unusedSimpArgs false

open Go.Proofs.Ytaaohfhcimndmaa.PAreaAnnounced
theorem dnF_length : ∀ (k : Nat) (l : List S99) (i n : Nat), (dnF k l i n).length = l.length
  | 0, _, _, _ => rfl
  | k + 1, l, i, n => by
    unfold dnF
    split
    · rfl
    · split
      · rw [dnF_length, swp_length]
      · rfl
set_option maxHeartbeats 1000000 in
set_option maxRecDepth 100000 in
theorem Push58 (base qb : Nat) (ok : Nat → Prop) (l : List S99) (x : S99) (w : World) (hbase : base ≤ w.heap.size) (hn : l.length ≤ 100000) (hfresh : ∀ k, w.heap.size ≤ k → ok k) (H : Hid (QAt w base qb ok l)) :
    Calls Try.prog 58 #[.iface 103 (.pointer (some ⟨qb, 0, none⟩)), .iface 99 (.agg #[.int .i64 x.f0, .int .i64 x.f1])] w fun e w' => e = .returned (.tuple #[]) ∧ QAt w' base qb ok (upF (l.length + 1) (l ++ [x]) l.length) ∧ Fr w w' (fun k => k = qb ∨ ok k) := by
  have hu := Try.underlying101
  have hu2 := Try.underlying99
  have HFR := Lib.hid hfresh
  have hmp := mPush ⟨qb, 0, none⟩ w
  obtain ⟨m, Hm⟩ : ∃ n, Hid (n = l.length) := ⟨_, Lib.hid rfl⟩
  obtain ⟨L, HL⟩ : ∃ L, Hid (L = l ++ [x]) := ⟨_, Lib.hid rfl⟩
  rw [← HL.out, ← Hm.out]
  clear hfresh
  go_enter Try.func58, Try.ntmps58
  go_wp2_with fail
  refine (Push91 base qb ok l x w hbase (by omega) HFR.out H).mono ?_
  rintro e w1 ⟨rfl, hq1, hf1⟩
  have HF1 := Lib.hid hf1
  rw [← HL.out] at hq1
  have HQ1 := Lib.hid hq1
  obtain ⟨A, c, hb, hle, hR⟩ := hq1
  have hcell := blk_cell hb 0
  have hml := mLen qb A L.length c w1 hcell
  obtain ⟨n, Hn⟩ : ∃ n, Hid (n = L.length) := ⟨_, Lib.hid rfl⟩
  have hnm : (n : Int) - 1 = (m : Int) := by rw [Hn.out, Hm.out, HL.out, List.length_append, List.length_singleton]; omega
  have hnn : n ≤ 1000000 := by rw [Hn.out, HL.out, List.length_append, List.length_singleton]; omega
  have hmn : m < n := by omega
  rw [← Hn.out] at hml
  clear hf1 hb hle hR hcell hmp
  go_wp2_with fail
  refine (Len87 A c n w1).mono ?_
  rintro e w2 ⟨rfl, rfl⟩
  go_wp2_with fail
  refine (up66 base qb m ok L w1 (by rw [← Hn.out]; exact hnn) (by rw [← Hn.out]; exact hmn) HQ1).mono ?_
  rintro e w3 ⟨rfl, hq3, hf3⟩
  have HQ3 := Lib.hid hq3
  have HF3 := Lib.hid hf3
  clear hq3 hf3
  go_wp2_with fail
  go_end0
  exact ⟨rfl, HQ3.out, HF1.out.trans HF3.out (fun k hk => .inl (.inr hk))⟩
set_option maxHeartbeats 1000000 in
set_option maxRecDepth 100000 in
theorem Pop56 (base qb m : Nat) (ok : Nat → Prop) (l : List S99) (w : World) (hbase : base ≤ w.heap.size) (hn : l.length ≤ 100000) (hm : l.length = m + 1) (H : Hid (QAt w base qb ok l)) :
    Calls Try.prog 56 #[.iface 103 (.pointer (some ⟨qb, 0, none⟩))] w fun e w' => e = .returned (.iface 99 (.agg #[.int .i64 ((dnF (m + 1) (swp l 0 m) 0 m).getD m z99).f0, .int .i64 ((dnF (m + 1) (swp l 0 m) 0 m).getD m z99).f1])) ∧ QAt w' base qb ok ((dnF (m + 1) (swp l 0 m) 0 m).take m) ∧ Fr w w' (fun k => k = qb ∨ ok k) := by
  have hu := Try.underlying101
  have hu2 := Try.underlying99
  obtain ⟨g, c, hb, hle, hR, hok⟩ := H.out.form (by omega)
  have HB := Lib.hid hb
  have HR := Lib.hid hR
  have hcell := blk_cell hb 0
  have hml := mLen qb (some ⟨g, 0, none⟩) l.length c w hcell
  have hms := mSwap qb (some ⟨g, 0, none⟩) l.length c w hcell
  obtain ⟨n, Hn⟩ : ∃ n, Hid (n = l.length) := ⟨_, Lib.hid rfl⟩
  have hnm : (n : Int) - 1 = (m : Int) := by rw [Hn.out]; omega
  have hnn : n ≤ 100000 := by rw [Hn.out]; exact hn
  have hmn : m < n := by omega
  rw [← Hn.out] at hml hms
  have HM := Lib.hid hm
  obtain ⟨L, HL⟩ : ∃ L, Hid (L = swp l 0 m) := ⟨_, Lib.hid rfl⟩
  rw [← HL.out]
  obtain ⟨D, HD⟩ : ∃ D, Hid (D = dnF (m + 1) L 0 m) := ⟨_, Lib.hid rfl⟩
  rw [← HD.out]
  clear hb hle hR hcell hm hn
  go_enter Try.func56, Try.ntmps56
  go_wp2_with fail
  refine (Len87 (some ⟨g, 0, none⟩) c n w).mono ?_
  rintro e w2 ⟨rfl, rfl⟩
  go_wp2_with fail
  have hsw := Swap89 g c 0 m base ok l w (by rw [← Hn.out]; omega) (by rw [← Hn.out]; omega) (by rw [← Hn.out]; omega) HR
  rw [← Hn.out] at hsw
  refine hsw.mono ?_
  clear hsw
  rintro e w3 ⟨rfl, hR3, hg3⟩
  have hls : (swp l 0 m).length = n := by rw [swp_length, Hn.out]
  rw [← HL.out] at hR3 hls
  have HLS := Lib.hid hls
  have HB3 := Lib.hid ((hg3.block qb (blk_lt HB.out) (fun e => Kd.R_ne HR.out HB.out (by decide) e)).trans HB.out)
  have HQ3 : Hid (QAt w3 base qb ok L) := Lib.hid ⟨some ⟨g, 0, none⟩, c, by rw [HLS.out, Hn.out]; exact HB3.out, by rw [HLS.out]; exact (Kd.R_reads' hR3).2.1, by rw [HLS.out]; exact hR3⟩
  have HF3 := Lib.hid ((Fr.refl w (fun k => k = qb ∨ ok k)).grown hg3 (fun k hk => .inl (.inr (by injection hk with hk; rw [← hk]; exact hok))))
  clear hR3 hg3 hms hml hls
  go_wp2_with fail
  refine (down64 base qb m ok L w3 (by rw [HLS.out]; omega) (by rw [HLS.out]; omega) HQ3).mono ?_
  rintro e w4 ⟨b, rfl, hq4, hf4⟩
  rw [← HD.out] at hq4
  have hDl : D.length = n := by rw [HD.out, dnF_length, HLS.out]
  have HQ4 := Lib.hid hq4
  have HF4 := Lib.hid (HF3.out.trans hf4 (fun k hk => .inl (.inr hk)))
  have HDL := Lib.hid hDl
  have hmp := mPop ⟨qb, 0, none⟩ w4
  clear hq4 hf4 hDl
  go_wp2_with fail
  refine (Pop90 base qb m ok D w4 (Nat.le_trans hbase HF4.out.size) (by rw [HDL.out]; omega) (by rw [HDL.out]; have := HM.out; rw [← Hn.out] at this; exact this) HQ4).mono ?_
  rintro e w5 ⟨rfl, hq5, hf5⟩
  have HQ5 := Lib.hid hq5
  have HF5 := Lib.hid (HF4.out.trans hf5 (fun k hk => .inl (.inl hk)))
  clear hq5 hf5 hmp
  go_wp2_with fail
  go_ret
  exact ⟨rfl, HQ5.out, HF5.out⟩

end Go.Proofs.Ytaaohfhcimndmaa.M
