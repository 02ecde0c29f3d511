/- Own lemmas: down of the heap. -/
import Derived.Test.YtaaohfhcimndmaaMheap4
import Derived.LoopTactic
import Derived.BigQuiet
import Derived.RegionTactic
import Derived.BigRegion
namespace Go.Proofs.Ytaaohfhcimndmaa.M
open Go.RowKit Go.Proofs.YtaaohfhcimndmaaW.PrintWords Go.Proofs.YtaaohfhcimndmaaW.PrintLast Go.Proofs.YtaaohfhcimndmaaW.PrintMore 
set_option linter.unusedVariables false
set_option linter.unusedSimpArgs false

open Go.Proofs.Ytaaohfhcimndmaa.PAreaAnnounced
def big (l : List S99) (q n : Nat) : Nat := if q + 1 < n ∧ lss (l.getD (q + 1) z99) (l.getD q z99) = true then q + 1 else q
def dnF : Nat → List S99 → Nat → Nat → List S99
  | 0, l, _, _ => l
  | k + 1, l, i, n => if n ≤ 2 * i + 1 then l else if lss (l.getD (big l (2 * i + 1) n) z99) (l.getD i z99) then dnF k (swp l i (big l (2 * i + 1) n)) (big l (2 * i + 1) n) n else l
def Ends (P : World → Prop) (e : Ending) (w' : World) : Prop := ∃ b, e = .returned (.bool b) ∧ P w'
set_option maxHeartbeats 2000000 in
set_option maxRecDepth 100000 in
theorem down64 (base qb n : Nat) (ok : Nat → Prop) (l : List S99) (w : World) (hn : l.length ≤ 1000000) (hnl : n ≤ l.length) (H : Hid (QAt w base qb ok l)) :
    Calls Try.prog 64 #[.iface 103 (.pointer (some ⟨qb, 0, none⟩)), .int .i64 0, .int .i64 n] w (Ends fun w' => QAt w' base qb ok (dnF (n + 1) l 0 n) ∧ Fr w w' ok) := by
  have hu := Try.underlying101
  have hu2 := Try.underlying99
  obtain ⟨F, HF⟩ : ∃ F, Hid (F = dnF (n + 1) l 0 n) := ⟨_, Lib.hid rfl⟩
  rw [← HF.out]
  obtain ⟨N, HN⟩ : ∃ N, Hid (N = l.length) := ⟨_, Lib.hid rfl⟩
  rw [← HN.out] at hnl hn
  go_enter Try.func64, Try.ntmps64
  go_wp2
  go_loopw [7] (fun u wr => ∃ (m k : Nat) (L : List S99), u = .int .i64 m ∧ n < k + m ∧ (m = 0 ∨ m < n) ∧ Hid (L.length = N) ∧ Hid (dnF k L m n = F) ∧ Hid (QAt wr base qb ok L) ∧ Hid (Fr w wr ok)) (fun u _ => n - (intOf u).toNat)
  case atStart => exact ⟨0, n + 1, l, rfl, by omega, .inl rfl, Lib.hid HN.out.symm, Lib.hid HF.out.symm, H, Lib.hid (Fr.refl w ok)⟩
  case round =>
    obtain ⟨m, k, L, rfl, hmk, hmN, HL, HU, HQ, HFr⟩ := hrel
    obtain ⟨q, Hq⟩ : ∃ q, Hid (q = 2 * m + 1) := ⟨_, Lib.hid rfl⟩
    have hmb : m ≤ 1000000 := by omega
    have hq1 : 2 * (m : Int) + 1 = (q : Int) := by rw [Hq.out]; omega
    have hqm : m < q := by rw [Hq.out]; omega
    have hq0 : decide ((q : Int) < 0) = false := decide_eq_false (by omega)
    by_cases h1 : n ≤ q
    · have hge : decide (n ≤ q) = true := decide_eq_true (by omega)
      have HE := Lib.hid (show L = F by
        have := HU.out
        cases k with
        | zero => exact this
        | succ k => unfold dnF at this; rwa [if_pos (by rw [← Hq.out]; exact h1)] at this)
      clear h1
      go_wp2_with fail
      go_ret
      exact ⟨_, rfl, by rw [← HE.out]; exact HQ.out, HFr.out⟩
    · obtain ⟨k, rfl⟩ : ∃ k', k = k' + 1 := ⟨k - 1, by omega⟩
      have hqn : q < n := by omega
      have hge : decide (n ≤ q) = false := decide_eq_false (by omega)
      have HU1 := Lib.hid (show (if lss (L.getD (big L q n) z99) (L.getD m z99) then dnF k (swp L m (big L q n)) (big L q n) n else L) = F by
        have := HU.out
        unfold dnF at this
        rw [if_neg (by rw [← Hq.out]; exact h1), ← Hq.out] at this
        exact this)
      obtain ⟨g, c, hb, hle, hR, hok⟩ := HQ.out.form (by rw [HL.out]; omega)
      have HB := Lib.hid hb
      have HR := Lib.hid hR
      have hcell := blk_cell hb 0
      have hml := mLess qb (some ⟨g, 0, none⟩) L.length c wr hcell
      clear hb hR hcell h1
      have HF0 := HFr
      by_cases h2 : q + 1 < n
      · have hlt : decide (q + 1 < n) = true := decide_eq_true (by omega)
        have HLt := Less88 (some ⟨g, 0, none⟩) c (q + 1) q L wr (by rw [HL.out]; omega) (by rw [HL.out]; omega) (by rw [HL.out]; exact hn) (Lib.hid (Kd.R_reads' HR.out).2.2)
        rw [show (((q + 1 : Nat)) : Int) = (q : Int) + 1 from by omega] at HLt
        obtain ⟨r, Hr⟩ : ∃ r, Hid (r = q + 1) := ⟨_, Lib.hid rfl⟩
        have hr1 : (q : Int) + 1 = (r : Int) := by rw [Hr.out]; omega
        have hrn : r < n := by rw [Hr.out]; exact h2
        have hmr : m < r := by rw [Hr.out]; omega
        rw [← Hr.out] at hlt
        rw [← Hr.out, hr1] at HLt
        cases hls : lss (L.getD r z99) (L.getD q z99) with
        | true =>
          rw [hls] at HLt
          have HLt := Lib.hid HLt
          have HV := Lib.hid (show (if lss (L.getD r z99) (L.getD m z99) then dnF k (swp L m r) r n else L) = F by have := HU1.out; rwa [show big L q n = r from by unfold big; rw [← Hr.out, if_pos ⟨hrn, hls⟩]] at this)
          clear hls h2
          go_wp2_with fail
          refine HLt.out.mono ?_
          rintro e w1 ⟨rfl, hd⟩
          have hb1 := hd.below
          have HQ1 := Lib.hid (HQ.out.below hb1)
          have HB1 := Lib.hid (blk_keep hb1 HB.out)
          have HR1 := Lib.hid (Kd.R_below HR.out hb1)
          have HF1 := Lib.hid (HFr.out.below hb1)
          have hcell1 := blk_cell HB1.out 0
          have hml := mLess qb (some ⟨g, 0, none⟩) L.length c w1 hcell1
          clear hd hb1 hcell1
          have HLs := Less88 (some ⟨g, 0, none⟩) c r m L w1 (by rw [HL.out]; omega) (by rw [HL.out]; omega) (by rw [HL.out]; exact hn) (Lib.hid (Kd.R_reads' HR1.out).2.2)
          have HLs := Lib.hid HLs
          cases hls2 : lss (L.getD r z99) (L.getD m z99) with
          | true =>
            rw [hls2] at HLs
            have HW := Lib.hid (show dnF k (swp L m r) r n = F by have := HV.out; rwa [if_pos hls2] at this)
            clear hls2
            go_wp2_with fail
            refine HLs.out.mono ?_
            rintro e w5 ⟨rfl, hd⟩
            have hb1 := hd.below
            have HB5 := Lib.hid (blk_keep hb1 HB1.out)
            have HR5 := Lib.hid (Kd.R_below HR1.out hb1)
            have HF5 := Lib.hid (HF1.out.below hb1)
            have hcell1 := blk_cell HB5.out 0
            have hms := mSwap qb (some ⟨g, 0, none⟩) L.length c w5 hcell1
            clear hd hb1 hcell1 hml
            go_wp2_with fail
            refine (Swap89 g c m r base ok L w5 (by rw [HL.out]; omega) (by rw [HL.out]; omega) (by rw [HL.out]; exact hn) HR5).mono ?_
            rintro e w6 ⟨rfl, hR2, hg2⟩
            have HB6 := Lib.hid ((hg2.block qb (blk_lt HB5.out) (fun e => Kd.R_ne HR5.out HB5.out (by decide) e)).trans HB5.out)
            have HR6 := Lib.hid hR2
            have HF6 := Lib.hid (HF5.out.grown hg2 (fun k hk => .inl (by injection hk with hk; rw [← hk]; exact hok)))
            clear hR2 hg2 hms
            go_wp2_with fail
            go_round
            case rel =>
              refine ⟨r, k, swp L m r, rfl, by omega, .inr (by omega), Lib.hid ((swp_length _ _ _).trans HL.out), HW, Lib.hid ⟨some ⟨g, 0, none⟩, c, ?_, ?_, ?_⟩, HF6⟩
              · rw [swp_length]; exact HB6.out
              · rw [swp_length]; exact hle
              · rw [swp_length]; exact HR6.out
            case measure => simp [intOf]; omega
          | false =>
            rw [hls2] at HLs
            have HW := Lib.hid (show L = F by have := HV.out; rwa [hls2] at this)
            clear hls2
            go_wp2_with fail
            refine HLs.out.mono ?_
            rintro e w5 ⟨rfl, hd⟩
            have hb1 := hd.below
            have HQ5 := Lib.hid (HQ1.out.below hb1)
            have HF5 := Lib.hid (HF1.out.below hb1)
            clear hd hb1 hml
            go_wp2_with fail
            go_ret
            exact ⟨_, rfl, by rw [← HW.out]; exact HQ5.out, HF5.out⟩
        | false =>
          rw [hls] at HLt
          have HLt := Lib.hid HLt
          have HV := Lib.hid (show (if lss (L.getD q z99) (L.getD m z99) then dnF k (swp L m q) q n else L) = F by have := HU1.out; rwa [show big L q n = q from by unfold big; rw [← Hr.out, hls]; simp] at this)
          clear hls h2
          go_wp2_with fail
          refine HLt.out.mono ?_
          rintro e w1 ⟨rfl, hd⟩
          have hb1 := hd.below
          have HQ1 := Lib.hid (HQ.out.below hb1)
          have HB1 := Lib.hid (blk_keep hb1 HB.out)
          have HR1 := Lib.hid (Kd.R_below HR.out hb1)
          have HF1 := Lib.hid (HFr.out.below hb1)
          have hcell1 := blk_cell HB1.out 0
          have hml := mLess qb (some ⟨g, 0, none⟩) L.length c w1 hcell1
          clear hd hb1 hcell1
          have HLs := Less88 (some ⟨g, 0, none⟩) c q m L w1 (by rw [HL.out]; omega) (by rw [HL.out]; omega) (by rw [HL.out]; exact hn) (Lib.hid (Kd.R_reads' HR1.out).2.2)
          have HLs := Lib.hid HLs
          cases hls2 : lss (L.getD q z99) (L.getD m z99) with
          | true =>
            rw [hls2] at HLs
            have HW := Lib.hid (show dnF k (swp L m q) q n = F by have := HV.out; rwa [if_pos hls2] at this)
            clear hls2
            go_wp2_with fail
            refine HLs.out.mono ?_
            rintro e w5 ⟨rfl, hd⟩
            have hb1 := hd.below
            have HB5 := Lib.hid (blk_keep hb1 HB1.out)
            have HR5 := Lib.hid (Kd.R_below HR1.out hb1)
            have HF5 := Lib.hid (HF1.out.below hb1)
            have hcell1 := blk_cell HB5.out 0
            have hms := mSwap qb (some ⟨g, 0, none⟩) L.length c w5 hcell1
            clear hd hb1 hcell1 hml
            go_wp2_with fail
            refine (Swap89 g c m q base ok L w5 (by rw [HL.out]; omega) (by rw [HL.out]; omega) (by rw [HL.out]; exact hn) HR5).mono ?_
            rintro e w6 ⟨rfl, hR2, hg2⟩
            have HB6 := Lib.hid ((hg2.block qb (blk_lt HB5.out) (fun e => Kd.R_ne HR5.out HB5.out (by decide) e)).trans HB5.out)
            have HR6 := Lib.hid hR2
            have HF6 := Lib.hid (HF5.out.grown hg2 (fun k hk => .inl (by injection hk with hk; rw [← hk]; exact hok)))
            clear hR2 hg2 hms
            go_wp2_with fail
            go_round
            case rel =>
              refine ⟨q, k, swp L m q, rfl, by omega, .inr (by omega), Lib.hid ((swp_length _ _ _).trans HL.out), HW, Lib.hid ⟨some ⟨g, 0, none⟩, c, ?_, ?_, ?_⟩, HF6⟩
              · rw [swp_length]; exact HB6.out
              · rw [swp_length]; exact hle
              · rw [swp_length]; exact HR6.out
            case measure => simp [intOf]; omega
          | false =>
            rw [hls2] at HLs
            have HW := Lib.hid (show L = F by have := HV.out; rwa [hls2] at this)
            clear hls2
            go_wp2_with fail
            refine HLs.out.mono ?_
            rintro e w5 ⟨rfl, hd⟩
            have hb1 := hd.below
            have HQ5 := Lib.hid (HQ1.out.below hb1)
            have HF5 := Lib.hid (HF1.out.below hb1)
            clear hd hb1 hml
            go_wp2_with fail
            go_ret
            exact ⟨_, rfl, by rw [← HW.out]; exact HQ5.out, HF5.out⟩
      · obtain ⟨r, Hr⟩ : ∃ r, Hid (r = q + 1) := ⟨_, Lib.hid rfl⟩
        have hr1 : (q : Int) + 1 = (r : Int) := by rw [Hr.out]; omega
        have hlt : decide (r < n) = false := decide_eq_false (by rw [Hr.out]; omega)
        have HV := Lib.hid (show (if lss (L.getD q z99) (L.getD m z99) then dnF k (swp L m q) q n else L) = F by have := HU1.out; rwa [show big L q n = q from by unfold big; rw [if_neg (fun h => h2 h.1)]] at this)
        have HF := HFr
        clear h2
        have HLs := Less88 (some ⟨g, 0, none⟩) c q m L wr (by rw [HL.out]; omega) (by rw [HL.out]; omega) (by rw [HL.out]; exact hn) (Lib.hid (Kd.R_reads' HR.out).2.2)
        have HLs := Lib.hid HLs
        cases hls2 : lss (L.getD q z99) (L.getD m z99) with
        | true =>
          rw [hls2] at HLs
          have HW := Lib.hid (show dnF k (swp L m q) q n = F by have := HV.out; rwa [if_pos hls2] at this)
          clear hls2
          go_wp2_with fail
          refine HLs.out.mono ?_
          rintro e w5 ⟨rfl, hd⟩
          have hb1 := hd.below
          have HB5 := Lib.hid (blk_keep hb1 HB.out)
          have HR5 := Lib.hid (Kd.R_below HR.out hb1)
          have HF5 := Lib.hid (HF.out.below hb1)
          have hcell1 := blk_cell HB5.out 0
          have hms := mSwap qb (some ⟨g, 0, none⟩) L.length c w5 hcell1
          clear hd hb1 hcell1 hml
          go_wp2_with fail
          refine (Swap89 g c m q base ok L w5 (by rw [HL.out]; omega) (by rw [HL.out]; omega) (by rw [HL.out]; exact hn) HR5).mono ?_
          rintro e w6 ⟨rfl, hR2, hg2⟩
          have HB6 := Lib.hid ((hg2.block qb (blk_lt HB5.out) (fun e => Kd.R_ne HR5.out HB5.out (by decide) e)).trans HB5.out)
          have HR6 := Lib.hid hR2
          have HF6 := Lib.hid (HF5.out.grown hg2 (fun k hk => .inl (by injection hk with hk; rw [← hk]; exact hok)))
          clear hR2 hg2 hms
          go_wp2_with fail
          go_round
          case rel =>
            refine ⟨q, k, swp L m q, rfl, by omega, .inr (by omega), Lib.hid ((swp_length _ _ _).trans HL.out), HW, Lib.hid ⟨some ⟨g, 0, none⟩, c, ?_, ?_, ?_⟩, HF6⟩
            · rw [swp_length]; exact HB6.out
            · rw [swp_length]; exact hle
            · rw [swp_length]; exact HR6.out
          case measure => simp [intOf]; omega
        | false =>
          rw [hls2] at HLs
          have HW := Lib.hid (show L = F by have := HV.out; rwa [hls2] at this)
          clear hls2
          go_wp2_with fail
          refine HLs.out.mono ?_
          rintro e w5 ⟨rfl, hd⟩
          have hb1 := hd.below
          have HQ5 := Lib.hid (HQ.out.below hb1)
          have HF5 := Lib.hid (HF.out.below hb1)
          clear hd hb1 hml
          go_wp2_with fail
          go_ret
          exact ⟨_, rfl, by rw [← HW.out]; exact HQ5.out, HF5.out⟩

end Go.Proofs.Ytaaohfhcimndmaa.M
