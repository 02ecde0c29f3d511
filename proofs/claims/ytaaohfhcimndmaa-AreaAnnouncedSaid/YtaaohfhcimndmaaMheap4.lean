/- Own lemmas: up of the heap. -/
import Derived.Test.YtaaohfhcimndmaaMheap3
import Derived.LoopTactic
import Derived.BigQuiet
import Derived.RegionTactic
import Derived.BigRegion
namespace Go.Proofs.Ytaaohfhcimndmaa.M
open Go.RowKit Go.Proofs.YtaaohfhcimndmaaW.PrintWords Go.Proofs.YtaaohfhcimndmaaW.PrintLast Go.Proofs.YtaaohfhcimndmaaW.PrintMore 
set_option linter.unusedVariables false
set_option linter.unusedSimpArgs false

open Go.Proofs.Ytaaohfhcimndmaa.PAreaAnnounced
theorem QAt.form {w : World} {base qb : Nat} {ok : Nat → Prop} {l : List S99} (h : QAt w base qb ok l) (hp : 0 < l.length) : ∃ g c, w.heap[qb]? = some (.cells #[.slice (some ⟨g, 0, none⟩) l.length c] 101 (0, 0)) ∧ l.length ≤ c ∧ Kd.R k99 99 w base ok (.slice (some ⟨g, 0, none⟩) l.length c) l ∧ ok g := by
  obtain ⟨A, c, hb, hle, hR⟩ := h
  obtain ⟨inner, ho⟩ := Kd.R_own hR
  obtain ⟨g, cap, e, _, _⟩ := ho.form hp
  injection e with e1 e2 e3
  subst e1
  subst e3
  exact ⟨g, c, hb, hle, hR, hR.1 g (by simp [Value.ownBlock])⟩
def upF : Nat → List S99 → Nat → List S99
  | 0, l, _ => l
  | k + 1, l, j => if j = 0 then l else if lss (l.getD j z99) (l.getD ((j - 1) / 2) z99) then upF k (swp l ((j - 1) / 2) j) ((j - 1) / 2) else l
theorem swp_length (l : List S99) (i j : Nat) : (swp l i j).length = l.length := by simp [swp]
set_option maxHeartbeats 1000000 in
set_option maxRecDepth 100000 in
theorem up66 (base qb j : Nat) (ok : Nat → Prop) (l : List S99) (w : World) (hn : l.length ≤ 1000000) (hj : j < l.length) (H : Hid (QAt w base qb ok l)) :
    Calls Try.prog 66 #[.iface 103 (.pointer (some ⟨qb, 0, none⟩)), .int .i64 j] w fun e w' => e = .returned (.tuple #[]) ∧ QAt w' base qb ok (upF (j + 1) l j) ∧ Fr w w' ok := by
  have hu := Try.underlying101
  have hu2 := Try.underlying99
  obtain ⟨F, HF⟩ : ∃ F, Hid (F = upF (j + 1) l j) := ⟨_, Lib.hid rfl⟩
  rw [← HF.out]
  obtain ⟨N, HN⟩ : ∃ N, Hid (N = l.length) := ⟨_, Lib.hid rfl⟩
  rw [← HN.out] at hj hn
  go_enter Try.func66, Try.ntmps66
  go_wp2
  go_loopw [1] (fun u wr => ∃ (m k : Nat) (L : List S99), u = .int .i64 m ∧ m < k ∧ m < N ∧ Hid (L.length = N) ∧ Hid (upF k L m = F) ∧ Hid (QAt wr base qb ok L) ∧ Hid (Fr w wr ok)) (fun u _ => (intOf u).toNat)
  case atStart => exact ⟨j, j + 1, l, rfl, by omega, hj, Lib.hid HN.out.symm, Lib.hid HF.out.symm, H, Lib.hid (Fr.refl w ok)⟩
  case round =>
    obtain ⟨m, k, L, rfl, hmk, hmN, HL, HU, HQ, HFr⟩ := hrel
    rcases Nat.eq_zero_or_pos m with h0 | h0
    · subst h0
      have HE := Lib.hid (show L = F by have := HU.out; rw [← this]; cases k with
        | zero => rfl
        | succ k => simp [upF])
      go_wp2_with fail
      go_end0
      exact ⟨rfl, by rw [← HE.out]; exact HQ.out, HFr.out⟩
    · obtain ⟨k, rfl⟩ : ∃ k', k = k' + 1 := ⟨k - 1, by omega⟩
      obtain ⟨p, Hp⟩ : ∃ p, Hid (p = (m - 1) / 2) := ⟨_, Lib.hid rfl⟩
      have hpm : p < m := by rw [Hp.out]; omega
      have hdiv : ((m : Int) - 1) / 2 = (p : Int) := by rw [Hp.out]; omega
      obtain ⟨g, c, hb, hle, hR, hok⟩ := HQ.out.form (by rw [HL.out]; omega)
      have HB := Lib.hid hb
      have HR := Lib.hid hR
      have hcell := blk_cell hb 0
      have hml := mLess qb (some ⟨g, 0, none⟩) L.length c wr hcell
      clear hb hR hcell
      have hne : ((p : Int) == (m : Int)) = false := beq_eq_false_iff_ne.mpr (by omega)
      have HLs := Less88 (some ⟨g, 0, none⟩) c m p L wr (by rw [HL.out]; exact hmN) (by rw [HL.out]; omega) (by rw [HL.out]; exact hn) (Lib.hid (Kd.R_reads' HR.out).2.2)
      have HLs := Lib.hid HLs
      cases hls : lss (L.getD m z99) (L.getD p z99) with
      | true =>
        rw [hls] at HLs
        have HLS := Lib.hid hls
        clear hls
        go_wp2_with fail
        refine HLs.out.mono ?_
        rintro e w1 ⟨rfl, hd⟩
        have hb1 := hd.below
        have HQ1 := Lib.hid (HQ.out.below hb1)
        have HB1 := Lib.hid (blk_keep hb1 HB.out)
        have HR1 := Lib.hid (Kd.R_below HR.out hb1)
        have HF1 := Lib.hid (HFr.out.below hb1)
        have hcell1 := blk_cell HB1.out 0
        have hms := mSwap qb (some ⟨g, 0, none⟩) L.length c w1 hcell1
        clear hd hb1 hcell1 hml
        go_wp2_with fail
        refine (Swap89 g c p m base ok L w1 (by rw [HL.out]; omega) (by rw [HL.out]; omega) (by rw [HL.out]; exact hn) HR1).mono ?_
        rintro e w2 ⟨rfl, hR2, hg2⟩
        have HB2 := Lib.hid ((hg2.block qb (blk_lt HB1.out) (fun e => Kd.R_ne HR1.out HB1.out (by decide) e)).trans HB1.out)
        have HR2 := Lib.hid hR2
        have HF2 := Lib.hid (HF1.out.grown hg2 (fun k hk => .inl (by injection hk with hk; rw [← hk]; exact hok)))
        clear hR2 hg2 hms
        go_wp2_with fail
        go_round
        case rel =>
          refine ⟨p, k, swp L p m, rfl, by omega, by omega, Lib.hid ((swp_length _ _ _).trans HL.out), Lib.hid ?_, Lib.hid ⟨some ⟨g, 0, none⟩, c, ?_, ?_, ?_⟩, HF2⟩
          · have := HU.out
            unfold upF at this
            rw [if_neg (by omega), ← Hp.out, if_pos HLS.out] at this
            exact this
          · rw [swp_length]; exact HB2.out
          · rw [swp_length]; exact hle
          · rw [swp_length]; exact HR2.out
        case measure => simp [intOf]; omega
      | false =>
        rw [hls] at HLs
        have HLS := Lib.hid hls
        clear hls
        go_wp2_with fail
        refine HLs.out.mono ?_
        rintro e w1 ⟨rfl, hd⟩
        have hb1 := hd.below
        have HQ1 := Lib.hid (HQ.out.below hb1)
        have HF1 := Lib.hid (HFr.out.below hb1)
        have HE := Lib.hid (show L = F by
          have := HU.out
          unfold upF at this
          rw [if_neg (by omega), ← Hp.out, HLS.out] at this
          exact this)
        clear hd hb1 hml
        go_wp2_with fail
        go_end0
        exact ⟨rfl, by rw [← HE.out]; exact HQ1.out, HF1.out⟩

end Go.Proofs.Ytaaohfhcimndmaa.M
