import Derived.Test.YtaneaabmgnanbaaKMNewer2
import Derived.LoopTactic
namespace Go.Proofs.Ytaneaabmgnanbaa.M
open Go.RowKit Go.Proofs.YtaneaabmgnanbaaW.PrintWords Go.Proofs.YtaneaabmgnanbaaW.PrintLast Go.Proofs.YtaneaabmgnanbaaW.PrintMore Go.Proofs.Ytaneaabmgnanbaa.PAdvBack
set_option linter.unusedVariables false
set_option linter.unusedSimpArgs false
def idxq {α : Type} (q : α → Bool) (xs : List α) : Int := if xs.any q then (xs.findIdx q : Int) else -1
theorem idxq_none {α : Type} {q : α → Bool} {xs : List α} (z : α) (h : ∀ j, j < xs.length → q (xs.getD j z) = false) : idxq q xs = -1 := by
 unfold idxq
 rw [if_neg]
 simp only [List.any_eq_true, not_exists, not_and, Bool.not_eq_true]
 intro x hx
 obtain ⟨j, hj, rfl⟩ := List.mem_iff_getElem.1 hx
 have := h j hj
 simpa [List.getD_eq_getElem?_getD, hj] using this
theorem idxq_some {α : Type} {q : α → Bool} {xs : List α} (z : α) {k : Nat} (hk : k < xs.length) (h : ∀ j, j < k → q (xs.getD j z) = false) (hp : q (xs.getD k z) = true) : idxq q xs = k := by
 have e : ∀ j (hj : j < xs.length), xs.getD j z = xs[j] := fun j hj => by simp [List.getD_eq_getElem?_getD, hj]
 unfold idxq
 rw [if_pos]
 · congr 1
   rw [List.findIdx_eq hk]
   refine ⟨by rw [← e k hk]; exact hp, fun j hj => ?_⟩
   rw [← e j (by omega)]
   exact h j hj
 · rw [List.any_eq_true]
   exact ⟨xs[k], List.getElem_mem hk, by rw [← e k hk]; exact hp⟩
theorem idxq_geq {α : Type} (q : α → Bool) (xs : List α) : decide (0 ≤ idxq q xs) = xs.any q := by
 unfold idxq
 cases h : xs.any q
 · simp
 · simp
theorem C28_cell {w : World} {A : Option Addr} {xs : List S28} (h : Kd.C k28 w A xs.length xs) (hp : 0 < xs.length) : ∃ ad, A = some ad ∧ ∀ j, j < xs.length → w.cell? (ad.add (j * 2)) = some (.int .i64 (xs.getD j z28).f0) ∧ w.cell? ⟨(ad.add (j * 2)).block, (ad.add (j * 2)).off + 1, none⟩ = some (.int .i64 (xs.getD j z28).f1) := by
 obtain ⟨ad, _, rfl, _⟩ := Kd.C_get h z28 0 (by omega) (by omega)
 refine ⟨ad, rfl, fun j hj => ?_⟩
 obtain ⟨ad', c, e, hl, hK, hc⟩ := Kd.C_get h z28 j (by omega) (by omega)
 cases e
 have hcs := k28_open hK
 subst hcs
 exact ⟨hc 0 _ rfl, by rw [← add_field _ _ 1 (by omega)]; exact hc 1 _ rfl⟩
theorem peer_any (x : S28) (g : Nat) (p : Int) (w : World) (hg : w.heap[g]? = some (.cells #[.int .i64 p] 3 (0, 0))) :
 Calls Try.prog 70 #[.agg #[.int .i64 x.f0, .int .i64 x.f1], .pointer (some ⟨g, 0, none⟩)] w fun e w' => e = .returned (.bool (x.f0 == p)) ∧ Below w.heap.size w w' := by
 have hu := Try.underlying28
 have hl := blk_lt hg
 have hc := blk_cell hg 0
 have hf := blk_free hg 0
 have HG := Lib.hid hg
 clear hg
 go_enter Try.func70, Try.ntmps70
 go_wp2_with fail
 go_ret
 exact ⟨rfl, (Below.refl _ _).alloc (Nat.le_refl _) _⟩
set_option maxHeartbeats 1000000 in
set_option maxRecDepth 100000 in
theorem IndexFunc72 (A : Option Addr) (c g : Nat) (p : Int) (xs : List S28) (w : World) (hn : xs.length ≤ 9223372036854775807) (hK : Hid (Kd.C k28 w A xs.length xs)) (HG : Hid (w.heap[g]? = some (.cells #[.int .i64 p] 3 (0, 0)))) :
 Calls Try.prog 72 #[.slice A xs.length c, .func (.func 70) #[] #[.pointer (some ⟨g, 0, none⟩)]] w fun e w' => e = .returned (.int .i64 (idxq (fun x => x.f0 == p) xs)) ∧ Below w.heap.size w w' := by
 have hu := Try.underlying22
 have hu2 := Try.underlying28
 obtain ⟨q, Hq⟩ : ∃ q : S28 → Bool, Hid (q = (fun x => x.f0 == p)) := ⟨_, Lib.hid rfl⟩
 rw [← Hq.out]
 have Hcl : Hid (∀ (x : S28) (W : World), W.heap[g]? = some (.cells #[.int .i64 p] 3 (0, 0)) → Calls Try.prog 70 #[.agg #[.int .i64 x.f0, .int .i64 x.f1], .pointer (some ⟨g, 0, none⟩)] W fun e w' => e = .returned (.bool (q x)) ∧ Below W.heap.size W w') := Lib.hid (fun x W h => by rw [Hq.out]; exact peer_any x g p W h)
 rcases Nat.eq_zero_or_pos xs.length with h0 | h0
 · have hx : xs = [] := List.eq_nil_of_length_eq_zero h0
   subst hx
   rw [show idxq q [] = -1 from rfl]
   clear hK
   go_enter Try.func72, Try.ntmps72
   go_wp2
   refine wp_loop_rounds 1 ?_
   rw [rounds_succ]
   go_wp2
   go_ret
   exact ⟨rfl, Below.refl _ _⟩
 · go_enter Try.func72, Try.ntmps72
   go_wp2
   go_loopw [8] (fun i wr => ∃ k : Nat, k ≤ xs.length ∧ i = .int .i64 k ∧ Hid (∀ j, j < k → q (xs.getD j z28) = false) ∧ Hid (Below w.heap.size w wr)) (fun i _ => xs.length - (intOf i).toNat)
   case atStart => exact ⟨0, Nat.zero_le _, rfl, Lib.hid (fun j hj => absurd hj (by omega)), Lib.hid (Below.refl _ _)⟩
   case round =>
    obtain ⟨k, hk, rfl, HN, HBr⟩ := hrel
    by_cases hlt : k < xs.length
    · obtain ⟨ad, rfl, hcell⟩ := C28_cell (Kd.C_below hK.out HBr.out) h0
      have HC := Lib.hid hcell
      clear hcell
      obtain ⟨v, Hv⟩ : ∃ v, Hid (v = xs.getD k z28) := ⟨_, Lib.hid rfl⟩
      obtain ⟨hc0, hc1⟩ := HC.out k hlt
      rw [← Hv.out] at hc0 hc1
      have HG1 := Lib.hid (blk_keep HBr.out HG.out)
      cases hb : q v with
      | true =>
       have HB := Lib.hid hb
       have HI := Lib.hid (idxq_some z28 hlt HN.out (by rw [← Hv.out]; exact hb))
       clear hb
       go_wp2_with fail
       refine (Hcl.out v _ HG1.out).mono ?_
       rw [HB.out]
       rintro e w' ⟨rfl, hb2⟩
       have HB2 := Lib.hid (HBr.out.trans (hb2.mono HBr.out.size))
       clear hb2
       go_wp2_with fail
       go_ret
       exact ⟨by rw [HI.out]; rfl, HB2.out⟩
      | false =>
       have HB := Lib.hid hb
       clear hb
       go_wp2_with fail
       refine (Hcl.out v _ HG1.out).mono ?_
       rw [HB.out]
       rintro e w' ⟨rfl, hb2⟩
       have HB2 := Lib.hid (HBr.out.trans (hb2.mono HBr.out.size))
       clear hb2
       go_wp2_with fail
       go_round
       case rel => exact ⟨k + 1, by omega, by go_num, Lib.hid (fun j hj => by
        by_cases e : j = k
        · subst e; rw [← Hv.out]; exact HB.out
        · exact HN.out j (by omega)), HB2⟩
       case measure => simp [intOf]; omega
    · have HI := Lib.hid (idxq_none (q := q) (xs := xs) z28 (fun j hj => HN.out j (by omega)))
      go_wp2_with fail
      go_ret
      exact ⟨by rw [HI.out]; rfl, HBr.out⟩
theorem Contains69 (A : Option Addr) (c g : Nat) (p : Int) (xs : List S28) (w : World) (hn : xs.length ≤ 9223372036854775807) (hK : Hid (Kd.C k28 w A xs.length xs)) (HG : Hid (w.heap[g]? = some (.cells #[.int .i64 p] 3 (0, 0)))) :
 Calls Try.prog 69 #[.slice A xs.length c, .func (.func 70) #[] #[.pointer (some ⟨g, 0, none⟩)]] w fun e w' => e = .returned (.bool (xs.any (fun x => x.f0 == p))) ∧ Below w.heap.size w w' := by
 rw [← idxq_geq]
 obtain ⟨r, Hr⟩ : ∃ r, Hid (r = idxq (fun x => x.f0 == p) xs) := ⟨_, Lib.hid rfl⟩
 rw [← Hr.out]
 go_enter Try.func69, Try.ntmps69
 go_wp2_with fail
 refine (IndexFunc72 A c g p xs _ hn hK HG).mono ?_
 rw [← Hr.out]
 rintro e w' ⟨rfl, hb⟩
 have HB := Lib.hid hb
 clear hb
 go_wp2_with fail
 go_ret
 exact ⟨rfl, HB.out⟩
end Go.Proofs.Ytaneaabmgnanbaa.M
