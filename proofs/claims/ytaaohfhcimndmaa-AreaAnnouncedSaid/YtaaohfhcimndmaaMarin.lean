/- Own lemmas: area.in, area.border. -/
import Derived.Test.YtaaohfhcimndmaaMspread
import Derived.LoopTactic
import Derived.BigQuiet
import Derived.RegionTactic
import Derived.BigRegion
namespace Go.Proofs.Ytaaohfhcimndmaa.M
open Go.RowKit Go.Proofs.YtaaohfhcimndmaaW.PrintWords Go.Proofs.YtaaohfhcimndmaaW.PrintLast Go.Proofs.YtaaohfhcimndmaaW.PrintMore 
set_option linter.unusedVariables false
set_option linter.unusedSimpArgs false

open Go.Proofs.Ytaaohfhcimndmaa.PAreaAnnounced
/-- What IndexFunc answers over any list. -/
def idxq {α : Type} (q : α → Bool) (xs : List α) : Int := if xs.any q then (xs.findIdx q : Int) else -1
theorem idxq_none {α : Type} {q : α → Bool} {xs : List α} (z : α) (h : ∀ j, j < xs.length → q (xs.getD j z) = false) : idxq q xs = -1 := by
  unfold idxq
  rw [if_neg]
  simp only [List.any_eq_true, not_exists, not_and, Bool.not_eq_true]
  intro x hx
  obtain ⟨j, hj, rfl⟩ := List.mem_iff_getElem.1 hx
  have := h j hj
  simpa [List.getD_eq_getElem?_getD, hj] using this
theorem idxq_some {α : Type} {q : α → Bool} {xs : List α} (z : α) {k : Nat} (hk : k < xs.length) (h : ∀ j, j < k → q (xs.getD j z) = false) (hp : q (xs.getD k z) = true) : idxq q xs = k := by
  have e : ∀ j (hj : j < xs.length), xs.getD j z = xs[j] := fun j hj => by simp [List.getD_eq_getElem?_getD, hj]
  unfold idxq
  rw [if_pos]
  · congr 1
    rw [List.findIdx_eq hk]
    refine ⟨by rw [← e k hk]; exact hp, fun j hj => ?_⟩
    rw [← e j (by omega)]
    exact h j hj
  · rw [List.any_eq_true]
    exact ⟨xs[k], List.getElem_mem hk, by rw [← e k hk]; exact hp⟩
theorem idxq_geq {α : Type} (q : α → Bool) (xs : List α) : decide (0 ≤ idxq q xs) = xs.any q := by
  unfold idxq
  cases h : xs.any q
  · simp
  · simp

theorem C59_cell {w : World} {A : Option Addr} {xs : List S59} (h : Kd.C k59 w A xs.length xs) (hp : 0 < xs.length) : ∃ ad, A = some ad ∧ ∀ j, j < xs.length → w.cell? (ad.add (j * 4)) = some (.int .i64 (xs.getD j z59).f0) ∧ w.cell? ⟨(ad.add (j * 4)).block, (ad.add (j * 4)).off + 1, none⟩ = some (.int .i64 (xs.getD j z59).f1) ∧ w.cell? ⟨(ad.add (j * 4)).block, (ad.add (j * 4)).off + 2, none⟩ = some (.int .i64 (xs.getD j z59).f2) ∧ w.cell? ⟨(ad.add (j * 4)).block, (ad.add (j * 4)).off + 3, none⟩ = some (.int .i64 (xs.getD j z59).f3) := by
  obtain ⟨ad, e, _⟩ := at_T59 h 0 (by omega) (by omega)
  refine ⟨ad, e, fun j hj => ?_⟩
  obtain ⟨ad', e', h1, h2, h3, h4⟩ := at_T59 h (j : Int) (by omega) (by omega)
  rw [e] at e'
  cases e'
  exact ⟨h1, h2, h3, h4⟩
def inq (a v : Int) (x : S59) : Bool := x.f0 == a && (x.f1 == v || x.f2 == v)
def boq (v : Int) (x : S59) : Bool := decide (x.f0 > 0) && (x.f1 == v || x.f2 == v)
/-- The closures' boxes. -/
def In62 (w : World) (ga gv : Nat) (a v : Int) : Prop := w.heap[ga]? = some (.cells #[.int .i64 a] 3 (0, 0)) ∧ w.heap[gv]? = some (.cells #[.int .i64 v] 3 (0, 0))
theorem In62.keep {w w1 : World} {ga gv : Nat} {a v : Int} (h : In62 w ga gv a v) (hb : Below w.heap.size w w1) : In62 w1 ga gv a v := ⟨blk_keep hb h.1, blk_keep hb h.2⟩
set_option maxHeartbeats 1000000 in
theorem in62 (x : S59) (ga gv : Nat) (a v : Int) (w : World) (HI : Hid (In62 w ga gv a v)) :
    Calls Try.prog 62 #[.agg #[.int .i64 x.f0, .int .i64 x.f1, .int .i64 x.f2, .int .i64 x.f3], .pointer (some ⟨ga, 0, none⟩), .pointer (some ⟨gv, 0, none⟩)] w fun e w' => e = .returned (.bool (inq a v x)) ∧ Below w.heap.size w w' := by
  have hu := Try.underlying59
  have HB := Lib.hid (below_alloc (Below.refl w.heap.size w) (.cells #[.int .i64 x.f0, .int .i64 x.f1, .int .i64 x.f2, .int .i64 x.f3] 59))
  have c0 := blk_cell HI.out.1 0
  have c1 := blk_cell HI.out.2 0
  have l0 := blk_lt HI.out.1
  have l1 := blk_lt HI.out.2
  have f0 := blk_free HI.out.1 0
  have f1 := blk_free HI.out.2 0
  unfold inq
  cases d0 : (x.f0 == a) with
  | false =>
    go_enter Try.func62, Try.ntmps62
    go_wp2_with fail
    go_ret
    exact ⟨rfl, HB.out⟩
  | true =>
    cases d1 : (x.f1 == v) with
    | true =>
      go_enter Try.func62, Try.ntmps62
      go_wp2_with fail
      go_ret
      exact ⟨rfl, HB.out⟩
    | false =>
      go_enter Try.func62, Try.ntmps62
      go_wp2_with fail
      go_ret
      exact ⟨by simp, HB.out⟩
set_option maxHeartbeats 1000000 in
theorem bo63 (x : S59) (gv : Nat) (v : Int) (w : World) (HI : Hid (w.heap[gv]? = some (.cells #[.int .i64 v] 3 (0, 0)))) :
    Calls Try.prog 63 #[.agg #[.int .i64 x.f0, .int .i64 x.f1, .int .i64 x.f2, .int .i64 x.f3], .pointer (some ⟨gv, 0, none⟩)] w fun e w' => e = .returned (.bool (boq v x)) ∧ Below w.heap.size w w' := by
  have hu := Try.underlying59
  have HB := Lib.hid (below_alloc (Below.refl w.heap.size w) (.cells #[.int .i64 x.f0, .int .i64 x.f1, .int .i64 x.f2, .int .i64 x.f3] 59))
  have c0 := blk_cell HI.out 0
  have l0 := blk_lt HI.out
  have f0 := blk_free HI.out 0
  unfold boq
  cases d0 : decide (x.f0 > 0) with
  | false =>
    go_enter Try.func63, Try.ntmps63
    go_wp2_with fail
    go_ret
    exact ⟨rfl, HB.out⟩
  | true =>
    cases d1 : (x.f1 == v) with
    | true =>
      go_enter Try.func63, Try.ntmps63
      go_wp2_with fail
      go_ret
      exact ⟨rfl, HB.out⟩
    | false =>
      go_enter Try.func63, Try.ntmps63
      go_wp2_with fail
      go_ret
      exact ⟨by simp, HB.out⟩

set_option maxHeartbeats 1000000 in
set_option maxRecDepth 100000 in
theorem Index69i (A : Option Addr) (c : Nat) (ga gv : Nat) (a v : Int) (xs : List S59) (w : World) (hn : xs.length ≤ 9223372036854775807) (hK : Hid (Kd.C k59 w A xs.length xs)) (HG : Hid (In62 w ga gv a v)) :
    Calls Try.prog 69 #[.slice A xs.length c, .func (.func 62) #[] #[.pointer (some ⟨ga, 0, none⟩), .pointer (some ⟨gv, 0, none⟩)]] w fun e w' => e = .returned (.int .i64 (idxq (inq a v) xs)) ∧ Below w.heap.size w w' := by
  have hu := Try.underlying53
  have hu2 := Try.underlying59
  obtain ⟨q, Hq⟩ : ∃ q : S59 → Bool, Hid (q = (inq a v)) := ⟨_, Lib.hid rfl⟩
  rw [← Hq.out]
  have Hcl : Hid (∀ (x : S59) (W : World), (In62 W ga gv a v) → Calls Try.prog 62 #[.agg #[.int .i64 x.f0, .int .i64 x.f1, .int .i64 x.f2, .int .i64 x.f3], .pointer (some ⟨ga, 0, none⟩), .pointer (some ⟨gv, 0, none⟩)] W fun e w' => e = .returned (.bool (q x)) ∧ Below W.heap.size W w') := Lib.hid (fun x W h => by rw [Hq.out]; exact in62 x ga gv a v W (Lib.hid h))
  rcases Nat.eq_zero_or_pos xs.length with h0 | h0
  · have hx : xs = [] := List.eq_nil_of_length_eq_zero h0
    subst hx
    rw [show idxq q [] = -1 from rfl]
    clear hK
    go_enter Try.func69, Try.ntmps69
    go_wp2
    refine wp_loop_rounds 1 ?_
    rw [rounds_succ]
    go_wp2
    go_ret
    exact ⟨rfl, Below.refl _ _⟩
  · go_enter Try.func69, Try.ntmps69
    go_wp2
    go_loopw [8] (fun i wr => ∃ k : Nat, k ≤ xs.length ∧ i = .int .i64 k ∧ Hid (∀ j, j < k → q (xs.getD j z59) = false) ∧ Hid (Below w.heap.size w wr)) (fun i _ => xs.length - (intOf i).toNat)
    case atStart => exact ⟨0, Nat.zero_le _, rfl, Lib.hid (fun j hj => absurd hj (by omega)), Lib.hid (Below.refl _ _)⟩
    case round =>
      obtain ⟨k, hk, rfl, HN, HBr⟩ := hrel
      by_cases hlt : k < xs.length
      · obtain ⟨ad, rfl, hcell⟩ := C59_cell (Kd.C_below hK.out HBr.out) h0
        have HC := Lib.hid hcell
        clear hcell
        obtain ⟨v', Hv⟩ : ∃ v, Hid (v = xs.getD k z59) := ⟨_, Lib.hid rfl⟩
        obtain ⟨hc0, hc1, hc2, hc3⟩ := HC.out k hlt
        rw [← Hv.out] at hc0 hc1 hc2 hc3
        have HG1 := Lib.hid (HG.out.keep HBr.out)
        cases hb : q v' with
        | true =>
          have HB := Lib.hid hb
          have HI := Lib.hid (idxq_some z59 hlt HN.out (by rw [← Hv.out]; exact hb))
          clear hb
          go_wp2_with fail
          refine (Hcl.out v' _ HG1.out).mono ?_
          rw [HB.out]
          rintro e w' ⟨rfl, hb2⟩
          have HB2 := Lib.hid (HBr.out.trans (hb2.mono HBr.out.size))
          clear hb2
          go_wp2_with fail
          go_ret
          exact ⟨by rw [HI.out]; rfl, HB2.out⟩
        | false =>
          have HB := Lib.hid hb
          clear hb
          go_wp2_with fail
          refine (Hcl.out v' _ HG1.out).mono ?_
          rw [HB.out]
          rintro e w' ⟨rfl, hb2⟩
          have HB2 := Lib.hid (HBr.out.trans (hb2.mono HBr.out.size))
          clear hb2
          go_wp2_with fail
          go_round
          case rel => exact ⟨k + 1, by omega, by go_num, Lib.hid (fun j hj => by
            by_cases e : j = k
            · subst e; rw [← Hv.out]; exact HB.out
            · exact HN.out j (by omega)), HB2⟩
          case measure => simp [intOf]; omega
      · have HI := Lib.hid (idxq_none (q := q) (xs := xs) z59 (fun j hj => HN.out j (by omega)))
        go_wp2_with fail
        go_ret
        exact ⟨by rw [HI.out]; rfl, HBr.out⟩

set_option maxHeartbeats 1000000 in
set_option maxRecDepth 100000 in
theorem Index69b (A : Option Addr) (c : Nat) (gv : Nat) (v : Int) (xs : List S59) (w : World) (hn : xs.length ≤ 9223372036854775807) (hK : Hid (Kd.C k59 w A xs.length xs)) (HG : Hid (w.heap[gv]? = some (.cells #[.int .i64 v] 3 (0, 0)))) :
    Calls Try.prog 69 #[.slice A xs.length c, .func (.func 63) #[] #[.pointer (some ⟨gv, 0, none⟩)]] w fun e w' => e = .returned (.int .i64 (idxq (boq v) xs)) ∧ Below w.heap.size w w' := by
  have hu := Try.underlying53
  have hu2 := Try.underlying59
  obtain ⟨q, Hq⟩ : ∃ q : S59 → Bool, Hid (q = (boq v)) := ⟨_, Lib.hid rfl⟩
  rw [← Hq.out]
  have Hcl : Hid (∀ (x : S59) (W : World), (W.heap[gv]? = some (.cells #[.int .i64 v] 3 (0, 0))) → Calls Try.prog 63 #[.agg #[.int .i64 x.f0, .int .i64 x.f1, .int .i64 x.f2, .int .i64 x.f3], .pointer (some ⟨gv, 0, none⟩)] W fun e w' => e = .returned (.bool (q x)) ∧ Below W.heap.size W w') := Lib.hid (fun x W h => by rw [Hq.out]; exact bo63 x gv v W (Lib.hid h))
  rcases Nat.eq_zero_or_pos xs.length with h0 | h0
  · have hx : xs = [] := List.eq_nil_of_length_eq_zero h0
    subst hx
    rw [show idxq q [] = -1 from rfl]
    clear hK
    go_enter Try.func69, Try.ntmps69
    go_wp2
    refine wp_loop_rounds 1 ?_
    rw [rounds_succ]
    go_wp2
    go_ret
    exact ⟨rfl, Below.refl _ _⟩
  · go_enter Try.func69, Try.ntmps69
    go_wp2
    go_loopw [8] (fun i wr => ∃ k : Nat, k ≤ xs.length ∧ i = .int .i64 k ∧ Hid (∀ j, j < k → q (xs.getD j z59) = false) ∧ Hid (Below w.heap.size w wr)) (fun i _ => xs.length - (intOf i).toNat)
    case atStart => exact ⟨0, Nat.zero_le _, rfl, Lib.hid (fun j hj => absurd hj (by omega)), Lib.hid (Below.refl _ _)⟩
    case round =>
      obtain ⟨k, hk, rfl, HN, HBr⟩ := hrel
      by_cases hlt : k < xs.length
      · obtain ⟨ad, rfl, hcell⟩ := C59_cell (Kd.C_below hK.out HBr.out) h0
        have HC := Lib.hid hcell
        clear hcell
        obtain ⟨v', Hv⟩ : ∃ v, Hid (v = xs.getD k z59) := ⟨_, Lib.hid rfl⟩
        obtain ⟨hc0, hc1, hc2, hc3⟩ := HC.out k hlt
        rw [← Hv.out] at hc0 hc1 hc2 hc3
        have HG1 := Lib.hid (blk_keep HBr.out HG.out)
        cases hb : q v' with
        | true =>
          have HB := Lib.hid hb
          have HI := Lib.hid (idxq_some z59 hlt HN.out (by rw [← Hv.out]; exact hb))
          clear hb
          go_wp2_with fail
          refine (Hcl.out v' _ HG1.out).mono ?_
          rw [HB.out]
          rintro e w' ⟨rfl, hb2⟩
          have HB2 := Lib.hid (HBr.out.trans (hb2.mono HBr.out.size))
          clear hb2
          go_wp2_with fail
          go_ret
          exact ⟨by rw [HI.out]; rfl, HB2.out⟩
        | false =>
          have HB := Lib.hid hb
          clear hb
          go_wp2_with fail
          refine (Hcl.out v' _ HG1.out).mono ?_
          rw [HB.out]
          rintro e w' ⟨rfl, hb2⟩
          have HB2 := Lib.hid (HBr.out.trans (hb2.mono HBr.out.size))
          clear hb2
          go_wp2_with fail
          go_round
          case rel => exact ⟨k + 1, by omega, by go_num, Lib.hid (fun j hj => by
            by_cases e : j = k
            · subst e; rw [← Hv.out]; exact HB.out
            · exact HN.out j (by omega)), HB2⟩
          case measure => simp [intOf]; omega
      · have HI := Lib.hid (idxq_none (q := q) (xs := xs) z59 (fun j hj => HN.out j (by omega)))
        go_wp2_with fail
        go_ret
        exact ⟨by rw [HI.out]; rfl, HBr.out⟩

theorem Contains61i (A : Option Addr) (c : Nat) (ga gv : Nat) (a v : Int) (xs : List S59) (w : World) (hn : xs.length ≤ 9223372036854775807) (hK : Hid (Kd.C k59 w A xs.length xs)) (HG : Hid (In62 w ga gv a v)) :
    Calls Try.prog 61 #[.slice A xs.length c, .func (.func 62) #[] #[.pointer (some ⟨ga, 0, none⟩), .pointer (some ⟨gv, 0, none⟩)]] w fun e w' => e = .returned (.bool (xs.any (inq a v))) ∧ Below w.heap.size w w' := by
  rw [← idxq_geq]
  obtain ⟨r, Hr⟩ : ∃ r, Hid (r = idxq (inq a v) xs) := ⟨_, Lib.hid rfl⟩
  rw [← Hr.out]
  go_enter Try.func61, Try.ntmps61
  go_wp2_with fail
  refine (Index69i A c ga gv a v xs _ hn hK HG).mono ?_
  rw [← Hr.out]
  rintro e w' ⟨rfl, hb⟩
  have HB := Lib.hid hb
  clear hb
  go_wp2_with fail
  go_ret
  exact ⟨rfl, HB.out⟩

theorem Contains61b (A : Option Addr) (c : Nat) (gv : Nat) (v : Int) (xs : List S59) (w : World) (hn : xs.length ≤ 9223372036854775807) (hK : Hid (Kd.C k59 w A xs.length xs)) (HG : Hid (w.heap[gv]? = some (.cells #[.int .i64 v] 3 (0, 0)))) :
    Calls Try.prog 61 #[.slice A xs.length c, .func (.func 63) #[] #[.pointer (some ⟨gv, 0, none⟩)]] w fun e w' => e = .returned (.bool (xs.any (boq v))) ∧ Below w.heap.size w w' := by
  rw [← idxq_geq]
  obtain ⟨r, Hr⟩ : ∃ r, Hid (r = idxq (boq v) xs) := ⟨_, Lib.hid rfl⟩
  rw [← Hr.out]
  go_enter Try.func61, Try.ntmps61
  go_wp2_with fail
  refine (Index69b A c gv v xs _ hn hK HG).mono ?_
  rw [← Hr.out]
  rintro e w' ⟨rfl, hb⟩
  have HB := Lib.hid hb
  clear hb
  go_wp2_with fail
  go_ret
  exact ⟨rfl, HB.out⟩

/-- A node belongs to an area. -/
def inA (es : List S59) (a v : Int) : Bool := es.any (inq a v)
def isBorder (es : List S59) (v : Int) : Bool := inA es 0 v && es.any (boq v)
set_option maxHeartbeats 1000000 in
set_option maxRecDepth 100000 in
theorem in51 (n : Int) (A : Option Addr) (c : Nat) (es : List S59) (a v : Int) (w : World) (hn : es.length ≤ 1000000) (HK : Hid (Kd.C k59 w A es.length es)) :
    Calls Try.prog 51 #[.agg #[.int .i64 n, .slice A es.length c], .int .i64 a, .int .i64 v] w fun e w' => e = .returned (.bool (inA es a v)) ∧ Below w.heap.size w w' := by
  have hu := Try.underlying55
  have hu2 := Try.underlying53
  unfold inA
  obtain ⟨r, Hr⟩ : ∃ r, Hid (r = es.any (inq a v)) := ⟨_, Lib.hid rfl⟩
  rw [← Hr.out]
  go_enter Try.func51, Try.ntmps51
  go_wp2_with fail
  have hb1 := below_alloc (Below.refl w.heap.size w) (.cells #[.int .i64 n, .slice A es.length c] 55)
  have hb2 := below_self hb1 (below_alloc (Below.refl _ _) (.cells #[.int .i64 a] 3))
  have HB := Lib.hid (below_self hb2 (below_alloc (Below.refl _ _) (.cells #[.int .i64 v] 3)))
  have hi : In62 (((w.alloc (.cells #[.int .i64 n, .slice A es.length c] 55)).alloc (.cells #[.int .i64 a] 3)).alloc (.cells #[.int .i64 v] 3)) (w.heap.size + 1) (w.heap.size + 1 + 1) a v :=
    ⟨blk_keep (below_alloc (Below.refl _ _) _) (blk_alloc_at _ _ (by simp)), blk_alloc_at _ _ (by simp)⟩
  have HI := Lib.hid hi
  clear hi hb1 hb2
  refine (Contains61i A c (w.heap.size + 1) (w.heap.size + 1 + 1) a v es _ (by omega) (Lib.hid (Kd.C_below HK.out HB.out)) HI).mono ?_
  rw [← Hr.out]
  rintro e w' ⟨rfl, hb⟩
  have HB2 := Lib.hid (below_self HB.out hb)
  clear hb
  go_wp2_with fail
  go_ret
  exact ⟨rfl, HB2.out⟩
set_option maxHeartbeats 1000000 in
set_option maxRecDepth 100000 in
theorem border52 (n : Int) (A : Option Addr) (c : Nat) (es : List S59) (v : Int) (w : World) (hn : es.length ≤ 1000000) (HK : Hid (Kd.C k59 w A es.length es)) :
    Calls Try.prog 52 #[.agg #[.int .i64 n, .slice A es.length c], .int .i64 v] w fun e w' => e = .returned (.bool (isBorder es v)) ∧ Below w.heap.size w w' := by
  have hu := Try.underlying55
  have hu2 := Try.underlying53
  unfold isBorder
  obtain ⟨r, Hr⟩ : ∃ r, Hid (r = inA es 0 v) := ⟨_, Lib.hid rfl⟩
  obtain ⟨s, Hs⟩ : ∃ r, Hid (r = es.any (boq v)) := ⟨_, Lib.hid rfl⟩
  rw [← Hr.out, ← Hs.out]
  have hb1 := below_alloc (Below.refl w.heap.size w) (.cells #[.int .i64 n, .slice A es.length c] 55)
  have HB := Lib.hid (below_self hb1 (below_alloc (Below.refl _ _) (.cells #[.int .i64 v] 3)))
  have HX := Lib.hid (blk_keep (below_alloc (Below.refl _ _) (.cells #[.int .i64 v] 3)) (blk_alloc w (.cells #[.int .i64 n, .slice A es.length c] 55)))
  have HV := Lib.hid (blk_alloc_at (w.alloc (.cells #[.int .i64 n, .slice A es.length c] 55)) (.cells #[.int .i64 v] 3) (n := w.heap.size + 1) (by simp))
  clear hb1
  go_enter Try.func52, Try.ntmps52
  go_upto_region 1 with (fail)
  obtain ⟨p, Hp⟩ : ∃ b, Hid (b = w.heap.size) := ⟨_, Lib.hid rfl⟩
  obtain ⟨q, Hq⟩ : ∃ b, Hid (b = w.heap.size + 1) := ⟨_, Lib.hid rfl⟩
  rw [← Hq.out] at HV
  rw [← Hp.out] at HX
  rw [← Hq.out, ← Hp.out]
  generalize (w.alloc (.cells #[.int .i64 n, .slice A es.length c] 55)).alloc (.cells #[.int .i64 v] 3) = w1 at HB HX HV ⊢
  obtain ⟨x0, x1, xf⟩ := blk_cells2 HX.out
  have xl := blk_lt HX.out
  have v0 := blk_cell HV.out 0
  have vl := blk_lt HV.out
  have vf := blk_free HV.out 0
  go_wp2_with fail
  refine (in51 n A c es 0 v w1 hn (Lib.hid (Kd.C_below HK.out HB.out))).mono ?_
  rw [← Hr.out]
  rintro e w2 ⟨rfl, hb⟩
  have HB2 := Lib.hid (below_self HB.out hb)
  have HX2 := Lib.hid (blk_keep hb HX.out)
  have HV2 := Lib.hid (blk_keep hb HV.out)
  clear hb x0 x1 xf xl v0 vl vf
  obtain ⟨x0, x1, xf⟩ := blk_cells2 HX2.out
  have xl := blk_lt HX2.out
  cases r with
  | false =>
    go_wp2_with fail
    go_ret
    exact ⟨rfl, HB2.out⟩
  | true =>
    go_wp2_with fail
    refine (Contains61b A c q v es w2 (by omega) (Lib.hid (Kd.C_below HK.out HB2.out)) HV2).mono ?_
    rw [← Hs.out]
    rintro e w3 ⟨rfl, hb⟩
    have HB3 := Lib.hid (below_self HB2.out hb)
    clear hb
    go_wp2_with fail
    go_ret
    exact ⟨rfl, HB3.out⟩

end Go.Proofs.Ytaaohfhcimndmaa.M
