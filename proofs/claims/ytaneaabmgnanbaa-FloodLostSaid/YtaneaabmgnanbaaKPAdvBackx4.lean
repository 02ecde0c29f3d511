import Derived.Test.YtaneaabmgnanbaaKPAdvBackx0
import Derived.Test.YtaneaabmgnanbaaKPAdvBackx2
import Derived.Test.YtaneaabmgnanbaaKPAdvBackx3
namespace Go.Proofs.Ytaneaabmgnanbaa.PAdvBack
open Go.RowKit Go.Proofs.YtaneaabmgnanbaaW.PrintWords Go.Proofs.YtaneaabmgnanbaaW.PrintLast Go.Proofs.YtaneaabmgnanbaaW.PrintMore
attribute [local go_sem] max2_int min2_int max_two min_two max_three min_three max_four min_four
set_option linter.unusedVariables false
set_option linter.unusedSimpArgs false
mutual
def adv_Decode.l0 : Nat → ByteArray → Int → Int → Int → Int → List (S28) → Option (Int × Int × Int × (List (S28)) × Int)
 | 0, _, _, _, _, _, _ => none
 | k + 1, x0, x6, x146000, x146001, x146002, x146003 => if x6 < (wrap64 ((x0.size : Int) - 2)) then (if 0 ≤ x6 then (if x6 < (x0.size : Int) then (if 0 ≤ (wrap64 (x6 + 1)) then (if (wrap64 (x6 + 1)) < (x0.size : Int) then (if 0 ≤ (wrap64 (x6 + 2)) then (if (wrap64 (x6 + 2)) < (x0.size : Int) then (if x146003.length < 8796093022208 then (adv_Decode.l0 k x0 (wrap64 (x6 + 3)) x146000 x146001 x146002 (x146003 ++ [(⟨wrap64 (bt x0 x6), Go.bits .or .i64 (wrap64 ((wrap64 (bt x0 (wrap64 (x6 + 1)))) * 256)) (wrap64 (bt x0 (wrap64 (x6 + 2))))⟩ : S28)])) else (none)) else (none)) else (none)) else (none)) else (none)) else (none)) else (none)) else ((adv_bytes.f k x146000 x146001 x146002 x146003 0).bind fun t149 => ((adv_sum.f k t149).bind fun bt152 => (if 0 ≤ (wrap64 ((x0.size : Int) - 2)) then (if (wrap64 ((x0.size : Int) - 2)) < (x0.size : Int) then (if (wrap64 (bt x0 (wrap64 ((x0.size : Int) - 2)))) = bt152.1 then (if 0 ≤ (wrap64 ((x0.size : Int) - 1)) then (if (wrap64 ((x0.size : Int) - 1)) < (x0.size : Int) then (adv_Decode.j1 k ((wrap64 (bt x0 (wrap64 ((x0.size : Int) - 1)))) != bt152.2) x146000 x146001 x146002 x146003) else (none)) else (none)) else (adv_Decode.j1 k true x146000 x146001 x146002 x146003)) else (none)) else (none))))
def adv_Decode.j1 : Nat → Bool → Int → Int → Int → List (S28) → Option (Int × Int × Int × (List (S28)) × Int)
 | 0, _, _, _, _, _ => none
 | k + 1, x115, x146000, x146001, x146002, x146003 => if x115 = true then (some (0, 0, 0, ([] : List (S28)), 8)) else ((adv_Check.f k x146000 x146001 x146002 x146003).bind fun t154 => (if t154 = 0 then (some (x146000, x146001, x146002, x146003, 0)) else (some (0, 0, 0, ([] : List (S28)), t154))))
end
def adv_Decode.f (k : Nat) (a0 : ByteArray) : Option (Int × Int × Int × (List (S28)) × Int) := if (a0.size : Int) < 10 then (some (0, 0, 0, ([] : List (S28)), 9)) else (if 7 < (a0.size : Int) then (if (a0.size : Int) < (wrap64 (10 + (wrap64 (3 * (wrap64 (bt a0 7)))))) then (some (0, 0, 0, ([] : List (S28)), 9)) else (if (a0.size : Int) > (wrap64 (10 + (wrap64 (3 * (wrap64 (bt a0 7)))))) then (some (0, 0, 0, ([] : List (S28)), 3)) else (if 0 < (a0.size : Int) then (if 1 < (a0.size : Int) then (if 2 < (a0.size : Int) then (if 3 < (a0.size : Int) then (if 4 < (a0.size : Int) then (if 5 < (a0.size : Int) then (if 6 < (a0.size : Int) then (adv_Decode.l0 k a0 8 (wrap64 (bt a0 0)) (Go.bits .or .i64 (Go.bits .or .i64 (Go.bits .or .i64 (wrap64 ((wrap64 (bt a0 1)) * 16777216)) (wrap64 ((wrap64 (bt a0 2)) * 65536))) (wrap64 ((wrap64 (bt a0 3)) * 256))) (wrap64 (bt a0 4))) (Go.bits .or .i64 (wrap64 ((wrap64 (bt a0 5)) * 256)) (wrap64 (bt a0 6))) ([] : List (S28))) else (none)) else (none)) else (none)) else (none)) else (none)) else (none)) else (none)))) else (none))
theorem adv_Decode.mono_l : ∀ k, (∀ y0 y1 y2 y3 y4 y5, LeO (adv_Decode.l0 k y0 y1 y2 y3 y4 y5) (adv_Decode.l0 (k + 1) y0 y1 y2 y3 y4 y5)) ∧ (∀ y0 y1 y2 y3 y4, LeO (adv_Decode.j1 k y0 y1 y2 y3 y4) (adv_Decode.j1 (k + 1) y0 y1 y2 y3 y4))
 | 0 => ⟨fun _ _ _ _ _ _ r h => by simp [adv_Decode.l0] at h, fun _ _ _ _ _ r h => by simp [adv_Decode.j1] at h⟩
 | k + 1 => by
  obtain ⟨ih0, ih1⟩ := adv_Decode.mono_l k
  refine ⟨?_, ?_⟩
  · intro y0 y1 y2 y3 y4 y5
    unfold adv_Decode.l0
    repeat' first
    | (with_reducible exact ih0 _ _ _ _ _ _)
    | (with_reducible exact ih1 _ _ _ _ _)
    | (with_reducible exact adv_Check.mono _ _ _ _ _)
    | (with_reducible exact adv_bytes.mono _ _ _ _ _ _)
    | (with_reducible exact adv_sum.mono _ _)
    | (with_reducible exact LeO.refl _)
    | (with_reducible exact LeO.none _)
    | (with_reducible refine LeO.ite ?_ ?_)
    | (with_reducible refine LeO.bind ?_ (fun _ => ?_))
    | exact ih0 _ _ _ _ _ _
    | exact ih1 _ _ _ _ _
    | exact adv_Check.mono _ _ _ _ _
    | exact adv_bytes.mono _ _ _ _ _ _
    | exact adv_sum.mono _ _
    | exact LeO.none _
    | refine LeO.ite ?_ ?_
    | refine LeO.bind ?_ (fun _ => ?_)
  · intro y0 y1 y2 y3 y4
    unfold adv_Decode.j1
    repeat' first
    | (with_reducible exact ih0 _ _ _ _ _ _)
    | (with_reducible exact ih1 _ _ _ _ _)
    | (with_reducible exact adv_Check.mono _ _ _ _ _)
    | (with_reducible exact adv_bytes.mono _ _ _ _ _ _)
    | (with_reducible exact adv_sum.mono _ _)
    | (with_reducible exact LeO.refl _)
    | (with_reducible exact LeO.none _)
    | (with_reducible refine LeO.ite ?_ ?_)
    | (with_reducible refine LeO.bind ?_ (fun _ => ?_))
    | exact ih0 _ _ _ _ _ _
    | exact ih1 _ _ _ _ _
    | exact adv_Check.mono _ _ _ _ _
    | exact adv_bytes.mono _ _ _ _ _ _
    | exact adv_sum.mono _ _
    | exact LeO.none _
    | refine LeO.ite ?_ ?_
    | refine LeO.bind ?_ (fun _ => ?_)
theorem adv_Decode.mono : ∀ a0 k, LeO (adv_Decode.f k a0) (adv_Decode.f (k + 1) a0) := by
 intro a0 k
 obtain ⟨ih0, ih1⟩ := adv_Decode.mono_l k
 unfold adv_Decode.f
 repeat' first
  | (with_reducible exact ih0 _ _ _ _ _ _)
  | (with_reducible exact ih1 _ _ _ _ _)
  | (with_reducible exact adv_Check.mono _ _ _ _ _)
  | (with_reducible exact adv_bytes.mono _ _ _ _ _ _)
  | (with_reducible exact adv_sum.mono _ _)
  | (with_reducible exact LeO.refl _)
  | (with_reducible exact LeO.none _)
  | (with_reducible refine LeO.ite ?_ ?_)
  | (with_reducible refine LeO.bind ?_ (fun _ => ?_))
  | exact ih0 _ _ _ _ _ _
  | exact ih1 _ _ _ _ _
  | exact adv_Check.mono _ _ _ _ _
  | exact adv_bytes.mono _ _ _ _ _ _
  | exact adv_sum.mono _ _
  | exact LeO.none _
  | refine LeO.ite ?_ ?_
  | refine LeO.bind ?_ (fun _ => ?_)
def adv_Decode.T8 : Bool × List (List Nat × List Nat) := (true, [([], []), ([0], [0]), ([1], [1]), ([], []), ([3], [3]), ([4], [4]), ([5], [5]), ([], []), ([7], [7]), ([8], [8]), ([9], [9]), ([6, 10], [6, 10]), ([], []), ([12], [12]), ([13], [13]), ([14], [14]), ([11, 15], [11, 15]), ([], []), ([17], [17]), ([18], [18]), ([16, 19], [16, 19]), ([], []), ([21], [21]), ([22], [22]), ([23], [23]), ([], []), ([25], [25]), ([26], [26]), ([24, 27], [24, 27]), ([2, 20, 28], [2, 20, 28]), ([], []), ([30, 29, 0, 1, 2, 3, 4, 5, 6, 7, 8, 9, 10, 11, 12, 13, 14, 15, 16, 17, 18, 19, 20, 21, 22, 23, 24, 25, 26, 27, 28, 29, 30], [29, 30])])
def adv_Decode.B8 : List Nat := [0, 1, 3, 0, 8, 24, 56, 0, 128, 384, 896, 2040, 0, 4096, 12288, 28672, 65528, 0, 131072, 393216, 1048568, 0, 2097152, 6291456, 14680064, 0, 33554432, 100663296, 266338304, 536870911, 0, 2147483647]
theorem adv_Decode.tab8 : rtab .any (opsOf Try.f18 8) = adv_Decode.T8 := by kernel_rfl
theorem adv_Decode.bits8 : waitsOk adv_Decode.T8.2 adv_Decode.B8 = true := by kernel_rfl
def adv_Decode.T12 : Bool × List (List Nat × List Nat) := (true, [([], []), ([0], [0]), ([], []), ([], []), ([2, 3], [2, 3]), ([4], [4]), ([], []), ([], []), ([7], [7]), ([6, 8], [6, 8]), ([9], [9]), ([10], [10]), ([], []), ([], []), ([13], [13]), ([12, 14], [12, 14]), ([15], [15]), ([11, 16], [11, 16]), ([5, 17], [5, 17]), ([18], [18]), ([1, 19], [1, 19]), ([0, 1, 2, 3, 4, 5, 6, 7, 8, 9, 10, 11, 12, 13, 14, 15, 16, 17, 18, 19, 20], []), ([21, 20, 20, 0, 1, 2, 3, 4, 5, 6, 7, 8, 9, 10, 11, 12, 13, 14, 15, 16, 17, 18, 19, 20], [20, 21])])
def adv_Decode.B12 : List Nat := [0, 1, 0, 0, 12, 28, 0, 0, 128, 448, 960, 1984, 0, 0, 8192, 28672, 61440, 131008, 262140, 524284, 1048575, 2097151, 4194303]
theorem adv_Decode.tab12 : rtab .any (opsOf Try.f18 12) = adv_Decode.T12 := by kernel_rfl
theorem adv_Decode.bits12 : waitsOk adv_Decode.T12.2 adv_Decode.B12 = true := by kernel_rfl
set_option maxHeartbeats 8000000 in
set_option maxRecDepth 100000 in
theorem adv_Decode.calls (k : Nat) (a0 : ByteArray) (r1 : Int) (r2 : Int) (r3 : Int) (r4 : List (S28)) (r5 : Int) (w : World) (h : adv_Decode.f k a0 = some (r1, r2, r3, r4, r5)) :
 Calls Try.prog 18 #[.string a0] w fun e w' => ∃ v3_ : Value, e = .returned (.tuple #[.agg #[.int .i64 r1, .int .i64 r2, .int .i64 r3, v3_], .int .i64 r5]) ∧ Kd.R k28 28 w' w.heap.size (fun _ => True) v3_ r4 ∧ Below w.heap.size w w' := by
 have hu24 := Try.underlying24
 have hu28 := Try.underlying28
 have HB := Aside0.mk (Below.refl w.heap.size w)
 have H : (if (a0.size : Int) < 10 then (some (0, 0, 0, ([] : List (S28)), 9)) else (if 7 < (a0.size : Int) then (if (a0.size : Int) < (wrap64 (10 + (wrap64 (3 * (wrap64 (bt a0 7)))))) then (some (0, 0, 0, ([] : List (S28)), 9)) else (if (a0.size : Int) > (wrap64 (10 + (wrap64 (3 * (wrap64 (bt a0 7)))))) then (some (0, 0, 0, ([] : List (S28)), 3)) else (if 0 < (a0.size : Int) then (if 1 < (a0.size : Int) then (if 2 < (a0.size : Int) then (if 3 < (a0.size : Int) then (if 4 < (a0.size : Int) then (if 5 < (a0.size : Int) then (if 6 < (a0.size : Int) then (adv_Decode.l0 k a0 8 (wrap64 (bt a0 0)) (Go.bits .or .i64 (Go.bits .or .i64 (Go.bits .or .i64 (wrap64 ((wrap64 (bt a0 1)) * 16777216)) (wrap64 ((wrap64 (bt a0 2)) * 65536))) (wrap64 ((wrap64 (bt a0 3)) * 256))) (wrap64 (bt a0 4))) (Go.bits .or .i64 (wrap64 ((wrap64 (bt a0 5)) * 256)) (wrap64 (bt a0 6))) ([] : List (S28))) else (none)) else (none)) else (none)) else (none)) else (none)) else (none)) else (none)))) else (none))) = some (r1, r2, r3, r4, r5) := h
 clear h
 by_cases c2 : (a0.size : Int) < 10
 · rw [if_pos c2] at H
   have c2b0 : decide ((a0.size : Int) < 10) = true := decide_eq_true c2
   have c2b1 : decide (a0.size < 10) = true := decide_eq_true (by omega)
   clear c2
   simp only [Option.some.injEq, Prod.mk.injEq] at H
   obtain ⟨rfl, rfl, rfl, rfl, rfl⟩ := H
   go_enter Try.func18, Try.ntmps18
   go_wp2_with (first | ((with_reducible refine gate_dst (N := 2) rfl ?_); (try (refine gate_guard (by rfl) ?_; dsimp only)); refine box_event ?hg (N := 2) ?hd (cs := #[.int .i64 0, .int .i64 0, .int .i64 0, .slice none 0 0]) (t := 24) ?hr ?_; (case hd => rfl); (case hg => rfl); (case hr => first | (go_simp; done) | (go_simp; rfl)); intro gb144 hg w3 hbox hb; have n0_ := Aside0.mk (below_step (by repeat (first | (with_reducible first | exact HB.out | apply below_alloc | apply pw_below_drewN | apply below_drew1) | exact HB.out)) hb); have n1_ := Aside0.mk (hbox); have n2_ := Aside0.mk ((by rw [hg]; exact (below_size (by repeat (first | (with_reducible first | exact HB.out | apply below_alloc | apply pw_below_drewN | apply below_drew1) | exact HB.out))) : w.heap.size ≤ gb144)); have n3_ := Aside0.mk ((by rw [hg]; exact (below_size (by repeat (first | (with_reducible first | exact HB.out | apply below_alloc | apply pw_below_drewN | apply below_drew1) | exact HB.out))) : w.heap.size ≤ gb144)); clear HB; have HB := n0_; have BK144 := n1_; have GW144 := n2_; have GE144 := n3_; clear n0_ n1_ n2_ n3_; clear hb hbox hg; have hcz4_0 : w3.cell? ⟨gb144, 0, none⟩ = some (.int .i64 0) := (blk_cell BK144.out 0).trans rfl; have hcz4_1 : w3.cell? ⟨gb144, 1, none⟩ = some (.int .i64 0) := (blk_cell BK144.out 1).trans rfl; have hcz4_2 : w3.cell? ⟨gb144, 2, none⟩ = some (.int .i64 0) := (blk_cell BK144.out 2).trans rfl; have hcz4_3 : w3.cell? ⟨gb144, 3, none⟩ = some (.slice none 0 0) := (blk_cell BK144.out 3).trans rfl; have hfz4_0 := blk_frozen BK144.out 0; have hfz4_1 := blk_frozen BK144.out 1; have hfz4_2 := blk_frozen BK144.out 2; have hfz4_3 := blk_frozen BK144.out 3))
   refine bodyPost_ret (results_ct rfl _ _ gb144 24 #[.int .i64 0, .int .i64 0, .int .i64 0, .slice none 0 0] (0, 0) _ rfl (by (with_reducible repeat (first | refine blk_drewN ?_ _ | refine blk_drew ?_ | refine blk_alloc ?_ _)); refine blk_put (cs := #[.int .i64 0, .int .i64 0, .int .i64 0, .slice none 0 0]) ?_ 3 _ rfl; (with_reducible repeat (first | refine blk_drewN ?_ _ | refine blk_drew ?_ | refine blk_alloc ?_ _)); refine blk_put (cs := #[.int .i64 0, .int .i64 0, .int .i64 0, .slice none 0 0]) ?_ 2 _ rfl; (with_reducible repeat (first | refine blk_drewN ?_ _ | refine blk_drew ?_ | refine blk_alloc ?_ _)); refine blk_put (cs := #[.int .i64 0, .int .i64 0, .int .i64 0, .slice none 0 0]) ?_ 1 _ rfl; (with_reducible repeat (first | refine blk_drewN ?_ _ | refine blk_drew ?_ | refine blk_alloc ?_ _)); refine blk_put (cs := #[.int .i64 0, .int .i64 0, .int .i64 0, .slice none 0 0]) ?_ 0 _ rfl; (with_reducible repeat (first | refine blk_drewN ?_ _ | refine blk_drew ?_ | refine blk_alloc ?_ _)); exact BK144.out) Try.underlying24 rfl (by kernel_rfl)) rfl ?_
   exact ⟨_, by first | rfl | (simp [errW_none, errW_some] <;> rfl) | (simp [*, errW_none, errW_some] <;> rfl), by first | exact Kd.R_nil _ _ _ _ _ | exact Kd.N_nil _ _ _ _ _ | exact Kd.V_nil _ _ _ _ _ | exact Kd.Q_nil _ _ _ _ _ | exact Kd.S_nil _ _ _ _ _, by repeat (first | (with_reducible first | exact HB.out | apply below_alloc | apply pw_below_drewN | apply below_drew1 | refine below_set ?_ GE144.out) | exact HB.out)⟩
 · rw [if_neg c2] at H
   have c2b0 : decide ((a0.size : Int) < 10) = false := decide_eq_false c2
   have c2b1 : decide (a0.size < 10) = false := decide_eq_false (by omega)
   clear c2
   by_cases c5 : 7 < (a0.size : Int)
   · rw [if_pos c5] at H
     have c5b0 : decide (7 < (a0.size : Int)) = true := decide_eq_true c5
     have c5b1 : decide (7 < a0.size) = true := decide_eq_true (by omega)
     clear c5
     by_cases c7 : (a0.size : Int) < (wrap64 (10 + (wrap64 (3 * (wrap64 (bt a0 7))))))
     · rw [if_pos c7] at H
       have c7b0 : decide ((a0.size : Int) < (wrap64 (10 + (wrap64 (3 * (wrap64 (bt a0 7))))))) = true := decide_eq_true c7
       clear c7
       simp only [Option.some.injEq, Prod.mk.injEq] at H
       obtain ⟨rfl, rfl, rfl, rfl, rfl⟩ := H
       go_enter Try.func18, Try.ntmps18
       go_wp2_with (first | ((with_reducible refine gate_dst (N := 2) rfl ?_); (try (refine gate_guard (by rfl) ?_; dsimp only)); refine box_event ?hg (N := 2) ?hd (cs := #[.int .i64 0, .int .i64 0, .int .i64 0, .slice none 0 0]) (t := 24) ?hr ?_; (case hd => rfl); (case hg => rfl); (case hr => first | (go_simp; done) | (go_simp; rfl)); intro gb144 hg w8 hbox hb; have n0_ := Aside0.mk (below_step (by repeat (first | (with_reducible first | exact HB.out | apply below_alloc | apply pw_below_drewN | apply below_drew1) | exact HB.out)) hb); have n1_ := Aside0.mk (hbox); have n2_ := Aside0.mk ((by rw [hg]; exact (below_size (by repeat (first | (with_reducible first | exact HB.out | apply below_alloc | apply pw_below_drewN | apply below_drew1) | exact HB.out))) : w.heap.size ≤ gb144)); have n3_ := Aside0.mk ((by rw [hg]; exact (below_size (by repeat (first | (with_reducible first | exact HB.out | apply below_alloc | apply pw_below_drewN | apply below_drew1) | exact HB.out))) : w.heap.size ≤ gb144)); clear HB; have HB := n0_; have BK144 := n1_; have GW144 := n2_; have GE144 := n3_; clear n0_ n1_ n2_ n3_; clear hb hbox hg; have p6 : 0 ≤ (7 : Int) := (by omega); have q6 : 7 < a0.size := (by have : (7 : Int) < (a0.size : Int) := of_decide_eq_true (by first | (with_reducible assumption) | assumption); omega); have hx6 : ∀ h : 7 < a0.size, ((a0[7]'h).toNat : Int) = bt a0 7 := bt_at a0 7; clear p6; have qi6 : (7 < (a0.size : Int)) = True := eq_true (of_decide_eq_true (by first | (with_reducible assumption) | assumption)); replace q6 := eq_true q6; have hcz9_0 : w8.cell? ⟨gb144, 0, none⟩ = some (.int .i64 0) := (blk_cell BK144.out 0).trans rfl; have hcz9_1 : w8.cell? ⟨gb144, 1, none⟩ = some (.int .i64 0) := (blk_cell BK144.out 1).trans rfl; have hcz9_2 : w8.cell? ⟨gb144, 2, none⟩ = some (.int .i64 0) := (blk_cell BK144.out 2).trans rfl; have hcz9_3 : w8.cell? ⟨gb144, 3, none⟩ = some (.slice none 0 0) := (blk_cell BK144.out 3).trans rfl; have hfz9_0 := blk_frozen BK144.out 0; have hfz9_1 := blk_frozen BK144.out 1; have hfz9_2 := blk_frozen BK144.out 2; have hfz9_3 := blk_frozen BK144.out 3))
       refine bodyPost_ret (results_ct rfl _ _ gb144 24 #[.int .i64 0, .int .i64 0, .int .i64 0, .slice none 0 0] (0, 0) _ rfl (by (with_reducible repeat (first | refine blk_drewN ?_ _ | refine blk_drew ?_ | refine blk_alloc ?_ _)); refine blk_put (cs := #[.int .i64 0, .int .i64 0, .int .i64 0, .slice none 0 0]) ?_ 3 _ rfl; (with_reducible repeat (first | refine blk_drewN ?_ _ | refine blk_drew ?_ | refine blk_alloc ?_ _)); refine blk_put (cs := #[.int .i64 0, .int .i64 0, .int .i64 0, .slice none 0 0]) ?_ 2 _ rfl; (with_reducible repeat (first | refine blk_drewN ?_ _ | refine blk_drew ?_ | refine blk_alloc ?_ _)); refine blk_put (cs := #[.int .i64 0, .int .i64 0, .int .i64 0, .slice none 0 0]) ?_ 1 _ rfl; (with_reducible repeat (first | refine blk_drewN ?_ _ | refine blk_drew ?_ | refine blk_alloc ?_ _)); refine blk_put (cs := #[.int .i64 0, .int .i64 0, .int .i64 0, .slice none 0 0]) ?_ 0 _ rfl; (with_reducible repeat (first | refine blk_drewN ?_ _ | refine blk_drew ?_ | refine blk_alloc ?_ _)); exact BK144.out) Try.underlying24 rfl (by kernel_rfl)) rfl ?_
       exact ⟨_, by first | rfl | (simp [errW_none, errW_some] <;> rfl) | (simp [*, errW_none, errW_some] <;> rfl), by first | exact Kd.R_nil _ _ _ _ _ | exact Kd.N_nil _ _ _ _ _ | exact Kd.V_nil _ _ _ _ _ | exact Kd.Q_nil _ _ _ _ _ | exact Kd.S_nil _ _ _ _ _, by repeat (first | (with_reducible first | exact HB.out | apply below_alloc | apply pw_below_drewN | apply below_drew1 | refine below_set ?_ GE144.out) | exact HB.out)⟩
     · rw [if_neg c7] at H
       have c7b0 : decide ((a0.size : Int) < (wrap64 (10 + (wrap64 (3 * (wrap64 (bt a0 7))))))) = false := decide_eq_false c7
       clear c7
       by_cases c10 : (a0.size : Int) > (wrap64 (10 + (wrap64 (3 * (wrap64 (bt a0 7))))))
       · rw [if_pos c10] at H
         have c10b0 : decide ((wrap64 (10 + (wrap64 (3 * (wrap64 (bt a0 7)))))) < (a0.size : Int)) = true := decide_eq_true c10
         clear c10
         simp only [Option.some.injEq, Prod.mk.injEq] at H
         obtain ⟨rfl, rfl, rfl, rfl, rfl⟩ := H
         go_enter Try.func18, Try.ntmps18
         go_wp2_with (first | ((with_reducible refine gate_dst (N := 2) rfl ?_); (try (refine gate_guard (by rfl) ?_; dsimp only)); refine box_event ?hg (N := 2) ?hd (cs := #[.int .i64 0, .int .i64 0, .int .i64 0, .slice none 0 0]) (t := 24) ?hr ?_; (case hd => rfl); (case hg => rfl); (case hr => first | (go_simp; done) | (go_simp; rfl)); intro gb144 hg w11 hbox hb; have n0_ := Aside0.mk (below_step (by repeat (first | (with_reducible first | exact HB.out | apply below_alloc | apply pw_below_drewN | apply below_drew1) | exact HB.out)) hb); have n1_ := Aside0.mk (hbox); have n2_ := Aside0.mk ((by rw [hg]; exact (below_size (by repeat (first | (with_reducible first | exact HB.out | apply below_alloc | apply pw_below_drewN | apply below_drew1) | exact HB.out))) : w.heap.size ≤ gb144)); have n3_ := Aside0.mk ((by rw [hg]; exact (below_size (by repeat (first | (with_reducible first | exact HB.out | apply below_alloc | apply pw_below_drewN | apply below_drew1) | exact HB.out))) : w.heap.size ≤ gb144)); clear HB; have HB := n0_; have BK144 := n1_; have GW144 := n2_; have GE144 := n3_; clear n0_ n1_ n2_ n3_; clear hb hbox hg; have p6 : 0 ≤ (7 : Int) := (by omega); have q6 : 7 < a0.size := (by have : (7 : Int) < (a0.size : Int) := of_decide_eq_true (by first | (with_reducible assumption) | assumption); omega); have hx6 : ∀ h : 7 < a0.size, ((a0[7]'h).toNat : Int) = bt a0 7 := bt_at a0 7; clear p6; have qi6 : (7 < (a0.size : Int)) = True := eq_true (of_decide_eq_true (by first | (with_reducible assumption) | assumption)); replace q6 := eq_true q6; have hcz12_0 : w11.cell? ⟨gb144, 0, none⟩ = some (.int .i64 0) := (blk_cell BK144.out 0).trans rfl; have hcz12_1 : w11.cell? ⟨gb144, 1, none⟩ = some (.int .i64 0) := (blk_cell BK144.out 1).trans rfl; have hcz12_2 : w11.cell? ⟨gb144, 2, none⟩ = some (.int .i64 0) := (blk_cell BK144.out 2).trans rfl; have hcz12_3 : w11.cell? ⟨gb144, 3, none⟩ = some (.slice none 0 0) := (blk_cell BK144.out 3).trans rfl; have hfz12_0 := blk_frozen BK144.out 0; have hfz12_1 := blk_frozen BK144.out 1; have hfz12_2 := blk_frozen BK144.out 2; have hfz12_3 := blk_frozen BK144.out 3))
         refine bodyPost_ret (results_ct rfl _ _ gb144 24 #[.int .i64 0, .int .i64 0, .int .i64 0, .slice none 0 0] (0, 0) _ rfl (by (with_reducible repeat (first | refine blk_drewN ?_ _ | refine blk_drew ?_ | refine blk_alloc ?_ _)); refine blk_put (cs := #[.int .i64 0, .int .i64 0, .int .i64 0, .slice none 0 0]) ?_ 3 _ rfl; (with_reducible repeat (first | refine blk_drewN ?_ _ | refine blk_drew ?_ | refine blk_alloc ?_ _)); refine blk_put (cs := #[.int .i64 0, .int .i64 0, .int .i64 0, .slice none 0 0]) ?_ 2 _ rfl; (with_reducible repeat (first | refine blk_drewN ?_ _ | refine blk_drew ?_ | refine blk_alloc ?_ _)); refine blk_put (cs := #[.int .i64 0, .int .i64 0, .int .i64 0, .slice none 0 0]) ?_ 1 _ rfl; (with_reducible repeat (first | refine blk_drewN ?_ _ | refine blk_drew ?_ | refine blk_alloc ?_ _)); refine blk_put (cs := #[.int .i64 0, .int .i64 0, .int .i64 0, .slice none 0 0]) ?_ 0 _ rfl; (with_reducible repeat (first | refine blk_drewN ?_ _ | refine blk_drew ?_ | refine blk_alloc ?_ _)); exact BK144.out) Try.underlying24 rfl (by kernel_rfl)) rfl ?_
         exact ⟨_, by first | rfl | (simp [errW_none, errW_some] <;> rfl) | (simp [*, errW_none, errW_some] <;> rfl), by first | exact Kd.R_nil _ _ _ _ _ | exact Kd.N_nil _ _ _ _ _ | exact Kd.V_nil _ _ _ _ _ | exact Kd.Q_nil _ _ _ _ _ | exact Kd.S_nil _ _ _ _ _, by repeat (first | (with_reducible first | exact HB.out | apply below_alloc | apply pw_below_drewN | apply below_drew1 | refine below_set ?_ GE144.out) | exact HB.out)⟩
       · rw [if_neg c10] at H
         have c10b0 : decide ((wrap64 (10 + (wrap64 (3 * (wrap64 (bt a0 7)))))) < (a0.size : Int)) = false := decide_eq_false c10
         clear c10
         by_cases c13 : 0 < (a0.size : Int)
         · rw [if_pos c13] at H
           have c13b0 : decide (0 < (a0.size : Int)) = true := decide_eq_true c13
           have c13b1 : decide (0 < a0.size) = true := decide_eq_true (by omega)
           clear c13
           by_cases c15 : 1 < (a0.size : Int)
           · rw [if_pos c15] at H
             have c15b0 : decide (1 < (a0.size : Int)) = true := decide_eq_true c15
             have c15b1 : decide (1 < a0.size) = true := decide_eq_true (by omega)
             clear c15
             by_cases c17 : 2 < (a0.size : Int)
             · rw [if_pos c17] at H
               have c17b0 : decide (2 < (a0.size : Int)) = true := decide_eq_true c17
               have c17b1 : decide (2 < a0.size) = true := decide_eq_true (by omega)
               clear c17
               by_cases c19 : 3 < (a0.size : Int)
               · rw [if_pos c19] at H
                 have c19b0 : decide (3 < (a0.size : Int)) = true := decide_eq_true c19
                 have c19b1 : decide (3 < a0.size) = true := decide_eq_true (by omega)
                 clear c19
                 by_cases c21 : 4 < (a0.size : Int)
                 · rw [if_pos c21] at H
                   have c21b0 : decide (4 < (a0.size : Int)) = true := decide_eq_true c21
                   have c21b1 : decide (4 < a0.size) = true := decide_eq_true (by omega)
                   clear c21
                   by_cases c23 : 5 < (a0.size : Int)
                   · rw [if_pos c23] at H
                     have c23b0 : decide (5 < (a0.size : Int)) = true := decide_eq_true c23
                     have c23b1 : decide (5 < a0.size) = true := decide_eq_true (by omega)
                     clear c23
                     by_cases c25 : 6 < (a0.size : Int)
                     · rw [if_pos c25] at H
                       have c25b0 : decide (6 < (a0.size : Int)) = true := decide_eq_true c25
                       have c25b1 : decide (6 < a0.size) = true := decide_eq_true (by omega)
                       clear c25
                       have H' := Aside0.mk H
                       clear H
                       go_enter Try.func18, Try.ntmps18
                       try go_wp2_with (first | ((with_reducible refine gate_dst (N := 2) rfl ?_); (try (refine gate_guard (by rfl) ?_; dsimp only)); refine box_event ?hg (N := 2) ?hd (cs := #[.int .i64 0, .int .i64 0, .int .i64 0, .slice none 0 0]) (t := 24) ?hr ?_; (case hd => rfl); (case hg => rfl); (case hr => first | (go_simp; done) | (go_simp; rfl)); intro gb144 hg w27 hbox hb; have n0_ := Aside0.mk (below_step (by repeat (first | (with_reducible first | exact HB.out | apply below_alloc | apply pw_below_drewN | apply below_drew1) | exact HB.out)) hb); have n1_ := Aside0.mk (hbox); have n2_ := Aside0.mk ((by rw [hg]; exact (below_size (by repeat (first | (with_reducible first | exact HB.out | apply below_alloc | apply pw_below_drewN | apply below_drew1) | exact HB.out))) : w.heap.size ≤ gb144)); have n3_ := Aside0.mk ((by rw [hg]; exact (below_size (by repeat (first | (with_reducible first | exact HB.out | apply below_alloc | apply pw_below_drewN | apply below_drew1) | exact HB.out))) : w.heap.size ≤ gb144)); clear HB; have HB := n0_; have BK144 := n1_; have GW144 := n2_; have GE144 := n3_; clear n0_ n1_ n2_ n3_; clear hb hbox hg; have p6 : 0 ≤ (7 : Int) := (by omega); have q6 : 7 < a0.size := (by have : (7 : Int) < (a0.size : Int) := of_decide_eq_true (by first | (with_reducible assumption) | assumption); omega); have hx6 : ∀ h : 7 < a0.size, ((a0[7]'h).toNat : Int) = bt a0 7 := bt_at a0 7; clear p6; have qi6 : (7 < (a0.size : Int)) = True := eq_true (of_decide_eq_true (by first | (with_reducible assumption) | assumption)); replace q6 := eq_true q6))
                       have n0_ := Aside0.mk (blk_drew BK144.out)
                       have n1_ := Aside0.mk (below_drew1 HB.out)
                       clear BK144
                       clear HB
                       have BK144 := n0_
                       have HB := n1_
                       clear n0_ n1_
                       have p14 : 0 ≤ (0 : Int) := (by omega)
                       have q14 : 0 < a0.size := (by have : (0 : Int) < (a0.size : Int) := of_decide_eq_true (by first | (with_reducible assumption) | assumption); omega)
                       have hx14 : ∀ h : 0 < a0.size, ((a0[0]'h).toNat : Int) = bt a0 0 := bt_at a0 0
                       clear p14
                       have qi14 : (0 < (a0.size : Int)) = True := eq_true (of_decide_eq_true (by first | (with_reducible assumption) | assumption))
                       replace q14 := eq_true q14
                       have p16 : 0 ≤ (1 : Int) := (by omega)
                       have q16 : 1 < a0.size := (by have : (1 : Int) < (a0.size : Int) := of_decide_eq_true (by first | (with_reducible assumption) | assumption); omega)
                       have hx16 : ∀ h : 1 < a0.size, ((a0[1]'h).toNat : Int) = bt a0 1 := bt_at a0 1
                       clear p16
                       have qi16 : (1 < (a0.size : Int)) = True := eq_true (of_decide_eq_true (by first | (with_reducible assumption) | assumption))
                       replace q16 := eq_true q16
                       have p18 : 0 ≤ (2 : Int) := (by omega)
                       have q18 : 2 < a0.size := (by have : (2 : Int) < (a0.size : Int) := of_decide_eq_true (by first | (with_reducible assumption) | assumption); omega)
                       have hx18 : ∀ h : 2 < a0.size, ((a0[2]'h).toNat : Int) = bt a0 2 := bt_at a0 2
                       clear p18
                       have qi18 : (2 < (a0.size : Int)) = True := eq_true (of_decide_eq_true (by first | (with_reducible assumption) | assumption))
                       replace q18 := eq_true q18
                       have p20 : 0 ≤ (3 : Int) := (by omega)
                       have q20 : 3 < a0.size := (by have : (3 : Int) < (a0.size : Int) := of_decide_eq_true (by first | (with_reducible assumption) | assumption); omega)
                       have hx20 : ∀ h : 3 < a0.size, ((a0[3]'h).toNat : Int) = bt a0 3 := bt_at a0 3
                       clear p20
                       have qi20 : (3 < (a0.size : Int)) = True := eq_true (of_decide_eq_true (by first | (with_reducible assumption) | assumption))
                       replace q20 := eq_true q20
                       have p22 : 0 ≤ (4 : Int) := (by omega)
                       have q22 : 4 < a0.size := (by have : (4 : Int) < (a0.size : Int) := of_decide_eq_true (by first | (with_reducible assumption) | assumption); omega)
                       have hx22 : ∀ h : 4 < a0.size, ((a0[4]'h).toNat : Int) = bt a0 4 := bt_at a0 4
                       clear p22
                       have qi22 : (4 < (a0.size : Int)) = True := eq_true (of_decide_eq_true (by first | (with_reducible assumption) | assumption))
                       replace q22 := eq_true q22
                       have p24 : 0 ≤ (5 : Int) := (by omega)
                       have q24 : 5 < a0.size := (by have : (5 : Int) < (a0.size : Int) := of_decide_eq_true (by first | (with_reducible assumption) | assumption); omega)
                       have hx24 : ∀ h : 5 < a0.size, ((a0[5]'h).toNat : Int) = bt a0 5 := bt_at a0 5
                       clear p24
                       have qi24 : (5 < (a0.size : Int)) = True := eq_true (of_decide_eq_true (by first | (with_reducible assumption) | assumption))
                       replace q24 := eq_true q24
                       have p26 : 0 ≤ (6 : Int) := (by omega)
                       have q26 : 6 < a0.size := (by have : (6 : Int) < (a0.size : Int) := of_decide_eq_true (by first | (with_reducible assumption) | assumption); omega)
                       have hx26 : ∀ h : 6 < a0.size, ((a0[6]'h).toNat : Int) = bt a0 6 := bt_at a0 6
                       clear p26
                       have qi26 : (6 < (a0.size : Int)) = True := eq_true (of_decide_eq_true (by first | (with_reducible assumption) | assumption))
                       replace q26 := eq_true q26
                       refine start_ (n := 32) (S := fun w' => True) (ds := []) #[false, false, false, false, false, false, false, false, false, false, false, false, false, false, false, false, false, false, false, false, false, false, false, false, false, false, false, false, false, false, false, false] (by kernel_rfl) rfl rfl trivial (fun hHeld => ?_); refine with_tabW adv_Decode.tab8 adv_Decode.bits8 (fun HT_ HW_ => ?_)
                       generalize w27.drew = w28 at BK144 HB hHeld ⊢
                       refine pure_ (i := 0) (N := some 33) (v := ?_) (a' := ?_) #[true, false, false, false, false, false, false, false, false, false, false, false, false, false, false, false, false, false, false, false, false, false, false, false, false, false, false, false, false, false, false, false] rfl rfl (any_of HT_.out (by kernel_rfl)) (fun _ _ _ h => h) (Or.inl ⟨by rfl, ?_⟩) ?_ ?_
                       rotate_left
                       · intro w'
                         go_simp
                         with_reducible rfl
                       rotate_left
                       · simp only [Act.put, List.setIfInBounds_toArray, List.set_cons_zero, List.set_cons_succ, i64_w, i32_w]
                         rfl
                       refine pure_ (i := 3) (N := some 36) (v := ?_) (a' := ?_) #[true, false, false, true, false, false, false, false, false, false, false, false, false, false, false, false, false, false, false, false, false, false, false, false, false, false, false, false, false, false, false, false] rfl rfl (any_of HT_.out (by kernel_rfl)) (fun _ _ _ h => h) (Or.inl ⟨by rfl, ?_⟩) ?_ ?_
                       rotate_left
                       · intro w'
                         go_simp
                         with_reducible rfl
                       rotate_left
                       · simp only [Act.put, List.setIfInBounds_toArray, List.set_cons_zero, List.set_cons_succ, i64_w, i32_w]
                         rfl
                       refine pure_ (i := 7) (N := some 40) (v := ?_) (a' := ?_) #[true, false, false, true, false, false, false, true, false, false, false, false, false, false, false, false, false, false, false, false, false, false, false, false, false, false, false, false, false, false, false, false] rfl rfl (any_of HT_.out (by kernel_rfl)) (fun _ _ _ h => h) (Or.inl ⟨by rfl, ?_⟩) ?_ ?_
                       rotate_left
                       · intro w'
                         go_simp
                         with_reducible rfl
                       rotate_left
                       · simp only [Act.put, List.setIfInBounds_toArray, List.set_cons_zero, List.set_cons_succ, i64_w, i32_w]
                         rfl
                       refine pure_ (i := 12) (N := some 45) (v := ?_) (a' := ?_) #[true, false, false, true, false, false, false, true, false, false, false, false, true, false, false, false, false, false, false, false, false, false, false, false, false, false, false, false, false, false, false, false] rfl rfl (any_of HT_.out (by kernel_rfl)) (fun _ _ _ h => h) (Or.inl ⟨by rfl, ?_⟩) ?_ ?_
                       rotate_left
                       · intro w'
                         go_simp
                         with_reducible rfl
                       rotate_left
                       · simp only [Act.put, List.setIfInBounds_toArray, List.set_cons_zero, List.set_cons_succ, i64_w, i32_w]
                         rfl
                       refine pure_ (i := 17) (N := some 50) (v := ?_) (a' := ?_) #[true, false, false, true, false, false, false, true, false, false, false, false, true, false, false, false, false, true, false, false, false, false, false, false, false, false, false, false, false, false, false, false] rfl rfl (any_of HT_.out (by kernel_rfl)) (fun _ _ _ h => h) (Or.inl ⟨by rfl, ?_⟩) ?_ ?_
                       rotate_left
                       · intro w'
                         go_simp
                         with_reducible rfl
                       rotate_left
                       · simp only [Act.put, List.setIfInBounds_toArray, List.set_cons_zero, List.set_cons_succ, i64_w, i32_w]
                         rfl
                       refine pure_ (i := 21) (N := some 54) (v := ?_) (a' := ?_) #[true, false, false, true, false, false, false, true, false, false, false, false, true, false, false, false, false, true, false, false, false, true, false, false, false, false, false, false, false, false, false, false] rfl rfl (any_of HT_.out (by kernel_rfl)) (fun _ _ _ h => h) (Or.inl ⟨by rfl, ?_⟩) ?_ ?_
                       rotate_left
                       · intro w'
                         go_simp
                         with_reducible rfl
                       rotate_left
                       · simp only [Act.put, List.setIfInBounds_toArray, List.set_cons_zero, List.set_cons_succ, i64_w, i32_w]
                         rfl
                       refine pure_ (i := 25) (N := some 58) (v := ?_) (a' := ?_) #[true, false, false, true, false, false, false, true, false, false, false, false, true, false, false, false, false, true, false, false, false, true, false, false, false, true, false, false, false, false, false, false] rfl rfl (any_of HT_.out (by kernel_rfl)) (fun _ _ _ h => h) (Or.inl ⟨by rfl, ?_⟩) ?_ ?_
                       rotate_left
                       · intro w'
                         go_simp
                         with_reducible rfl
                       rotate_left
                       · simp only [Act.put, List.setIfInBounds_toArray, List.set_cons_zero, List.set_cons_succ, i64_w, i32_w]
                         rfl
                       refine take_ (i := 1) (N := some 34) (v := ?_) (a' := ?_) #[true, true, false, true, false, false, false, true, false, false, false, false, true, false, false, false, false, true, false, false, false, true, false, false, false, true, false, false, false, false, false, false] rfl rfl (take_ofW HT_.out HW_.out (by kernel_rfl)) (fun _ _ _ h => h) (Or.inl ⟨by rfl, ?_⟩) hHeld ?_ ?_
                       rotate_left
                       · intro w' _
                         go_simp
                         with_reducible rfl
                       rotate_left
                       · simp only [Act.put, List.setIfInBounds_toArray, List.set_cons_zero, List.set_cons_succ, i64_w, i32_w]
                         rfl
                       refine pure_ (i := 2) (N := some 35) (v := ?_) (a' := ?_) #[true, true, true, true, false, false, false, true, false, false, false, false, true, false, false, false, false, true, false, false, false, true, false, false, false, true, false, false, false, false, false, false] rfl rfl (any_of HT_.out (by kernel_rfl)) (fun _ _ _ h => h) (Or.inl ⟨by rfl, ?_⟩) ?_ ?_
                       rotate_left
                       · intro w'
                         go_simp
                         with_reducible rfl
                       rotate_left
                       · simp only [Act.put, List.setIfInBounds_toArray, List.set_cons_zero, List.set_cons_succ, i64_w, i32_w]
                         rfl
                       refine take_ (i := 4) (N := some 37) (v := ?_) (a' := ?_) #[true, true, true, true, true, false, false, true, false, false, false, false, true, false, false, false, false, true, false, false, false, true, false, false, false, true, false, false, false, false, false, false] rfl rfl (take_ofW HT_.out HW_.out (by kernel_rfl)) (fun _ _ _ h => h) (Or.inl ⟨by rfl, ?_⟩) hHeld ?_ ?_
                       rotate_left
                       · intro w' _
                         go_simp
                         with_reducible rfl
                       rotate_left
                       · simp only [Act.put, List.setIfInBounds_toArray, List.set_cons_zero, List.set_cons_succ, i64_w, i32_w]
                         rfl
                       refine pure_ (i := 5) (N := some 38) (v := ?_) (a' := ?_) #[true, true, true, true, true, true, false, true, false, false, false, false, true, false, false, false, false, true, false, false, false, true, false, false, false, true, false, false, false, false, false, false] rfl rfl (any_of HT_.out (by kernel_rfl)) (fun _ _ _ h => h) (Or.inl ⟨by rfl, ?_⟩) ?_ ?_
                       rotate_left
                       · intro w'
                         go_simp
                         with_reducible rfl
                       rotate_left
                       · simp only [Act.put, List.setIfInBounds_toArray, List.set_cons_zero, List.set_cons_succ, i64_w, i32_w]
                         rfl
                       refine pure_ (i := 6) (N := some 39) (v := ?_) (a' := ?_) #[true, true, true, true, true, true, true, true, false, false, false, false, true, false, false, false, false, true, false, false, false, true, false, false, false, true, false, false, false, false, false, false] rfl rfl (any_of HT_.out (by kernel_rfl)) (fun _ _ _ h => h) (Or.inl ⟨by rfl, ?_⟩) ?_ ?_
                       rotate_left
                       · intro w'
                         go_simp
                         with_reducible rfl
                       rotate_left
                       · simp only [Act.put, List.setIfInBounds_toArray, List.set_cons_zero, List.set_cons_succ, i64_w, i32_w]
                         rfl
                       refine take_ (i := 8) (N := some 41) (v := ?_) (a' := ?_) #[true, true, true, true, true, true, true, true, true, false, false, false, true, false, false, false, false, true, false, false, false, true, false, false, false, true, false, false, false, false, false, false] rfl rfl (take_ofW HT_.out HW_.out (by kernel_rfl)) (fun _ _ _ h => h) (Or.inl ⟨by rfl, ?_⟩) hHeld ?_ ?_
                       rotate_left
                       · intro w' _
                         go_simp
                         with_reducible rfl
                       rotate_left
                       · simp only [Act.put, List.setIfInBounds_toArray, List.set_cons_zero, List.set_cons_succ, i64_w, i32_w]
                         rfl
                       refine pure_ (i := 9) (N := some 42) (v := ?_) (a' := ?_) #[true, true, true, true, true, true, true, true, true, true, false, false, true, false, false, false, false, true, false, false, false, true, false, false, false, true, false, false, false, false, false, false] rfl rfl (any_of HT_.out (by kernel_rfl)) (fun _ _ _ h => h) (Or.inl ⟨by rfl, ?_⟩) ?_ ?_
                       rotate_left
                       · intro w'
                         go_simp
                         with_reducible rfl
                       rotate_left
                       · simp only [Act.put, List.setIfInBounds_toArray, List.set_cons_zero, List.set_cons_succ, i64_w, i32_w]
                         rfl
                       refine pure_ (i := 10) (N := some 43) (v := ?_) (a' := ?_) #[true, true, true, true, true, true, true, true, true, true, true, false, true, false, false, false, false, true, false, false, false, true, false, false, false, true, false, false, false, false, false, false] rfl rfl (any_of HT_.out (by kernel_rfl)) (fun _ _ _ h => h) (Or.inl ⟨by rfl, ?_⟩) ?_ ?_
                       rotate_left
                       · intro w'
                         go_simp
                         with_reducible rfl
                       rotate_left
                       · simp only [Act.put, List.setIfInBounds_toArray, List.set_cons_zero, List.set_cons_succ, i64_w, i32_w]
                         rfl
                       refine pure_ (i := 11) (N := some 44) (v := ?_) (a' := ?_) #[true, true, true, true, true, true, true, true, true, true, true, true, true, false, false, false, false, true, false, false, false, true, false, false, false, true, false, false, false, false, false, false] rfl rfl (any_of HT_.out (by kernel_rfl)) (fun _ _ _ h => h) (Or.inl ⟨by rfl, ?_⟩) ?_ ?_
                       rotate_left
                       · intro w'
                         go_simp
                         with_reducible rfl
                       rotate_left
                       · simp only [Act.put, List.setIfInBounds_toArray, List.set_cons_zero, List.set_cons_succ, i64_w, i32_w]
                         rfl
                       refine take_ (i := 13) (N := some 46) (v := ?_) (a' := ?_) #[true, true, true, true, true, true, true, true, true, true, true, true, true, true, false, false, false, true, false, false, false, true, false, false, false, true, false, false, false, false, false, false] rfl rfl (take_ofW HT_.out HW_.out (by kernel_rfl)) (fun _ _ _ h => h) (Or.inl ⟨by rfl, ?_⟩) hHeld ?_ ?_
                       rotate_left
                       · intro w' _
                         go_simp
                         with_reducible rfl
                       rotate_left
                       · simp only [Act.put, List.setIfInBounds_toArray, List.set_cons_zero, List.set_cons_succ, i64_w, i32_w]
                         rfl
                       refine pure_ (i := 14) (N := some 47) (v := ?_) (a' := ?_) #[true, true, true, true, true, true, true, true, true, true, true, true, true, true, true, false, false, true, false, false, false, true, false, false, false, true, false, false, false, false, false, false] rfl rfl (any_of HT_.out (by kernel_rfl)) (fun _ _ _ h => h) (Or.inl ⟨by rfl, ?_⟩) ?_ ?_
                       rotate_left
                       · intro w'
                         go_simp
                         with_reducible rfl
                       rotate_left
                       · simp only [Act.put, List.setIfInBounds_toArray, List.set_cons_zero, List.set_cons_succ, i64_w, i32_w]
                         rfl
                       refine pure_ (i := 15) (N := some 48) (v := ?_) (a' := ?_) #[true, true, true, true, true, true, true, true, true, true, true, true, true, true, true, true, false, true, false, false, false, true, false, false, false, true, false, false, false, false, false, false] rfl rfl (any_of HT_.out (by kernel_rfl)) (fun _ _ _ h => h) (Or.inl ⟨by rfl, ?_⟩) ?_ ?_
                       rotate_left
                       · intro w'
                         go_simp
                         with_reducible rfl
                       rotate_left
                       · simp only [Act.put, List.setIfInBounds_toArray, List.set_cons_zero, List.set_cons_succ, i64_w, i32_w]
                         rfl
                       refine pure_ (i := 16) (N := some 49) (v := ?_) (a' := ?_) #[true, true, true, true, true, true, true, true, true, true, true, true, true, true, true, true, true, true, false, false, false, true, false, false, false, true, false, false, false, false, false, false] rfl rfl (any_of HT_.out (by kernel_rfl)) (fun _ _ _ h => h) (Or.inl ⟨by rfl, ?_⟩) ?_ ?_
                       rotate_left
                       · intro w'
                         go_simp
                         with_reducible rfl
                       rotate_left
                       · simp only [Act.put, List.setIfInBounds_toArray, List.set_cons_zero, List.set_cons_succ, i64_w, i32_w]
                         rfl
                       refine take_ (i := 18) (N := some 51) (v := ?_) (a' := ?_) #[true, true, true, true, true, true, true, true, true, true, true, true, true, true, true, true, true, true, true, false, false, true, false, false, false, true, false, false, false, false, false, false] rfl rfl (take_ofW HT_.out HW_.out (by kernel_rfl)) (fun _ _ _ h => h) (Or.inl ⟨by rfl, ?_⟩) hHeld ?_ ?_
                       rotate_left
                       · intro w' _
                         go_simp
                         with_reducible rfl
                       rotate_left
                       · simp only [Act.put, List.setIfInBounds_toArray, List.set_cons_zero, List.set_cons_succ, i64_w, i32_w]
                         rfl
                       refine pure_ (i := 19) (N := some 52) (v := ?_) (a' := ?_) #[true, true, true, true, true, true, true, true, true, true, true, true, true, true, true, true, true, true, true, true, false, true, false, false, false, true, false, false, false, false, false, false] rfl rfl (any_of HT_.out (by kernel_rfl)) (fun _ _ _ h => h) (Or.inl ⟨by rfl, ?_⟩) ?_ ?_
                       rotate_left
                       · intro w'
                         go_simp
                         with_reducible rfl
                       rotate_left
                       · simp only [Act.put, List.setIfInBounds_toArray, List.set_cons_zero, List.set_cons_succ, i64_w, i32_w]
                         rfl
                       refine pure_ (i := 20) (N := some 53) (v := ?_) (a' := ?_) #[true, true, true, true, true, true, true, true, true, true, true, true, true, true, true, true, true, true, true, true, true, true, false, false, false, true, false, false, false, false, false, false] rfl rfl (any_of HT_.out (by kernel_rfl)) (fun _ _ _ h => h) (Or.inl ⟨by rfl, ?_⟩) ?_ ?_
                       rotate_left
                       · intro w'
                         go_simp
                         with_reducible rfl
                       rotate_left
                       · simp only [Act.put, List.setIfInBounds_toArray, List.set_cons_zero, List.set_cons_succ, i64_w, i32_w]
                         rfl
                       refine take_ (i := 22) (N := some 55) (v := ?_) (a' := ?_) #[true, true, true, true, true, true, true, true, true, true, true, true, true, true, true, true, true, true, true, true, true, true, true, false, false, true, false, false, false, false, false, false] rfl rfl (take_ofW HT_.out HW_.out (by kernel_rfl)) (fun _ _ _ h => h) (Or.inl ⟨by rfl, ?_⟩) hHeld ?_ ?_
                       rotate_left
                       · intro w' _
                         go_simp
                         with_reducible rfl
                       rotate_left
                       · simp only [Act.put, List.setIfInBounds_toArray, List.set_cons_zero, List.set_cons_succ, i64_w, i32_w]
                         rfl
                       refine pure_ (i := 23) (N := some 56) (v := ?_) (a' := ?_) #[true, true, true, true, true, true, true, true, true, true, true, true, true, true, true, true, true, true, true, true, true, true, true, true, false, true, false, false, false, false, false, false] rfl rfl (any_of HT_.out (by kernel_rfl)) (fun _ _ _ h => h) (Or.inl ⟨by rfl, ?_⟩) ?_ ?_
                       rotate_left
                       · intro w'
                         go_simp
                         with_reducible rfl
                       rotate_left
                       · simp only [Act.put, List.setIfInBounds_toArray, List.set_cons_zero, List.set_cons_succ, i64_w, i32_w]
                         rfl
                       refine pure_ (i := 24) (N := some 57) (v := ?_) (a' := ?_) #[true, true, true, true, true, true, true, true, true, true, true, true, true, true, true, true, true, true, true, true, true, true, true, true, true, true, false, false, false, false, false, false] rfl rfl (any_of HT_.out (by kernel_rfl)) (fun _ _ _ h => h) (Or.inl ⟨by rfl, ?_⟩) ?_ ?_
                       rotate_left
                       · intro w'
                         go_simp
                         with_reducible rfl
                       rotate_left
                       · simp only [Act.put, List.setIfInBounds_toArray, List.set_cons_zero, List.set_cons_succ, i64_w, i32_w]
                         rfl
                       refine take_ (i := 26) (N := some 59) (v := ?_) (a' := ?_) #[true, true, true, true, true, true, true, true, true, true, true, true, true, true, true, true, true, true, true, true, true, true, true, true, true, true, true, false, false, false, false, false] rfl rfl (take_ofW HT_.out HW_.out (by kernel_rfl)) (fun _ _ _ h => h) (Or.inl ⟨by rfl, ?_⟩) hHeld ?_ ?_
                       rotate_left
                       · intro w' _
                         go_simp
                         with_reducible rfl
                       rotate_left
                       · simp only [Act.put, List.setIfInBounds_toArray, List.set_cons_zero, List.set_cons_succ, i64_w, i32_w]
                         rfl
                       refine pure_ (i := 27) (N := some 60) (v := ?_) (a' := ?_) #[true, true, true, true, true, true, true, true, true, true, true, true, true, true, true, true, true, true, true, true, true, true, true, true, true, true, true, true, false, false, false, false] rfl rfl (any_of HT_.out (by kernel_rfl)) (fun _ _ _ h => h) (Or.inl ⟨by rfl, ?_⟩) ?_ ?_
                       rotate_left
                       · intro w'
                         go_simp
                         with_reducible rfl
                       rotate_left
                       · simp only [Act.put, List.setIfInBounds_toArray, List.set_cons_zero, List.set_cons_succ, i64_w, i32_w]
                         rfl
                       refine pure_ (i := 28) (N := some 61) (v := ?_) (a' := ?_) #[true, true, true, true, true, true, true, true, true, true, true, true, true, true, true, true, true, true, true, true, true, true, true, true, true, true, true, true, true, false, false, false] rfl rfl (any_of HT_.out (by kernel_rfl)) (fun _ _ _ h => h) (Or.inl ⟨by rfl, ?_⟩) ?_ ?_
                       rotate_left
                       · intro w'
                         go_simp
                         with_reducible rfl
                       rotate_left
                       · simp only [Act.put, List.setIfInBounds_toArray, List.set_cons_zero, List.set_cons_succ, i64_w, i32_w]
                         rfl
                       refine pure_ (i := 29) (N := some 62) (v := ?_) (a' := ?_) #[true, true, true, true, true, true, true, true, true, true, true, true, true, true, true, true, true, true, true, true, true, true, true, true, true, true, true, true, true, true, false, false] rfl rfl (any_of HT_.out (by kernel_rfl)) (fun _ _ _ h => h) (Or.inl ⟨by rfl, ?_⟩) ?_ ?_
                       rotate_left
                       · intro w'
                         go_simp
                         with_reducible rfl
                       rotate_left
                       · simp only [Act.put, List.setIfInBounds_toArray, List.set_cons_zero, List.set_cons_succ, i64_w, i32_w]
                         rfl
                       refine one_ (i := 30) (N := some 5) #[true, true, true, true, true, true, true, true, true, true, true, true, true, true, true, true, true, true, true, true, true, true, true, true, true, true, true, true, true, true, true, false] rfl rfl (one_of HT_.out (by kernel_rfl)) (by decide) (fun K hK => ?_)
                       refine box_step ?hg (N := 5) ?hd (cs := #[.int .i64 0, .int .i64 0, .int .i64 0, .slice none 0 0]) (t := 24) ?hr ?_; (case hd => rfl); (case hg => rfl); (case hr => first | (go_simp; done) | (go_simp; rfl))
                       intro gb145 hg w29 hbox hb
                       have n0_ := Aside0.mk (blk_below (g := gb144) (o := .cells #[.int .i64 0, .int .i64 0, .int .i64 0, .slice none 0 0] 24 (0, 0)) (by (with_reducible repeat (first | refine blk_drewN ?_ _ | refine blk_drew ?_ | refine blk_alloc ?_ _)); exact BK144.out) hb)
                       have n1_ := Aside0.mk (below_step (by repeat (first | (with_reducible first | exact HB.out | apply below_alloc | apply pw_below_drewN | apply below_drew1 | refine below_set ?_ GE144.out) | exact HB.out)) hb)
                       have n2_ := Aside0.mk (hbox)
                       have n3_ := Aside0.mk ((by rw [hg]; exact (below_size (by repeat (first | (with_reducible first | exact HB.out | apply below_alloc | apply pw_below_drewN | apply below_drew1 | refine below_set ?_ GE144.out) | exact HB.out))) : w.heap.size ≤ gb145))
                       have n4_ := Aside0.mk ((by rw [hg]; exact (below_size (by repeat (first | (with_reducible first | exact HB.out | apply below_alloc | apply pw_below_drewN | apply below_drew1 | refine below_set ?_ GE144.out) | exact HB.out))) : w.heap.size ≤ gb145))
                       have n5_ := Aside0.mk ((by rw [hg]; exact Nat.ne_of_lt (blk_lt (g := gb144) (o := .cells #[.int .i64 0, .int .i64 0, .int .i64 0, .slice none 0 0] 24 (0, 0)) (by (with_reducible repeat (first | refine blk_drewN ?_ _ | refine blk_drew ?_ | refine blk_alloc ?_ _)); exact BK144.out)) : gb144 ≠ gb145))
                       have n6_ := Aside0.mk ((by rw [hg]; exact Nat.ne_of_gt (blk_lt (g := gb144) (o := .cells #[.int .i64 0, .int .i64 0, .int .i64 0, .slice none 0 0] 24 (0, 0)) (by (with_reducible repeat (first | refine blk_drewN ?_ _ | refine blk_drew ?_ | refine blk_alloc ?_ _)); exact BK144.out)) : gb145 ≠ gb144))
                       clear BK144
                       clear HB
                       have BK144 := n0_
                       have HB := n1_
                       have BK145 := n2_
                       have GW145 := n3_
                       have GE145 := n4_
                       have NB144_145 := n5_
                       have NB145_144 := n6_
                       clear n0_ n1_ n2_ n3_ n4_ n5_ n6_
                       clear hb hbox hg
                       refine hK.out _ _ trivial (fun hHeld => ?_)
                       clear hK K
                       refine norm_ (a' := ?_) ?_ ?_
                       rotate_left
                       · show Act.put _ (some 5) _ = _
                         simp only [Act.put, List.setIfInBounds_toArray, List.set_cons_zero, List.set_cons_succ, i64_w, i32_w]
                         rfl
                       refine one_ (i := 31) (N := none) #[true, true, true, true, true, true, true, true, true, true, true, true, true, true, true, true, true, true, true, true, true, true, true, true, true, true, true, true, true, true, true, true] rfl rfl (one_of HT_.out (by kernel_rfl)) (by decide) (fun K hK => ?_)
                       have hs30 : w29.cell? ⟨gb145, 0, none⟩ = some (.int .i64 0) := (blk_cell BK145.out 0).trans rfl
                       have hfs30 := blk_frozen BK145.out 0
                       have hns30_0 := NB144_145.out
                       have hms30_0 := NB145_144.out
                       have hs31 : w29.cell? ⟨gb145, 1, none⟩ = some (.int .i64 0) := (blk_cell BK145.out 1).trans rfl
                       have hfs31 := blk_frozen BK145.out 1
                       have hns31_0 := NB144_145.out
                       have hms31_0 := NB145_144.out
                       have hs32 : w29.cell? ⟨gb145, 2, none⟩ = some (.int .i64 0) := (blk_cell BK145.out 2).trans rfl
                       have hfs32 := blk_frozen BK145.out 2
                       have hns32_0 := NB144_145.out
                       have hms32_0 := NB145_144.out
                       have hs33 : w29.cell? ⟨gb145, 3, none⟩ = some (.slice none 0 0) := (blk_cell BK145.out 3).trans rfl
                       have hfs33 := blk_frozen BK145.out 3
                       have hns33_0 := NB144_145.out
                       have hms33_0 := NB145_144.out
                       refine skip_ (w1 := ?_) (by rfl) rfl ?_ ?_
                       rotate_left
                       · go_simp
                         rfl
                       refine hK.out _ _ trivial (fun hHeld => ?_)
                       clear hK K
                       refine done_ (done_of HT_.out (by kernel_rfl)) ?_
                       try go_wp2
                       go_loopg [6] k (fun kq v6 w' => ∃ (x6_1 : Int) (x146003_1 : List (S28)) (u146003 : Value), v6 = .int .i64 x6_1 ∧ Aside0 (adv_Decode.l0 kq a0 x6_1 (wrap64 (bt a0 0)) (Go.bits .or .i64 (Go.bits .or .i64 (Go.bits .or .i64 (wrap64 ((wrap64 (bt a0 1)) * 16777216)) (wrap64 ((wrap64 (bt a0 2)) * 65536))) (wrap64 ((wrap64 (bt a0 3)) * 256))) (wrap64 (bt a0 4))) (Go.bits .or .i64 (wrap64 ((wrap64 (bt a0 5)) * 256)) (wrap64 (bt a0 6))) x146003_1 = some (r1, r2, r3, r4, r5)) ∧ Aside0 (kq ≤ k) ∧ Aside0 (Kd.R k28 28 w' w.heap.size (fun _ => True) u146003 x146003_1) ∧ Aside0 (w'.heap[gb144]? = some (.cells #[.int .i64 0, .int .i64 0, .int .i64 0, (.slice none 0 0)] 24 (0, 0))) ∧ Aside0 (w'.heap[gb145]? = some (.cells #[.int .i64 (wrap64 (bt a0 0)), .int .i64 (Go.bits .or .i64 (Go.bits .or .i64 (Go.bits .or .i64 (wrap64 ((wrap64 (bt a0 1)) * 16777216)) (wrap64 ((wrap64 (bt a0 2)) * 65536))) (wrap64 ((wrap64 (bt a0 3)) * 256))) (wrap64 (bt a0 4))), .int .i64 (Go.bits .or .i64 (wrap64 ((wrap64 (bt a0 5)) * 256)) (wrap64 (bt a0 6))), u146003] 24 (0, 0))) ∧ Aside0 (Below w.heap.size w w'))
                       case atStart => exact ⟨(8), (([] : List (S28))), (.slice none 0 0), (by first | rfl | (simp; done) | (simp [*]; done)), H', ⟨Nat.le_refl _⟩, ⟨by first | exact Kd.R_nil _ _ _ _ _ | exact Kd.N_nil _ _ _ _ _ | exact Kd.V_nil _ _ _ _ _ | exact Kd.Q_nil _ _ _ _ _ | exact Kd.S_nil _ _ _ _ _⟩, ⟨by (with_reducible repeat (first | refine blk_drewN ?_ _ | refine blk_drew ?_ | refine blk_alloc ?_ _)); refine blk_far ?_ NB144_145.out _; (with_reducible repeat (first | refine blk_drewN ?_ _ | refine blk_drew ?_ | refine blk_alloc ?_ _)); refine blk_far ?_ NB144_145.out _; (with_reducible repeat (first | refine blk_drewN ?_ _ | refine blk_drew ?_ | refine blk_alloc ?_ _)); refine blk_far ?_ NB144_145.out _; (with_reducible repeat (first | refine blk_drewN ?_ _ | refine blk_drew ?_ | refine blk_alloc ?_ _)); refine blk_far ?_ NB144_145.out _; (with_reducible repeat (first | refine blk_drewN ?_ _ | refine blk_drew ?_ | refine blk_alloc ?_ _)); exact BK144.out⟩, ⟨by (with_reducible repeat (first | refine blk_drewN ?_ _ | refine blk_drew ?_ | refine blk_alloc ?_ _)); refine blk_put (cs := #[.int .i64 (wrap64 (bt a0 0)), .int .i64 (Go.bits .or .i64 (Go.bits .or .i64 (Go.bits .or .i64 (wrap64 ((wrap64 (bt a0 1)) * 16777216)) (wrap64 ((wrap64 (bt a0 2)) * 65536))) (wrap64 ((wrap64 (bt a0 3)) * 256))) (wrap64 (bt a0 4))), .int .i64 (Go.bits .or .i64 (wrap64 ((wrap64 (bt a0 5)) * 256)) (wrap64 (bt a0 6))), .slice none 0 0]) ?_ 3 _ rfl; (with_reducible repeat (first | refine blk_drewN ?_ _ | refine blk_drew ?_ | refine blk_alloc ?_ _)); refine blk_put (cs := #[.int .i64 (wrap64 (bt a0 0)), .int .i64 (Go.bits .or .i64 (Go.bits .or .i64 (Go.bits .or .i64 (wrap64 ((wrap64 (bt a0 1)) * 16777216)) (wrap64 ((wrap64 (bt a0 2)) * 65536))) (wrap64 ((wrap64 (bt a0 3)) * 256))) (wrap64 (bt a0 4))), .int .i64 0, .slice none 0 0]) ?_ 2 _ rfl; (with_reducible repeat (first | refine blk_drewN ?_ _ | refine blk_drew ?_ | refine blk_alloc ?_ _)); refine blk_put (cs := #[.int .i64 (wrap64 (bt a0 0)), .int .i64 0, .int .i64 0, .slice none 0 0]) ?_ 1 _ rfl; (with_reducible repeat (first | refine blk_drewN ?_ _ | refine blk_drew ?_ | refine blk_alloc ?_ _)); refine blk_put (cs := #[.int .i64 0, .int .i64 0, .int .i64 0, .slice none 0 0]) ?_ 0 _ rfl; (with_reducible repeat (first | refine blk_drewN ?_ _ | refine blk_drew ?_ | refine blk_alloc ?_ _)); exact BK145.out⟩, ⟨by repeat (first | (with_reducible first | exact HB.out | apply below_alloc | apply pw_below_drewN | apply below_drew1 | refine below_set ?_ GE144.out | refine below_set ?_ GE145.out) | exact HB.out)⟩⟩
                       case round =>
                        clear H'
                        try clear c1
                        try clear p1
                        try clear q1
                        try clear hx1
                        try clear qi1
                        try clear c2
                        try clear c2b0
                        try clear c2b1
                        try clear p2
                        try clear q2
                        try clear hx2
                        try clear qi2
                        try clear c5
                        try clear c5b0
                        try clear c5b1
                        try clear p6
                        try clear q6
                        try clear hx6
                        try clear qi6
                        try clear c7
                        try clear c7b0
                        try clear c10
                        try clear c10b0
                        try clear c13
                        try clear c13b0
                        try clear c13b1
                        try clear p14
                        try clear q14
                        try clear hx14
                        try clear qi14
                        try clear c15
                        try clear c15b0
                        try clear c15b1
                        try clear p16
                        try clear q16
                        try clear hx16
                        try clear qi16
                        try clear c17
                        try clear c17b0
                        try clear c17b1
                        try clear c18
                        try clear p18
                        try clear q18
                        try clear hx18
                        try clear qi18
                        try clear c19
                        try clear c19b0
                        try clear c19b1
                        try clear p20
                        try clear q20
                        try clear hx20
                        try clear qi20
                        try clear c21
                        try clear c21b0
                        try clear c21b1
                        try clear p22
                        try clear q22
                        try clear hx22
                        try clear qi22
                        try clear c23
                        try clear c23b0
                        try clear c23b1
                        try clear p24
                        try clear q24
                        try clear hx24
                        try clear qi24
                        try clear c25
                        try clear c25b0
                        try clear c25b1
                        try clear p26
                        try clear q26
                        try clear hx26
                        try clear qi26
                        try clear hcz12_0
                        try clear hcz12_1
                        try clear hcz12_2
                        try clear hcz12_3
                        try clear hcz4_0
                        try clear hcz4_1
                        try clear hcz4_2
                        try clear hcz4_3
                        try clear hcz9_0
                        try clear hcz9_1
                        try clear hcz9_2
                        try clear hcz9_3
                        try clear hfz12_0
                        try clear hfz12_1
                        try clear hfz12_2
                        try clear hfz12_3
                        try clear hfz4_0
                        try clear hfz4_1
                        try clear hfz4_2
                        try clear hfz4_3
                        try clear hfz9_0
                        try clear hfz9_1
                        try clear hfz9_2
                        try clear hfz9_3
                        try clear p14
                        try clear p16
                        try clear p18
                        try clear p20
                        try clear p22
                        try clear p24
                        try clear p26
                        try clear p6
                        try clear q14
                        try clear q16
                        try clear q18
                        try clear q20
                        try clear q22
                        try clear q24
                        try clear q26
                        try clear q6
                        obtain ⟨x6_1, x146003_1, u146003, rfl, HA, HK1, HO_146003, BK144, BK145, HB⟩ := hrel
                        cases gk with
                        | zero => exact absurd HA.out (by simp [adv_Decode.l0])
                        | succ k1 =>
                         have H := HA.out
                         clear HA
                         simp only [adv_Decode.l0] at H
                         by_cases c34 : x6_1 < (wrap64 ((a0.size : Int) - 2))
                         · rw [if_pos c34] at H
                           have c34b0 : decide (x6_1 < (wrap64 ((a0.size : Int) - 2))) = true := decide_eq_true c34
                           clear c34
                           by_cases c35 : 0 ≤ x6_1
                           · rw [if_pos c35] at H
                             have c35b0 : decide (0 ≤ x6_1) = true := decide_eq_true c35
                             clear c35
                             by_cases c36 : x6_1 < (a0.size : Int)
                             · rw [if_pos c36] at H
                               have c36b0 : decide (x6_1 < (a0.size : Int)) = true := decide_eq_true c36
                               clear c36
                               obtain ⟨ji38, hji38⟩ : ∃ j_ : Int, (wrap64 (x6_1 + 1)) = j_ := ⟨_, rfl⟩
                               replace H : (if 0 ≤ (ji38) then (if (ji38) < (a0.size : Int) then (if 0 ≤ (wrap64 (x6_1 + 2)) then (if (wrap64 (x6_1 + 2)) < (a0.size : Int) then (if x146003_1.length < 8796093022208 then (adv_Decode.l0 k1 a0 (wrap64 (x6_1 + 3)) (wrap64 (bt a0 0)) (Go.bits .or .i64 (Go.bits .or .i64 (Go.bits .or .i64 (wrap64 ((wrap64 (bt a0 1)) * 16777216)) (wrap64 ((wrap64 (bt a0 2)) * 65536))) (wrap64 ((wrap64 (bt a0 3)) * 256))) (wrap64 (bt a0 4))) (Go.bits .or .i64 (wrap64 ((wrap64 (bt a0 5)) * 256)) (wrap64 (bt a0 6))) (x146003_1 ++ [(⟨wrap64 (bt a0 x6_1), Go.bits .or .i64 (wrap64 ((wrap64 (bt a0 (ji38))) * 256)) (wrap64 (bt a0 (wrap64 (x6_1 + 2))))⟩ : S28)])) else (none)) else (none)) else (none)) else (none)) else (none)) = some (r1, r2, r3, r4, r5) := by first | (rw [hji38] at H; exact H) | (simp only [hji38] at H ⊢; exact H)
                               have hji38w : (IntKind.i64.wrap (x6_1 + 1)) = ji38 := (i64_w _).trans hji38
                               by_cases c39 : 0 ≤ (ji38)
                               · rw [if_pos c39] at H
                                 have c39b0 : decide (0 ≤ (ji38)) = true := decide_eq_true c39
                                 clear c39
                                 by_cases c40 : (ji38) < (a0.size : Int)
                                 · rw [if_pos c40] at H
                                   have c40b0 : decide ((ji38) < (a0.size : Int)) = true := decide_eq_true c40
                                   clear c40
                                   obtain ⟨ji42, hji42⟩ : ∃ j_ : Int, (wrap64 (x6_1 + 2)) = j_ := ⟨_, rfl⟩
                                   replace H : (if 0 ≤ (ji42) then (if (ji42) < (a0.size : Int) then (if x146003_1.length < 8796093022208 then (adv_Decode.l0 k1 a0 (wrap64 (x6_1 + 3)) (wrap64 (bt a0 0)) (Go.bits .or .i64 (Go.bits .or .i64 (Go.bits .or .i64 (wrap64 ((wrap64 (bt a0 1)) * 16777216)) (wrap64 ((wrap64 (bt a0 2)) * 65536))) (wrap64 ((wrap64 (bt a0 3)) * 256))) (wrap64 (bt a0 4))) (Go.bits .or .i64 (wrap64 ((wrap64 (bt a0 5)) * 256)) (wrap64 (bt a0 6))) (x146003_1 ++ [(⟨wrap64 (bt a0 x6_1), Go.bits .or .i64 (wrap64 ((wrap64 (bt a0 (ji38))) * 256)) (wrap64 (bt a0 (ji42)))⟩ : S28)])) else (none)) else (none)) else (none)) = some (r1, r2, r3, r4, r5) := by first | (rw [hji42] at H; exact H) | (simp only [hji42] at H ⊢; exact H)
                                   have hji42w : (IntKind.i64.wrap (x6_1 + 2)) = ji42 := (i64_w _).trans hji42
                                   by_cases c43 : 0 ≤ (ji42)
                                   · rw [if_pos c43] at H
                                     have c43b0 : decide (0 ≤ (ji42)) = true := decide_eq_true c43
                                     clear c43
                                     by_cases c44 : (ji42) < (a0.size : Int)
                                     · rw [if_pos c44] at H
                                       have c44b0 : decide ((ji42) < (a0.size : Int)) = true := decide_eq_true c44
                                       clear c44
                                       by_cases c46 : x146003_1.length < 8796093022208
                                       · rw [if_pos c46] at H
                                         have LMc46 := Aside0.mk c46
                                         clear c46
                                         obtain ⟨y146, hy146⟩ : ∃ y_ : List (S28), y_ = (x146003_1 ++ [(⟨wrap64 (bt a0 x6_1), Go.bits .or .i64 (wrap64 ((wrap64 (bt a0 (ji38))) * 256)) (wrap64 (bt a0 (ji42)))⟩ : S28)]) := ⟨_, rfl⟩
                                         replace H : (adv_Decode.l0 k1 a0 (wrap64 (x6_1 + 3)) (wrap64 (bt a0 0)) (Go.bits .or .i64 (Go.bits .or .i64 (Go.bits .or .i64 (wrap64 ((wrap64 (bt a0 1)) * 16777216)) (wrap64 ((wrap64 (bt a0 2)) * 65536))) (wrap64 ((wrap64 (bt a0 3)) * 256))) (wrap64 (bt a0 4))) (Go.bits .or .i64 (wrap64 ((wrap64 (bt a0 5)) * 256)) (wrap64 (bt a0 6))) y146) = some (r1, r2, r3, r4, r5) := by first | (rw [hy146]; with_reducible exact H) | (have H2_ := (Option.bind_some _ _).symm.trans H; rw [hy146]; with_reducible exact H2_) | (have H2_ := (Option.bind_some _ _).symm.trans H; with_reducible exact H2_) | with_reducible exact H | (rw [hy146]; exact H) | exact H
                                         have Ny146 := Aside0.mk hy146
                                         clear hy146
                                         have H' := Aside0.mk H
                                         clear H
                                         try go_wp2
                                         have n0_ := Aside0.mk (Kd.R_drew HO_146003.out)
                                         have n1_ := Aside0.mk (blk_drew BK144.out)
                                         have n2_ := Aside0.mk (blk_drew BK145.out)
                                         have n3_ := Aside0.mk (below_drew1 HB.out)
                                         clear HO_146003
                                         clear BK144
                                         clear BK145
                                         clear HB
                                         have HO_146003 := n0_
                                         have BK144 := n1_
                                         have BK145 := n2_
                                         have HB := n3_
                                         clear n0_ n1_ n2_ n3_
                                         have p37 : 0 ≤ (x6_1 : Int) := of_decide_eq_true (by first | (with_reducible assumption) | assumption)
                                         have q37 : x6_1 < (a0.size : Int) := of_decide_eq_true (by first | (with_reducible assumption) | assumption)
                                         have hx37 := bt_at a0 x6_1
                                         replace p37 := eq_true p37
                                         replace q37 := eq_true q37
                                         have p41 : 0 ≤ ((ji38) : Int) := of_decide_eq_true (by first | (with_reducible assumption) | assumption)
                                         have q41 : (ji38) < (a0.size : Int) := of_decide_eq_true (by first | (with_reducible assumption) | assumption)
                                         have hx41 := bt_at a0 (ji38)
                                         replace p41 := eq_true p41
                                         replace q41 := eq_true q41
                                         have p45 : 0 ≤ ((ji42) : Int) := of_decide_eq_true (by first | (with_reducible assumption) | assumption)
                                         have q45 : (ji42) < (a0.size : Int) := of_decide_eq_true (by first | (with_reducible assumption) | assumption)
                                         have hx45 := bt_at a0 (ji42)
                                         replace p45 := eq_true p45
                                         replace q45 := eq_true q45
                                         refine start_ (n := 23) (S := fun w' => w'.cell? ⟨gb145, 0, none⟩ = some (.int .i64 (wrap64 (bt a0 0))) ∧ w'.cell? ⟨gb145, 1, none⟩ = some (.int .i64 (Go.bits .or .i64 (Go.bits .or .i64 (Go.bits .or .i64 (wrap64 ((wrap64 (bt a0 1)) * 16777216)) (wrap64 ((wrap64 (bt a0 2)) * 65536))) (wrap64 ((wrap64 (bt a0 3)) * 256))) (wrap64 (bt a0 4)))) ∧ w'.cell? ⟨gb145, 2, none⟩ = some (.int .i64 (Go.bits .or .i64 (wrap64 ((wrap64 (bt a0 5)) * 256)) (wrap64 (bt a0 6)))) ∧ w'.cell? ⟨gb145, 3, none⟩ = some (u146003)) (ds := [22]) #[false, false, false, false, false, false, false, false, false, false, false, false, false, false, false, false, false, false, false, false, false, false, false] (by kernel_rfl) rfl rfl ⟨(blk_cell BK145.out 0).trans rfl, (blk_cell BK145.out 1).trans rfl, (blk_cell BK145.out 2).trans rfl, (blk_cell BK145.out 3).trans rfl⟩ (fun hHeld => ?_); refine with_tabW adv_Decode.tab12 adv_Decode.bits12 (fun HT_ HW_ => ?_)
                                         generalize wr.drew = w47 at HO_146003 BK144 BK145 HB hHeld ⊢
                                         refine pure_ (i := 0) (N := some 70) (v := ?_) (a' := ?_) #[true, false, false, false, false, false, false, false, false, false, false, false, false, false, false, false, false, false, false, false, false, false, false] rfl rfl (any_of HT_.out (by kernel_rfl)) (fun _ _ _ h => h) (Or.inl ⟨by rfl, ?_⟩) ?_ ?_
                                         rotate_left
                                         · intro w'
                                           go_simp
                                           with_reducible rfl
                                         rotate_left
                                         · simp only [Act.put, List.setIfInBounds_toArray, List.set_cons_zero, List.set_cons_succ, i64_w, i32_w]
                                           rfl
                                         refine pure_ (i := 2) (N := some 72) (v := ?_) (a' := ?_) #[true, false, true, false, false, false, false, false, false, false, false, false, false, false, false, false, false, false, false, false, false, false, false] rfl rfl (any_of HT_.out (by kernel_rfl)) (fun _ _ _ h => h) (Or.inl ⟨by rfl, ?_⟩) ?_ ?_
                                         rotate_left
                                         · intro w'
                                           go_simp
                                           with_reducible rfl
                                         rotate_left
                                         · simp only [Act.put, List.setIfInBounds_toArray, List.set_cons_zero, List.set_cons_succ, i64_w, i32_w]
                                           rfl
                                         refine pure_ (i := 3) (N := some 73) (v := ?_) (a' := ?_) #[true, false, true, true, false, false, false, false, false, false, false, false, false, false, false, false, false, false, false, false, false, false, false] rfl rfl (any_of HT_.out (by kernel_rfl)) (fun _ _ _ h => h) (Or.inl ⟨by rfl, ?_⟩) ?_ ?_
                                         rotate_left
                                         · intro w'
                                           go_simp
                                           with_reducible rfl
                                         rotate_left
                                         · simp only [Act.put, List.setIfInBounds_toArray, List.set_cons_zero, List.set_cons_succ, i64_w, i32_w]
                                           rfl
                                         refine pure_ (i := 6) (N := some 76) (v := ?_) (a' := ?_) #[true, false, true, true, false, false, true, false, false, false, false, false, false, false, false, false, false, false, false, false, false, false, false] rfl rfl (any_of HT_.out (by kernel_rfl)) (fun _ _ _ h => h) (Or.inl ⟨by rfl, ?_⟩) ?_ ?_
                                         rotate_left
                                         · intro w'
                                           go_simp
                                           with_reducible rfl
                                         rotate_left
                                         · simp only [Act.put, List.setIfInBounds_toArray, List.set_cons_zero, List.set_cons_succ, i64_w, i32_w]
                                           rfl
                                         refine pure_ (i := 7) (N := some 77) (v := ?_) (a' := ?_) #[true, false, true, true, false, false, true, true, false, false, false, false, false, false, false, false, false, false, false, false, false, false, false] rfl rfl (any_of HT_.out (by kernel_rfl)) (fun _ _ _ h => h) (Or.inl ⟨by rfl, ?_⟩) ?_ ?_
                                         rotate_left
                                         · intro w'
                                           go_simp
                                           with_reducible rfl
                                         rotate_left
                                         · simp only [Act.put, List.setIfInBounds_toArray, List.set_cons_zero, List.set_cons_succ, i64_w, i32_w]
                                           rfl
                                         refine pure_ (i := 8) (N := some 78) (v := ?_) (a' := ?_) #[true, false, true, true, false, false, true, true, true, false, false, false, false, false, false, false, false, false, false, false, false, false, false] rfl rfl (any_of HT_.out (by kernel_rfl)) (fun _ _ _ h => h) (Or.inl ⟨by rfl, ?_⟩) ?_ ?_
                                         rotate_left
                                         · intro w'
                                           go_simp
                                           with_reducible rfl
                                         rotate_left
                                         · simp only [Act.put, List.setIfInBounds_toArray, List.set_cons_zero, List.set_cons_succ, i64_w, i32_w]
                                           rfl
                                         refine pure_ (i := 12) (N := some 82) (v := ?_) (a' := ?_) #[true, false, true, true, false, false, true, true, true, false, false, false, true, false, false, false, false, false, false, false, false, false, false] rfl rfl (any_of HT_.out (by kernel_rfl)) (fun _ _ _ h => h) (Or.inl ⟨by rfl, ?_⟩) ?_ ?_
                                         rotate_left
                                         · intro w'
                                           go_simp
                                           with_reducible rfl
                                         rotate_left
                                         · simp only [Act.put, List.setIfInBounds_toArray, List.set_cons_zero, List.set_cons_succ, i64_w, i32_w]
                                           rfl
                                         refine pure_ (i := 13) (N := some 83) (v := ?_) (a' := ?_) #[true, false, true, true, false, false, true, true, true, false, false, false, true, true, false, false, false, false, false, false, false, false, false] rfl rfl (any_of HT_.out (by kernel_rfl)) (fun _ _ _ h => h) (Or.inl ⟨by rfl, ?_⟩) ?_ ?_
                                         rotate_left
                                         · intro w'
                                           go_simp
                                           with_reducible rfl
                                         rotate_left
                                         · simp only [Act.put, List.setIfInBounds_toArray, List.set_cons_zero, List.set_cons_succ, i64_w, i32_w]
                                           rfl
                                         refine pure_ (i := 14) (N := some 84) (v := ?_) (a' := ?_) #[true, false, true, true, false, false, true, true, true, false, false, false, true, true, true, false, false, false, false, false, false, false, false] rfl rfl (any_of HT_.out (by kernel_rfl)) (fun _ _ _ h => h) (Or.inl ⟨by rfl, ?_⟩) ?_ ?_
                                         rotate_left
                                         · intro w'
                                           go_simp
                                           with_reducible rfl
                                         rotate_left
                                         · simp only [Act.put, List.setIfInBounds_toArray, List.set_cons_zero, List.set_cons_succ, i64_w, i32_w]
                                           rfl
                                         refine take_ (i := 1) (N := some 71) (v := ?_) (a' := ?_) #[true, true, true, true, false, false, true, true, true, false, false, false, true, true, true, false, false, false, false, false, false, false, false] rfl rfl (take_ofW HT_.out HW_.out (by kernel_rfl)) (fun _ _ _ h => h) (Or.inl ⟨by rfl, ?_⟩) hHeld ?_ ?_
                                         rotate_left
                                         · rintro w' ⟨s0, s1, s2, s3⟩
                                           go_simp
                                           with_reducible rfl
                                         rotate_left
                                         · simp only [Act.put, List.setIfInBounds_toArray, List.set_cons_zero, List.set_cons_succ, i64_w, i32_w]
                                           rfl
                                         refine take_ (i := 4) (N := some 74) (v := ?_) (a' := ?_) #[true, true, true, true, true, false, true, true, true, false, false, false, true, true, true, false, false, false, false, false, false, false, false] rfl rfl (take_ofW HT_.out HW_.out (by kernel_rfl)) (fun _ _ _ h => h) (Or.inl ⟨by rfl, ?_⟩) hHeld ?_ ?_
                                         rotate_left
                                         · rintro w' ⟨s0, s1, s2, s3⟩
                                           go_simp
                                           with_reducible rfl
                                         rotate_left
                                         · simp only [Act.put, List.setIfInBounds_toArray, List.set_cons_zero, List.set_cons_succ, i64_w, i32_w]
                                           rfl
                                         refine pure_ (i := 5) (N := some 75) (v := ?_) (a' := ?_) #[true, true, true, true, true, true, true, true, true, false, false, false, true, true, true, false, false, false, false, false, false, false, false] rfl rfl (any_of HT_.out (by kernel_rfl)) (fun _ _ _ h => h) (Or.inl ⟨by rfl, ?_⟩) ?_ ?_
                                         rotate_left
                                         · intro w'
                                           go_simp
                                           with_reducible rfl
                                         rotate_left
                                         · simp only [Act.put, List.setIfInBounds_toArray, List.set_cons_zero, List.set_cons_succ, i64_w, i32_w]
                                           rfl
                                         refine take_ (i := 9) (N := some 79) (v := ?_) (a' := ?_) #[true, true, true, true, true, true, true, true, true, true, false, false, true, true, true, false, false, false, false, false, false, false, false] rfl rfl (take_ofW HT_.out HW_.out (by kernel_rfl)) (fun _ _ _ h => h) (Or.inl ⟨by rfl, ?_⟩) hHeld ?_ ?_
                                         rotate_left
                                         · rintro w' ⟨s0, s1, s2, s3⟩
                                           go_simp
                                           with_reducible rfl
                                         rotate_left
                                         · simp only [Act.put, List.setIfInBounds_toArray, List.set_cons_zero, List.set_cons_succ, i64_w, i32_w]
                                           rfl
                                         refine pure_ (i := 10) (N := some 80) (v := ?_) (a' := ?_) #[true, true, true, true, true, true, true, true, true, true, true, false, true, true, true, false, false, false, false, false, false, false, false] rfl rfl (any_of HT_.out (by kernel_rfl)) (fun _ _ _ h => h) (Or.inl ⟨by rfl, ?_⟩) ?_ ?_
                                         rotate_left
                                         · intro w'
                                           go_simp
                                           with_reducible rfl
                                         rotate_left
                                         · simp only [Act.put, List.setIfInBounds_toArray, List.set_cons_zero, List.set_cons_succ, i64_w, i32_w]
                                           rfl
                                         refine pure_ (i := 11) (N := some 81) (v := ?_) (a' := ?_) #[true, true, true, true, true, true, true, true, true, true, true, true, true, true, true, false, false, false, false, false, false, false, false] rfl rfl (any_of HT_.out (by kernel_rfl)) (fun _ _ _ h => h) (Or.inl ⟨by rfl, ?_⟩) ?_ ?_
                                         rotate_left
                                         · intro w'
                                           go_simp
                                           with_reducible rfl
                                         rotate_left
                                         · simp only [Act.put, List.setIfInBounds_toArray, List.set_cons_zero, List.set_cons_succ, i64_w, i32_w]
                                           rfl
                                         refine take_ (i := 15) (N := some 85) (v := ?_) (a' := ?_) #[true, true, true, true, true, true, true, true, true, true, true, true, true, true, true, true, false, false, false, false, false, false, false] rfl rfl (take_ofW HT_.out HW_.out (by kernel_rfl)) (fun _ _ _ h => h) (Or.inl ⟨by rfl, ?_⟩) hHeld ?_ ?_
                                         rotate_left
                                         · rintro w' ⟨s0, s1, s2, s3⟩
                                           go_simp
                                           with_reducible rfl
                                         rotate_left
                                         · simp only [Act.put, List.setIfInBounds_toArray, List.set_cons_zero, List.set_cons_succ, i64_w, i32_w]
                                           rfl
                                         refine pure_ (i := 16) (N := some 86) (v := ?_) (a' := ?_) #[true, true, true, true, true, true, true, true, true, true, true, true, true, true, true, true, true, false, false, false, false, false, false] rfl rfl (any_of HT_.out (by kernel_rfl)) (fun _ _ _ h => h) (Or.inl ⟨by rfl, ?_⟩) ?_ ?_
                                         rotate_left
                                         · intro w'
                                           go_simp
                                           with_reducible rfl
                                         rotate_left
                                         · simp only [Act.put, List.setIfInBounds_toArray, List.set_cons_zero, List.set_cons_succ, i64_w, i32_w]
                                           rfl
                                         refine pure_ (i := 17) (N := some 87) (v := ?_) (a' := ?_) #[true, true, true, true, true, true, true, true, true, true, true, true, true, true, true, true, true, true, false, false, false, false, false] rfl rfl (any_of HT_.out (by kernel_rfl)) (fun _ _ _ h => h) (Or.inl ⟨by rfl, ?_⟩) ?_ ?_
                                         rotate_left
                                         · intro w'
                                           go_simp
                                           with_reducible rfl
                                         rotate_left
                                         · simp only [Act.put, List.setIfInBounds_toArray, List.set_cons_zero, List.set_cons_succ, i64_w, i32_w]
                                           rfl
                                         refine pure_ (i := 18) (N := some 88) (v := ?_) (a' := ?_) #[true, true, true, true, true, true, true, true, true, true, true, true, true, true, true, true, true, true, true, false, false, false, false] rfl rfl (any_of HT_.out (by kernel_rfl)) (fun _ _ _ h => h) (Or.inl ⟨by rfl, ?_⟩) ?_ ?_
                                         rotate_left
                                         · intro w'
                                           go_simp
                                           with_reducible rfl
                                         rotate_left
                                         · simp only [Act.put, List.setIfInBounds_toArray, List.set_cons_zero, List.set_cons_succ, i64_w, i32_w]
                                           rfl
                                         refine one_ (i := 19) (N := some 89) #[true, true, true, true, true, true, true, true, true, true, true, true, true, true, true, true, true, true, true, true, false, false, false] rfl rfl (one_of HT_.out (by kernel_rfl)) (by decide) (fun K hK => ?_)
                                         refine value_ (w1 := ?_) (v := ?_) (by rfl) rfl ?_ ?_
                                         rotate_left 2
                                         · go_simp
                                           constructor
                                           · rfl
                                           · rfl
                                         refine hK.out _ _ ⟨(blk_cell (blk_alloc BK145.out _) 0).trans rfl, (blk_cell (blk_alloc BK145.out _) 1).trans rfl, (blk_cell (blk_alloc BK145.out _) 2).trans rfl, (blk_cell (blk_alloc BK145.out _) 3).trans rfl⟩ (fun hHeld => ?_)
                                         clear hK K
                                         refine norm_ (a' := ?_) ?_ ?_
                                         rotate_left
                                         · show Act.put _ (some 89) _ = _
                                           simp only [Act.put, List.setIfInBounds_toArray, List.set_cons_zero, List.set_cons_succ, i64_w, i32_w]
                                           rfl
                                         refine one_ (i := 20) (N := some 90) #[true, true, true, true, true, true, true, true, true, true, true, true, true, true, true, true, true, true, true, true, true, false, false] rfl rfl (one_of HT_.out (by kernel_rfl)) (by decide) (fun K hK => ?_)
                                         refine Kd.R_append_step k28 (w0 := w) w.heap.size (by rfl) (.tmp 71) (.tmp 89) 22 28 (.agg #[(.int .i64 0), (.int .i64 0)]) 16 rfl Try.underlying22 info28 rfl (by decide) (by omega) u146003 x146003_1 (⟨wrap64 (bt a0 x6_1), Go.bits .or .i64 (wrap64 ((wrap64 (bt a0 (ji38))) * 256)) (wrap64 (bt a0 (ji42)))⟩ : S28) [.int .i64 (wrap64 (bt a0 x6_1)), .int .i64 (Go.bits .or .i64 (wrap64 ((wrap64 (bt a0 (ji38))) * 256)) (wrap64 (bt a0 (ji42))))] (fun _ => True) (fun _ => False) rfl rfl ?aP (fun _ hk => hk.elim) ?aF ?aO ?aB ?aS ?aL ?_
                                         (case aP => exact k28_mkM _ _ _ (⟨wrap64 (bt a0 x6_1), Go.bits .or .i64 (wrap64 ((wrap64 (bt a0 (ji38))) * 256)) (wrap64 (bt a0 (ji42)))⟩ : S28))
                                         (case aB => exact (by repeat (first | (with_reducible first | exact HB.out | apply below_alloc | apply pw_below_drewN | apply below_drew1 | refine below_set ?_ GE144.out | refine below_set ?_ GE145.out) | exact HB.out)))
                                         (case aF => exact (fun _ _ => trivial))
                                         (case aO => exact (by (with_reducible repeat (first | apply Kd.R_alloc | apply Kd.R_drewN | apply Kd.R_drew)); exact HO_146003.out))
                                         (case aS => exact (below_size (by repeat (first | (with_reducible first | exact HB.out | apply below_alloc | apply pw_below_drewN | apply below_drew1 | refine below_set ?_ GE144.out | refine below_set ?_ GE145.out) | exact HB.out))))
                                         (case aL => have := LMc46.out; omega)
                                         intro v147 w48 ho hb hg hat
                                         rw [← Ny146.out] at ho
                                         have n0_ := Aside0.mk (blk_grown (g := gb144) (o := .cells #[.int .i64 0, .int .i64 0, .int .i64 0, .slice none 0 0] 24 (0, 0)) (by (with_reducible repeat (first | refine blk_drewN ?_ _ | refine blk_drew ?_ | refine blk_alloc ?_ _)); exact BK144.out) hg (Kd.R_ne HO_146003.out BK144.out (by decide)))
                                         have n1_ := Aside0.mk (blk_grown (g := gb145) (o := .cells #[.int .i64 (wrap64 (bt a0 0)), .int .i64 (Go.bits .or .i64 (Go.bits .or .i64 (Go.bits .or .i64 (wrap64 ((wrap64 (bt a0 1)) * 16777216)) (wrap64 ((wrap64 (bt a0 2)) * 65536))) (wrap64 ((wrap64 (bt a0 3)) * 256))) (wrap64 (bt a0 4))), .int .i64 (Go.bits .or .i64 (wrap64 ((wrap64 (bt a0 5)) * 256)) (wrap64 (bt a0 6))), u146003] 24 (0, 0)) (by (with_reducible repeat (first | refine blk_drewN ?_ _ | refine blk_drew ?_ | refine blk_alloc ?_ _)); exact BK145.out) hg (Kd.R_ne HO_146003.out BK145.out (by decide)))
                                         have n2_ := Aside0.mk (hb)
                                         have n3_ := Aside0.mk (ho)
                                         clear BK144
                                         clear BK145
                                         clear HB
                                         clear HO_146003
                                         have BK144 := n0_
                                         have BK145 := n1_
                                         have HB := n2_
                                         have HO148 := n3_
                                         clear n0_ n1_ n2_ n3_
                                         clear ho hb hg hat
                                         obtain ⟨Ao49, co49, eo49⟩ := Kd.R_slice HO148.out
                                         (first | subst eo49 | (injection eo49 with f1_ f2_ f3_; have f4_ := f1_.symm; have f5_ := f3_.symm; clear f1_ f2_ f3_; subst f4_; subst f5_))
                                         refine hK.out _ _ ⟨(blk_cell BK145.out 0).trans rfl, (blk_cell BK145.out 1).trans rfl, (blk_cell BK145.out 2).trans rfl, (blk_cell BK145.out 3).trans rfl⟩ (fun hHeld => ?_)
                                         clear hK K
                                         refine norm_ (a' := ?_) ?_ ?_
                                         rotate_left
                                         · show Act.put _ (some 90) _ = _
                                           simp only [Act.put, List.setIfInBounds_toArray, List.set_cons_zero, List.set_cons_succ, i64_w, i32_w]
                                           rfl
                                         refine pure_ (i := 21) (N := some 91) (v := ?_) (a' := ?_) #[true, true, true, true, true, true, true, true, true, true, true, true, true, true, true, true, true, true, true, true, true, true, false] rfl rfl (any_of HT_.out (by kernel_rfl)) (fun _ _ _ h => h) (Or.inl ⟨by rfl, ?_⟩) ?_ ?_
                                         rotate_left
                                         · intro w'
                                           go_simp
                                           with_reducible rfl
                                         rotate_left
                                         · simp only [Act.put, List.setIfInBounds_toArray, List.set_cons_zero, List.set_cons_succ, i64_w, i32_w]
                                           rfl
                                         refine last_ (i := 22) (N := none) #[true, true, true, true, true, true, true, true, true, true, true, true, true, true, true, true, true, true, true, true, true, true, true] rfl rfl (one_of HT_.out (by kernel_rfl)) (by decide) (fun K hK => ?_)
                                         have hs50 : w48.cell? ⟨gb145, 3, none⟩ = some (u146003) := (blk_cell BK145.out 3).trans rfl
                                         have hfs50 := blk_frozen BK145.out 3
                                         have hns50_0 := NB144_145.out
                                         have hms50_0 := NB145_144.out
                                         refine skip_ (w1 := ?_) (by rfl) rfl ?_ ?_
                                         rotate_left
                                         · go_simp
                                           rfl
                                         refine hK.out _ _ ?_
                                         clear hK K
                                         refine done_ (done_of HT_.out (by kernel_rfl)) ?_
                                         try go_wp2
                                         go_roundg k1
                                         case measure => have := HK1.out; omega
                                         case rel => exact ⟨(wrap64 (x6_1 + 3)), (y146), (.slice Ao49 y146.length co49), (by first | rfl | (simp; done) | (simp [*]; done)), H', ⟨by have := HK1.out; omega⟩, ⟨by (with_reducible repeat (first | apply Kd.R_alloc | apply Kd.R_drewN | apply Kd.R_drew)); exact Kd.R_mono (Kd.R_far (p := ⟨gb145, 3, none⟩) (Kd.R_types HO148.out BK145.out (by decide)) (fun _ hk => hk.2) (.slice Ao49 y146.length co49)) (fun _ hk => trivial)⟩, ⟨by (with_reducible repeat (first | refine blk_drewN ?_ _ | refine blk_drew ?_ | refine blk_alloc ?_ _)); refine blk_far ?_ NB144_145.out _; (with_reducible repeat (first | refine blk_drewN ?_ _ | refine blk_drew ?_ | refine blk_alloc ?_ _)); exact BK144.out⟩, ⟨by (with_reducible repeat (first | refine blk_drewN ?_ _ | refine blk_drew ?_ | refine blk_alloc ?_ _)); refine blk_put (cs := #[.int .i64 (wrap64 (bt a0 0)), .int .i64 (Go.bits .or .i64 (Go.bits .or .i64 (Go.bits .or .i64 (wrap64 ((wrap64 (bt a0 1)) * 16777216)) (wrap64 ((wrap64 (bt a0 2)) * 65536))) (wrap64 ((wrap64 (bt a0 3)) * 256))) (wrap64 (bt a0 4))), .int .i64 (Go.bits .or .i64 (wrap64 ((wrap64 (bt a0 5)) * 256)) (wrap64 (bt a0 6))), u146003]) ?_ 3 _ rfl; (with_reducible repeat (first | refine blk_drewN ?_ _ | refine blk_drew ?_ | refine blk_alloc ?_ _)); exact BK145.out⟩, ⟨by repeat (first | (with_reducible first | exact HB.out | apply below_alloc | apply pw_below_drewN | apply below_drew1 | refine below_set ?_ GE144.out | refine below_set ?_ GE145.out) | exact HB.out)⟩⟩
                                       · rw [if_neg c46] at H
                                         exact absurd H (by simp)
                                     · rw [if_neg c44] at H
                                       exact absurd H (by simp)
                                   · rw [if_neg c43] at H
                                     exact absurd H (by simp)
                                 · rw [if_neg c40] at H
                                   exact absurd H (by simp)
                               · rw [if_neg c39] at H
                                 exact absurd H (by simp)
                             · rw [if_neg c36] at H
                               exact absurd H (by simp)
                           · rw [if_neg c35] at H
                             exact absurd H (by simp)
                         · rw [if_neg c34] at H
                           have c34b0 : decide (x6_1 < (wrap64 ((a0.size : Int) - 2))) = false := decide_eq_false c34
                           clear c34
                           replace H := Option.bind_eq_some_iff.mp H
                           obtain ⟨t149, A510, H⟩ := H
                           replace H : ((adv_sum.f k1 t149).bind fun bt152 => (if 0 ≤ (wrap64 ((a0.size : Int) - 2)) then (if (wrap64 ((a0.size : Int) - 2)) < (a0.size : Int) then (if (wrap64 (bt a0 (wrap64 ((a0.size : Int) - 2)))) = bt152.1 then (if 0 ≤ (wrap64 ((a0.size : Int) - 1)) then (if (wrap64 ((a0.size : Int) - 1)) < (a0.size : Int) then (adv_Decode.j1 k1 ((wrap64 (bt a0 (wrap64 ((a0.size : Int) - 1)))) != bt152.2) (wrap64 (bt a0 0)) (Go.bits .or .i64 (Go.bits .or .i64 (Go.bits .or .i64 (wrap64 ((wrap64 (bt a0 1)) * 16777216)) (wrap64 ((wrap64 (bt a0 2)) * 65536))) (wrap64 ((wrap64 (bt a0 3)) * 256))) (wrap64 (bt a0 4))) (Go.bits .or .i64 (wrap64 ((wrap64 (bt a0 5)) * 256)) (wrap64 (bt a0 6))) x146003_1) else (none)) else (none)) else (adv_Decode.j1 k1 true (wrap64 (bt a0 0)) (Go.bits .or .i64 (Go.bits .or .i64 (Go.bits .or .i64 (wrap64 ((wrap64 (bt a0 1)) * 16777216)) (wrap64 ((wrap64 (bt a0 2)) * 65536))) (wrap64 ((wrap64 (bt a0 3)) * 256))) (wrap64 (bt a0 4))) (Go.bits .or .i64 (wrap64 ((wrap64 (bt a0 5)) * 256)) (wrap64 (bt a0 6))) x146003_1)) else (none)) else (none))) = some (r1, r2, r3, r4, r5) := H
                           have A51 := Aside0.mk A510
                           clear A510
                           replace H := Option.bind_eq_some_iff.mp H
                           obtain ⟨⟨t152, t153⟩, A520, H⟩ := H
                           replace H : (if 0 ≤ (wrap64 ((a0.size : Int) - 2)) then (if (wrap64 ((a0.size : Int) - 2)) < (a0.size : Int) then (if (wrap64 (bt a0 (wrap64 ((a0.size : Int) - 2)))) = t152 then (if 0 ≤ (wrap64 ((a0.size : Int) - 1)) then (if (wrap64 ((a0.size : Int) - 1)) < (a0.size : Int) then (adv_Decode.j1 k1 ((wrap64 (bt a0 (wrap64 ((a0.size : Int) - 1)))) != t153) (wrap64 (bt a0 0)) (Go.bits .or .i64 (Go.bits .or .i64 (Go.bits .or .i64 (wrap64 ((wrap64 (bt a0 1)) * 16777216)) (wrap64 ((wrap64 (bt a0 2)) * 65536))) (wrap64 ((wrap64 (bt a0 3)) * 256))) (wrap64 (bt a0 4))) (Go.bits .or .i64 (wrap64 ((wrap64 (bt a0 5)) * 256)) (wrap64 (bt a0 6))) x146003_1) else (none)) else (none)) else (adv_Decode.j1 k1 true (wrap64 (bt a0 0)) (Go.bits .or .i64 (Go.bits .or .i64 (Go.bits .or .i64 (wrap64 ((wrap64 (bt a0 1)) * 16777216)) (wrap64 ((wrap64 (bt a0 2)) * 65536))) (wrap64 ((wrap64 (bt a0 3)) * 256))) (wrap64 (bt a0 4))) (Go.bits .or .i64 (wrap64 ((wrap64 (bt a0 5)) * 256)) (wrap64 (bt a0 6))) x146003_1)) else (none)) else (none)) = some (r1, r2, r3, r4, r5) := H
                           have A52 := Aside0.mk A520
                           clear A520
                           have HC53 := Aside0.mk H
                           clear H
                           have hnb54 := NB145_144.out
                           have hnc54 := NB144_145.out
                           have hcz55_0 : wr.cell? ⟨gb145, 0, none⟩ = some (.int .i64 (wrap64 (bt a0 0))) := (blk_cell BK145.out 0).trans rfl
                           have hcz55_1 : wr.cell? ⟨gb145, 1, none⟩ = some (.int .i64 (Go.bits .or .i64 (Go.bits .or .i64 (Go.bits .or .i64 (wrap64 ((wrap64 (bt a0 1)) * 16777216)) (wrap64 ((wrap64 (bt a0 2)) * 65536))) (wrap64 ((wrap64 (bt a0 3)) * 256))) (wrap64 (bt a0 4)))) := (blk_cell BK145.out 1).trans rfl
                           have hcz55_2 : wr.cell? ⟨gb145, 2, none⟩ = some (.int .i64 (Go.bits .or .i64 (wrap64 ((wrap64 (bt a0 5)) * 256)) (wrap64 (bt a0 6)))) := (blk_cell BK145.out 2).trans rfl
                           have hcz55_3 : wr.cell? ⟨gb145, 3, none⟩ = some (u146003) := (blk_cell BK145.out 3).trans rfl
                           have hfz55_0 := blk_frozen BK145.out 0
                           have hfz55_1 := blk_frozen BK145.out 1
                           have hfz55_2 := blk_frozen BK145.out 2
                           have hfz55_3 := blk_frozen BK145.out 3
                           obtain ⟨Ao56, co56, eo56⟩ := Kd.R_slice HO_146003.out
                           subst eo56
                           go_upto_region 14 with (first | ((with_reducible refine gate_callee (f := 47) rfl ?_); refine goesL_ (some 94) rfl rfl Try.func47 (by kernel_rfl) rfl #[.agg #[.int .i64 (wrap64 (bt a0 0)), .int .i64 (Go.bits .or .i64 (Go.bits .or .i64 (Go.bits .or .i64 (wrap64 ((wrap64 (bt a0 1)) * 16777216)) (wrap64 ((wrap64 (bt a0 2)) * 65536))) (wrap64 ((wrap64 (bt a0 3)) * 256))) (wrap64 (bt a0 4))), .int .i64 (Go.bits .or .i64 (wrap64 ((wrap64 (bt a0 5)) * 256)) (wrap64 (bt a0 6))), .slice Ao56 x146003_1.length co56], .int .i64 0] rfl (by (try simp only [List.map_toArray, List.map_cons, List.map_nil]); first | done | rfl | (simp only [List.length_drop, List.length_take]; rfl)) ?_; (with_reducible refine (adv_bytes.calls k1 (wrap64 (bt a0 0)) (Go.bits .or .i64 (Go.bits .or .i64 (Go.bits .or .i64 (wrap64 ((wrap64 (bt a0 1)) * 16777216)) (wrap64 ((wrap64 (bt a0 2)) * 65536))) (wrap64 ((wrap64 (bt a0 3)) * 256))) (wrap64 (bt a0 4))) (Go.bits .or .i64 (wrap64 ((wrap64 (bt a0 5)) * 256)) (wrap64 (bt a0 6))) _ _ x146003_1 0 t149 _ ?side1 ?side2 A51.out).mono ?_); (case side1 => repeat (first | exact (Kd.R_reads' HO_146003.out).2.2 | (with_reducible refine Kd.C_alloc ?_ _) | (with_reducible refine Kd.C_drewN ?_ _) | (with_reducible refine Kd.C_drew ?_))); (case side2 => exact (Kd.R_reads' HO_146003.out).2.1); rintro e w57 ⟨v150, rfl, ho0, hb⟩; refine ⟨_, rfl, ?_⟩; have n0_ := Aside0.mk (Kd.R_below (by (with_reducible repeat (first | apply Kd.R_alloc | apply Kd.R_drewN | apply Kd.R_drew)); exact HO_146003.out) hb); have n1_ := Aside0.mk (Kd.R_lower ho0 (below_size (by repeat (first | (with_reducible first | exact HB.out | apply below_alloc | apply pw_below_drewN | apply below_drew1 | refine below_set ?_ GE144.out | refine below_set ?_ GE145.out) | exact HB.out)))); have n2_ := Aside0.mk (blk_below (g := gb144) (o := .cells #[.int .i64 0, .int .i64 0, .int .i64 0, .slice none 0 0] 24 (0, 0)) (by (with_reducible repeat (first | refine blk_drewN ?_ _ | refine blk_drew ?_ | refine blk_alloc ?_ _)); exact BK144.out) hb); have n3_ := Aside0.mk (blk_below (g := gb145) (o := .cells #[.int .i64 (wrap64 (bt a0 0)), .int .i64 (Go.bits .or .i64 (Go.bits .or .i64 (Go.bits .or .i64 (wrap64 ((wrap64 (bt a0 1)) * 16777216)) (wrap64 ((wrap64 (bt a0 2)) * 65536))) (wrap64 ((wrap64 (bt a0 3)) * 256))) (wrap64 (bt a0 4))), .int .i64 (Go.bits .or .i64 (wrap64 ((wrap64 (bt a0 5)) * 256)) (wrap64 (bt a0 6))), .slice Ao56 x146003_1.length co56] 24 (0, 0)) (by (with_reducible repeat (first | refine blk_drewN ?_ _ | refine blk_drew ?_ | refine blk_alloc ?_ _)); exact BK145.out) hb); have n4_ := Aside0.mk (below_step (by repeat (first | (with_reducible first | exact HB.out | apply below_alloc | apply pw_below_drewN | apply below_drew1 | refine below_set ?_ GE144.out | refine below_set ?_ GE145.out) | exact HB.out)) hb); clear HO_146003; clear BK144; clear BK145; clear HB; have HO_146003 := n0_; have HO151 := n1_; have BK144 := n2_; have BK145 := n3_; have HB := n4_; clear n0_ n1_ n2_ n3_ n4_; (try clear hb); (try clear hb2); (try clear hk); (try clear hi); (try clear ho0); obtain ⟨Ao58, co58, eo58⟩ := Kd.R_slice HO151.out; subst eo58) | ((with_reducible refine gate_callee (f := 46) rfl ?_); refine goesL_ (some 95) rfl rfl Try.func46 (by kernel_rfl) rfl #[.slice Ao58 t149.length co58] rfl (by (try simp only [List.map_toArray, List.map_cons, List.map_nil]); first | done | rfl | (simp only [List.length_drop, List.length_take]; rfl)) ?_; (with_reducible refine (adv_sum.calls k1 _ _ t149 t152 t153 _ ?side1 ?side2 A52.out).mono ?_); (case side1 => repeat (first | exact (Kd.R_reads' HO151.out).2.2 | (with_reducible refine Kd.C_alloc ?_ _) | (with_reducible refine Kd.C_drewN ?_ _) | (with_reducible refine Kd.C_drew ?_))); (case side2 => exact (Kd.R_reads' HO151.out).2.1); rintro e w' ⟨rfl, ⟨nd, rfl⟩⟩; refine ⟨_, rfl, ?_⟩))
                           (try simp only [Act.put, List.setIfInBounds_toArray, List.set_cons_zero, List.set_cons_succ])
                           go_cut [115] (fun v115 wc => ∃ (kq : Nat) (x115_52 : Bool), v115 = .bool x115_52 ∧ Aside0 (adv_Decode.j1 kq x115_52 (wrap64 (bt a0 0)) (Go.bits .or .i64 (Go.bits .or .i64 (Go.bits .or .i64 (wrap64 ((wrap64 (bt a0 1)) * 16777216)) (wrap64 ((wrap64 (bt a0 2)) * 65536))) (wrap64 ((wrap64 (bt a0 3)) * 256))) (wrap64 (bt a0 4))) (Go.bits .or .i64 (wrap64 ((wrap64 (bt a0 5)) * 256)) (wrap64 (bt a0 6))) x146003_1 = some (r1, r2, r3, r4, r5)) ∧ Aside0 (kq ≤ k1) ∧ Aside0 (Kd.R k28 28 wc w.heap.size (fun _ => True) (.slice Ao56 x146003_1.length co56) x146003_1) ∧ Aside0 (wc.heap[gb144]? = some (.cells #[.int .i64 0, .int .i64 0, .int .i64 0, (.slice none 0 0)] 24 (0, 0))) ∧ Aside0 (wc.heap[gb145]? = some (.cells #[.int .i64 (wrap64 (bt a0 0)), .int .i64 (Go.bits .or .i64 (Go.bits .or .i64 (Go.bits .or .i64 (wrap64 ((wrap64 (bt a0 1)) * 16777216)) (wrap64 ((wrap64 (bt a0 2)) * 65536))) (wrap64 ((wrap64 (bt a0 3)) * 256))) (wrap64 (bt a0 4))), .int .i64 (Go.bits .or .i64 (wrap64 ((wrap64 (bt a0 5)) * 256)) (wrap64 (bt a0 6))), (.slice Ao56 x146003_1.length co56)] 24 (0, 0))) ∧ Aside0 (Below w.heap.size w wc))
                           case first =>
                            have H := HC53.out
                            clear HC53
                            obtain ⟨ji59, hji59⟩ : ∃ j_ : Int, (wrap64 ((a0.size : Int) - 2)) = j_ := ⟨_, rfl⟩
                            replace H : (if 0 ≤ (ji59) then (if (ji59) < (a0.size : Int) then (if (wrap64 (bt a0 (ji59))) = t152 then (if 0 ≤ (wrap64 ((a0.size : Int) - 1)) then (if (wrap64 ((a0.size : Int) - 1)) < (a0.size : Int) then (adv_Decode.j1 k1 ((wrap64 (bt a0 (wrap64 ((a0.size : Int) - 1)))) != t153) (wrap64 (bt a0 0)) (Go.bits .or .i64 (Go.bits .or .i64 (Go.bits .or .i64 (wrap64 ((wrap64 (bt a0 1)) * 16777216)) (wrap64 ((wrap64 (bt a0 2)) * 65536))) (wrap64 ((wrap64 (bt a0 3)) * 256))) (wrap64 (bt a0 4))) (Go.bits .or .i64 (wrap64 ((wrap64 (bt a0 5)) * 256)) (wrap64 (bt a0 6))) x146003_1) else (none)) else (none)) else (adv_Decode.j1 k1 true (wrap64 (bt a0 0)) (Go.bits .or .i64 (Go.bits .or .i64 (Go.bits .or .i64 (wrap64 ((wrap64 (bt a0 1)) * 16777216)) (wrap64 ((wrap64 (bt a0 2)) * 65536))) (wrap64 ((wrap64 (bt a0 3)) * 256))) (wrap64 (bt a0 4))) (Go.bits .or .i64 (wrap64 ((wrap64 (bt a0 5)) * 256)) (wrap64 (bt a0 6))) x146003_1)) else (none)) else (none)) = some (r1, r2, r3, r4, r5) := by first | (rw [hji59] at H; exact H) | (simp only [hji59] at H ⊢; exact H)
                            (try rw [hji59] at c34b0)
                            have hji59w : (IntKind.i64.wrap ((a0.size : Int) - 2)) = ji59 := (i64_w _).trans hji59
                            by_cases c60 : 0 ≤ (ji59)
                            · rw [if_pos c60] at H
                              have c60b0 : decide (0 ≤ (ji59)) = true := decide_eq_true c60
                              clear c60
                              (first | rw [c60b0] | (simp only [i64_w, i32_w]; rw [c60b0]) | skip)
                              by_cases c61 : (ji59) < (a0.size : Int)
                              · rw [if_pos c61] at H
                                have c61b0 : decide ((ji59) < (a0.size : Int)) = true := decide_eq_true c61
                                clear c61
                                by_cases c63 : (wrap64 (bt a0 (ji59))) = t152
                                · rw [if_pos c63] at H
                                  have c63b0 : ((wrap64 (bt a0 (ji59))) == t152) = true := beq_iff_eq.mpr c63
                                  have c63b1 : ((wrap64 (bt a0 (ji59))) != t152) = false := bne_eq_false_iff_eq.mpr c63
                                  clear c63
                                  obtain ⟨ji64, hji64⟩ : ∃ j_ : Int, (wrap64 ((a0.size : Int) - 1)) = j_ := ⟨_, rfl⟩
                                  replace H : (if 0 ≤ (ji64) then (if (ji64) < (a0.size : Int) then (adv_Decode.j1 k1 ((wrap64 (bt a0 (ji64))) != t153) (wrap64 (bt a0 0)) (Go.bits .or .i64 (Go.bits .or .i64 (Go.bits .or .i64 (wrap64 ((wrap64 (bt a0 1)) * 16777216)) (wrap64 ((wrap64 (bt a0 2)) * 65536))) (wrap64 ((wrap64 (bt a0 3)) * 256))) (wrap64 (bt a0 4))) (Go.bits .or .i64 (wrap64 ((wrap64 (bt a0 5)) * 256)) (wrap64 (bt a0 6))) x146003_1) else (none)) else (none)) = some (r1, r2, r3, r4, r5) := by first | (rw [hji64] at H; exact H) | (simp only [hji64] at H ⊢; exact H)
                                  have hji64w : (IntKind.i64.wrap ((a0.size : Int) - 1)) = ji64 := (i64_w _).trans hji64
                                  by_cases c65 : 0 ≤ (ji64)
                                  · rw [if_pos c65] at H
                                    have c65b0 : decide (0 ≤ (ji64)) = true := decide_eq_true c65
                                    clear c65
                                    by_cases c66 : (ji64) < (a0.size : Int)
                                    · rw [if_pos c66] at H
                                      have c66b0 : decide ((ji64) < (a0.size : Int)) = true := decide_eq_true c66
                                      clear c66
                                      have H' := Aside0.mk H
                                      clear H
                                      have p62 : 0 ≤ ((ji59) : Int) := of_decide_eq_true (by first | (with_reducible assumption) | assumption)
                                      have q62 : (ji59) < (a0.size : Int) := of_decide_eq_true (by first | (with_reducible assumption) | assumption)
                                      have hx62 := bt_at a0 (ji59)
                                      replace p62 := eq_true p62
                                      replace q62 := eq_true q62
                                      have p67 : 0 ≤ ((ji64) : Int) := of_decide_eq_true (by first | (with_reducible assumption) | assumption)
                                      have q67 : (ji64) < (a0.size : Int) := of_decide_eq_true (by first | (with_reducible assumption) | assumption)
                                      have hx67 := bt_at a0 (ji64)
                                      replace p67 := eq_true p67
                                      replace q67 := eq_true q67
                                      go_wp2
                                      go_meet
                                      case rel => exact ⟨_, (((wrap64 (bt a0 (ji64))) != t153)), (by first | rfl | (simp; done) | (simp only [← hji64] <;> (first | rfl | simp)) | (simp [*]; done)), H', ⟨by have := HK1.out; first | omega | exact Nat.le_refl _⟩, ⟨by (with_reducible repeat (first | apply Kd.R_alloc | apply Kd.R_drewN | apply Kd.R_drew)); exact HO_146003.out⟩, ⟨by (with_reducible repeat (first | refine blk_drewN ?_ _ | refine blk_drew ?_ | refine blk_alloc ?_ _)); exact BK144.out⟩, ⟨by (with_reducible repeat (first | refine blk_drewN ?_ _ | refine blk_drew ?_ | refine blk_alloc ?_ _)); exact BK145.out⟩, ⟨by repeat (first | (with_reducible first | exact HB.out | apply below_alloc | apply pw_below_drewN | apply below_drew1 | refine below_set ?_ GE144.out | refine below_set ?_ GE145.out) | exact HB.out)⟩⟩
                                    · rw [if_neg c66] at H
                                      exact absurd H (by simp)
                                  · rw [if_neg c65] at H
                                    exact absurd H (by simp)
                                · rw [if_neg c63] at H
                                  have c63b0 : ((wrap64 (bt a0 (ji59))) == t152) = false := beq_eq_false_iff_ne.mpr c63
                                  have c63b1 : ((wrap64 (bt a0 (ji59))) != t152) = true := bne_iff_ne.mpr c63
                                  have H' := Aside0.mk H
                                  clear H
                                  have p62 : 0 ≤ ((ji59) : Int) := of_decide_eq_true (by first | (with_reducible assumption) | assumption)
                                  have q62 : (ji59) < (a0.size : Int) := of_decide_eq_true (by first | (with_reducible assumption) | assumption)
                                  have hx62 := bt_at a0 (ji59)
                                  replace p62 := eq_true p62
                                  replace q62 := eq_true q62
                                  go_wp2
                                  go_meet
                                  case rel => exact ⟨_, (true), (by first | rfl | (simp; done) | (simp [*]; done)), H', ⟨by have := HK1.out; first | omega | exact Nat.le_refl _⟩, ⟨by (with_reducible repeat (first | apply Kd.R_alloc | apply Kd.R_drewN | apply Kd.R_drew)); exact HO_146003.out⟩, ⟨by (with_reducible repeat (first | refine blk_drewN ?_ _ | refine blk_drew ?_ | refine blk_alloc ?_ _)); exact BK144.out⟩, ⟨by (with_reducible repeat (first | refine blk_drewN ?_ _ | refine blk_drew ?_ | refine blk_alloc ?_ _)); exact BK145.out⟩, ⟨by repeat (first | (with_reducible first | exact HB.out | apply below_alloc | apply pw_below_drewN | apply below_drew1 | refine below_set ?_ GE144.out | refine below_set ?_ GE145.out) | exact HB.out)⟩⟩
                              · rw [if_neg c61] at H
                                exact absurd H (by simp)
                            · rw [if_neg c60] at H
                              exact absurd H (by simp)
                           case rest =>
                            clear HC53
                            try clear c1
                            try clear p1
                            try clear q1
                            try clear hx1
                            try clear qi1
                            try clear c2
                            try clear c2b0
                            try clear c2b1
                            try clear p2
                            try clear q2
                            try clear hx2
                            try clear qi2
                            try clear c3
                            try clear p3
                            try clear q3
                            try clear hx3
                            try clear c4
                            try clear p4
                            try clear q4
                            try clear hx4
                            try clear c5
                            try clear c5b0
                            try clear c5b1
                            try clear c6
                            try clear p6
                            try clear q6
                            try clear hx6
                            try clear qi6
                            try clear c7
                            try clear c7b0
                            try clear c10
                            try clear c10b0
                            try clear c13
                            try clear c13b0
                            try clear c13b1
                            try clear p14
                            try clear q14
                            try clear hx14
                            try clear qi14
                            try clear c15
                            try clear c15b0
                            try clear c15b1
                            try clear p16
                            try clear q16
                            try clear hx16
                            try clear qi16
                            try clear c17
                            try clear c17b0
                            try clear c17b1
                            try clear c18
                            try clear p18
                            try clear q18
                            try clear hx18
                            try clear qi18
                            try clear c19
                            try clear c19b0
                            try clear c19b1
                            try clear p20
                            try clear q20
                            try clear hx20
                            try clear qi20
                            try clear c21
                            try clear c21b0
                            try clear c21b1
                            try clear p22
                            try clear q22
                            try clear hx22
                            try clear qi22
                            try clear c23
                            try clear c23b0
                            try clear c23b1
                            try clear p24
                            try clear q24
                            try clear hx24
                            try clear qi24
                            try clear c25
                            try clear c25b0
                            try clear c25b1
                            try clear p26
                            try clear q26
                            try clear hx26
                            try clear qi26
                            try clear c34
                            try clear c34b0
                            try clear c35
                            try clear c35b0
                            try clear c36
                            try clear c36b0
                            try clear p37
                            try clear q37
                            try clear hx37
                            try clear c39
                            try clear c39b0
                            try clear c40
                            try clear c40b0
                            try clear p41
                            try clear q41
                            try clear hx41
                            try clear c43
                            try clear c43b0
                            try clear c44
                            try clear c44b0
                            try clear p45
                            try clear q45
                            try clear hx45
                            try clear c46
                            try clear c47
                            try clear c54
                            try clear c60
                            try clear c60b0
                            try clear c61
                            try clear c61b0
                            try clear p62
                            try clear q62
                            try clear hx62
                            try clear c63
                            try clear c63b0
                            try clear c63b1
                            try clear p64
                            try clear c65
                            try clear c65b0
                            try clear c66
                            try clear c66b0
                            try clear p67
                            try clear q67
                            try clear hx67
                            try clear hcz12_0
                            try clear hcz12_1
                            try clear hcz12_2
                            try clear hcz12_3
                            try clear hcz4_0
                            try clear hcz4_1
                            try clear hcz4_2
                            try clear hcz4_3
                            try clear hcz55_0
                            try clear hcz55_1
                            try clear hcz55_2
                            try clear hcz55_3
                            try clear hcz9_0
                            try clear hcz9_1
                            try clear hcz9_2
                            try clear hcz9_3
                            try clear hfz12_0
                            try clear hfz12_1
                            try clear hfz12_2
                            try clear hfz12_3
                            try clear hfz4_0
                            try clear hfz4_1
                            try clear hfz4_2
                            try clear hfz4_3
                            try clear hfz55_0
                            try clear hfz55_1
                            try clear hfz55_2
                            try clear hfz55_3
                            try clear hfz9_0
                            try clear hfz9_1
                            try clear hfz9_2
                            try clear hfz9_3
                            try clear p1
                            try clear p14
                            try clear p16
                            try clear p18
                            try clear p2
                            try clear p20
                            try clear p22
                            try clear p24
                            try clear p26
                            try clear p37
                            try clear p41
                            try clear p45
                            try clear p6
                            try clear p62
                            try clear p67
                            try clear q1
                            try clear q14
                            try clear q16
                            try clear q18
                            try clear q2
                            try clear q20
                            try clear q22
                            try clear q24
                            try clear q26
                            try clear q37
                            try clear q41
                            try clear q45
                            try clear q6
                            try clear q62
                            try clear q67
                            obtain ⟨kq, x115_52, rfl, HA, HJ52, HO_146003, BK144, BK145, HB⟩ := hcut
                            cases kq with
                            | zero => exact absurd HA.out (by simp [adv_Decode.j1])
                            | succ kj52 =>
                             have H := HA.out
                             clear HA
                             simp only [adv_Decode.j1] at H
                             by_cases c68 : x115_52 = true
                             · subst c68
                               have H1 : (some (0, 0, 0, ([] : List (S28)), 8)) = some (r1, r2, r3, r4, r5) := by rw [if_pos rfl] at H; exact H
                               clear H
                               have H := H1
                               clear H1
                               simp only [Option.some.injEq, Prod.mk.injEq] at H
                               obtain ⟨rfl, rfl, rfl, rfl, rfl⟩ := H
                               have hnb69 := NB144_145.out
                               have hnc69 := NB145_144.out
                               have hcz70_0 : wc.cell? ⟨gb144, 0, none⟩ = some (.int .i64 0) := (blk_cell BK144.out 0).trans rfl
                               have hcz70_1 : wc.cell? ⟨gb144, 1, none⟩ = some (.int .i64 0) := (blk_cell BK144.out 1).trans rfl
                               have hcz70_2 : wc.cell? ⟨gb144, 2, none⟩ = some (.int .i64 0) := (blk_cell BK144.out 2).trans rfl
                               have hcz70_3 : wc.cell? ⟨gb144, 3, none⟩ = some (.slice none 0 0) := (blk_cell BK144.out 3).trans rfl
                               have hfz70_0 := blk_frozen BK144.out 0
                               have hfz70_1 := blk_frozen BK144.out 1
                               have hfz70_2 := blk_frozen BK144.out 2
                               have hfz70_3 := blk_frozen BK144.out 3
                               go_wp2
                               refine bodyPost_ret (results_ct rfl _ _ gb144 24 #[.int .i64 0, .int .i64 0, .int .i64 0, .slice none 0 0] (0, 0) _ rfl (by (with_reducible repeat (first | refine blk_drewN ?_ _ | refine blk_drew ?_ | refine blk_alloc ?_ _)); refine blk_put (cs := #[.int .i64 0, .int .i64 0, .int .i64 0, .slice none 0 0]) ?_ 3 _ rfl; (with_reducible repeat (first | refine blk_drewN ?_ _ | refine blk_drew ?_ | refine blk_alloc ?_ _)); refine blk_put (cs := #[.int .i64 0, .int .i64 0, .int .i64 0, .slice none 0 0]) ?_ 2 _ rfl; (with_reducible repeat (first | refine blk_drewN ?_ _ | refine blk_drew ?_ | refine blk_alloc ?_ _)); refine blk_put (cs := #[.int .i64 0, .int .i64 0, .int .i64 0, .slice none 0 0]) ?_ 1 _ rfl; (with_reducible repeat (first | refine blk_drewN ?_ _ | refine blk_drew ?_ | refine blk_alloc ?_ _)); refine blk_put (cs := #[.int .i64 0, .int .i64 0, .int .i64 0, .slice none 0 0]) ?_ 0 _ rfl; (with_reducible repeat (first | refine blk_drewN ?_ _ | refine blk_drew ?_ | refine blk_alloc ?_ _)); exact BK144.out) Try.underlying24 rfl (by kernel_rfl)) rfl ?_
                               exact ⟨_, by first | rfl | (simp [errW_none, errW_some] <;> rfl) | (simp [*, errW_none, errW_some] <;> rfl), by first | exact Kd.R_nil _ _ _ _ _ | exact Kd.N_nil _ _ _ _ _ | exact Kd.V_nil _ _ _ _ _ | exact Kd.Q_nil _ _ _ _ _ | exact Kd.S_nil _ _ _ _ _, by repeat (first | (with_reducible first | exact HB.out | apply below_alloc | apply pw_below_drewN | apply below_drew1 | refine below_set ?_ GE144.out | refine below_set ?_ GE145.out) | exact HB.out)⟩
                             · replace c68 := Bool.eq_false_iff.mpr c68
                               subst c68
                               have H1 : ((adv_Check.f kj52 (wrap64 (bt a0 0)) (Go.bits .or .i64 (Go.bits .or .i64 (Go.bits .or .i64 (wrap64 ((wrap64 (bt a0 1)) * 16777216)) (wrap64 ((wrap64 (bt a0 2)) * 65536))) (wrap64 ((wrap64 (bt a0 3)) * 256))) (wrap64 (bt a0 4))) (Go.bits .or .i64 (wrap64 ((wrap64 (bt a0 5)) * 256)) (wrap64 (bt a0 6))) x146003_1).bind fun t154 => (if t154 = 0 then (some ((wrap64 (bt a0 0)), (Go.bits .or .i64 (Go.bits .or .i64 (Go.bits .or .i64 (wrap64 ((wrap64 (bt a0 1)) * 16777216)) (wrap64 ((wrap64 (bt a0 2)) * 65536))) (wrap64 ((wrap64 (bt a0 3)) * 256))) (wrap64 (bt a0 4))), (Go.bits .or .i64 (wrap64 ((wrap64 (bt a0 5)) * 256)) (wrap64 (bt a0 6))), x146003_1, 0)) else (some (0, 0, 0, ([] : List (S28)), t154)))) = some (r1, r2, r3, r4, r5) := by rw [if_neg (show ¬ (false = true) by decide)] at H; exact H
                               clear H
                               have H := H1
                               clear H1
                               replace H := Option.bind_eq_some_iff.mp H
                               obtain ⟨t154, A710, H⟩ := H
                               replace H : (if t154 = 0 then (some ((wrap64 (bt a0 0)), (Go.bits .or .i64 (Go.bits .or .i64 (Go.bits .or .i64 (wrap64 ((wrap64 (bt a0 1)) * 16777216)) (wrap64 ((wrap64 (bt a0 2)) * 65536))) (wrap64 ((wrap64 (bt a0 3)) * 256))) (wrap64 (bt a0 4))), (Go.bits .or .i64 (wrap64 ((wrap64 (bt a0 5)) * 256)) (wrap64 (bt a0 6))), x146003_1, 0)) else (some (0, 0, 0, ([] : List (S28)), t154))) = some (r1, r2, r3, r4, r5) := H
                               have A71 := Aside0.mk A710
                               clear A710
                               by_cases c72 : t154 = 0
                               · rw [if_pos c72] at H
                                 have c72b0 : (t154 == 0) = true := beq_iff_eq.mpr c72
                                 have c72b1 : (t154 != 0) = false := bne_eq_false_iff_eq.mpr c72
                                 clear c72
                                 simp only [Option.some.injEq, Prod.mk.injEq] at H
                                 obtain ⟨rfl, rfl, rfl, rfl, rfl⟩ := H
                                 have hnb73 := NB145_144.out
                                 have hnc73 := NB144_145.out
                                 have hcz74_0 : wc.cell? ⟨gb145, 0, none⟩ = some (.int .i64 (wrap64 (bt a0 0))) := (blk_cell BK145.out 0).trans rfl
                                 have hcz74_1 : wc.cell? ⟨gb145, 1, none⟩ = some (.int .i64 (Go.bits .or .i64 (Go.bits .or .i64 (Go.bits .or .i64 (wrap64 ((wrap64 (bt a0 1)) * 16777216)) (wrap64 ((wrap64 (bt a0 2)) * 65536))) (wrap64 ((wrap64 (bt a0 3)) * 256))) (wrap64 (bt a0 4)))) := (blk_cell BK145.out 1).trans rfl
                                 have hcz74_2 : wc.cell? ⟨gb145, 2, none⟩ = some (.int .i64 (Go.bits .or .i64 (wrap64 ((wrap64 (bt a0 5)) * 256)) (wrap64 (bt a0 6)))) := (blk_cell BK145.out 2).trans rfl
                                 have hcz74_3 : wc.cell? ⟨gb145, 3, none⟩ = some (.slice Ao56 x146003_1.length co56) := (blk_cell BK145.out 3).trans rfl
                                 have hfz74_0 := blk_frozen BK145.out 0
                                 have hfz74_1 := blk_frozen BK145.out 1
                                 have hfz74_2 := blk_frozen BK145.out 2
                                 have hfz74_3 := blk_frozen BK145.out 3
                                 go_wp2_with (first | ((with_reducible refine gate_callee (f := 17) rfl ?_); refine goesL_ (some 118) rfl rfl Try.func17 (by kernel_rfl) rfl #[.agg #[.int .i64 (wrap64 (bt a0 0)), .int .i64 (Go.bits .or .i64 (Go.bits .or .i64 (Go.bits .or .i64 (wrap64 ((wrap64 (bt a0 1)) * 16777216)) (wrap64 ((wrap64 (bt a0 2)) * 65536))) (wrap64 ((wrap64 (bt a0 3)) * 256))) (wrap64 (bt a0 4))), .int .i64 (Go.bits .or .i64 (wrap64 ((wrap64 (bt a0 5)) * 256)) (wrap64 (bt a0 6))), .slice Ao56 x146003_1.length co56]] rfl (by (try simp only [List.map_toArray, List.map_cons, List.map_nil]); first | done | rfl | (simp only [List.length_drop, List.length_take]; rfl)) ?_; (with_reducible refine (adv_Check.calls kj52 (wrap64 (bt a0 0)) (Go.bits .or .i64 (Go.bits .or .i64 (Go.bits .or .i64 (wrap64 ((wrap64 (bt a0 1)) * 16777216)) (wrap64 ((wrap64 (bt a0 2)) * 65536))) (wrap64 ((wrap64 (bt a0 3)) * 256))) (wrap64 (bt a0 4))) (Go.bits .or .i64 (wrap64 ((wrap64 (bt a0 5)) * 256)) (wrap64 (bt a0 6))) _ _ x146003_1 t154 _ ?side1 ?side2 A71.out).mono ?_); (case side1 => repeat (first | exact (Kd.R_reads' HO_146003.out).2.2 | (with_reducible refine Kd.C_alloc ?_ _) | (with_reducible refine Kd.C_drewN ?_ _) | (with_reducible refine Kd.C_drew ?_))); (case side2 => exact (Kd.R_reads' HO_146003.out).2.1); rintro e w75 ⟨rfl, hb⟩; refine ⟨_, rfl, ?_⟩; have n0_ := Aside0.mk (Kd.R_below (by (with_reducible repeat (first | apply Kd.R_alloc | apply Kd.R_drewN | apply Kd.R_drew)); exact HO_146003.out) hb); have n1_ := Aside0.mk (blk_below (g := gb144) (o := .cells #[.int .i64 0, .int .i64 0, .int .i64 0, .slice none 0 0] 24 (0, 0)) (by (with_reducible repeat (first | refine blk_drewN ?_ _ | refine blk_drew ?_ | refine blk_alloc ?_ _)); exact BK144.out) hb); have n2_ := Aside0.mk (blk_below (g := gb145) (o := .cells #[.int .i64 (wrap64 (bt a0 0)), .int .i64 (Go.bits .or .i64 (Go.bits .or .i64 (Go.bits .or .i64 (wrap64 ((wrap64 (bt a0 1)) * 16777216)) (wrap64 ((wrap64 (bt a0 2)) * 65536))) (wrap64 ((wrap64 (bt a0 3)) * 256))) (wrap64 (bt a0 4))), .int .i64 (Go.bits .or .i64 (wrap64 ((wrap64 (bt a0 5)) * 256)) (wrap64 (bt a0 6))), .slice Ao56 x146003_1.length co56] 24 (0, 0)) (by (with_reducible repeat (first | refine blk_drewN ?_ _ | refine blk_drew ?_ | refine blk_alloc ?_ _)); exact BK145.out) hb); have n3_ := Aside0.mk (below_step (by repeat (first | (with_reducible first | exact HB.out | apply below_alloc | apply pw_below_drewN | apply below_drew1 | refine below_set ?_ GE144.out | refine below_set ?_ GE145.out) | exact HB.out)) hb); clear HO_146003; clear BK144; clear BK145; clear HB; have HO_146003 := n0_; have BK144 := n1_; have BK145 := n2_; have HB := n3_; clear n0_ n1_ n2_ n3_; (try clear hb); (try clear hb2); (try clear hk); (try clear hi); have hcz76_0 : w75.cell? ⟨gb145, 0, none⟩ = some (.int .i64 (wrap64 (bt a0 0))) := (blk_cell BK145.out 0).trans rfl; have hcz76_1 : w75.cell? ⟨gb145, 1, none⟩ = some (.int .i64 (Go.bits .or .i64 (Go.bits .or .i64 (Go.bits .or .i64 (wrap64 ((wrap64 (bt a0 1)) * 16777216)) (wrap64 ((wrap64 (bt a0 2)) * 65536))) (wrap64 ((wrap64 (bt a0 3)) * 256))) (wrap64 (bt a0 4)))) := (blk_cell BK145.out 1).trans rfl; have hcz76_2 : w75.cell? ⟨gb145, 2, none⟩ = some (.int .i64 (Go.bits .or .i64 (wrap64 ((wrap64 (bt a0 5)) * 256)) (wrap64 (bt a0 6)))) := (blk_cell BK145.out 2).trans rfl; have hcz76_3 : w75.cell? ⟨gb145, 3, none⟩ = some (.slice Ao56 x146003_1.length co56) := (blk_cell BK145.out 3).trans rfl; have hfz76_0 := blk_frozen BK145.out 0; have hfz76_1 := blk_frozen BK145.out 1; have hfz76_2 := blk_frozen BK145.out 2; have hfz76_3 := blk_frozen BK145.out 3; have hcz77_0 : w75.cell? ⟨gb144, 0, none⟩ = some (.int .i64 0) := (blk_cell BK144.out 0).trans rfl; have hcz77_1 : w75.cell? ⟨gb144, 1, none⟩ = some (.int .i64 0) := (blk_cell BK144.out 1).trans rfl; have hcz77_2 : w75.cell? ⟨gb144, 2, none⟩ = some (.int .i64 0) := (blk_cell BK144.out 2).trans rfl; have hcz77_3 : w75.cell? ⟨gb144, 3, none⟩ = some (.slice none 0 0) := (blk_cell BK144.out 3).trans rfl; have hfz77_0 := blk_frozen BK144.out 0; have hfz77_1 := blk_frozen BK144.out 1; have hfz77_2 := blk_frozen BK144.out 2; have hfz77_3 := blk_frozen BK144.out 3))
                                 refine bodyPost_ret (results_ct rfl _ _ gb144 24 #[.int .i64 (wrap64 (bt a0 0)), .int .i64 (Go.bits .or .i64 (Go.bits .or .i64 (Go.bits .or .i64 (wrap64 ((wrap64 (bt a0 1)) * 16777216)) (wrap64 ((wrap64 (bt a0 2)) * 65536))) (wrap64 ((wrap64 (bt a0 3)) * 256))) (wrap64 (bt a0 4))), .int .i64 (Go.bits .or .i64 (wrap64 ((wrap64 (bt a0 5)) * 256)) (wrap64 (bt a0 6))), .slice Ao56 x146003_1.length co56] (0, 0) _ rfl (by (with_reducible repeat (first | refine blk_drewN ?_ _ | refine blk_drew ?_ | refine blk_alloc ?_ _)); refine blk_put (cs := #[.int .i64 (wrap64 (bt a0 0)), .int .i64 (Go.bits .or .i64 (Go.bits .or .i64 (Go.bits .or .i64 (wrap64 ((wrap64 (bt a0 1)) * 16777216)) (wrap64 ((wrap64 (bt a0 2)) * 65536))) (wrap64 ((wrap64 (bt a0 3)) * 256))) (wrap64 (bt a0 4))), .int .i64 (Go.bits .or .i64 (wrap64 ((wrap64 (bt a0 5)) * 256)) (wrap64 (bt a0 6))), .slice none 0 0]) ?_ 3 _ rfl; (with_reducible repeat (first | refine blk_drewN ?_ _ | refine blk_drew ?_ | refine blk_alloc ?_ _)); refine blk_put (cs := #[.int .i64 (wrap64 (bt a0 0)), .int .i64 (Go.bits .or .i64 (Go.bits .or .i64 (Go.bits .or .i64 (wrap64 ((wrap64 (bt a0 1)) * 16777216)) (wrap64 ((wrap64 (bt a0 2)) * 65536))) (wrap64 ((wrap64 (bt a0 3)) * 256))) (wrap64 (bt a0 4))), .int .i64 0, .slice none 0 0]) ?_ 2 _ rfl; (with_reducible repeat (first | refine blk_drewN ?_ _ | refine blk_drew ?_ | refine blk_alloc ?_ _)); refine blk_put (cs := #[.int .i64 (wrap64 (bt a0 0)), .int .i64 0, .int .i64 0, .slice none 0 0]) ?_ 1 _ rfl; (with_reducible repeat (first | refine blk_drewN ?_ _ | refine blk_drew ?_ | refine blk_alloc ?_ _)); refine blk_put (cs := #[.int .i64 0, .int .i64 0, .int .i64 0, .slice none 0 0]) ?_ 0 _ rfl; (with_reducible repeat (first | refine blk_drewN ?_ _ | refine blk_drew ?_ | refine blk_alloc ?_ _)); exact BK144.out) Try.underlying24 rfl (by kernel_rfl)) rfl ?_
                                 exact ⟨_, by first | rfl | (simp [errW_none, errW_some] <;> rfl) | (simp [*, errW_none, errW_some] <;> rfl), by (with_reducible repeat (first | apply Kd.R_alloc | apply Kd.R_drewN | apply Kd.R_drew)); exact Kd.R_mono (Kd.R_far (p := ⟨gb144, 3, none⟩) (Kd.R_far (p := ⟨gb144, 2, none⟩) (Kd.R_far (p := ⟨gb144, 1, none⟩) (Kd.R_far (p := ⟨gb144, 0, none⟩) (Kd.R_types HO_146003.out BK144.out (by decide)) (fun _ hk => hk.2) (.int .i64 (wrap64 (bt a0 0)))) (fun _ hk => hk.2) (.int .i64 (Go.bits .or .i64 (Go.bits .or .i64 (Go.bits .or .i64 (wrap64 ((wrap64 (bt a0 1)) * 16777216)) (wrap64 ((wrap64 (bt a0 2)) * 65536))) (wrap64 ((wrap64 (bt a0 3)) * 256))) (wrap64 (bt a0 4))))) (fun _ hk => hk.2) (.int .i64 (Go.bits .or .i64 (wrap64 ((wrap64 (bt a0 5)) * 256)) (wrap64 (bt a0 6))))) (fun _ hk => hk.2) (.slice Ao56 x146003_1.length co56)) (fun _ hk => trivial), by repeat (first | (with_reducible first | exact HB.out | apply below_alloc | apply pw_below_drewN | apply below_drew1 | refine below_set ?_ GE144.out | refine below_set ?_ GE145.out) | exact HB.out)⟩
                               · rw [if_neg c72] at H
                                 have c72b0 : (t154 == 0) = false := beq_eq_false_iff_ne.mpr c72
                                 have c72b1 : (t154 != 0) = true := bne_iff_ne.mpr c72
                                 simp only [Option.some.injEq, Prod.mk.injEq] at H
                                 obtain ⟨rfl, rfl, rfl, rfl, rfl⟩ := H
                                 have hnb78 := NB145_144.out
                                 have hnc78 := NB144_145.out
                                 have hcz79_0 : wc.cell? ⟨gb145, 0, none⟩ = some (.int .i64 (wrap64 (bt a0 0))) := (blk_cell BK145.out 0).trans rfl
                                 have hcz79_1 : wc.cell? ⟨gb145, 1, none⟩ = some (.int .i64 (Go.bits .or .i64 (Go.bits .or .i64 (Go.bits .or .i64 (wrap64 ((wrap64 (bt a0 1)) * 16777216)) (wrap64 ((wrap64 (bt a0 2)) * 65536))) (wrap64 ((wrap64 (bt a0 3)) * 256))) (wrap64 (bt a0 4)))) := (blk_cell BK145.out 1).trans rfl
                                 have hcz79_2 : wc.cell? ⟨gb145, 2, none⟩ = some (.int .i64 (Go.bits .or .i64 (wrap64 ((wrap64 (bt a0 5)) * 256)) (wrap64 (bt a0 6)))) := (blk_cell BK145.out 2).trans rfl
                                 have hcz79_3 : wc.cell? ⟨gb145, 3, none⟩ = some (.slice Ao56 x146003_1.length co56) := (blk_cell BK145.out 3).trans rfl
                                 have hfz79_0 := blk_frozen BK145.out 0
                                 have hfz79_1 := blk_frozen BK145.out 1
                                 have hfz79_2 := blk_frozen BK145.out 2
                                 have hfz79_3 := blk_frozen BK145.out 3
                                 go_wp2_with (first | ((with_reducible refine gate_callee (f := 17) rfl ?_); refine goesL_ (some 118) rfl rfl Try.func17 (by kernel_rfl) rfl #[.agg #[.int .i64 (wrap64 (bt a0 0)), .int .i64 (Go.bits .or .i64 (Go.bits .or .i64 (Go.bits .or .i64 (wrap64 ((wrap64 (bt a0 1)) * 16777216)) (wrap64 ((wrap64 (bt a0 2)) * 65536))) (wrap64 ((wrap64 (bt a0 3)) * 256))) (wrap64 (bt a0 4))), .int .i64 (Go.bits .or .i64 (wrap64 ((wrap64 (bt a0 5)) * 256)) (wrap64 (bt a0 6))), .slice Ao56 x146003_1.length co56]] rfl (by (try simp only [List.map_toArray, List.map_cons, List.map_nil]); first | done | rfl | (simp only [List.length_drop, List.length_take]; rfl)) ?_; (with_reducible refine (adv_Check.calls kj52 (wrap64 (bt a0 0)) (Go.bits .or .i64 (Go.bits .or .i64 (Go.bits .or .i64 (wrap64 ((wrap64 (bt a0 1)) * 16777216)) (wrap64 ((wrap64 (bt a0 2)) * 65536))) (wrap64 ((wrap64 (bt a0 3)) * 256))) (wrap64 (bt a0 4))) (Go.bits .or .i64 (wrap64 ((wrap64 (bt a0 5)) * 256)) (wrap64 (bt a0 6))) _ _ x146003_1 t154 _ ?side1 ?side2 A71.out).mono ?_); (case side1 => repeat (first | exact (Kd.R_reads' HO_146003.out).2.2 | (with_reducible refine Kd.C_alloc ?_ _) | (with_reducible refine Kd.C_drewN ?_ _) | (with_reducible refine Kd.C_drew ?_))); (case side2 => exact (Kd.R_reads' HO_146003.out).2.1); rintro e w80 ⟨rfl, hb⟩; refine ⟨_, rfl, ?_⟩; have n0_ := Aside0.mk (Kd.R_below (by (with_reducible repeat (first | apply Kd.R_alloc | apply Kd.R_drewN | apply Kd.R_drew)); exact HO_146003.out) hb); have n1_ := Aside0.mk (blk_below (g := gb144) (o := .cells #[.int .i64 0, .int .i64 0, .int .i64 0, .slice none 0 0] 24 (0, 0)) (by (with_reducible repeat (first | refine blk_drewN ?_ _ | refine blk_drew ?_ | refine blk_alloc ?_ _)); exact BK144.out) hb); have n2_ := Aside0.mk (blk_below (g := gb145) (o := .cells #[.int .i64 (wrap64 (bt a0 0)), .int .i64 (Go.bits .or .i64 (Go.bits .or .i64 (Go.bits .or .i64 (wrap64 ((wrap64 (bt a0 1)) * 16777216)) (wrap64 ((wrap64 (bt a0 2)) * 65536))) (wrap64 ((wrap64 (bt a0 3)) * 256))) (wrap64 (bt a0 4))), .int .i64 (Go.bits .or .i64 (wrap64 ((wrap64 (bt a0 5)) * 256)) (wrap64 (bt a0 6))), .slice Ao56 x146003_1.length co56] 24 (0, 0)) (by (with_reducible repeat (first | refine blk_drewN ?_ _ | refine blk_drew ?_ | refine blk_alloc ?_ _)); exact BK145.out) hb); have n3_ := Aside0.mk (below_step (by repeat (first | (with_reducible first | exact HB.out | apply below_alloc | apply pw_below_drewN | apply below_drew1 | refine below_set ?_ GE144.out | refine below_set ?_ GE145.out) | exact HB.out)) hb); clear HO_146003; clear BK144; clear BK145; clear HB; have HO_146003 := n0_; have BK144 := n1_; have BK145 := n2_; have HB := n3_; clear n0_ n1_ n2_ n3_; (try clear hb); (try clear hb2); (try clear hk); (try clear hi); have hcz81_0 : w80.cell? ⟨gb144, 0, none⟩ = some (.int .i64 0) := (blk_cell BK144.out 0).trans rfl; have hcz81_1 : w80.cell? ⟨gb144, 1, none⟩ = some (.int .i64 0) := (blk_cell BK144.out 1).trans rfl; have hcz81_2 : w80.cell? ⟨gb144, 2, none⟩ = some (.int .i64 0) := (blk_cell BK144.out 2).trans rfl; have hcz81_3 : w80.cell? ⟨gb144, 3, none⟩ = some (.slice none 0 0) := (blk_cell BK144.out 3).trans rfl; have hfz81_0 := blk_frozen BK144.out 0; have hfz81_1 := blk_frozen BK144.out 1; have hfz81_2 := blk_frozen BK144.out 2; have hfz81_3 := blk_frozen BK144.out 3))
                                 refine bodyPost_ret (results_ct rfl _ _ gb144 24 #[.int .i64 0, .int .i64 0, .int .i64 0, .slice none 0 0] (0, 0) _ rfl (by (with_reducible repeat (first | refine blk_drewN ?_ _ | refine blk_drew ?_ | refine blk_alloc ?_ _)); refine blk_put (cs := #[.int .i64 0, .int .i64 0, .int .i64 0, .slice none 0 0]) ?_ 3 _ rfl; (with_reducible repeat (first | refine blk_drewN ?_ _ | refine blk_drew ?_ | refine blk_alloc ?_ _)); refine blk_put (cs := #[.int .i64 0, .int .i64 0, .int .i64 0, .slice none 0 0]) ?_ 2 _ rfl; (with_reducible repeat (first | refine blk_drewN ?_ _ | refine blk_drew ?_ | refine blk_alloc ?_ _)); refine blk_put (cs := #[.int .i64 0, .int .i64 0, .int .i64 0, .slice none 0 0]) ?_ 1 _ rfl; (with_reducible repeat (first | refine blk_drewN ?_ _ | refine blk_drew ?_ | refine blk_alloc ?_ _)); refine blk_put (cs := #[.int .i64 0, .int .i64 0, .int .i64 0, .slice none 0 0]) ?_ 0 _ rfl; (with_reducible repeat (first | refine blk_drewN ?_ _ | refine blk_drew ?_ | refine blk_alloc ?_ _)); exact BK144.out) Try.underlying24 rfl (by kernel_rfl)) rfl ?_
                                 exact ⟨_, by first | rfl | (simp [errW_none, errW_some] <;> rfl) | (simp [*, errW_none, errW_some] <;> rfl), by first | exact Kd.R_nil _ _ _ _ _ | exact Kd.N_nil _ _ _ _ _ | exact Kd.V_nil _ _ _ _ _ | exact Kd.Q_nil _ _ _ _ _ | exact Kd.S_nil _ _ _ _ _, by repeat (first | (with_reducible first | exact HB.out | apply below_alloc | apply pw_below_drewN | apply below_drew1 | refine below_set ?_ GE144.out | refine below_set ?_ GE145.out) | exact HB.out)⟩
                     · rw [if_neg c25] at H
                       exact absurd H (by simp)
                   · rw [if_neg c23] at H
                     exact absurd H (by simp)
                 · rw [if_neg c21] at H
                   exact absurd H (by simp)
               · rw [if_neg c19] at H
                 exact absurd H (by simp)
             · rw [if_neg c17] at H
               exact absurd H (by simp)
           · rw [if_neg c15] at H
             exact absurd H (by simp)
         · rw [if_neg c13] at H
           exact absurd H (by simp)
   · rw [if_neg c5] at H
     exact absurd H (by simp)
end Go.Proofs.Ytaneaabmgnanbaa.PAdvBack
