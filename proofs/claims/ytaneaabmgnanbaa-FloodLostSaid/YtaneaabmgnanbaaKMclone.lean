import Derived.Test.YtaneaabmgnanbaaKMidx
import Derived.LoopTactic
namespace Go.Proofs.Ytaneaabmgnanbaa.M
open Go.RowKit Go.Proofs.YtaneaabmgnanbaaW.PrintWords Go.Proofs.YtaneaabmgnanbaaW.PrintLast Go.Proofs.YtaneaabmgnanbaaW.PrintMore Go.Proofs.Ytaneaabmgnanbaa.PAdvBack
set_option linter.unusedVariables false
set_option linter.unusedSimpArgs false
theorem info28 : (Try.prog.info? 28).map (fun i => (i.zero, i.size, i.bytes)) = some (some (.agg #[.int .i64 0, .int .i64 0]), 2, 16) := by kernel_rfl
theorem R_empty (W : World) (base : Nat) (hb : base ≤ W.heap.size) : Kd.R k28 28 (W.alloc (.cells #[] 28)) base (fun k => base ≤ k) (.slice (some ⟨W.heap.size, 0, none⟩) 0 0) [] := by
 refine ⟨fun k hk => ?_, ?_⟩
 · simp [Value.ownBlock] at hk; omega
 · exact OwnRow.lit W base (inner := []) (Reps.none _ _) hb (by simp)
theorem eq_some (ad : Addr) (n c : Nat) (W : World) : Sem.run Try.prog (binOp BinOp.eql 22 (.slice (some ad) n c) (.slice none 0 0)) W = .ok (.bool false) W := by kernel_rfl
theorem eq_none (c : Nat) (W : World) : Sem.run Try.prog (binOp BinOp.eql 22 (.slice none 0 c) (.slice none 0 0)) W = .ok (.bool true) W := by kernel_rfl
set_option maxHeartbeats 1000000 in
set_option maxRecDepth 100000 in
theorem Clone71_some (ad : Addr) (c : Nat) (ls : List S28) (w : World) (hn : ls.length ≤ 1000) (hK : Hid (Kd.C k28 w (some ad) ls.length ls)) :
 Calls Try.prog 71 #[.slice (some ad) ls.length c] w fun e w' => ∃ v, e = .returned v ∧ Kd.R k28 28 w' w.heap.size (fun k => w.heap.size ≤ k) v ls ∧ Below w.heap.size w w' := by
 have hu := Try.underlying22
 have hu2 := Try.underlying28
 have he := eq_some ad ls.length c
 go_enter Try.func71, Try.ntmps71
 have HB0 := Lib.hid (below_alloc (Below.refl w.heap.size w) (.cells #[] 28))
 have HC0 := Lib.hid (Kd.C_below hK.out HB0.out)
 have HR0 := Lib.hid (R_empty w w.heap.size (Nat.le_refl _))
 go_wp2_with ((with_reducible refine gate_builtin (b := .append) (xs := #[.tmp 5, .tmp 6]) rfl ?_); at_builtin; refine Kd.R_append_rows k28 (Rr := k28.K (w.alloc (.cells #[] 28))) (w0 := w) w.heap.size rfl (.tmp 5) (.tmp 6) 22 28 (.agg #[.int .i64 0, .int .i64 0]) 16 rfl Try.underlying22 info28 rfl (by decide) (by omega) _ [] ls (some ad) ls.length c (fun k => w.heap.size ≤ k) (fun _ => False) rfl rfl ?aO ?aC (fun x cs h => ?aM) (fun _ hk => hk.elim) ?aF ?aB ?aS ?aL ?_; (case aO => exact HR0.out); (case aC => exact HC0.out); (case aM => rw [k28_open h]; exact k28_mkM _ _ _ _); (case aF => exact fun k hk => Nat.le_trans HB0.out.size hk); (case aB => exact HB0.out); (case aS => exact HB0.out.size); (case aL => simp; omega); intro v1 w1 ho hb hg hat; have HR1 := Lib.hid ho; have HB1 := Lib.hid hb; clear ho hb hg hat)
 go_ret
 exact ⟨_, rfl, HR1.out, HB1.out⟩
set_option maxHeartbeats 1000000 in
set_option maxRecDepth 100000 in
theorem Clone71_none (c : Nat) (w : World) :
 Calls Try.prog 71 #[.slice none 0 c] w fun e w' => ∃ v, e = .returned v ∧ Kd.R k28 28 w' w.heap.size (fun k => w.heap.size ≤ k) v [] ∧ Below w.heap.size w w' := by
 have hu := Try.underlying22
 have hu2 := Try.underlying28
 have he := eq_none c
 go_enter Try.func71, Try.ntmps71
 go_wp2_with fail
 go_ret
 exact ⟨_, rfl, Kd.R_nil _ _ _ _ _, Below.refl _ _⟩
theorem Clone71 (A : Option Addr) (c : Nat) (ls : List S28) (w : World) (hn : ls.length ≤ 1000) (hK : Hid (Kd.C k28 w A ls.length ls)) :
 Calls Try.prog 71 #[.slice A ls.length c] w fun e w' => ∃ v, e = .returned v ∧ Kd.R k28 28 w' w.heap.size (fun k => w.heap.size ≤ k) v ls ∧ Below w.heap.size w w' := by
 cases A with
 | some ad => exact Clone71_some ad c ls w hn hK
 | none =>
  rcases Nat.eq_zero_or_pos ls.length with h0 | h0
  · have hx : ls = [] := List.eq_nil_of_length_eq_zero h0
    subst hx
    exact Clone71_none c w
  · obtain ⟨ad, e, _⟩ := C28_cell hK.out h0
    cases e
set_option maxHeartbeats 1000000 in
set_option maxRecDepth 100000 in
theorem own53 (x y z : Int) (A : Option Addr) (c : Nat) (ls : List S28) (w : World) (hn : ls.length ≤ 1000) (hK : Hid (Kd.C k28 w A ls.length ls)) :
 Calls Try.prog 53 #[.agg #[.int .i64 x, .int .i64 y, .int .i64 z, .slice A ls.length c]] w fun e w' => ∃ A' c', e = .returned (.agg #[.int .i64 x, .int .i64 y, .int .i64 z, .slice A' ls.length c']) ∧ ls.length ≤ c' ∧ Kd.R k28 28 w' w.heap.size (fun k => w.heap.size ≤ k) (.slice A' ls.length c') ls ∧ Below w.heap.size w w' := by
 have hu := Try.underlying22
 have hu2 := Try.underlying24
 go_enter Try.func53, Try.ntmps53
 go_wp2_with fail
 have HX1_0 := Lib.hid (show ((w.alloc (.cells #[.int .i64 x, .int .i64 y, .int .i64 z, .slice A ls.length c] 24)).alloc (.cells #[.int .i64 0, .int .i64 0, .int .i64 0, .slice none 0 0] 24)).heap[w.heap.size]? = _ from blk_keep ((Below.refl _ _).alloc (Nat.le_refl _) _) (blk_alloc w _))
 have HX1_1 := Lib.hid (blk_alloc_at (w.alloc (.cells #[.int .i64 x, .int .i64 y, .int .i64 z, .slice A ls.length c] 24)) (.cells #[.int .i64 0, .int .i64 0, .int .i64 0, .slice none 0 0] 24) (n := w.heap.size + 1) (by simp))
 have HB1 := Lib.hid (((Below.refl w.heap.size w).alloc (Nat.le_refl _) (.cells #[.int .i64 x, .int .i64 y, .int .i64 z, .slice A ls.length c] 24)).alloc (by simp) (.cells #[.int .i64 0, .int .i64 0, .int .i64 0, .slice none 0 0] 24))
 refine (Clone71 A c ls _ hn (Lib.hid (Kd.C_below hK.out HB1.out))).mono ?_
 rintro e w2 ⟨v, rfl, hR, hb2⟩
 obtain ⟨A', c', rfl, hle, _⟩ := Kd.R_reads hR
 have HR2 := Lib.hid hR
 have HB2 := Lib.hid (HB1.out.trans (hb2.mono HB1.out.size))
 have HX2_0 := Lib.hid (blk_keep hb2 HX1_0.out)
 have HX2_1 := Lib.hid (blk_keep hb2 HX1_1.out)
 obtain ⟨p2_00, p2_01, p2_02, p2_03, p2_0f⟩ := blk_cells4 HX2_0.out
 obtain ⟨p2_10, p2_11, p2_12, p2_13, p2_1f⟩ := blk_cells4 HX2_1.out
 have hs2 : w.heap.size + 2 ≤ w2.heap.size := by have := hb2.size; simpa using this
 have hbs : ((w.alloc (.cells #[.int .i64 x, .int .i64 y, .int .i64 z, .slice A ls.length c] 24)).alloc (.cells #[.int .i64 0, .int .i64 0, .int .i64 0, .slice none 0 0] 24)).heap.size = w.heap.size + 2 := by simp
 rw [hbs] at HR2
 clear hb2 hR hbs
 have hgl0 := blk_lt HX2_0.out
 have hgl1 := blk_lt HX2_1.out
 have HSX := Lib.hid hs2
 clear hs2
 go_wp2_with fail
 have HX3_1 := Lib.hid (show (((((w2.setCell ⟨w.heap.size, 3, none⟩ (.slice A' ls.length c')).setCell ⟨w.heap.size + 1, 0, none⟩ (.int .i64 x)).setCell ⟨w.heap.size + 1, 1, none⟩ (.int .i64 y)).setCell ⟨w.heap.size + 1, 2, none⟩ (.int .i64 z)).setCell ⟨w.heap.size + 1, 3, none⟩ (.slice A' ls.length c')).heap[w.heap.size + 1]? = some (.cells #[.int .i64 x, .int .i64 y, .int .i64 z, .slice A' ls.length c'] 24 (0, 0)) from blk_set (blk_set (blk_set (blk_set ((Below.heap_setCell w2 ⟨w.heap.size, 3, none⟩ _ (w.heap.size + 1) (by simp)).trans HX2_1.out) 0 _) 1 _) 2 _) 3 _)
 have HB3 := Lib.hid (Below.setCell (Below.setCell (Below.setCell (Below.setCell (Below.setCell HB2.out (p := ⟨w.heap.size, 3, none⟩) (by simp) (.slice A' ls.length c')) (p := ⟨w.heap.size + 1, 0, none⟩) (by simp) (.int .i64 x)) (p := ⟨w.heap.size + 1, 1, none⟩) (by simp) (.int .i64 y)) (p := ⟨w.heap.size + 1, 2, none⟩) (by simp) (.int .i64 z)) (p := ⟨w.heap.size + 1, 3, none⟩) (by simp) (.slice A' ls.length c'))
 have HR3 := Lib.hid (Kd.R_far (Kd.R_far (Kd.R_far (Kd.R_far (Kd.R_far HR2.out (p := ⟨w.heap.size, 3, none⟩) (fun k hk => by simp; omega) (.slice A' ls.length c')) (p := ⟨w.heap.size + 1, 0, none⟩) (fun k hk => by simp; omega) (.int .i64 x)) (p := ⟨w.heap.size + 1, 1, none⟩) (fun k hk => by simp; omega) (.int .i64 y)) (p := ⟨w.heap.size + 1, 2, none⟩) (fun k hk => by simp; omega) (.int .i64 z)) (p := ⟨w.heap.size + 1, 3, none⟩) (fun k hk => by simp; omega) (.slice A' ls.length c'))
 generalize (((((w2.setCell ⟨w.heap.size, 3, none⟩ (.slice A' ls.length c')).setCell ⟨w.heap.size + 1, 0, none⟩ (.int .i64 x)).setCell ⟨w.heap.size + 1, 1, none⟩ (.int .i64 y)).setCell ⟨w.heap.size + 1, 2, none⟩ (.int .i64 z)).setCell ⟨w.heap.size + 1, 3, none⟩ (.slice A' ls.length c')) = w3 at HX3_1 HB3 HR3 ⊢
 obtain ⟨y0, y1, y2, y3, yf⟩ := blk_cells4 HX3_1.out
 refine bodyPost_ret (v := .agg #[.int .i64 x, .int .i64 y, .int .i64 z, .slice A' ls.length c']) (by simp [results, Try.results53, go_sem, y0, y1, y2, y3]) rfl ⟨A', c', rfl, hle, Kd.R_mono (Kd.R_lower HR3.out (by omega)) (fun k hk => by omega), HB3.out⟩
end Go.Proofs.Ytaneaabmgnanbaa.M
