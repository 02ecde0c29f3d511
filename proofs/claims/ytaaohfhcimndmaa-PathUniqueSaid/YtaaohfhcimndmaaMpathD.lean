/- Own lemmas: path.Encode. -/
import Derived.Test.YtaaohfhcimndmaaMpathC
namespace Go.Proofs.Ytaaohfhcimndmaa.M
open Go.RowKit Go.Proofs.YtaaohfhcimndmaaW.PrintWords Go.Proofs.YtaaohfhcimndmaaW.PrintLast Go.Proofs.YtaaohfhcimndmaaW.PrintMore Go.Proofs.Ytaaohfhcimndmaa.PPathBack
set_option linter.unusedVariables false
set_option linter.unusedSimpArgs false

theorem flat2_length : ∀ l : List Int, (l.flatMap pb2).length = 2 * l.length
  | [] => rfl
  | x :: l => by rw [List.flatMap_cons, List.length_append, flat2_length l, List.length_cons]; simp [pb2]; omega
theorem flat_len {xs ls : List Int} {k : Nat} (h : xs.length ≤ 1000) (hk : k ≤ ls.length) (hl : ls.length ≤ 32) : (xs ++ (ls.take k).flatMap pb2).length < 100000 := by
  rw [List.length_append, flat2_length, List.length_take]; omega
theorem take_flat {ls : List Int} {k : Nat} (h : k < ls.length) : (ls.take (k + 1)).flatMap pb2 = (ls.take k).flatMap pb2 ++ pb2 (ls.getD k 0) := by
  rw [List.take_succ_eq_append_getElem h, List.flatMap_append]
  simp [List.getD_eq_getElem?_getD, h]

theorem lenfact {xs : List Int} (h : xs.length ≤ 1000) : (xs.length + 1) * 1 ≤ 140737488355328 := by omega
theorem grown_box {w w' : World} {base g : Nat} {v : Value} {xs : List Int} (hR : Kd.R (Kd.int .u8) 5 w base (fun k => k ≠ g) v xs) (hg : w.grownBy w' v.ownBlock) (hlt : g < w.heap.size) : w'.heap[g]? = w.heap[g]? :=
  hg.block g hlt (fun e => hR.1 g e.symm rfl)

def encP (a b : Int) (ws : List Int) (pr md : Int) (ts : List Int) : List Int :=
  [b % 256] ++ pb4 a ++ pb4 pr ++ pb4 md ++ [(ws.length : Int) % 256] ++ ws.flatMap pb2 ++ [(ts.length : Int) % 256] ++ ts.flatMap pb2

theorem len7 {b a pr md : Int} {ws : List Int} (h : ws.length ≤ 32) : ([b] ++ pb4 a ++ pb4 pr ++ pb4 md ++ [(ws.length : Int)] ++ ws.flatMap pb2).length ≤ 900 := by rw [List.length_append, flat2_length]; simp [pb4]; omega
theorem encP_eq {a b : Int} {ws : List Int} {pr md : Int} {ts : List Int} (h0 : ws.length ≤ 32) (h1 : ts.length ≤ 8) : encP a b ws pr md ts = [(IntKind.u8.wrap b)] ++ pb4 a ++ pb4 pr ++ pb4 md ++ [(ws.length : Int)] ++ ws.flatMap pb2 ++ [(ts.length : Int)] ++ ts.flatMap pb2 := by
  unfold encP
  rw [IntKind.wrap_u8, show ((ws.length : Int)) % 256 = ws.length by omega, show ((ts.length : Int)) % 256 = ts.length by omega]
set_option maxHeartbeats 2000000 in
set_option maxRecDepth 100000 in
theorem Encode_bad (a b pr md : Int) (ws ts : List Int) (A0 A1 : Option Addr) (c0 c1 : Nat) (w : World) (ha0 : 0 ≤ a) (ha1 : a ≤ 4294967295) (hw : ws.length ≤ 9223372036854775807) (ht : ts.length ≤ 9223372036854775807) (hc0 : ws.length ≤ c0) (hc1 : ts.length ≤ c1) (K0 : Hid (Kd.C (Kd.int .i64) w A0 ws.length ws)) (K1 : Hid (Kd.C (Kd.int .i64) w A1 ts.length ts)) (hbad : pchk a b ws pr md ts ≠ 0) :
    Calls Try.prog 13 #[.agg #[.int .u32 a, .int .i64 b, .slice A0 ws.length c0, .int .i64 pr, .int .i64 md, .slice A1 ts.length c1]] w fun e w' => e = .returned (.tuple #[.string ⟨#[]⟩, .int .i64 (pchk a b ws pr md ts)]) ∧ Below w.heap.size w w' := by
  have hu25 := Try.underlying25
  have hu27 := Try.underlying27
  obtain ⟨er, Her⟩ : ∃ er, Hid (er = pchk a b ws pr md ts) := ⟨_, Lib.hid rfl⟩
  rw [← Her.out] at hbad
  rw [← Her.out]
  have heb : (er != 0) = true := bne_iff_ne.mpr hbad
  clear hbad
  have HCk := fun (W : World) (h0 : Hid (Kd.C (Kd.int .i64) W A0 ws.length ws)) (h1 : Hid (Kd.C (Kd.int .i64) W A1 ts.length ts)) => pCheck_any a b pr md ws ts A0 A1 c0 c1 W hw ht hc0 hc1 h0 h1
  rw [← Her.out] at HCk
  have HCk := Lib.hid HCk
  go_enter Try.func13, Try.ntmps13
  go_wp2_with fail
  have HX1_0 := Lib.hid (blk_alloc w (.cells #[.int .u32 a, .int .i64 b, .slice A0 ws.length c0, .int .i64 pr, .int .i64 md, .slice A1 ts.length c1] 27))
  have HB1 := Lib.hid ((Below.refl w.heap.size w).alloc (Nat.le_refl _) (.cells #[.int .u32 a, .int .i64 b, .slice A0 ws.length c0, .int .i64 pr, .int .i64 md, .slice A1 ts.length c1] 27))
  refine (HCk.out _ (Lib.hid (Kd.C_below K0.out HB1.out)) (Lib.hid (Kd.C_below K1.out HB1.out))).mono ?_
  rintro e w2 ⟨rfl, hb2⟩
  have HB2 := Lib.hid (HB1.out.trans (hb2.mono HB1.out.size))
  have HX2_0 := Lib.hid (blk_keep hb2 HX1_0.out)
  obtain ⟨p2_00, p2_01, p2_02, p2_03, p2_04, p2_05, p2_0f⟩ := blk_cells6 HX2_0.out
  clear hb2 
  have hgl2 := blk_lt HX2_0.out
  go_wp2_with fail
  go_ret2
  exact ⟨rfl, HB2.out⟩
set_option maxHeartbeats 2000000 in
set_option maxRecDepth 100000 in
theorem Encode_ok (a b pr md : Int) (ws ts : List Int) (A0 A1 : Option Addr) (c0 c1 : Nat) (w : World) (ha0 : 0 ≤ a) (ha1 : a ≤ 4294967295) (hw : ws.length ≤ 9223372036854775807) (ht : ts.length ≤ 9223372036854775807) (hc0 : ws.length ≤ c0) (hc1 : ts.length ≤ c1) (K0 : Hid (Kd.C (Kd.int .i64) w A0 ws.length ws)) (K1 : Hid (Kd.C (Kd.int .i64) w A1 ts.length ts)) (hok : pchk a b ws pr md ts = 0) :
    Calls Try.prog 13 #[.agg #[.int .u32 a, .int .i64 b, .slice A0 ws.length c0, .int .i64 pr, .int .i64 md, .slice A1 ts.length c1]] w fun e w' => e = .returned (.tuple #[.string (strOfNums (encP a b ws pr md ts)), .int .i64 0]) ∧ Below w.heap.size w w' := by
  have hu25 := Try.underlying25
  have hu27 := Try.underlying27
  obtain ⟨st, Hst⟩ : ∃ st, Hid (st = strOfNums (encP a b ws pr md ts)) := ⟨_, Lib.hid rfl⟩
  rw [← Hst.out]
  have hl0 := (pchk_zero hok).wlen
  have hl1 := (pchk_zero hok).tlen
  have haw : wrap64 a = a := wrap_in _ (by omega) (by omega)
  have i0 : ∀ w, (Instr.index 73 (.agg #[.slice A0 ws.length c0, .slice A1 ts.length c1]) (.int .i64 0)).run Try.prog w = .ok (.slice A0 ws.length c0) w := fun _ => by kernel_rfl
  have i1 : ∀ w, (Instr.index 73 (.agg #[.slice A0 ws.length c0, .slice A1 ts.length c1]) (.int .i64 1)).run Try.prog w = .ok (.slice A1 ts.length c1) w := fun _ => by kernel_rfl
  have HCk := fun (W : World) (h0 : Hid (Kd.C (Kd.int .i64) W A0 ws.length ws)) (h1 : Hid (Kd.C (Kd.int .i64) W A1 ts.length ts)) => pCheck_any a b pr md ws ts A0 A1 c0 c1 W hw ht hc0 hc1 h0 h1
  rw [hok] at HCk
  have HCk := Lib.hid HCk
  go_enter Try.func13, Try.ntmps13
  go_wp2_with fail
  have HX1_0 := Lib.hid (blk_alloc w (.cells #[.int .u32 a, .int .i64 b, .slice A0 ws.length c0, .int .i64 pr, .int .i64 md, .slice A1 ts.length c1] 27))
  have HB1 := Lib.hid ((Below.refl w.heap.size w).alloc (Nat.le_refl _) (.cells #[.int .u32 a, .int .i64 b, .slice A0 ws.length c0, .int .i64 pr, .int .i64 md, .slice A1 ts.length c1] 27))
  refine (HCk.out _ (Lib.hid (Kd.C_below K0.out HB1.out)) (Lib.hid (Kd.C_below K1.out HB1.out))).mono ?_
  rintro e w2 ⟨rfl, hb2⟩
  have HB2 := Lib.hid (HB1.out.trans (hb2.mono HB1.out.size))
  have HX2_0 := Lib.hid (blk_keep hb2 HX1_0.out)
  obtain ⟨p2_00, p2_01, p2_02, p2_03, p2_04, p2_05, p2_0f⟩ := blk_cells6 HX2_0.out
  clear hb2 
  have hgl2 := blk_lt HX2_0.out
  go_wp2_with fail
  clear hok
  have HB2a := Lib.hid (HB2.out.alloc HB2.out.size (.cells #[.int .u8 (IntKind.u8.wrap b)] 5))
  have HX2a := Lib.hid (show (w2.alloc (.cells #[.int .u8 (IntKind.u8.wrap b)] 5)).heap[w.heap.size]? = _ from blk_keep ((Below.refl _ _).alloc (Nat.le_refl _) _) HX2_0.out)
  refine (put4_any w.heap.size _ [(IntKind.u8.wrap b)] a w _ (by simp) (blk_lt HX2a.out) HB2a (Lib.hid (lit_R w2 w.heap.size w.heap.size (IntKind.u8.wrap b) HB2.out.size hgl2))).mono ?_
  rintro e w3 ⟨v3, rfl, hR3, hb3, hx3, hs3⟩
  have HR3 := Lib.hid hR3
  have HB3 := Lib.hid hb3
  have HX3_0 := Lib.hid (hx3.trans HX2a.out)
  clear hR3 hb3 hx3 hs3 hgl2 p2_00 p2_01 p2_02 p2_03 p2_04 p2_05 p2_0f
  obtain ⟨p3_00, p3_01, p3_02, p3_03, p3_04, p3_05, p3_0f⟩ := blk_cells6 HX3_0.out
  go_wp2_with fail
  have HB3d := Lib.hid HB3.out.drew
  have HX3d_0 := Lib.hid (show w3.drew.heap[w.heap.size]? = _ from HX3_0.out)
  have HR3d := Lib.hid (show Kd.R (Kd.int .u8) 5 w3.drew w.heap.size (fun k => k ≠ w.heap.size) v3 _ from Kd.R_below HR3.out (Below.refl _ _).drew)
  refine start_ (n := 8) (S := fun w' => w'.cell? ⟨w.heap.size, 3, none⟩ = some (.int .i64 pr) ∧ w'.cell? ⟨w.heap.size, 4, none⟩ = some (.int .i64 md)) (ds := []) #[false, false, false, false, false, false, false, false] (by kernel_rfl) rfl rfl ⟨p3_03, p3_04⟩ (fun hHeld => ?_)
  refine pure_ (i := 0) (N := some 25) (v := ?_) (a' := ?_) #[true, false, false, false, false, false, false, false] rfl rfl (by kernel_rfl) (fun _ _ _ h => h) (Or.inl ⟨by rfl, ?_⟩) ?_ ?_
  rotate_left
  · intro w'
    go_simp
    with_reducible rfl
  rotate_left
  · simp only [Act.put, List.setIfInBounds_toArray, List.set_cons_zero, List.set_cons_succ, i64_w, i32_w]
    rfl
  refine pure_ (i := 1) (N := some 26) (v := ?_) (a' := ?_) #[true, true, false, false, false, false, false, false] rfl rfl (by kernel_rfl) (fun _ _ _ h => h) (Or.inl ⟨by rfl, ?_⟩) ?_ ?_
  rotate_left
  · intro w'
    go_simp
    with_reducible rfl
  rotate_left
  · simp only [Act.put, List.setIfInBounds_toArray, List.set_cons_zero, List.set_cons_succ, i64_w, i32_w]
    rfl
  refine pure_ (i := 4) (N := some 29) (v := ?_) (a' := ?_) #[true, true, false, false, true, false, false, false] rfl rfl (by kernel_rfl) (fun _ _ _ h => h) (Or.inl ⟨by rfl, ?_⟩) ?_ ?_
  rotate_left
  · intro w'
    go_simp
    with_reducible rfl
  rotate_left
  · simp only [Act.put, List.setIfInBounds_toArray, List.set_cons_zero, List.set_cons_succ, i64_w, i32_w]
    rfl
  refine take_ (i := 2) (N := some 27) (v := ?_) (a' := ?_) #[true, true, true, false, true, false, false, false] rfl rfl (by kernel_rfl) (fun _ _ _ h => h) (Or.inl ⟨by rfl, ?_⟩) hHeld ?_ ?_
  rotate_left
  · rintro w' ⟨s0, s1⟩
    go_simp
    with_reducible rfl
  rotate_left
  · simp only [Act.put, List.setIfInBounds_toArray, List.set_cons_zero, List.set_cons_succ, i64_w, i32_w]
    rfl
  refine take_ (i := 5) (N := some 30) (v := ?_) (a' := ?_) #[true, true, true, false, true, true, false, false] rfl rfl (by kernel_rfl) (fun _ _ _ h => h) (Or.inl ⟨by rfl, ?_⟩) hHeld ?_ ?_
  rotate_left
  · rintro w' ⟨s0, s1⟩
    go_simp
    with_reducible rfl
  rotate_left
  · simp only [Act.put, List.setIfInBounds_toArray, List.set_cons_zero, List.set_cons_succ, i64_w, i32_w]
    rfl
  refine one_ (i := 3) (N := some 28) #[true, true, true, true, true, true, false, false] rfl rfl (by kernel_rfl) (by decide) (fun K hK => ?_)
  refine goes_ Try.func33 (by kernel_rfl) rfl #[v3, .int .i64 pr, .int .i64 4] (by rfl) rfl rfl (by simp only [List.map_toArray, List.map_cons, List.map_nil]; rfl) ?_
  with_reducible refine (put4_any w.heap.size v3 ([(IntKind.u8.wrap b)] ++ pb4 a) pr w _ (by simp [pb4]) (blk_lt HX3d_0.out) HB3d HR3d).mono ?_
  rintro e w4 ⟨v4, rfl, hR4, hb4, hx4, hs4⟩
  refine ⟨_, rfl, ?_⟩
  have HR4 := Lib.hid hR4
  have HB4 := Lib.hid hb4
  have HX4_0 := Lib.hid (hx4.trans HX3d_0.out)
  clear hR4 hb4 hx4 hs4
  obtain ⟨p4_00, p4_01, p4_02, p4_03, p4_04, p4_05, p4_0f⟩ := blk_cells6 HX4_0.out
  refine hK.out _ _ ⟨p4_03, p4_04⟩ (fun hHeld => ?_)
  clear hK K
  refine norm_ (a' := ?_) ?_ ?_
  rotate_left
  · show Act.put _ (some 28) _ = _
    simp only [Act.put, List.setIfInBounds_toArray, List.set_cons_zero, List.set_cons_succ, i64_w, i32_w]
    rfl
  refine one_ (i := 6) (N := some 31) #[true, true, true, true, true, true, true, false] rfl rfl (by kernel_rfl) (by decide) (fun K hK => ?_)
  refine goes_ Try.func33 (by kernel_rfl) rfl #[v4, .int .i64 md, .int .i64 4] (by rfl) rfl rfl (by simp only [List.map_toArray, List.map_cons, List.map_nil]; rfl) ?_
  with_reducible refine (put4_any w.heap.size v4 ([(IntKind.u8.wrap b)] ++ pb4 a ++ pb4 pr) md w _ (by simp [pb4]) (blk_lt HX4_0.out) HB4 HR4).mono ?_
  rintro e w5 ⟨v5, rfl, hR5, hb5, hx5, hs5⟩
  refine ⟨_, rfl, ?_⟩
  have HR5 := Lib.hid hR5
  have HB5 := Lib.hid hb5
  have HX5_0 := Lib.hid (hx5.trans HX4_0.out)
  clear hR5 hb5 hx5 hs5
  obtain ⟨p5_00, p5_01, p5_02, p5_03, p5_04, p5_05, p5_0f⟩ := blk_cells6 HX5_0.out
  refine hK.out _ _ ⟨p5_03, p5_04⟩ (fun hHeld => ?_)
  clear hK K
  refine norm_ (a' := ?_) ?_ ?_
  rotate_left
  · show Act.put _ (some 31) _ = _
    simp only [Act.put, List.setIfInBounds_toArray, List.set_cons_zero, List.set_cons_succ, i64_w, i32_w]
    rfl
  refine pure_ (i := 7) (N := some 5) (v := ?_) (a' := ?_) #[true, true, true, true, true, true, true, true] rfl rfl (by kernel_rfl) (fun _ _ _ h => h) (Or.inl ⟨by rfl, ?_⟩) ?_ ?_
  rotate_left
  · intro w'
    go_simp
    with_reducible rfl
  rotate_left
  · simp only [Act.put, List.setIfInBounds_toArray, List.set_cons_zero, List.set_cons_succ, i64_w, i32_w]
    rfl
  refine done_ (by kernel_rfl) ?_
  have hlen5 : ([(IntKind.u8.wrap b)] ++ pb4 a ++ pb4 pr ++ pb4 md).length ≤ 1000 := by simp [pb4]
  go_wp2_with fail
  refine wp_loop_rounds 3 ?_
  rw [rounds_succ]
  have hlx := hlen5
  go_wp2_with ((with_reducible refine gate_builtin (b := .append) (xs := #[.tmp 40, .tmp 44]) rfl ?_); at_builtin; refine Kd.R_append (Kd.int .u8) (w0 := w) w.heap.size rfl (.tmp 40) (.tmp 44) 71 5 (.int .u8 0) 1 rfl Try.underlying71 info5 rfl (by decide) (by omega) v5 ([(IntKind.u8.wrap b)] ++ pb4 a ++ pb4 pr ++ pb4 md) (ws.length : Int) [.int .u8 (ws.length : Int)] (fun k => k ≠ w.heap.size) (fun _ => False) rfl rfl ?aP (fun _ hk => hk.elim) ?aF ?aO ?aB ?aS ?aL ?_; (case aP => exact rfl); (case aF => exact fun k hk => by have := blk_lt HX5_0.out; omega); (case aO => exact HR5.out); (case aB => exact HB5.out); (case aS => exact HB5.out.size); (case aL => exact lenfact (by assumption)); intro v6 w6 ho hb hg hat; have HR6 := Lib.hid ho; have HB6 := Lib.hid hb; have HX6_0 := Lib.hid ((grown_box HR5.out hg (blk_lt HX5_0.out)).trans HX5_0.out); clear ho hb hg hat p5_00 p5_01 p5_02 p5_03 p5_04 p5_05 p5_0f)
  have HL6 := Lib.hid (show ([(IntKind.u8.wrap b)] ++ pb4 a ++ pb4 pr ++ pb4 md ++ [(ws.length : Int)]).length ≤ 1000 by simp [pb4])
  go_loopw [5, 48] (fun u i wr => ∃ k : Nat, k ≤ ws.length ∧ i = .int .i64 k ∧ Hid (Kd.R (Kd.int .u8) 5 wr w.heap.size (fun k => k ≠ w.heap.size) u ([(IntKind.u8.wrap b)] ++ pb4 a ++ pb4 pr ++ pb4 md ++ [(ws.length : Int)] ++ (ws.take k).flatMap pb2)) ∧ Hid (Below w.heap.size w wr) ∧ Hid (wr.heap[w.heap.size]? = some (.cells #[.int .u32 a, .int .i64 b, .slice A0 ws.length c0, .int .i64 pr, .int .i64 md, .slice A1 ts.length c1] 27 (0, 0)))) (fun _ i _ => ws.length - (intOf i).toNat)
  case atStart => exact ⟨0, Nat.zero_le _, rfl, by rw [List.take_zero, List.flatMap_nil, List.append_nil]; exact HR6.out, HB6, HX6_0⟩
  case round =>
    obtain ⟨k, hk, rfl, HRr, HBr, HXr⟩ := hrel
    by_cases hlt : k < ws.length
    · obtain ⟨ad, Hcell⟩ := C_cell (Kd.C_below K0.out HBr.out) (by omega)
      obtain ⟨rfl, hcell⟩ := Hcell
      obtain ⟨e, He⟩ : ∃ v, Hid (v = ws.getD k 0) := ⟨_, Lib.hid rfl⟩
      have hc : wr.cell? (ad.add k) = some (.int .i64 e) := by rw [He.out]; exact hcell k hlt
      clear hcell
      go_wp2_with fail
      refine (put2_any w.heap.size _ ([(IntKind.u8.wrap b)] ++ pb4 a ++ pb4 pr ++ pb4 md ++ [(ws.length : Int)] ++ (ws.take k).flatMap pb2) e w wr (flat_len HL6.out hk (by omega)) (blk_lt HXr.out) HBr HRr).mono ?_
      rintro e' w' ⟨v', rfl, hR, hb, hx, hs⟩
      have HRn := Lib.hid hR
      have HBn := Lib.hid hb
      have HXn := Lib.hid (hx.trans HXr.out)
      clear hR hb hx hs hc
      go_wp2_with fail
      go_roundw
      case rel => exact ⟨k + 1, by omega, by go_num, by rw [take_flat hlt, ← He.out, ← List.append_assoc]; exact HRn.out, HBn, HXn⟩
      case measure => simp [intOf]; omega
    · have HR7 := Lib.hid (show Kd.R (Kd.int .u8) 5 wr w.heap.size (fun k => k ≠ w.heap.size) u5 ([(IntKind.u8.wrap b)] ++ pb4 a ++ pb4 pr ++ pb4 md ++ [(ws.length : Int)] ++ ws.flatMap pb2) from by have := HRr.out; rwa [List.take_of_length_le (by omega)] at this)
      have HB7 := HBr
      have HX7_0 := HXr
      have hlen7 : ([(IntKind.u8.wrap b)] ++ pb4 a ++ pb4 pr ++ pb4 md ++ [(ws.length : Int)] ++ ws.flatMap pb2).length ≤ 1000 := by rw [List.length_append, flat2_length]; simp [pb4]; omega
      go_wp2_with fail
      rw [rounds_succ]
      go_wp2_with ((with_reducible refine gate_builtin (b := .append) (xs := #[.tmp 40, .tmp 44]) rfl ?_); at_builtin; refine Kd.R_append (Kd.int .u8) (w0 := w) w.heap.size rfl (.tmp 40) (.tmp 44) 71 5 (.int .u8 0) 1 rfl Try.underlying71 info5 rfl (by decide) (by omega) u5 ([(IntKind.u8.wrap b)] ++ pb4 a ++ pb4 pr ++ pb4 md ++ [(ws.length : Int)] ++ ws.flatMap pb2) (ts.length : Int) [.int .u8 (ts.length : Int)] (fun k => k ≠ w.heap.size) (fun _ => False) rfl rfl ?aP (fun _ hk => hk.elim) ?aF ?aO ?aB ?aS ?aL ?_; (case aP => exact rfl); (case aF => exact fun k hk => by have := blk_lt HX7_0.out; omega); (case aO => exact HR7.out); (case aB => exact HB7.out); (case aS => exact HB7.out.size); (case aL => exact lenfact (by assumption)); intro v8 w8 ho hb hg hat; have HR8 := Lib.hid ho; have HB8 := Lib.hid hb; have HX8_0 := Lib.hid ((grown_box HR7.out hg (blk_lt HX7_0.out)).trans HX7_0.out); clear ho hb hg hat )
      have HL8 := Lib.hid (show ([(IntKind.u8.wrap b)] ++ pb4 a ++ pb4 pr ++ pb4 md ++ [(ws.length : Int)] ++ ws.flatMap pb2 ++ [(ts.length : Int)]).length ≤ 1000 by rw [List.length_append]; have := hlen7; simp only [List.length_singleton]; have h9 := len7 (b := IntKind.u8.wrap b) (a := a) (pr := pr) (md := md) hl0; omega)
      go_loopw [5, 48] (fun u i wr => ∃ k : Nat, k ≤ ts.length ∧ i = .int .i64 k ∧ Hid (Kd.R (Kd.int .u8) 5 wr w.heap.size (fun k => k ≠ w.heap.size) u ([(IntKind.u8.wrap b)] ++ pb4 a ++ pb4 pr ++ pb4 md ++ [(ws.length : Int)] ++ ws.flatMap pb2 ++ [(ts.length : Int)] ++ (ts.take k).flatMap pb2)) ∧ Hid (Below w.heap.size w wr) ∧ Hid (wr.heap[w.heap.size]? = some (.cells #[.int .u32 a, .int .i64 b, .slice A0 ws.length c0, .int .i64 pr, .int .i64 md, .slice A1 ts.length c1] 27 (0, 0)))) (fun _ i _ => ts.length - (intOf i).toNat)
      case atStart => exact ⟨0, Nat.zero_le _, rfl, by rw [List.take_zero, List.flatMap_nil, List.append_nil]; exact HR8.out, HB8, HX8_0⟩
      case round =>
        obtain ⟨k, hk, rfl, HRr, HBr, HXr⟩ := hrel
        by_cases hlt : k < ts.length
        · obtain ⟨ad, Hcell⟩ := C_cell (Kd.C_below K1.out HBr.out) (by omega)
          obtain ⟨rfl, hcell⟩ := Hcell
          obtain ⟨e, He⟩ : ∃ v, Hid (v = ts.getD k 0) := ⟨_, Lib.hid rfl⟩
          have hc : wr.cell? (ad.add k) = some (.int .i64 e) := by rw [He.out]; exact hcell k hlt
          clear hcell
          go_wp2_with fail
          refine (put2_any w.heap.size _ ([(IntKind.u8.wrap b)] ++ pb4 a ++ pb4 pr ++ pb4 md ++ [(ws.length : Int)] ++ ws.flatMap pb2 ++ [(ts.length : Int)] ++ (ts.take k).flatMap pb2) e w wr (flat_len HL8.out hk (by omega)) (blk_lt HXr.out) HBr HRr).mono ?_
          rintro e' w' ⟨v', rfl, hR, hb, hx, hs⟩
          have HRn := Lib.hid hR
          have HBn := Lib.hid hb
          have HXn := Lib.hid (hx.trans HXr.out)
          clear hR hb hx hs hc
          go_wp2_with fail
          go_roundw
          case rel => exact ⟨k + 1, by omega, by go_num, by rw [take_flat hlt, ← He.out, ← List.append_assoc]; exact HRn.out, HBn, HXn⟩
          case measure => simp [intOf]; omega
        · have HR9 := Lib.hid (show Kd.R (Kd.int .u8) 5 wr w.heap.size (fun k => k ≠ w.heap.size) u5 ([(IntKind.u8.wrap b)] ++ pb4 a ++ pb4 pr ++ pb4 md ++ [(ws.length : Int)] ++ ws.flatMap pb2 ++ [(ts.length : Int)] ++ ts.flatMap pb2) from by have := HRr.out; rwa [List.take_of_length_le (by omega)] at this)
          have HB9 := HBr
          have HX9_0 := HXr
          have hconv : (convert 71 9 u5).run Try.prog wr = .ok (.string st) wr := by
            rw [Hst.out, encP_eq hl0 hl1]
            exact own_string (xs := [(IntKind.u8.wrap b)] ++ pb4 a ++ pb4 pr ++ pb4 md ++ [(ws.length : Int)] ++ ws.flatMap pb2 ++ [(ts.length : Int)] ++ ts.flatMap pb2) Try.underlying71 Try.underlying5 Try.underlying9 (Kd.own_of_R HR9.out)
          clear Hst
          go_wp2_with fail
          rw [rounds_succ]
          go_wp2_with fail
          go_ret2
          exact ⟨rfl, HB9.out⟩

end Go.Proofs.Ytaaohfhcimndmaa.M
