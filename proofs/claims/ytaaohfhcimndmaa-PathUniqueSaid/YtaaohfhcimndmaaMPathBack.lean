/- Proved: PathBack: an encoded route is decoded as it was. No condition. -/
import Derived.Test.YtaaohfhcimndmaaMpathG
namespace Go.Proofs.Ytaaohfhcimndmaa.M
open Go.RowKit Go.Proofs.YtaaohfhcimndmaaW.PrintWords Go.Proofs.YtaaohfhcimndmaaW.PrintLast Go.Proofs.YtaaohfhcimndmaaW.PrintMore Go.Proofs.Ytaaohfhcimndmaa.PPathBack
set_option linter.unusedVariables false
set_option linter.unusedSimpArgs false

theorem some12_any (A : Option Addr) (ls L : List Int) (c m : Nat) (hL : Hid (L = ls.take m)) (hn : ls.length ≤ c) (w : World) : Calls Try.prog 12 #[.slice A ls.length c, .int .i64 m] w fun e w' => e = .returned (.slice A L.length c) ∧ w = w' := by
  have hu := Try.underlying25
  have hL := hL.out
  subst hL
  rw [List.length_take]
  by_cases h : ls.length ≤ m
  · have e : min m ls.length = ls.length := Nat.min_eq_right h
    rw [e]
    go_enter Try.func12, Try.ntmps12
    go_wp2
    go_ret
    exact ⟨rfl, rfl⟩
  · have e : min m ls.length = m := Nat.min_eq_left (by omega)
    rw [e]
    go_enter Try.func12, Try.ntmps12
    go_wp2
    go_ret
    exact ⟨rfl, rfl⟩
theorem some12_32 (A : Option Addr) (ls L : List Int) (c : Nat) (hL : Hid (L = ls.take 32)) (hn : ls.length ≤ c) (w : World) : Calls Try.prog 12 #[.slice A ls.length c, .int .i64 32] w fun e w' => e = .returned (.slice A L.length c) ∧ w = w' := some12_any A ls L c 32 hL hn w
theorem some12_8 (A : Option Addr) (ls L : List Int) (c : Nat) (hL : Hid (L = ls.take 8)) (hn : ls.length ≤ c) (w : World) : Calls Try.prog 12 #[.slice A ls.length c, .int .i64 8] w fun e w' => e = .returned (.slice A L.length c) ∧ w = w' := some12_any A ls L c 8 hL hn w
def EncAns (a b : Int) (ws : List Int) (pr md : Int) (ts : List Int) (s : ByteArray) (er : Int) : Prop :=
  (pchk a b ws pr md ts = 0 ∧ er = 0 ∧ s = strOfNums (encP a b ws pr md ts)) ∨ (pchk a b ws pr md ts ≠ 0 ∧ er = pchk a b ws pr md ts ∧ s = ⟨#[]⟩)
theorem Encode_is (a b pr md : Int) (ws ts : List Int) (A0 A1 : Option Addr) (c0 c1 : Nat) (w : World) (ha0 : 0 ≤ a) (ha1 : a ≤ 4294967295) (h0 : ws.length ≤ 9223372036854775807 ∧ ws.length ≤ c0 ∧ Kd.C (Kd.int .i64) w A0 ws.length ws) (h1 : ts.length ≤ 9223372036854775807 ∧ ts.length ≤ c1 ∧ Kd.C (Kd.int .i64) w A1 ts.length ts) {s : ByteArray} {er : Int}
    (he : EncAns a b ws pr md ts s er) :
    Calls Try.prog 13 #[.agg #[.int .u32 a, .int .i64 b, .slice A0 ws.length c0, .int .i64 pr, .int .i64 md, .slice A1 ts.length c1]] w fun e w' => e = .returned (.tuple #[.string s, .int .i64 er]) ∧ Below w.heap.size w w' := by
  rcases he with ⟨h, rfl, rfl⟩ | ⟨h, rfl, rfl⟩
  · exact Encode_ok a b pr md ws ts A0 A1 c0 c1 w ha0 ha1 h0.1 h1.1 h0.2.1 h1.2.1 (Lib.hid h0.2.2) (Lib.hid h1.2.2) h
  · exact Encode_bad a b pr md ws ts A0 A1 c0 c1 w ha0 ha1 h0.1 h1.1 h0.2.1 h1.2.1 (Lib.hid h0.2.2) (Lib.hid h1.2.2) h
theorem C_nil (w : World) (A : Option Addr) : Kd.C (Kd.int .i64) w A 0 [] := ⟨rfl, by omega, fun h => absurd h (by omega)⟩
theorem C_lit (W : World) (y : Int) : Kd.C (Kd.int .i64) (W.alloc (.cells #[.int .i64 y] 3)) (some ⟨W.heap.size, 0, none⟩) 1 [y] := by
  refine ⟨rfl, by omega, fun _ => ⟨_, rfl, fun j p hj => ?_⟩⟩
  obtain rfl : j = 0 := by have := (List.getElem?_eq_some_iff.1 hj).1; simp at this; exact this
  obtain rfl : y = p := by simpa using hj
  refine ⟨[.int .i64 y], rfl, rfl, fun i u hu => ?_⟩
  obtain rfl : i = 0 := by have := (List.getElem?_eq_some_iff.1 hu).1; simp at this; exact this
  obtain rfl : Value.int .i64 y = u := by simpa using hu
  exact blk_cell (blk_alloc W _) 0
theorem lives_chk : pchk 0 0 [7] 0 0 [] = 0 := by kernel_rfl

set_option maxHeartbeats 1000000 in
set_option maxRecDepth 100000 in
theorem pathLives_any (w : World) : Calls Try.prog 11 #[] w fun e w' => e = .returned (.bool true) ∧ Below w.heap.size w w' := by
  have hu25 := Try.underlying25
  have hu27 := Try.underlying27
  obtain ⟨s, Hs⟩ : ∃ s, Hid (s = strOfNums (encP 0 0 [7] 0 0 [])) := ⟨_, Lib.hid rfl⟩
  have hsz : s.size = 17 := by rw [Hs.out, strOfNums_size]; rfl
  have hsb : ((s.size : Int) == 17) = true := by rw [hsz]; rfl
  clear hsz
  go_enter Try.func11, Try.ntmps11
  go_wp2_with fail
  have HB1 := Lib.hid ((Below.refl w.heap.size w).alloc (Nat.le_refl _) (.cells #[.int .i64 7] 3))
  refine (Encode_is 0 0 0 0 [7] [] (some ⟨w.heap.size, 0, none⟩) none 1 0 _ (by omega) (by omega) ⟨by simp, by simp, C_lit w 7⟩ ⟨by simp, by simp, C_nil _ _⟩ (s := s) (er := 0) (.inl ⟨lives_chk, rfl, Hs.out⟩)).mono ?_
  rintro e w2 ⟨rfl, hb2⟩
  have HB2 := Lib.hid (HB1.out.trans (hb2.mono HB1.out.size))
  clear hb2
  go_wp2_with fail
  go_ret
  exact ⟨rfl, HB2.out⟩
theorem eqI_l0 (ls : List Int) (hl : ls.length ≤ 100000) : ∀ d i, i + d = ls.length → ∃ k, slices_Equal_int_int.l0 k ls ls (ls.length : Int) (i : Int) = some true
  | 0, i, h => ⟨1, by simp only [slices_Equal_int_int.l0]; rw [if_neg (by omega)]⟩
  | d + 1, i, h => by
    obtain ⟨k, hk⟩ := eqI_l0 ls hl d (i + 1) (by omega)
    have hw : wrap64 ((i : Int) + 1) = ((i + 1 : Nat) : Int) := by rw [wrap_in _ (by omega) (by omega)]; omega
    refine ⟨k + 1, ?_⟩
    simp only [slices_Equal_int_int.l0]
    rw [if_pos (by omega), if_pos (by omega), if_pos (by omega), if_pos (by omega), hw, hk]; simp
theorem eqI_refl (ls : List Int) (hl : ls.length ≤ 100000) : ∃ k, slices_Equal_int_int.f k ls ls = some true := by
  obtain ⟨k, hk⟩ := eqI_l0 ls hl ls.length 0 (by omega)
  refine ⟨k, ?_⟩
  unfold slices_Equal_int_int.f
  rw [if_pos rfl]
  exact hk
theorem samePath_refl (a b : Int) (ws : List Int) (pr md : Int) (ts : List Int) (h0 : ws.length ≤ 100000) (h1 : ts.length ≤ 100000) : ∃ k, patchbaykeep2_samePath.f k a b ws pr md ts a b ws pr md ts = some true := by
  obtain ⟨k1, e1⟩ := eqI_refl ws h0
  obtain ⟨k2, e2⟩ := eqI_refl ts h1
  refine ⟨k1 + k2, ?_⟩
  unfold patchbaykeep2_samePath.f
  rw [if_pos (by simp), if_pos rfl, if_pos rfl, up (fun k => slices_Equal_int_int.mono _ _ k) e1 (by omega)]
  simp only [Option.bind_some, if_true]
  rw [up (fun k => slices_Equal_int_int.mono _ _ k) e2 (by omega)]
  rfl
theorem set2 {w : World} {g : Nat} {a : Array Value} {t : Nat} (h0 : w.heap[g]? = some (.cells a t (0, 0))) (i j : Nat) (u v : Value) :
    ((w.setCell ⟨g, i, none⟩ u).setCell ⟨g, j, none⟩ v).heap[g]? = some (.cells ((a.setIfInBounds i u).setIfInBounds j v) t (0, 0)) := blk_set (blk_set h0 i u) j v
set_option maxHeartbeats 2000000 in
set_option maxRecDepth 100000 in
theorem PathBack_bad (a b pr md : Int) (ws ts L0 L1 : List Int) (A0 A1 : Option Addr) (c0 c1 : Nat) (w : World) (ha0 : 0 ≤ a) (ha1 : a ≤ 4294967295) (hc0 : ws.length ≤ c0) (hc1 : ts.length ≤ c1) (hl0 : L0.length ≤ c0) (hl1 : L1.length ≤ c1) (hm0 : L0.length ≤ 32) (hm1 : L1.length ≤ 8) (HL0 : Hid (L0 = ws.take 32)) (HL1 : Hid (L1 = ts.take 8))
    (K0 : Hid (Kd.C (Kd.int .i64) w A0 L0.length L0)) (K1 : Hid (Kd.C (Kd.int .i64) w A1 L1.length L1)) (er : Int) (HE : EncAns a b L0 pr md L1 ⟨#[]⟩ er) (Hpe : Hid (pchk a b L0 pr md L1 = er)) (heb : (er != 0) = true) (heb2 : (er == er) = true) :
    Calls Try.prog 3 #[.agg #[.int .u32 a, .int .i64 b, .slice A0 ws.length c0, .int .i64 pr, .int .i64 md, .slice A1 ts.length c1]] w fun e w' => e = .returned (.bool true) ∧ Below w.heap.size w w' := by
  have hu25 := Try.underlying25
  have hu27 := Try.underlying27
  go_enter Try.func3, Try.ntmps3
  go_wp2_with fail
  have HX1_0 := Lib.hid (blk_alloc w (.cells #[.int .u32 a, .int .i64 b, .slice A0 ws.length c0, .int .i64 pr, .int .i64 md, .slice A1 ts.length c1] 27))
  have HB1 := Lib.hid ((Below.refl w.heap.size w).alloc (Nat.le_refl _) (.cells #[.int .u32 a, .int .i64 b, .slice A0 ws.length c0, .int .i64 pr, .int .i64 md, .slice A1 ts.length c1] 27))
  refine (pathLives_any _).mono ?_
  rintro e w2 ⟨rfl, hb2⟩
  have HB2 := Lib.hid (HB1.out.trans (hb2.mono HB1.out.size))
  have HX2_0 := Lib.hid (blk_keep hb2 HX1_0.out)
  obtain ⟨p2_00, p2_01, p2_02, p2_03, p2_04, p2_05, p2_0f⟩ := blk_cells6 HX2_0.out
  clear hb2 
  go_wp2_with fail
  refine start_ (n := 10) (S := fun w' => w'.cell? ⟨w.heap.size, 2, none⟩ = some (.slice A0 ws.length c0) ∧ w'.cell? ⟨w.heap.size, 5, none⟩ = some (.slice A1 ts.length c1)) (ds := [7, 9]) #[false, false, false, false, false, false, false, false, false, false] (by kernel_rfl) rfl rfl ⟨p2_02, p2_05⟩ (fun hHeld => ?_)
  refine pure_ (i := 0) (N := some 8) (v := ?_) (a' := ?_) #[true, false, false, false, false, false, false, false, false, false] rfl rfl (by kernel_rfl) (fun _ _ _ h => h) (Or.inl ⟨by rfl, ?_⟩) ?_ ?_
  rotate_left
  · intro w'
    go_simp
    with_reducible rfl
  rotate_left
  · simp only [Act.put, List.setIfInBounds_toArray, List.set_cons_zero, List.set_cons_succ, i64_w, i32_w]
    rfl
  refine pure_ (i := 3) (N := some 11) (v := ?_) (a' := ?_) #[true, false, false, true, false, false, false, false, false, false] rfl rfl (by kernel_rfl) (fun _ _ _ h => h) (Or.inl ⟨by rfl, ?_⟩) ?_ ?_
  rotate_left
  · intro w'
    go_simp
    with_reducible rfl
  rotate_left
  · simp only [Act.put, List.setIfInBounds_toArray, List.set_cons_zero, List.set_cons_succ, i64_w, i32_w]
    rfl
  refine take_ (i := 1) (N := some 9) (v := ?_) (a' := ?_) #[true, true, false, true, false, false, false, false, false, false] rfl rfl (by kernel_rfl) (fun _ _ _ h => h) (Or.inl ⟨by rfl, ?_⟩) hHeld ?_ ?_
  rotate_left
  · rintro w' ⟨s0, s1⟩
    go_simp
    with_reducible rfl
  rotate_left
  · simp only [Act.put, List.setIfInBounds_toArray, List.set_cons_zero, List.set_cons_succ, i64_w, i32_w]
    rfl
  refine take_ (i := 4) (N := some 12) (v := ?_) (a' := ?_) #[true, true, false, true, true, false, false, false, false, false] rfl rfl (by kernel_rfl) (fun _ _ _ h => h) (Or.inl ⟨by rfl, ?_⟩) hHeld ?_ ?_
  rotate_left
  · rintro w' ⟨s0, s1⟩
    go_simp
    with_reducible rfl
  rotate_left
  · simp only [Act.put, List.setIfInBounds_toArray, List.set_cons_zero, List.set_cons_succ, i64_w, i32_w]
    rfl
  refine one_ (i := 2) (N := some 10) #[true, true, true, true, true, false, false, false, false, false] rfl rfl (by kernel_rfl) (by decide) (fun K hK => ?_)
  refine goes_ Try.func12 (by kernel_rfl) rfl #[.slice A0 ws.length c0, .int .i64 32] (by rfl) rfl rfl (by simp only [List.map_toArray, List.map_cons, List.map_nil]; rfl) ?_
  with_reducible refine (some12_32 A0 ws L0 c0 HL0 hc0 _).mono ?_
  rintro e' w3 ⟨rfl, rfl⟩
  refine ⟨_, rfl, ?_⟩
  refine hK.out _ _ ⟨p2_02, p2_05⟩ (fun hHeld => ?_)
  clear hK K
  refine norm_ (a' := ?_) ?_ ?_
  rotate_left
  · show Act.put _ (some 10) _ = _
    simp only [Act.put, List.setIfInBounds_toArray, List.set_cons_zero, List.set_cons_succ, i64_w, i32_w]
    rfl
  refine pure_ (i := 6) (N := some 14) (v := ?_) (a' := ?_) #[true, true, true, true, true, false, true, false, false, false] rfl rfl (by kernel_rfl) (fun _ _ _ h => h) (Or.inl ⟨by rfl, ?_⟩) ?_ ?_
  rotate_left
  · intro w'
    go_simp
    with_reducible rfl
  rotate_left
  · simp only [Act.put, List.setIfInBounds_toArray, List.set_cons_zero, List.set_cons_succ, i64_w, i32_w]
    rfl
  refine one_ (i := 5) (N := some 13) #[true, true, true, true, true, true, true, false, false, false] rfl rfl (by kernel_rfl) (by decide) (fun K hK => ?_)
  refine goes_ Try.func12 (by kernel_rfl) rfl #[.slice A1 ts.length c1, .int .i64 8] (by rfl) rfl rfl (by simp only [List.map_toArray, List.map_cons, List.map_nil]; rfl) ?_
  with_reducible refine (some12_8 A1 ts L1 c1 HL1 hc1 _).mono ?_
  rintro e' w3 ⟨rfl, rfl⟩
  refine ⟨_, rfl, ?_⟩
  refine hK.out _ _ ⟨p2_02, p2_05⟩ (fun hHeld => ?_)
  clear hK K
  refine norm_ (a' := ?_) ?_ ?_
  rotate_left
  · show Act.put _ (some 13) _ = _
    simp only [Act.put, List.setIfInBounds_toArray, List.set_cons_zero, List.set_cons_succ, i64_w, i32_w]
    rfl
  refine last_ (i := 7) (N := none) #[true, true, true, true, true, true, true, true, false, false] rfl rfl (by kernel_rfl) (by decide) (fun K hK => ?_)
  refine skip_ (w1 := ?_) (by rfl) rfl ?_ ?_
  rotate_left
  · go_simp
    rfl
  refine hK.out _ _ ?_
  clear hK K
  refine pure_ (i := 8) (N := some 15) (v := ?_) (a' := ?_) #[true, true, true, true, true, true, true, true, true, false] rfl rfl (by kernel_rfl) (fun _ _ _ h => h) (Or.inl ⟨by rfl, ?_⟩) ?_ ?_
  rotate_left
  · intro w'
    go_simp
    with_reducible rfl
  rotate_left
  · simp only [Act.put, List.setIfInBounds_toArray, List.set_cons_zero, List.set_cons_succ, i64_w, i32_w]
    rfl
  refine last_ (i := 9) (N := none) #[true, true, true, true, true, true, true, true, true, true] rfl rfl (by kernel_rfl) (by decide) (fun K hK => ?_)
  refine skip_ (w1 := ?_) (by rfl) rfl ?_ ?_
  rotate_left
  · go_simp
    rfl
  refine hK.out _ _ ?_
  clear hK K
  refine done_ (by kernel_rfl) ?_
  have HB3 := Lib.hid (Below.drew (Below.setCell (Below.setCell HB2.out (p := ⟨w.heap.size, 2, none⟩) (by simp) (.slice A0 L0.length c0)) (p := ⟨w.heap.size, 5, none⟩) (by simp) (.slice A1 L1.length c1)))
  have HX3_0 := Lib.hid (show ((w2.setCell ⟨w.heap.size, 2, none⟩ (.slice A0 L0.length c0)).setCell ⟨w.heap.size, 5, none⟩ (.slice A1 L1.length c1)).drew.heap[w.heap.size]? = _ from set2 HX2_0.out 2 5 (.slice A0 L0.length c0) (.slice A1 L1.length c1))
  clear p2_00 p2_01 p2_02 p2_03 p2_04 p2_05 p2_0f HB2 HX2_0
  generalize ((w2.setCell ⟨w.heap.size, 2, none⟩ (.slice A0 L0.length c0)).setCell ⟨w.heap.size, 5, none⟩ (.slice A1 L1.length c1)).drew = w3 at HB3 HX3_0 ⊢
  obtain ⟨p3_00, p3_01, p3_02, p3_03, p3_04, p3_05, p3_0f⟩ := blk_cells6 HX3_0.out
  go_wp2_with fail
  refine (Encode_is a b pr md L0 L1 A0 A1 c0 c1 _ ha0 ha1 ⟨by omega, hl0, Kd.C_below K0.out HB3.out⟩ ⟨by omega, hl1, Kd.C_below K1.out HB3.out⟩ (s := ⟨#[]⟩) (er := er) HE).mono ?_
  rintro e w4 ⟨rfl, hb4⟩
  have HB4 := Lib.hid (HB3.out.trans (hb4.mono HB3.out.size))
  have HX4_0 := Lib.hid (blk_keep hb4 HX3_0.out)
  clear p3_00 p3_01 p3_02 p3_03 p3_04 p3_05 p3_0f
  obtain ⟨p4_00, p4_01, p4_02, p4_03, p4_04, p4_05, p4_0f⟩ := blk_cells6 HX4_0.out
  clear hb4 
  go_wp2_with fail
  refine (pCheck_is a b pr md L0 L1 A0 A1 c0 c1 _ ⟨by omega, hl0, Kd.C_below K0.out HB4.out⟩ ⟨by omega, hl1, Kd.C_below K1.out HB4.out⟩ (er := er) Hpe).mono ?_
  rintro e w5 ⟨rfl, hb5⟩
  have HB5 := Lib.hid (HB4.out.trans (hb5.mono HB4.out.size))
  have HX5_0 := Lib.hid (blk_keep hb5 HX4_0.out)
  clear p4_00 p4_01 p4_02 p4_03 p4_04 p4_05 p4_0f
  obtain ⟨p5_00, p5_01, p5_02, p5_03, p5_04, p5_05, p5_0f⟩ := blk_cells6 HX5_0.out
  clear hb5 
  go_wp2_with fail
  go_ret
  exact ⟨rfl, HB5.out⟩
set_option maxHeartbeats 2000000 in
set_option maxRecDepth 100000 in
theorem PathBack_good (a b pr md : Int) (ws ts L0 L1 : List Int) (A0 A1 : Option Addr) (c0 c1 : Nat) (w : World) (ha0 : 0 ≤ a) (ha1 : a ≤ 4294967295) (hc0 : ws.length ≤ c0) (hc1 : ts.length ≤ c1) (hl0 : L0.length ≤ c0) (hl1 : L1.length ≤ c1) (hm0 : L0.length ≤ 32) (hm1 : L1.length ≤ 8) (HL0 : Hid (L0 = ws.take 32)) (HL1 : Hid (L1 = ts.take 8))
    (K0 : Hid (Kd.C (Kd.int .i64) w A0 L0.length L0)) (K1 : Hid (Kd.C (Kd.int .i64) w A1 L1.length L1)) (s : ByteArray) (HE : EncAns a b L0 pr md L1 s 0) (HD : Hid (∀ W, Calls Try.prog 15 #[.string s] W fun e w' => ∃ Aw At cw ct, e = .returned (.tuple #[.agg #[.int .u32 a, .int .i64 b, .slice Aw L0.length cw, .int .i64 pr, .int .i64 md, .slice At L1.length ct], .int .i64 0]) ∧ (L0.length ≤ cw ∧ Kd.C (Kd.int .i64) w' Aw L0.length L0) ∧ (L1.length ≤ ct ∧ Kd.C (Kd.int .i64) w' At L1.length L1) ∧ Below W.heap.size W w')) (ks : Nat) (Hsame : Hid (patchbaykeep2_samePath.f ks a b L0 pr md L1 a b L0 pr md L1 = some true)) :
    Calls Try.prog 3 #[.agg #[.int .u32 a, .int .i64 b, .slice A0 ws.length c0, .int .i64 pr, .int .i64 md, .slice A1 ts.length c1]] w fun e w' => e = .returned (.bool true) ∧ Below w.heap.size w w' := by
  have hu25 := Try.underlying25
  have hu27 := Try.underlying27
  go_enter Try.func3, Try.ntmps3
  go_wp2_with fail
  have HX1_0 := Lib.hid (blk_alloc w (.cells #[.int .u32 a, .int .i64 b, .slice A0 ws.length c0, .int .i64 pr, .int .i64 md, .slice A1 ts.length c1] 27))
  have HB1 := Lib.hid ((Below.refl w.heap.size w).alloc (Nat.le_refl _) (.cells #[.int .u32 a, .int .i64 b, .slice A0 ws.length c0, .int .i64 pr, .int .i64 md, .slice A1 ts.length c1] 27))
  refine (pathLives_any _).mono ?_
  rintro e w2 ⟨rfl, hb2⟩
  have HB2 := Lib.hid (HB1.out.trans (hb2.mono HB1.out.size))
  have HX2_0 := Lib.hid (blk_keep hb2 HX1_0.out)
  obtain ⟨p2_00, p2_01, p2_02, p2_03, p2_04, p2_05, p2_0f⟩ := blk_cells6 HX2_0.out
  clear hb2 
  go_wp2_with fail
  refine start_ (n := 10) (S := fun w' => w'.cell? ⟨w.heap.size, 2, none⟩ = some (.slice A0 ws.length c0) ∧ w'.cell? ⟨w.heap.size, 5, none⟩ = some (.slice A1 ts.length c1)) (ds := [7, 9]) #[false, false, false, false, false, false, false, false, false, false] (by kernel_rfl) rfl rfl ⟨p2_02, p2_05⟩ (fun hHeld => ?_)
  refine pure_ (i := 0) (N := some 8) (v := ?_) (a' := ?_) #[true, false, false, false, false, false, false, false, false, false] rfl rfl (by kernel_rfl) (fun _ _ _ h => h) (Or.inl ⟨by rfl, ?_⟩) ?_ ?_
  rotate_left
  · intro w'
    go_simp
    with_reducible rfl
  rotate_left
  · simp only [Act.put, List.setIfInBounds_toArray, List.set_cons_zero, List.set_cons_succ, i64_w, i32_w]
    rfl
  refine pure_ (i := 3) (N := some 11) (v := ?_) (a' := ?_) #[true, false, false, true, false, false, false, false, false, false] rfl rfl (by kernel_rfl) (fun _ _ _ h => h) (Or.inl ⟨by rfl, ?_⟩) ?_ ?_
  rotate_left
  · intro w'
    go_simp
    with_reducible rfl
  rotate_left
  · simp only [Act.put, List.setIfInBounds_toArray, List.set_cons_zero, List.set_cons_succ, i64_w, i32_w]
    rfl
  refine take_ (i := 1) (N := some 9) (v := ?_) (a' := ?_) #[true, true, false, true, false, false, false, false, false, false] rfl rfl (by kernel_rfl) (fun _ _ _ h => h) (Or.inl ⟨by rfl, ?_⟩) hHeld ?_ ?_
  rotate_left
  · rintro w' ⟨s0, s1⟩
    go_simp
    with_reducible rfl
  rotate_left
  · simp only [Act.put, List.setIfInBounds_toArray, List.set_cons_zero, List.set_cons_succ, i64_w, i32_w]
    rfl
  refine take_ (i := 4) (N := some 12) (v := ?_) (a' := ?_) #[true, true, false, true, true, false, false, false, false, false] rfl rfl (by kernel_rfl) (fun _ _ _ h => h) (Or.inl ⟨by rfl, ?_⟩) hHeld ?_ ?_
  rotate_left
  · rintro w' ⟨s0, s1⟩
    go_simp
    with_reducible rfl
  rotate_left
  · simp only [Act.put, List.setIfInBounds_toArray, List.set_cons_zero, List.set_cons_succ, i64_w, i32_w]
    rfl
  refine one_ (i := 2) (N := some 10) #[true, true, true, true, true, false, false, false, false, false] rfl rfl (by kernel_rfl) (by decide) (fun K hK => ?_)
  refine goes_ Try.func12 (by kernel_rfl) rfl #[.slice A0 ws.length c0, .int .i64 32] (by rfl) rfl rfl (by simp only [List.map_toArray, List.map_cons, List.map_nil]; rfl) ?_
  with_reducible refine (some12_32 A0 ws L0 c0 HL0 hc0 _).mono ?_
  rintro e' w3 ⟨rfl, rfl⟩
  refine ⟨_, rfl, ?_⟩
  refine hK.out _ _ ⟨p2_02, p2_05⟩ (fun hHeld => ?_)
  clear hK K
  refine norm_ (a' := ?_) ?_ ?_
  rotate_left
  · show Act.put _ (some 10) _ = _
    simp only [Act.put, List.setIfInBounds_toArray, List.set_cons_zero, List.set_cons_succ, i64_w, i32_w]
    rfl
  refine pure_ (i := 6) (N := some 14) (v := ?_) (a' := ?_) #[true, true, true, true, true, false, true, false, false, false] rfl rfl (by kernel_rfl) (fun _ _ _ h => h) (Or.inl ⟨by rfl, ?_⟩) ?_ ?_
  rotate_left
  · intro w'
    go_simp
    with_reducible rfl
  rotate_left
  · simp only [Act.put, List.setIfInBounds_toArray, List.set_cons_zero, List.set_cons_succ, i64_w, i32_w]
    rfl
  refine one_ (i := 5) (N := some 13) #[true, true, true, true, true, true, true, false, false, false] rfl rfl (by kernel_rfl) (by decide) (fun K hK => ?_)
  refine goes_ Try.func12 (by kernel_rfl) rfl #[.slice A1 ts.length c1, .int .i64 8] (by rfl) rfl rfl (by simp only [List.map_toArray, List.map_cons, List.map_nil]; rfl) ?_
  with_reducible refine (some12_8 A1 ts L1 c1 HL1 hc1 _).mono ?_
  rintro e' w3 ⟨rfl, rfl⟩
  refine ⟨_, rfl, ?_⟩
  refine hK.out _ _ ⟨p2_02, p2_05⟩ (fun hHeld => ?_)
  clear hK K
  refine norm_ (a' := ?_) ?_ ?_
  rotate_left
  · show Act.put _ (some 13) _ = _
    simp only [Act.put, List.setIfInBounds_toArray, List.set_cons_zero, List.set_cons_succ, i64_w, i32_w]
    rfl
  refine last_ (i := 7) (N := none) #[true, true, true, true, true, true, true, true, false, false] rfl rfl (by kernel_rfl) (by decide) (fun K hK => ?_)
  refine skip_ (w1 := ?_) (by rfl) rfl ?_ ?_
  rotate_left
  · go_simp
    rfl
  refine hK.out _ _ ?_
  clear hK K
  refine pure_ (i := 8) (N := some 15) (v := ?_) (a' := ?_) #[true, true, true, true, true, true, true, true, true, false] rfl rfl (by kernel_rfl) (fun _ _ _ h => h) (Or.inl ⟨by rfl, ?_⟩) ?_ ?_
  rotate_left
  · intro w'
    go_simp
    with_reducible rfl
  rotate_left
  · simp only [Act.put, List.setIfInBounds_toArray, List.set_cons_zero, List.set_cons_succ, i64_w, i32_w]
    rfl
  refine last_ (i := 9) (N := none) #[true, true, true, true, true, true, true, true, true, true] rfl rfl (by kernel_rfl) (by decide) (fun K hK => ?_)
  refine skip_ (w1 := ?_) (by rfl) rfl ?_ ?_
  rotate_left
  · go_simp
    rfl
  refine hK.out _ _ ?_
  clear hK K
  refine done_ (by kernel_rfl) ?_
  have HB3 := Lib.hid (Below.drew (Below.setCell (Below.setCell HB2.out (p := ⟨w.heap.size, 2, none⟩) (by simp) (.slice A0 L0.length c0)) (p := ⟨w.heap.size, 5, none⟩) (by simp) (.slice A1 L1.length c1)))
  have HX3_0 := Lib.hid (show ((w2.setCell ⟨w.heap.size, 2, none⟩ (.slice A0 L0.length c0)).setCell ⟨w.heap.size, 5, none⟩ (.slice A1 L1.length c1)).drew.heap[w.heap.size]? = _ from set2 HX2_0.out 2 5 (.slice A0 L0.length c0) (.slice A1 L1.length c1))
  clear p2_00 p2_01 p2_02 p2_03 p2_04 p2_05 p2_0f HB2 HX2_0
  generalize ((w2.setCell ⟨w.heap.size, 2, none⟩ (.slice A0 L0.length c0)).setCell ⟨w.heap.size, 5, none⟩ (.slice A1 L1.length c1)).drew = w3 at HB3 HX3_0 ⊢
  obtain ⟨p3_00, p3_01, p3_02, p3_03, p3_04, p3_05, p3_0f⟩ := blk_cells6 HX3_0.out
  go_wp2_with fail
  refine (Encode_is a b pr md L0 L1 A0 A1 c0 c1 _ ha0 ha1 ⟨by omega, hl0, Kd.C_below K0.out HB3.out⟩ ⟨by omega, hl1, Kd.C_below K1.out HB3.out⟩ (s := s) (er := 0) HE).mono ?_
  rintro e w4 ⟨rfl, hb4⟩
  have HB4 := Lib.hid (HB3.out.trans (hb4.mono HB3.out.size))
  have HX4_0 := Lib.hid (blk_keep hb4 HX3_0.out)
  clear p3_00 p3_01 p3_02 p3_03 p3_04 p3_05 p3_0f
  obtain ⟨p4_00, p4_01, p4_02, p4_03, p4_04, p4_05, p4_0f⟩ := blk_cells6 HX4_0.out
  clear hb4 
  go_wp2_with fail
  refine (HD.out _).mono ?_
  rintro e w5 ⟨Aw, At, cw, ct, rfl, hCw, hCt, hb5⟩
  have HCw := Lib.hid hCw
  have HCt := Lib.hid hCt
  clear hCw hCt
  have HB5 := Lib.hid (HB4.out.trans (hb5.mono HB4.out.size))
  have HX5_0 := Lib.hid (blk_keep hb5 HX4_0.out)
  clear p4_00 p4_01 p4_02 p4_03 p4_04 p4_05 p4_0f
  obtain ⟨p5_00, p5_01, p5_02, p5_03, p5_04, p5_05, p5_0f⟩ := blk_cells6 HX5_0.out
  clear hb5 
  have hlt := blk_lt HX5_0.out
  go_wp2_with fail
  have HB6 := Lib.hid (HB5.out.alloc HB5.out.size (.cells #[.int .u32 a, .int .i64 b, .slice Aw L0.length cw, .int .i64 pr, .int .i64 md, .slice At L1.length ct] 27))
  refine (patchbaykeep2_samePath.calls ks a b A0 c0 L0 pr md A1 c1 L1 a b Aw cw L0 pr md At ct L1 true _ (Kd.C_below K0.out HB6.out) hl0 (Kd.C_below K1.out HB6.out) hl1 (Kd.C_below HCw.out.2 ((Below.refl _ _).alloc (Nat.le_refl _) _)) HCw.out.1 (Kd.C_below HCt.out.2 ((Below.refl _ _).alloc (Nat.le_refl _) _)) HCt.out.1 Hsame.out).mono ?_
  rintro e w7 ⟨rfl, hb7⟩
  have HB7 := Lib.hid (HB6.out.trans (hb7.mono HB6.out.size))
  clear hb7
  go_wp2_with fail
  go_ret
  exact ⟨rfl, HB7.out⟩

theorem PathBack_walk (a b pr md : Int) (ws ts : List Int) (A0 A1 : Option Addr) (c0 c1 : Nat) (w : World) (ha0 : 0 ≤ a) (ha1 : a ≤ 4294967295) (hc0 : ws.length ≤ c0) (hc1 : ts.length ≤ c1)
    (K0 : Kd.C (Kd.int .i64) w A0 ws.length ws) (K1 : Kd.C (Kd.int .i64) w A1 ts.length ts) :
    Calls Try.prog 3 #[.agg #[.int .u32 a, .int .i64 b, .slice A0 ws.length c0, .int .i64 pr, .int .i64 md, .slice A1 ts.length c1]] w fun e w' => e = .returned (.bool true) ∧ Below w.heap.size w w' := by
  have hl0 : (ws.take 32).length ≤ c0 := by rw [List.length_take]; omega
  have hl1 : (ts.take 8).length ≤ c1 := by rw [List.length_take]; omega
  have hm0 : (ws.take 32).length ≤ 32 := List.length_take_le _ _
  have hm1 : (ts.take 8).length ≤ 8 := List.length_take_le _ _
  by_cases h : pchk a b (ws.take 32) pr md (ts.take 8) = 0
  · have hv := pchk_zero h
    obtain ⟨ks, hs⟩ := samePath_refl a b (ws.take 32) pr md (ts.take 8) (by omega) (by omega)
    refine PathBack_good a b pr md ws ts _ _ A0 A1 c0 c1 w ha0 ha1 hc0 hc1 hl0 hl1 hm0 hm1 (Lib.hid rfl) (Lib.hid rfl) (Lib.hid (C_take 32 K0)) (Lib.hid (C_take 8 K1)) _ (.inl ⟨h, rfl, rfl⟩) ?_ ks hs
    intro W
    have hd := dec_enc ha0 ha1 hv
    rcases Decode_all _ _ rfl (enc_byte a b (ws.take 32) pr md (ts.take 8)) W with ⟨er, _, hn, _⟩ | ⟨a', b', ws', pr', md', ts', hd', _, _, _, hc⟩
    · exact absurd h (hn _ _ _ _ _ _ hd)
    · obtain rfl : a' = a := hd'.va.symm.trans hd.va
      obtain rfl : b' = b := hd'.vb.symm.trans hd.vb
      obtain rfl : pr' = pr := hd'.vp.symm.trans hd.vp
      obtain rfl : md' = md := hd'.vm.symm.trans hd.vm
      obtain rfl : ws' = ws.take 32 := hd'.vw.symm.trans hd.vw
      obtain rfl : ts' = ts.take 8 := hd'.vt.symm.trans hd.vt
      exact hc
  · exact PathBack_bad a b pr md ws ts _ _ A0 A1 c0 c1 w ha0 ha1 hc0 hc1 hl0 hl1 hm0 hm1 (Lib.hid rfl) (Lib.hid rfl) (Lib.hid (C_take 32 K0)) (Lib.hid (C_take 8 K1)) _ (.inr ⟨h, rfl, rfl⟩) (Lib.hid rfl) (bne_iff_ne.mpr h) (beq_iff_eq.mpr rfl)

end Go.Proofs.Ytaaohfhcimndmaa.M
