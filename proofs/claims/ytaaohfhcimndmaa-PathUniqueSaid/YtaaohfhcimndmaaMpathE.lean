/- Own lemmas: path.Decode. -/
import Derived.Test.YtaaohfhcimndmaaMpathD
namespace Go.Proofs.Ytaaohfhcimndmaa.M
open Go.RowKit Go.Proofs.YtaaohfhcimndmaaW.PrintWords Go.Proofs.YtaaohfhcimndmaaW.PrintLast Go.Proofs.YtaaohfhcimndmaaW.PrintMore Go.Proofs.Ytaaohfhcimndmaa.PPathBack
set_option linter.unusedVariables false
set_option linter.unusedSimpArgs false

theorem isnew (w0 W : World) (f0 : ByteArray) (f1 : Bool) (n : Nat) (h : W.heap.size = n) (hB : Below w0.heap.size w0 W) : IsS79 w0 (W.alloc (.cells #[.string f0, .bool f1] 79)) n f0 f1 := by
  subst h; exact IsS79.new w0 W f0 f1 hB

theorem R_other {α : Type} {d : Kd α} {e base : Nat} {ok : Nat → Prop} {w w' : World} {v : Value} {xs : List α} {g t : Nat} {cells : Array Value} (h : Kd.R d e w base ok v xs) (hb : w.heap[g]? = some (.cells cells t (0, 0))) (ht : ∀ q, q ∈ e :: d.E → q ≠ t)
    (hw : ∀ k, k ≠ g → w'.heap[k]? = w.heap[k]?) : Kd.R d e w' base ok v xs :=
  Kd.R_mono (Kd.R_step (Kd.R_types h hb ht) (fun k hk _ => hw k hk.2)) (fun _ hk => hk.1)
theorem R_C {α : Type} {d : Kd α} {e base : Nat} {ok : Nat → Prop} {w : World} {A : Option Addr} {n c : Nat} {xs : List α} (h : Kd.R d e w base ok (.slice A n c) xs) : xs.length ≤ 9223372036854775807 ∧ xs.length ≤ c ∧ d.C w A xs.length xs := by
  obtain ⟨A', c', he, hl, hC⟩ := Kd.R_reads h
  simp only [Value.slice.injEq] at he
  obtain ⟨rfl, _, rfl⟩ := he
  exact ⟨hC.2.1, hl, hC⟩
theorem pCheck_is (a b pr md : Int) (ws ts : List Int) (A0 A1 : Option Addr) (c0 c1 : Nat) (w : World) (h0 : ws.length ≤ 9223372036854775807 ∧ ws.length ≤ c0 ∧ Kd.C (Kd.int .i64) w A0 ws.length ws) (h1 : ts.length ≤ 9223372036854775807 ∧ ts.length ≤ c1 ∧ Kd.C (Kd.int .i64) w A1 ts.length ts) {er : Int} (he : Hid (pchk a b ws pr md ts = er)) :
    Calls Try.prog 14 #[.agg #[.int .u32 a, .int .i64 b, .slice A0 ws.length c0, .int .i64 pr, .int .i64 md, .slice A1 ts.length c1]] w fun e w' => e = .returned (.int .i64 er) ∧ Below w.heap.size w w' := by
  rw [← he.out]
  exact pCheck_any a b pr md ws ts A0 A1 c0 c1 w h0.1 h1.1 h0.2.1 h1.2.1 (Lib.hid h0.2.2) (Lib.hid h1.2.2)
set_option maxHeartbeats 2000000 in
set_option maxRecDepth 100000 in
theorem Decode_short (s s1 s2 s3 s4 s5 s6 : ByteArray) (b1 b2 b3 b4 b5 b6 : Bool) (v1 v2 v3 v4 : Int) (ws ts : List Int) (k : Nat) (w : World) (hv2 : 0 ≤ v2) (hv2' : v2 ≤ 4294967295)
    (H1 : Hid (path_reader_num.f k s false 1 = some (v1, s1, b1))) (H2 : Hid (path_reader_num.f k s1 b1 4 = some (v2, s2, b2))) (H3 : Hid (path_reader_num.f k s2 b2 4 = some (v3, s3, b3))) (H4 : Hid (path_reader_num.f k s3 b3 4 = some (v4, s4, b4)))
    (H5 : Hid (path_reader_list.f k s4 b4 = some (ws, s5, b5))) (H6 : Hid (path_reader_list.f k s5 b5 = some (ts, s6, b6))) (hb : b6 = true) :
    Calls Try.prog 15 #[.string s] w fun e w' => e = .returned (.tuple #[.agg #[.int .u32 0, .int .i64 0, .slice none 0 0, .int .i64 0, .int .i64 0, .slice none 0 0], .int .i64 9]) ∧ Below w.heap.size w w' := by
  have hu25 := Try.underlying25
  have hu27 := Try.underlying27
  have hw32 : IntKind.u32.wrap v2 = v2 := by rw [IntKind.wrap_u32]; omega
  go_enter Try.func15, Try.ntmps15
  go_wp2_with fail
  have HX1_0 := Lib.hid (show ((w.alloc (.cells #[.int .u32 0, .int .i64 0, .slice none 0 0, .int .i64 0, .int .i64 0, .slice none 0 0] 27)).alloc (.cells #[.string s, .bool false] 79)).heap[w.heap.size]? = _ from blk_keep ((Below.refl _ _).alloc (Nat.le_refl _) _) (blk_alloc w _))
  have HB1 := Lib.hid (((Below.refl w.heap.size w).alloc (Nat.le_refl _) (.cells #[.int .u32 0, .int .i64 0, .slice none 0 0, .int .i64 0, .int .i64 0, .slice none 0 0] 27)).alloc (by simp) (.cells #[.string s, .bool false] 79))
  have HI1 := Lib.hid (isnew w (w.alloc (.cells #[.int .u32 0, .int .i64 0, .slice none 0 0, .int .i64 0, .int .i64 0, .slice none 0 0] 27)) s false (w.heap.size + 1) (by simp) ((Below.refl w.heap.size w).alloc (Nat.le_refl _) (.cells #[.int .u32 0, .int .i64 0, .slice none 0 0, .int .i64 0, .int .i64 0, .slice none 0 0] 27)))
  refine (path_reader_num.calls k (w.heap.size + 1) s false 1 _ _ _ w _ HI1.out HB1.out H1.out).mono ?_
  rintro e w2 ⟨rfl, hI, hB, hk⟩
  have HI2 := Lib.hid hI
  have HB2 := Lib.hid hB
  have HX2_0 := Lib.hid (hk.blk HX1_0.out (by simp) (by simp))
  clear hI hB hk
  go_wp2_with fail
  refine (path_reader_num.calls k (w.heap.size + 1) s1 b1 4 _ _ _ w _ HI2.out HB2.out H2.out).mono ?_
  rintro e w3 ⟨rfl, hI, hB, hk⟩
  have HI3 := Lib.hid hI
  have HB3 := Lib.hid hB
  have HX3_0 := Lib.hid (hk.blk HX2_0.out (by simp) (by simp))
  clear hI hB hk
  go_wp2_with fail
  refine (path_reader_num.calls k (w.heap.size + 1) s2 b2 4 _ _ _ w _ HI3.out HB3.out H3.out).mono ?_
  rintro e w4 ⟨rfl, hI, hB, hk⟩
  have HI4 := Lib.hid hI
  have HB4 := Lib.hid hB
  have HX4_0 := Lib.hid (hk.blk HX3_0.out (by simp) (by simp))
  clear hI hB hk
  go_wp2_with fail
  refine (path_reader_num.calls k (w.heap.size + 1) s3 b3 4 _ _ _ w _ HI4.out HB4.out H4.out).mono ?_
  rintro e w5 ⟨rfl, hI, hB, hk⟩
  have HI5 := Lib.hid hI
  have HB5 := Lib.hid hB
  have HX5_0 := Lib.hid (hk.blk HX4_0.out (by simp) (by simp))
  clear hI hB hk
  go_wp2_with fail
  have hlt0 : w.heap.size + 1 < w5.heap.size := HI5.out.lt
  have HX6_0 := Lib.hid (blk_keep ((Below.refl _ _).alloc (Nat.le_refl _) (.cells #[.int .u32 v2, .int .i64 v1, .slice none 0 0, .int .i64 v3, .int .i64 v4, .slice none 0 0] 27)) HX5_0.out)
  have HX6_5 := Lib.hid (blk_alloc w5 (.cells #[.int .u32 v2, .int .i64 v1, .slice none 0 0, .int .i64 v3, .int .i64 v4, .slice none 0 0] 27))
  have HB6 := Lib.hid (HB5.out.alloc HB5.out.size (.cells #[.int .u32 v2, .int .i64 v1, .slice none 0 0, .int .i64 v3, .int .i64 v4, .slice none 0 0] 27))
  have HI6 := Lib.hid (HI5.out.alloc (.cells #[.int .u32 v2, .int .i64 v1, .slice none 0 0, .int .i64 v3, .int .i64 v4, .slice none 0 0] 27))
  refine (path_reader_list.calls k (w.heap.size + 1) s4 b4 _ _ _ w _ HI6.out HB6.out H5.out).mono ?_
  rintro e w7 ⟨vw, rfl, hR, hI, hB, hk⟩
  have HI7 := Lib.hid hI
  have HB7 := Lib.hid hB
  have hne5 : w5.heap.size ≠ w.heap.size + 1 := by omega
  have HX7_0 := Lib.hid (hk.blk HX6_0.out (by simp) (by simp))
  have HX7_5 := Lib.hid (hk.blk HX6_5.out hne5 (by simp))
  have HRw := Lib.hid (hI.apart hR (by intro q hq; simp [Kd.int, Kd.scalar] at hq; omega))
  clear hR hI hB hk
  go_wp2_with fail
  refine (path_reader_list.calls k (w.heap.size + 1) s5 b5 _ _ _ w _ HI7.out HB7.out H6.out).mono ?_
  rintro e w8 ⟨vt, rfl, hR, hI, hB, hk⟩
  have HI8 := Lib.hid hI
  have HB8 := Lib.hid hB
  have HX8_0 := Lib.hid (hk.blk HX7_0.out (by simp) (by simp))
  have HX8_5 := Lib.hid (hk.blk HX7_5.out hne5 (by simp))
  have HRw8 := Lib.hid (Kd.R_keep HRw.out hk (fun k hk => hk.2))
  have HRt := Lib.hid hR
  clear hR hI hB hk HRw
  obtain ⟨x0, x1, x2, x3, x4, x5, xf⟩ := blk_cells6 HX8_5.out
  obtain ⟨y0, y1, y2, y3, y4, y5, yf⟩ := blk_cells6 HX8_0.out
  have z0 := cellS79_0 HI8.out.1
  have z1 := cellS79_1 HI8.out.1
  obtain ⟨Aw, cw, rfl⟩ := Kd.R_slice HRw8.out
  obtain ⟨At, ct, rfl⟩ := Kd.R_slice HRt.out
  have hn1 : w.heap.size ≠ w5.heap.size := by omega
  have hn2 : w.heap.size + 1 ≠ w5.heap.size := by omega
  have hn3 : w5.heap.size ≠ w.heap.size := by omega
  go_wp2_with fail
  go_wp2_with fail
  refine bodyPost_ret (v := .tuple #[.agg #[.int .u32 0, .int .i64 0, .slice none 0 0, .int .i64 0, .int .i64 0, .slice none 0 0], .int .i64 9]) (by simp [results, Try.results15, go_sem, y0, y1, y2, y3, y4, y5]) rfl ⟨rfl, (by (repeat (refine Below.setCell ?_ (by first | exact Nat.le_refl _ | (show w.heap.size ≤ w5.heap.size; omega)) _)); exact HB8.out)⟩
set_option maxHeartbeats 2000000 in
set_option maxRecDepth 100000 in
theorem Decode_more (s s1 s2 s3 s4 s5 s6 : ByteArray) (b1 b2 b3 b4 b5 b6 : Bool) (v1 v2 v3 v4 : Int) (ws ts : List Int) (k : Nat) (w : World) (hv2 : 0 ≤ v2) (hv2' : v2 ≤ 4294967295)
    (H1 : Hid (path_reader_num.f k s false 1 = some (v1, s1, b1))) (H2 : Hid (path_reader_num.f k s1 b1 4 = some (v2, s2, b2))) (H3 : Hid (path_reader_num.f k s2 b2 4 = some (v3, s3, b3))) (H4 : Hid (path_reader_num.f k s3 b3 4 = some (v4, s4, b4)))
    (H5 : Hid (path_reader_list.f k s4 b4 = some (ws, s5, b5))) (H6 : Hid (path_reader_list.f k s5 b5 = some (ts, s6, b6))) (hb : b6 = false) (hs1 : s6.toList.isEmpty = false) (hs2 : (!s6.toList.isEmpty) = true)  :
    Calls Try.prog 15 #[.string s] w fun e w' => e = .returned (.tuple #[.agg #[.int .u32 0, .int .i64 0, .slice none 0 0, .int .i64 0, .int .i64 0, .slice none 0 0], .int .i64 3]) ∧ Below w.heap.size w w' := by
  have hu25 := Try.underlying25
  have hu27 := Try.underlying27
  have hw32 : IntKind.u32.wrap v2 = v2 := by rw [IntKind.wrap_u32]; omega
  go_enter Try.func15, Try.ntmps15
  go_wp2_with fail
  have HX1_0 := Lib.hid (show ((w.alloc (.cells #[.int .u32 0, .int .i64 0, .slice none 0 0, .int .i64 0, .int .i64 0, .slice none 0 0] 27)).alloc (.cells #[.string s, .bool false] 79)).heap[w.heap.size]? = _ from blk_keep ((Below.refl _ _).alloc (Nat.le_refl _) _) (blk_alloc w _))
  have HB1 := Lib.hid (((Below.refl w.heap.size w).alloc (Nat.le_refl _) (.cells #[.int .u32 0, .int .i64 0, .slice none 0 0, .int .i64 0, .int .i64 0, .slice none 0 0] 27)).alloc (by simp) (.cells #[.string s, .bool false] 79))
  have HI1 := Lib.hid (isnew w (w.alloc (.cells #[.int .u32 0, .int .i64 0, .slice none 0 0, .int .i64 0, .int .i64 0, .slice none 0 0] 27)) s false (w.heap.size + 1) (by simp) ((Below.refl w.heap.size w).alloc (Nat.le_refl _) (.cells #[.int .u32 0, .int .i64 0, .slice none 0 0, .int .i64 0, .int .i64 0, .slice none 0 0] 27)))
  refine (path_reader_num.calls k (w.heap.size + 1) s false 1 _ _ _ w _ HI1.out HB1.out H1.out).mono ?_
  rintro e w2 ⟨rfl, hI, hB, hk⟩
  have HI2 := Lib.hid hI
  have HB2 := Lib.hid hB
  have HX2_0 := Lib.hid (hk.blk HX1_0.out (by simp) (by simp))
  clear hI hB hk
  go_wp2_with fail
  refine (path_reader_num.calls k (w.heap.size + 1) s1 b1 4 _ _ _ w _ HI2.out HB2.out H2.out).mono ?_
  rintro e w3 ⟨rfl, hI, hB, hk⟩
  have HI3 := Lib.hid hI
  have HB3 := Lib.hid hB
  have HX3_0 := Lib.hid (hk.blk HX2_0.out (by simp) (by simp))
  clear hI hB hk
  go_wp2_with fail
  refine (path_reader_num.calls k (w.heap.size + 1) s2 b2 4 _ _ _ w _ HI3.out HB3.out H3.out).mono ?_
  rintro e w4 ⟨rfl, hI, hB, hk⟩
  have HI4 := Lib.hid hI
  have HB4 := Lib.hid hB
  have HX4_0 := Lib.hid (hk.blk HX3_0.out (by simp) (by simp))
  clear hI hB hk
  go_wp2_with fail
  refine (path_reader_num.calls k (w.heap.size + 1) s3 b3 4 _ _ _ w _ HI4.out HB4.out H4.out).mono ?_
  rintro e w5 ⟨rfl, hI, hB, hk⟩
  have HI5 := Lib.hid hI
  have HB5 := Lib.hid hB
  have HX5_0 := Lib.hid (hk.blk HX4_0.out (by simp) (by simp))
  clear hI hB hk
  go_wp2_with fail
  have hlt0 : w.heap.size + 1 < w5.heap.size := HI5.out.lt
  have HX6_0 := Lib.hid (blk_keep ((Below.refl _ _).alloc (Nat.le_refl _) (.cells #[.int .u32 v2, .int .i64 v1, .slice none 0 0, .int .i64 v3, .int .i64 v4, .slice none 0 0] 27)) HX5_0.out)
  have HX6_5 := Lib.hid (blk_alloc w5 (.cells #[.int .u32 v2, .int .i64 v1, .slice none 0 0, .int .i64 v3, .int .i64 v4, .slice none 0 0] 27))
  have HB6 := Lib.hid (HB5.out.alloc HB5.out.size (.cells #[.int .u32 v2, .int .i64 v1, .slice none 0 0, .int .i64 v3, .int .i64 v4, .slice none 0 0] 27))
  have HI6 := Lib.hid (HI5.out.alloc (.cells #[.int .u32 v2, .int .i64 v1, .slice none 0 0, .int .i64 v3, .int .i64 v4, .slice none 0 0] 27))
  refine (path_reader_list.calls k (w.heap.size + 1) s4 b4 _ _ _ w _ HI6.out HB6.out H5.out).mono ?_
  rintro e w7 ⟨vw, rfl, hR, hI, hB, hk⟩
  have HI7 := Lib.hid hI
  have HB7 := Lib.hid hB
  have hne5 : w5.heap.size ≠ w.heap.size + 1 := by omega
  have HX7_0 := Lib.hid (hk.blk HX6_0.out (by simp) (by simp))
  have HX7_5 := Lib.hid (hk.blk HX6_5.out hne5 (by simp))
  have HRw := Lib.hid (hI.apart hR (by intro q hq; simp [Kd.int, Kd.scalar] at hq; omega))
  clear hR hI hB hk
  go_wp2_with fail
  refine (path_reader_list.calls k (w.heap.size + 1) s5 b5 _ _ _ w _ HI7.out HB7.out H6.out).mono ?_
  rintro e w8 ⟨vt, rfl, hR, hI, hB, hk⟩
  have HI8 := Lib.hid hI
  have HB8 := Lib.hid hB
  have HX8_0 := Lib.hid (hk.blk HX7_0.out (by simp) (by simp))
  have HX8_5 := Lib.hid (hk.blk HX7_5.out hne5 (by simp))
  have HRw8 := Lib.hid (Kd.R_keep HRw.out hk (fun k hk => hk.2))
  have HRt := Lib.hid hR
  clear hR hI hB hk HRw
  obtain ⟨x0, x1, x2, x3, x4, x5, xf⟩ := blk_cells6 HX8_5.out
  obtain ⟨y0, y1, y2, y3, y4, y5, yf⟩ := blk_cells6 HX8_0.out
  have z0 := cellS79_0 HI8.out.1
  have z1 := cellS79_1 HI8.out.1
  obtain ⟨Aw, cw, rfl⟩ := Kd.R_slice HRw8.out
  obtain ⟨At, ct, rfl⟩ := Kd.R_slice HRt.out
  have hn1 : w.heap.size ≠ w5.heap.size := by omega
  have hn2 : w.heap.size + 1 ≠ w5.heap.size := by omega
  have hn3 : w5.heap.size ≠ w.heap.size := by omega
  go_wp2_with fail
  go_wp2_with fail
  refine bodyPost_ret (v := .tuple #[.agg #[.int .u32 0, .int .i64 0, .slice none 0 0, .int .i64 0, .int .i64 0, .slice none 0 0], .int .i64 3]) (by simp [results, Try.results15, go_sem, y0, y1, y2, y3, y4, y5]) rfl ⟨rfl, (by (repeat (refine Below.setCell ?_ (by first | exact Nat.le_refl _ | (show w.heap.size ≤ w5.heap.size; omega)) _)); exact HB8.out)⟩
set_option maxHeartbeats 2000000 in
set_option maxRecDepth 100000 in
theorem Decode_bad (s s1 s2 s3 s4 s5 s6 : ByteArray) (b1 b2 b3 b4 b5 b6 : Bool) (v1 v2 v3 v4 : Int) (ws ts : List Int) (k : Nat) (w : World) (hv2 : 0 ≤ v2) (hv2' : v2 ≤ 4294967295)
    (H1 : Hid (path_reader_num.f k s false 1 = some (v1, s1, b1))) (H2 : Hid (path_reader_num.f k s1 b1 4 = some (v2, s2, b2))) (H3 : Hid (path_reader_num.f k s2 b2 4 = some (v3, s3, b3))) (H4 : Hid (path_reader_num.f k s3 b3 4 = some (v4, s4, b4)))
    (H5 : Hid (path_reader_list.f k s4 b4 = some (ws, s5, b5))) (H6 : Hid (path_reader_list.f k s5 b5 = some (ts, s6, b6))) (hb : b6 = false) (hs1 : s6.toList.isEmpty = true) (hs2 : (!s6.toList.isEmpty) = false) (er : Int) (her : er ≠ 0) (Her : Hid (pchk v2 v1 ws v3 v4 ts = er)) :
    Calls Try.prog 15 #[.string s] w fun e w' => e = .returned (.tuple #[.agg #[.int .u32 0, .int .i64 0, .slice none 0 0, .int .i64 0, .int .i64 0, .slice none 0 0], .int .i64 er]) ∧ Below w.heap.size w w' := by
  have hu25 := Try.underlying25
  have hu27 := Try.underlying27
  have hw32 : IntKind.u32.wrap v2 = v2 := by rw [IntKind.wrap_u32]; omega
  go_enter Try.func15, Try.ntmps15
  go_wp2_with fail
  have HX1_0 := Lib.hid (show ((w.alloc (.cells #[.int .u32 0, .int .i64 0, .slice none 0 0, .int .i64 0, .int .i64 0, .slice none 0 0] 27)).alloc (.cells #[.string s, .bool false] 79)).heap[w.heap.size]? = _ from blk_keep ((Below.refl _ _).alloc (Nat.le_refl _) _) (blk_alloc w _))
  have HB1 := Lib.hid (((Below.refl w.heap.size w).alloc (Nat.le_refl _) (.cells #[.int .u32 0, .int .i64 0, .slice none 0 0, .int .i64 0, .int .i64 0, .slice none 0 0] 27)).alloc (by simp) (.cells #[.string s, .bool false] 79))
  have HI1 := Lib.hid (isnew w (w.alloc (.cells #[.int .u32 0, .int .i64 0, .slice none 0 0, .int .i64 0, .int .i64 0, .slice none 0 0] 27)) s false (w.heap.size + 1) (by simp) ((Below.refl w.heap.size w).alloc (Nat.le_refl _) (.cells #[.int .u32 0, .int .i64 0, .slice none 0 0, .int .i64 0, .int .i64 0, .slice none 0 0] 27)))
  refine (path_reader_num.calls k (w.heap.size + 1) s false 1 _ _ _ w _ HI1.out HB1.out H1.out).mono ?_
  rintro e w2 ⟨rfl, hI, hB, hk⟩
  have HI2 := Lib.hid hI
  have HB2 := Lib.hid hB
  have HX2_0 := Lib.hid (hk.blk HX1_0.out (by simp) (by simp))
  clear hI hB hk
  go_wp2_with fail
  refine (path_reader_num.calls k (w.heap.size + 1) s1 b1 4 _ _ _ w _ HI2.out HB2.out H2.out).mono ?_
  rintro e w3 ⟨rfl, hI, hB, hk⟩
  have HI3 := Lib.hid hI
  have HB3 := Lib.hid hB
  have HX3_0 := Lib.hid (hk.blk HX2_0.out (by simp) (by simp))
  clear hI hB hk
  go_wp2_with fail
  refine (path_reader_num.calls k (w.heap.size + 1) s2 b2 4 _ _ _ w _ HI3.out HB3.out H3.out).mono ?_
  rintro e w4 ⟨rfl, hI, hB, hk⟩
  have HI4 := Lib.hid hI
  have HB4 := Lib.hid hB
  have HX4_0 := Lib.hid (hk.blk HX3_0.out (by simp) (by simp))
  clear hI hB hk
  go_wp2_with fail
  refine (path_reader_num.calls k (w.heap.size + 1) s3 b3 4 _ _ _ w _ HI4.out HB4.out H4.out).mono ?_
  rintro e w5 ⟨rfl, hI, hB, hk⟩
  have HI5 := Lib.hid hI
  have HB5 := Lib.hid hB
  have HX5_0 := Lib.hid (hk.blk HX4_0.out (by simp) (by simp))
  clear hI hB hk
  go_wp2_with fail
  have hlt0 : w.heap.size + 1 < w5.heap.size := HI5.out.lt
  have HX6_0 := Lib.hid (blk_keep ((Below.refl _ _).alloc (Nat.le_refl _) (.cells #[.int .u32 v2, .int .i64 v1, .slice none 0 0, .int .i64 v3, .int .i64 v4, .slice none 0 0] 27)) HX5_0.out)
  have HX6_5 := Lib.hid (blk_alloc w5 (.cells #[.int .u32 v2, .int .i64 v1, .slice none 0 0, .int .i64 v3, .int .i64 v4, .slice none 0 0] 27))
  have HB6 := Lib.hid (HB5.out.alloc HB5.out.size (.cells #[.int .u32 v2, .int .i64 v1, .slice none 0 0, .int .i64 v3, .int .i64 v4, .slice none 0 0] 27))
  have HI6 := Lib.hid (HI5.out.alloc (.cells #[.int .u32 v2, .int .i64 v1, .slice none 0 0, .int .i64 v3, .int .i64 v4, .slice none 0 0] 27))
  refine (path_reader_list.calls k (w.heap.size + 1) s4 b4 _ _ _ w _ HI6.out HB6.out H5.out).mono ?_
  rintro e w7 ⟨vw, rfl, hR, hI, hB, hk⟩
  have HI7 := Lib.hid hI
  have HB7 := Lib.hid hB
  have hne5 : w5.heap.size ≠ w.heap.size + 1 := by omega
  have HX7_0 := Lib.hid (hk.blk HX6_0.out (by simp) (by simp))
  have HX7_5 := Lib.hid (hk.blk HX6_5.out hne5 (by simp))
  have HRw := Lib.hid (hI.apart hR (by intro q hq; simp [Kd.int, Kd.scalar] at hq; omega))
  clear hR hI hB hk
  go_wp2_with fail
  refine (path_reader_list.calls k (w.heap.size + 1) s5 b5 _ _ _ w _ HI7.out HB7.out H6.out).mono ?_
  rintro e w8 ⟨vt, rfl, hR, hI, hB, hk⟩
  have HI8 := Lib.hid hI
  have HB8 := Lib.hid hB
  have HX8_0 := Lib.hid (hk.blk HX7_0.out (by simp) (by simp))
  have HX8_5 := Lib.hid (hk.blk HX7_5.out hne5 (by simp))
  have HRw8 := Lib.hid (Kd.R_keep HRw.out hk (fun k hk => hk.2))
  have HRt := Lib.hid hR
  clear hR hI hB hk HRw
  obtain ⟨x0, x1, x2, x3, x4, x5, xf⟩ := blk_cells6 HX8_5.out
  obtain ⟨y0, y1, y2, y3, y4, y5, yf⟩ := blk_cells6 HX8_0.out
  have z0 := cellS79_0 HI8.out.1
  have z1 := cellS79_1 HI8.out.1
  obtain ⟨Aw, cw, rfl⟩ := Kd.R_slice HRw8.out
  obtain ⟨At, ct, rfl⟩ := Kd.R_slice HRt.out
  have hn1 : w.heap.size ≠ w5.heap.size := by omega
  have hn2 : w.heap.size + 1 ≠ w5.heap.size := by omega
  have hn3 : w5.heap.size ≠ w.heap.size := by omega
  go_wp2_with fail
  have heb : (er != 0) = true := bne_iff_ne.mpr her
  clear her
  have HRw9 := Lib.hid (R_other (w' := ((w8.setCell ⟨w5.heap.size, 2, none⟩ (.slice Aw ws.length cw)).setCell ⟨w5.heap.size, 5, none⟩ (.slice At ts.length ct))) HRw8.out HX8_5.out (by intro q hq; simp [Kd.int, Kd.scalar] at hq <;> omega) (by intro k hk; rw [Below.heap_setCell _ _ _ _ hk, Below.heap_setCell _ _ _ _ hk]))
  have HRt9 := Lib.hid (R_other (w' := ((w8.setCell ⟨w5.heap.size, 2, none⟩ (.slice Aw ws.length cw)).setCell ⟨w5.heap.size, 5, none⟩ (.slice At ts.length ct))) HRt.out HX8_5.out (by intro q hq; simp [Kd.int, Kd.scalar] at hq <;> omega) (by intro k hk; rw [Below.heap_setCell _ _ _ _ hk, Below.heap_setCell _ _ _ _ hk]))
  have HX9_0 := Lib.hid (show ((w8.setCell ⟨w5.heap.size, 2, none⟩ (.slice Aw ws.length cw)).setCell ⟨w5.heap.size, 5, none⟩ (.slice At ts.length ct)).heap[w.heap.size]? = some (.cells #[.int .u32 0, .int .i64 0, .slice none 0 0, .int .i64 0, .int .i64 0, .slice none 0 0] 27 (0, 0)) from (by rw [Below.heap_setCell _ _ _ _ hn1, Below.heap_setCell _ _ _ _ hn1]; exact HX8_0.out))
  have HX9_5 := Lib.hid (blk_set (blk_set HX8_5.out 2 (.slice Aw ws.length cw)) 5 (.slice At ts.length ct))
  have HB9 := Lib.hid (Below.setCell (Below.setCell HB8.out (p := ⟨w5.heap.size, 2, none⟩) (by show w.heap.size ≤ w5.heap.size; omega) (.slice Aw ws.length cw)) (p := ⟨w5.heap.size, 5, none⟩) (by show w.heap.size ≤ w5.heap.size; omega) (.slice At ts.length ct))
  go_wp2_with fail
  refine (pCheck_is v2 v1 v3 v4 ws ts Aw At cw ct _ (R_C HRw9.out) (R_C HRt9.out) (er := er) Her).mono ?_
  rintro e w10 ⟨rfl, hb10⟩
  have HX10_0 := Lib.hid (blk_keep hb10 HX9_0.out)
  have HX10_5 := Lib.hid (blk_keep hb10 HX9_5.out)
  have HB10 := Lib.hid (HB9.out.trans (hb10.mono HB9.out.size))
  have HRw10 := Lib.hid (Kd.R_below HRw9.out hb10)
  have HRt10 := Lib.hid (Kd.R_below HRt9.out hb10)
  clear hb10 y0 y1 y2 y3 y4 y5 yf x0 x1 x2 x3 x4 x5 xf z0 z1
  obtain ⟨y0, y1, y2, y3, y4, y5, yf⟩ := blk_cells6 HX10_0.out
  obtain ⟨x0, x1, x2, x3, x4, x5, xf⟩ := blk_cells6 HX10_5.out
  go_wp2_with fail
  refine bodyPost_ret (v := .tuple #[.agg #[.int .u32 0, .int .i64 0, .slice none 0 0, .int .i64 0, .int .i64 0, .slice none 0 0], .int .i64 er]) (by simp [results, Try.results15, go_sem, y0, y1, y2, y3, y4, y5]) rfl ⟨rfl, (by (repeat (refine Below.setCell ?_ (by first | exact Nat.le_refl _ | (show w.heap.size ≤ w5.heap.size; omega)) _)); exact HB10.out)⟩
set_option maxHeartbeats 2000000 in
set_option maxRecDepth 100000 in
theorem Decode_good (s s1 s2 s3 s4 s5 s6 : ByteArray) (b1 b2 b3 b4 b5 b6 : Bool) (v1 v2 v3 v4 : Int) (ws ts : List Int) (k : Nat) (w : World) (hv2 : 0 ≤ v2) (hv2' : v2 ≤ 4294967295)
    (H1 : Hid (path_reader_num.f k s false 1 = some (v1, s1, b1))) (H2 : Hid (path_reader_num.f k s1 b1 4 = some (v2, s2, b2))) (H3 : Hid (path_reader_num.f k s2 b2 4 = some (v3, s3, b3))) (H4 : Hid (path_reader_num.f k s3 b3 4 = some (v4, s4, b4)))
    (H5 : Hid (path_reader_list.f k s4 b4 = some (ws, s5, b5))) (H6 : Hid (path_reader_list.f k s5 b5 = some (ts, s6, b6))) (hb : b6 = false) (hs1 : s6.toList.isEmpty = true) (hs2 : (!s6.toList.isEmpty) = false) (Her : Hid (pchk v2 v1 ws v3 v4 ts = 0)) :
    Calls Try.prog 15 #[.string s] w fun e w' => ∃ Aw At cw ct, e = .returned (.tuple #[.agg #[.int .u32 v2, .int .i64 v1, .slice Aw ws.length cw, .int .i64 v3, .int .i64 v4, .slice At ts.length ct], .int .i64 0]) ∧ (ws.length ≤ cw ∧ Kd.C (Kd.int .i64) w' Aw ws.length ws) ∧ (ts.length ≤ ct ∧ Kd.C (Kd.int .i64) w' At ts.length ts) ∧ Below w.heap.size w w' := by
  have hu25 := Try.underlying25
  have hu27 := Try.underlying27
  have hw32 : IntKind.u32.wrap v2 = v2 := by rw [IntKind.wrap_u32]; omega
  go_enter Try.func15, Try.ntmps15
  go_wp2_with fail
  have HX1_0 := Lib.hid (show ((w.alloc (.cells #[.int .u32 0, .int .i64 0, .slice none 0 0, .int .i64 0, .int .i64 0, .slice none 0 0] 27)).alloc (.cells #[.string s, .bool false] 79)).heap[w.heap.size]? = _ from blk_keep ((Below.refl _ _).alloc (Nat.le_refl _) _) (blk_alloc w _))
  have HB1 := Lib.hid (((Below.refl w.heap.size w).alloc (Nat.le_refl _) (.cells #[.int .u32 0, .int .i64 0, .slice none 0 0, .int .i64 0, .int .i64 0, .slice none 0 0] 27)).alloc (by simp) (.cells #[.string s, .bool false] 79))
  have HI1 := Lib.hid (isnew w (w.alloc (.cells #[.int .u32 0, .int .i64 0, .slice none 0 0, .int .i64 0, .int .i64 0, .slice none 0 0] 27)) s false (w.heap.size + 1) (by simp) ((Below.refl w.heap.size w).alloc (Nat.le_refl _) (.cells #[.int .u32 0, .int .i64 0, .slice none 0 0, .int .i64 0, .int .i64 0, .slice none 0 0] 27)))
  refine (path_reader_num.calls k (w.heap.size + 1) s false 1 _ _ _ w _ HI1.out HB1.out H1.out).mono ?_
  rintro e w2 ⟨rfl, hI, hB, hk⟩
  have HI2 := Lib.hid hI
  have HB2 := Lib.hid hB
  have HX2_0 := Lib.hid (hk.blk HX1_0.out (by simp) (by simp))
  clear hI hB hk
  go_wp2_with fail
  refine (path_reader_num.calls k (w.heap.size + 1) s1 b1 4 _ _ _ w _ HI2.out HB2.out H2.out).mono ?_
  rintro e w3 ⟨rfl, hI, hB, hk⟩
  have HI3 := Lib.hid hI
  have HB3 := Lib.hid hB
  have HX3_0 := Lib.hid (hk.blk HX2_0.out (by simp) (by simp))
  clear hI hB hk
  go_wp2_with fail
  refine (path_reader_num.calls k (w.heap.size + 1) s2 b2 4 _ _ _ w _ HI3.out HB3.out H3.out).mono ?_
  rintro e w4 ⟨rfl, hI, hB, hk⟩
  have HI4 := Lib.hid hI
  have HB4 := Lib.hid hB
  have HX4_0 := Lib.hid (hk.blk HX3_0.out (by simp) (by simp))
  clear hI hB hk
  go_wp2_with fail
  refine (path_reader_num.calls k (w.heap.size + 1) s3 b3 4 _ _ _ w _ HI4.out HB4.out H4.out).mono ?_
  rintro e w5 ⟨rfl, hI, hB, hk⟩
  have HI5 := Lib.hid hI
  have HB5 := Lib.hid hB
  have HX5_0 := Lib.hid (hk.blk HX4_0.out (by simp) (by simp))
  clear hI hB hk
  go_wp2_with fail
  have hlt0 : w.heap.size + 1 < w5.heap.size := HI5.out.lt
  have HX6_0 := Lib.hid (blk_keep ((Below.refl _ _).alloc (Nat.le_refl _) (.cells #[.int .u32 v2, .int .i64 v1, .slice none 0 0, .int .i64 v3, .int .i64 v4, .slice none 0 0] 27)) HX5_0.out)
  have HX6_5 := Lib.hid (blk_alloc w5 (.cells #[.int .u32 v2, .int .i64 v1, .slice none 0 0, .int .i64 v3, .int .i64 v4, .slice none 0 0] 27))
  have HB6 := Lib.hid (HB5.out.alloc HB5.out.size (.cells #[.int .u32 v2, .int .i64 v1, .slice none 0 0, .int .i64 v3, .int .i64 v4, .slice none 0 0] 27))
  have HI6 := Lib.hid (HI5.out.alloc (.cells #[.int .u32 v2, .int .i64 v1, .slice none 0 0, .int .i64 v3, .int .i64 v4, .slice none 0 0] 27))
  refine (path_reader_list.calls k (w.heap.size + 1) s4 b4 _ _ _ w _ HI6.out HB6.out H5.out).mono ?_
  rintro e w7 ⟨vw, rfl, hR, hI, hB, hk⟩
  have HI7 := Lib.hid hI
  have HB7 := Lib.hid hB
  have hne5 : w5.heap.size ≠ w.heap.size + 1 := by omega
  have HX7_0 := Lib.hid (hk.blk HX6_0.out (by simp) (by simp))
  have HX7_5 := Lib.hid (hk.blk HX6_5.out hne5 (by simp))
  have HRw := Lib.hid (hI.apart hR (by intro q hq; simp [Kd.int, Kd.scalar] at hq; omega))
  clear hR hI hB hk
  go_wp2_with fail
  refine (path_reader_list.calls k (w.heap.size + 1) s5 b5 _ _ _ w _ HI7.out HB7.out H6.out).mono ?_
  rintro e w8 ⟨vt, rfl, hR, hI, hB, hk⟩
  have HI8 := Lib.hid hI
  have HB8 := Lib.hid hB
  have HX8_0 := Lib.hid (hk.blk HX7_0.out (by simp) (by simp))
  have HX8_5 := Lib.hid (hk.blk HX7_5.out hne5 (by simp))
  have HRw8 := Lib.hid (Kd.R_keep HRw.out hk (fun k hk => hk.2))
  have HRt := Lib.hid hR
  clear hR hI hB hk HRw
  obtain ⟨x0, x1, x2, x3, x4, x5, xf⟩ := blk_cells6 HX8_5.out
  obtain ⟨y0, y1, y2, y3, y4, y5, yf⟩ := blk_cells6 HX8_0.out
  have z0 := cellS79_0 HI8.out.1
  have z1 := cellS79_1 HI8.out.1
  obtain ⟨Aw, cw, rfl⟩ := Kd.R_slice HRw8.out
  obtain ⟨At, ct, rfl⟩ := Kd.R_slice HRt.out
  have hn1 : w.heap.size ≠ w5.heap.size := by omega
  have hn2 : w.heap.size + 1 ≠ w5.heap.size := by omega
  have hn3 : w5.heap.size ≠ w.heap.size := by omega
  go_wp2_with fail
  have HRw9 := Lib.hid (R_other (w' := ((w8.setCell ⟨w5.heap.size, 2, none⟩ (.slice Aw ws.length cw)).setCell ⟨w5.heap.size, 5, none⟩ (.slice At ts.length ct))) HRw8.out HX8_5.out (by intro q hq; simp [Kd.int, Kd.scalar] at hq <;> omega) (by intro k hk; rw [Below.heap_setCell _ _ _ _ hk, Below.heap_setCell _ _ _ _ hk]))
  have HRt9 := Lib.hid (R_other (w' := ((w8.setCell ⟨w5.heap.size, 2, none⟩ (.slice Aw ws.length cw)).setCell ⟨w5.heap.size, 5, none⟩ (.slice At ts.length ct))) HRt.out HX8_5.out (by intro q hq; simp [Kd.int, Kd.scalar] at hq <;> omega) (by intro k hk; rw [Below.heap_setCell _ _ _ _ hk, Below.heap_setCell _ _ _ _ hk]))
  have HX9_0 := Lib.hid (show ((w8.setCell ⟨w5.heap.size, 2, none⟩ (.slice Aw ws.length cw)).setCell ⟨w5.heap.size, 5, none⟩ (.slice At ts.length ct)).heap[w.heap.size]? = some (.cells #[.int .u32 0, .int .i64 0, .slice none 0 0, .int .i64 0, .int .i64 0, .slice none 0 0] 27 (0, 0)) from (by rw [Below.heap_setCell _ _ _ _ hn1, Below.heap_setCell _ _ _ _ hn1]; exact HX8_0.out))
  have HX9_5 := Lib.hid (blk_set (blk_set HX8_5.out 2 (.slice Aw ws.length cw)) 5 (.slice At ts.length ct))
  have HB9 := Lib.hid (Below.setCell (Below.setCell HB8.out (p := ⟨w5.heap.size, 2, none⟩) (by show w.heap.size ≤ w5.heap.size; omega) (.slice Aw ws.length cw)) (p := ⟨w5.heap.size, 5, none⟩) (by show w.heap.size ≤ w5.heap.size; omega) (.slice At ts.length ct))
  go_wp2_with fail
  refine (pCheck_is v2 v1 v3 v4 ws ts Aw At cw ct _ (R_C HRw9.out) (R_C HRt9.out) (er := 0) Her).mono ?_
  rintro e w10 ⟨rfl, hb10⟩
  have HX10_0 := Lib.hid (blk_keep hb10 HX9_0.out)
  have HX10_5 := Lib.hid (blk_keep hb10 HX9_5.out)
  have HB10 := Lib.hid (HB9.out.trans (hb10.mono HB9.out.size))
  have HRw10 := Lib.hid (Kd.R_below HRw9.out hb10)
  have HRt10 := Lib.hid (Kd.R_below HRt9.out hb10)
  clear hb10 y0 y1 y2 y3 y4 y5 yf x0 x1 x2 x3 x4 x5 xf z0 z1
  obtain ⟨y0, y1, y2, y3, y4, y5, yf⟩ := blk_cells6 HX10_0.out
  obtain ⟨x0, x1, x2, x3, x4, x5, xf⟩ := blk_cells6 HX10_5.out
  go_wp2_with fail
  refine bodyPost_ret (v := .tuple #[.agg #[.int .u32 v2, .int .i64 v1, .slice Aw ws.length cw, .int .i64 v3, .int .i64 v4, .slice At ts.length ct], .int .i64 0]) (by simp [results, Try.results15, go_sem, y0, y1, y2, y3, y4, y5]) rfl ⟨Aw, At, cw, ct, rfl, (R_C (R_other HRw10.out HX10_0.out (by intro q hq; simp [Kd.int, Kd.scalar] at hq <;> omega) ?_)).2, (R_C (R_other HRt10.out HX10_0.out (by intro q hq; simp [Kd.int, Kd.scalar] at hq <;> omega) ?_)).2, (by (repeat (refine Below.setCell ?_ (by first | exact Nat.le_refl _ | (show w.heap.size ≤ w5.heap.size; omega)) _)); exact HB10.out)⟩
  · intro k hk
    rw [Below.heap_setCell _ _ _ _ hk, Below.heap_setCell _ _ _ _ hk, Below.heap_setCell _ _ _ _ hk, Below.heap_setCell _ _ _ _ hk, Below.heap_setCell _ _ _ _ hk, Below.heap_setCell _ _ _ _ hk]
  · intro k hk
    rw [Below.heap_setCell _ _ _ _ hk, Below.heap_setCell _ _ _ _ hk, Below.heap_setCell _ _ _ _ hk, Below.heap_setCell _ _ _ _ hk, Below.heap_setCell _ _ _ _ hk, Below.heap_setCell _ _ _ _ hk]

end Go.Proofs.Ytaaohfhcimndmaa.M
