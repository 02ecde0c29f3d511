/- Proved: PathUnique: each string that is decoded is the encoding of the result; for at most 60 bytes. No condition. -/
import Derived.Test.YtaaohfhcimndmaaMPathBack
namespace Go.Proofs.Ytaaohfhcimndmaa.M
open Go.RowKit Go.Proofs.YtaaohfhcimndmaaW.PrintWords Go.Proofs.YtaaohfhcimndmaaW.PrintLast Go.Proofs.YtaaohfhcimndmaaW.PrintMore Go.Proofs.Ytaaohfhcimndmaa.PPathBack
set_option linter.unusedVariables false
set_option linter.unusedSimpArgs false
attribute [local go_sem] min2_int min_two max2_int max_two

/-- begin(s, 60) is some string of at most 60 bytes. -/
theorem begin_any (s : ByteArray) (w : World) (hs : s.size ≤ 9223372036854775807) : Calls Try.prog 17 #[.string s, .int .i64 60] w fun e w' => e = .returned (.string (s.extract 0 (min s.size 60))) ∧ w = w' := by
  by_cases h : s.size ≤ 60
  · have e : min s.size 60 = s.size := Nat.min_eq_left h
    rw [e]
    rw [show s.extract 0 s.size = s from by simp]
    go_enter Try.func17, Try.ntmps17
    go_wp2
    go_ret
    exact ⟨rfl, rfl⟩
  · have e : min s.size 60 = 60 := Nat.min_eq_right (by omega)
    rw [e]
    go_enter Try.func17, Try.ntmps17
    go_wp2
    go_ret
    exact ⟨rfl, rfl⟩

/-- Where the route is not read, the same error in every world. -/
theorem Decode_zero (s : ByteArray) (l : List Int) (k : Nat) (H : Reads6 s l k) (hb : ∀ c ∈ l, Byte c) (hn : ∀ a b ws pr md ts, Dec l a b ws pr md ts → pchk a b ws pr md ts ≠ 0) :
    ∃ er : Int, er ≠ 0 ∧ ∀ W : World, Calls Try.prog 15 #[.string s] W fun e w' => e = .returned (.tuple #[zeroP, .int .i64 er]) ∧ Below W.heap.size W w' := by
  have r : 0 ≤ (N2 l).1 ∧ (N2 l).1 ≤ 4294967295 := by unfold N2; exact u4_range (N1b hb) (N1 l).2.2
  cases hsh : (N6 l).2.2 with
  | true => exact ⟨9, by decide, fun W => Decode_short s _ _ _ _ _ _ _ _ _ _ _ _ _ _ _ _ _ _ k W r.1 r.2 H.H1 H.H2 H.H3 H.H4 H.H5 H.H6 hsh⟩
  | false =>
    by_cases hr : (N6 l).2.1 = []
    · have hc := hn _ _ _ _ _ _ ⟨hsh, hr, rfl, rfl, rfl, rfl, rfl, rfl⟩
      exact ⟨_, hc, fun W => Decode_bad s _ _ _ _ _ _ _ _ _ _ _ _ _ _ _ _ _ _ k W r.1 r.2 H.H1 H.H2 H.H3 H.H4 H.H5 H.H6 hsh (str_empty hr).1 (str_empty hr).2 _ hc (Lib.hid rfl)⟩
    · exact ⟨3, by decide, fun W => Decode_more s _ _ _ _ _ _ _ _ _ _ _ _ _ _ _ _ _ _ k W r.1 r.2 H.H1 H.H2 H.H3 H.H4 H.H5 H.H6 hsh (str_more hr).1 (str_more hr).2⟩
set_option maxHeartbeats 2000000 in
set_option maxRecDepth 100000 in
theorem PathUnique_bad (s0 s : ByteArray) (w : World) (hs : s0.size ≤ 9223372036854775807) (Hb : Hid (∀ W : World, Calls Try.prog 17 #[.string s0, .int .i64 60] W fun e w' => e = .returned (.string s) ∧ W = w')) (er : Int) (heb : (er != 0) = true) (HD : Hid (∀ W : World, Calls Try.prog 15 #[.string s] W fun e w' => e = .returned (.tuple #[.agg #[.int .u32 0, .int .i64 0, .slice none 0 0, .int .i64 0, .int .i64 0, .slice none 0 0], .int .i64 er]) ∧ Below W.heap.size W w')) (ks : Nat) (Hsame : Hid (patchbaykeep2_samePath.f ks 0 0 [] 0 0 [] 0 0 [] 0 0 [] = some true)) :
    Calls Try.prog 4 #[.string s0] w fun e w' => e = .returned (.bool true) ∧ Below w.heap.size w w' := by
  have hu25 := Try.underlying25
  have hu27 := Try.underlying27
  go_enter Try.func4, Try.ntmps4
  go_wp2_with fail
  refine (pathLives_any _).mono ?_
  rintro e w2 ⟨rfl, hb2⟩
  have HB2 := Lib.hid hb2
  clear hb2
  go_wp2_with fail
  refine (Hb.out _).mono ?_
  rintro e w2' ⟨rfl, rfl⟩
  go_wp2_with fail
  refine (HD.out _).mono ?_
  rintro e w3 ⟨rfl, hb3⟩
  have HB3 := Lib.hid (HB2.out.trans (hb3.mono HB2.out.size))
  clear hb3
  go_wp2_with fail
  have HB4 := Lib.hid (HB3.out.alloc HB3.out.size (.cells #[.int .u32 0, .int .i64 0, .slice none 0 0, .int .i64 0, .int .i64 0, .slice none 0 0] 27))
  refine (patchbaykeep2_samePath.calls ks 0 0 none 0 [] 0 0 none 0 [] 0 0 none 0 [] 0 0 none 0 [] true _ (C_nil _ _) (Nat.le_refl _) (C_nil _ _) (Nat.le_refl _) (C_nil _ _) (Nat.le_refl _) (C_nil _ _) (Nat.le_refl _) Hsame.out).mono ?_
  rintro e w5 ⟨rfl, hb5⟩
  have HB5 := Lib.hid (HB4.out.trans (hb5.mono HB4.out.size))
  clear hb5
  go_wp2_with fail
  go_ret
  exact ⟨rfl, HB5.out⟩
set_option maxHeartbeats 2000000 in
set_option maxRecDepth 100000 in
theorem PathUnique_good (s0 s : ByteArray) (w : World) (hs : s0.size ≤ 9223372036854775807) (Hb : Hid (∀ W : World, Calls Try.prog 17 #[.string s0, .int .i64 60] W fun e w' => e = .returned (.string s) ∧ W = w')) (a b pr md : Int) (ws ts : List Int) (ha0 : 0 ≤ a) (ha1 : a ≤ 4294967295) (HD : Hid (∀ W : World, Calls Try.prog 15 #[.string s] W fun e w' => ∃ Aw At cw ct, e = .returned (.tuple #[.agg #[.int .u32 a, .int .i64 b, .slice Aw ws.length cw, .int .i64 pr, .int .i64 md, .slice At ts.length ct], .int .i64 0]) ∧ (ws.length ≤ cw ∧ Kd.C (Kd.int .i64) w' Aw ws.length ws) ∧ (ts.length ≤ ct ∧ Kd.C (Kd.int .i64) w' At ts.length ts) ∧ Below W.heap.size W w')) (HE : EncAns a b ws pr md ts s 0) :
    Calls Try.prog 4 #[.string s0] w fun e w' => e = .returned (.bool true) ∧ Below w.heap.size w w' := by
  have hu25 := Try.underlying25
  have hu27 := Try.underlying27
  go_enter Try.func4, Try.ntmps4
  go_wp2_with fail
  refine (pathLives_any _).mono ?_
  rintro e w2 ⟨rfl, hb2⟩
  have HB2 := Lib.hid hb2
  clear hb2
  go_wp2_with fail
  refine (Hb.out _).mono ?_
  rintro e w2' ⟨rfl, rfl⟩
  go_wp2_with fail
  refine (HD.out _).mono ?_
  rintro e w3 ⟨Aw, At, cw, ct, rfl, hCw, hCt, hb3⟩
  have HCw := Lib.hid hCw
  have HCt := Lib.hid hCt
  have HB3 := Lib.hid (HB2.out.trans (hb3.mono HB2.out.size))
  clear hb3 hCw hCt
  go_wp2_with fail
  have HB4 := Lib.hid (HB3.out.alloc HB3.out.size (.cells #[.int .u32 a, .int .i64 b, .slice Aw ws.length cw, .int .i64 pr, .int .i64 md, .slice At ts.length ct] 27))
  refine (Encode_is a b pr md ws ts Aw At cw ct _ ha0 ha1 ⟨HCw.out.2.2.1, HCw.out.1, Kd.C_below HCw.out.2 ((Below.refl _ _).alloc (Nat.le_refl _) _)⟩ ⟨HCt.out.2.2.1, HCt.out.1, Kd.C_below HCt.out.2 ((Below.refl _ _).alloc (Nat.le_refl _) _)⟩ (s := s) (er := 0) HE).mono ?_
  rintro e w5 ⟨rfl, hb5⟩
  have HB5 := Lib.hid (HB4.out.trans (hb5.mono HB4.out.size))
  clear hb5
  go_wp2_with fail
  go_ret
  exact ⟨by simp, HB5.out⟩

theorem PathUnique_walk (s0 : ByteArray) (w : World) (hs : s0.size ≤ 140737488351232) : Calls Try.prog 4 #[.string s0] w fun e w' => e = .returned (.bool true) ∧ Below w.heap.size w w' := by
  have hb := fun W => begin_any s0 W (by omega)
  obtain ⟨s, hse⟩ : ∃ s, s = s0.extract 0 (min s0.size 60) := ⟨_, rfl⟩
  rw [← hse] at hb
  have hall := fun W => Decode_all s (bytesOf s) (str_bytes s).symm (bytes_byte s) W
  rcases hall w with ⟨er, her, hn, _⟩ | ⟨a, b, ws, pr, md, ts, hd, hc, ha0, ha1, _⟩
  · obtain ⟨ks, hks⟩ := samePath_refl 0 0 [] 0 0 [] (by simp) (by simp)
    have key : ∃ er : Int, er ≠ 0 ∧ ∀ W : World, Calls Try.prog 15 #[.string s] W fun e w' => e = .returned (.tuple #[zeroP, .int .i64 er]) ∧ Below W.heap.size W w' := by
      obtain ⟨k, H⟩ := reads6 s (bytesOf s) (str_bytes s).symm (bytes_byte s)
      exact Decode_zero s (bytesOf s) k H (bytes_byte s) hn
    obtain ⟨er', her', hcalls⟩ := key
    exact PathUnique_bad s0 s w (by omega) hb er' (bne_iff_ne.mpr her') hcalls ks hks
  · refine PathUnique_good s0 s w (by omega) hb a b pr md ws ts ha0 ha1 ?_ (.inl ⟨hc, rfl, by rw [dec_unique (bytes_byte s) hd, str_bytes]⟩)
    intro W
    rcases hall W with ⟨er, _, hn, _⟩ | ⟨a', b', ws', pr', md', ts', hd', _, _, _, hc'⟩
    · exact absurd hc (hn _ _ _ _ _ _ hd)
    · obtain rfl : a' = a := hd'.va.symm.trans hd.va
      obtain rfl : b' = b := hd'.vb.symm.trans hd.vb
      obtain rfl : pr' = pr := hd'.vp.symm.trans hd.vp
      obtain rfl : md' = md := hd'.vm.symm.trans hd.vm
      obtain rfl : ws' = ws := hd'.vw.symm.trans hd.vw
      obtain rfl : ts' = ts := hd'.vt.symm.trans hd.vt
      exact hc'

end Go.Proofs.Ytaaohfhcimndmaa.M
