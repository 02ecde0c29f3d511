/- Proved: AdvBack: an encoded advertisement is decoded as it was. No condition. -/
import Derived.Test.YtaneaabmgnanbaaMdec
namespace Go.Proofs.Ytaneaabmgnanbaa.M
open Go.RowKit Go.Proofs.YtaneaabmgnanbaaW.PrintWords Go.Proofs.YtaneaabmgnanbaaW.PrintLast Go.Proofs.YtaneaabmgnanbaaW.PrintMore Go.Proofs.Ytaneaabmgnanbaa.PAdvBack
set_option linter.unusedVariables false
set_option linter.unusedSimpArgs false

theorem eq35_l0 (ls : List S28) (hl : ls.length ≤ 100000) : ∀ d i, i + d = ls.length → ∃ k, api_AdvLink_35.l0 k ls ls (ls.length : Int) (i : Int) = some true
  | 0, i, h => ⟨1, by simp only [api_AdvLink_35.l0]; rw [if_neg (by omega)]⟩
  | d + 1, i, h => by
    obtain ⟨k, hk⟩ := eq35_l0 ls hl d (i + 1) (by omega)
    have hw : wrap64 ((i : Int) + 1) = ((i + 1 : Nat) : Int) := by rw [wrap_in _ (by omega) (by omega)]; omega
    refine ⟨k + 1, ?_⟩
    simp only [api_AdvLink_35.l0]
    rw [if_pos (by omega), if_pos (by omega), if_pos (by omega), if_pos (by omega), if_neg (by simp), hw, hk]
theorem sameAdv_refl (id seq age : Int) (ls : List S28) (hl : ls.length ≤ 100000) : ∃ k, patchbaykeep2_sameAdv.f k id seq age ls id seq age ls = some true := by
  obtain ⟨k, hk⟩ := eq35_l0 ls hl ls.length 0 (by omega)
  refine ⟨k, ?_⟩
  unfold patchbaykeep2_sameAdv.f api_AdvLink_35.f
  rw [if_pos rfl, if_pos rfl, if_pos rfl, if_pos rfl]
  have : api_AdvLink_35.l0 k ls ls (ls.length : Int) 0 = some true := hk
  rw [this]
  rfl
theorem law_pure (id seq age : Int) (L : List S28) (hL : L.length ≤ 16) : ∃ k s e, adv_Encode.f k id seq age L = some (s, e) ∧
    ((e ≠ 0 ∧ s = ⟨#[]⟩ ∧ adv_Check.f k id seq age L = some e) ∨ (e = 0 ∧ adv_Decode.f k s = some (id, seq, age, L, 0) ∧ patchbaykeep2_sameAdv.f k id seq age L id seq age L = some true)) := by
  rcases chk_cases id seq age L with h | h
  · have hv := chk_zero h
    obtain ⟨k1, h1⟩ := Encode_ok id seq age L hv
    obtain ⟨k2, h2⟩ := Decode_ends (strOfNums (encL id seq age L))
    rw [dec_enc hv] at h2
    obtain ⟨k3, h3⟩ := sameAdv_refl id seq age L (by omega)
    exact ⟨k1 + k2 + k3, _, 0, up (fun k => adv_Encode.mono _ _ _ _ k) h1 (by omega), .inr ⟨rfl, up (fun k => adv_Decode.mono _ k) h2 (by omega), up (fun k => patchbaykeep2_sameAdv.mono _ _ _ _ _ _ _ _ k) h3 (by omega)⟩⟩
  · obtain ⟨k1, h1⟩ := Encode_bad id seq age L h
    obtain ⟨k2, h2⟩ := Check_ends id seq age L
    exact ⟨k1 + k2, _, _, up (fun k => adv_Encode.mono _ _ _ _ k) h1 (by omega), .inl ⟨h, rfl, up (fun k => adv_Check.mono _ _ _ _ k) h2 (by omega)⟩⟩

set_option maxHeartbeats 1000000 in
set_option maxRecDepth 100000 in
theorem AdvBack_walk (id seq age : Int) (A : Option Addr) (c : Nat) (ls : List S28) (w : World) (hn : ls.length ≤ c)
   (hK : Kd.C k28 w A ls.length ls) : Calls Try.prog 4 #[.agg #[.int .i64 id, .int .i64 seq, .int .i64 age, .slice A ls.length c]] w fun e w' => e = .returned (.bool true) ∧ Below w.heap.size w w' := by
  have hu22 := Try.underlying22
  have hu24 := Try.underlying24
  obtain ⟨k0, hk0⟩ := advLives_ok
  have Hk0 := Lib.hid hk0
  clear hk0
  have HK := C_take 16 hK
  have hLL : (ls.take 16).length ≤ 16 := List.length_take_le _ _
  have hLc : (ls.take 16).length ≤ c := by rw [List.length_take]; omega
  obtain ⟨L, HL⟩ : ∃ L, Hid (L = ls.take 16) := ⟨_, Lib.hid rfl⟩
  rw [← HL.out] at HK hLL hLc
  obtain ⟨k, s, er, henc, hcase⟩ := law_pure id seq age L hLL
  have HK := Lib.hid HK
  have Henc := Lib.hid henc
  clear hK henc
  go_enter Try.func4, Try.ntmps4
  go_wp2_with fail
  refine (patchbaykeep2_advLives.calls k0 true _ Hk0.out).mono ?_
  rintro e w1 ⟨rfl, hb1⟩
  have hx1 := blk_keep hb1 (blk_alloc w _)
  have HL1 := Lib.hid hb1.size
  obtain ⟨_, _, _, q1, f1⟩ := blk_cells4 hx1
  have HX1 := Lib.hid (blk_set hx1 3 (.slice A L.length c))
  have HB2 := Lib.hid (Below.setCell (((Below.refl w.heap.size w).alloc (Nat.le_refl _) (.cells #[.int .i64 id, .int .i64 seq, .int .i64 age, .slice A ls.length c] 24)).trans (hb1.mono (by simp))) (p := ⟨w.heap.size, 3, none⟩) (by simp) (.slice A L.length c))
  clear hb1 hx1
  go_wp2_with fail
  refine (some15_any A ls L c 16 HL hn w1).mono ?_
  rintro e w1' ⟨rfl, rfl⟩
  go_wp2_with fail
  refine (adv_Encode.calls k id seq age A c L s er _ (Kd.C_below HK.out HB2.out) hLc Henc.out).mono ?_
  rintro e w2 ⟨rfl, hb2⟩
  have HX2 := Lib.hid (blk_keep hb2 HX1.out)
  have HB3 := Lib.hid (HB2.out.trans (hb2.mono (HB2.out.size)))
  have HL2 := Lib.hid hb2.size
  obtain ⟨p20, p21, p22, p23, p24⟩ := blk_cells4 HX2.out
  clear hb2
  rcases hcase with ⟨he, rfl, hch⟩ | ⟨he, hdec, hsame⟩
  · have heb : (er != 0) = true := bne_iff_ne.mpr he
    clear he
    have Hch := Lib.hid hch
    clear hch
    go_wp2_with fail
    refine (adv_Check.calls k id seq age A c L er _ (Kd.C_below HK.out HB3.out) hLc Hch.out).mono ?_
    rintro e w3 ⟨rfl, hb3⟩
    have HB4 := Lib.hid (HB3.out.trans (hb3.mono (HB3.out.size)))
    clear hb3
    go_wp2_with fail
    go_ret
    exact ⟨rfl, HB4.out⟩
  · have heb : (er != 0) = false := bne_eq_false_iff_eq.mpr he
    have heb2 : (er == 0) = true := beq_iff_eq.mpr he
    clear he
    have Hdec := Lib.hid hdec
    have Hsame := Lib.hid hsame
    clear hdec hsame
    go_wp2_with fail
    refine (adv_Decode.calls k s id seq age L 0 _ Hdec.out).mono ?_
    rintro e w3 ⟨v3, rfl, hR, hb3⟩
    obtain ⟨A3, c3, rfl, hl3, hC3⟩ := Kd.R_reads hR
    have HC3 := Lib.hid hC3
    have HX3 := Lib.hid (blk_keep hb3 HX2.out)
    obtain ⟨p30, p31, p32, p33, p34⟩ := blk_cells4 HX3.out
    have HL3 := Lib.hid hb3.size
    have HB4 := Lib.hid (HB3.out.trans (hb3.mono (HB3.out.size)))
    have hlt := blk_lt HX3.out
    clear hC3 hR hb3 p20 p21 p22 p23 p24
    go_wp2_with fail
    refine (patchbaykeep2_sameAdv.calls k id seq age A c L id seq age A3 c3 L true _ (Kd.C_below HK.out (HB4.out.alloc HB4.out.size _)) hLc (Kd.C_below HC3.out ((Below.refl _ _).alloc (Nat.le_refl _) _)) hl3 Hsame.out).mono ?_
    rintro e w4 ⟨rfl, hb4⟩
    have HB5 := Lib.hid (HB4.out.trans (((Below.refl w.heap.size w3).alloc (HB4.out.size) (.cells #[.int .i64 id, .int .i64 seq, .int .i64 age, .slice A3 L.length c3] 24)).trans (hb4.mono (by have := HB4.out.size; simp; omega))))
    clear hb4
    go_wp2_with fail
    go_ret
    exact ⟨rfl, HB5.out⟩
end Go.Proofs.Ytaneaabmgnanbaa.M
