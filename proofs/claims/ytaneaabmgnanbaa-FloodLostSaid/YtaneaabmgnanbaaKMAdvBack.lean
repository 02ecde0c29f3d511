import Derived.Test.YtaneaabmgnanbaaKMdec
namespace Go.Proofs.Ytaneaabmgnanbaa.M
open Go.RowKit Go.Proofs.YtaneaabmgnanbaaW.PrintWords Go.Proofs.YtaneaabmgnanbaaW.PrintLast Go.Proofs.YtaneaabmgnanbaaW.PrintMore Go.Proofs.Ytaneaabmgnanbaa.PAdvBack
set_option linter.unusedVariables false
set_option linter.unusedSimpArgs false
theorem eq35_l0 (ls : List S28) (hl : ls.length ≤ 100000) : ∀ d i, i + d = ls.length → ∃ k, api_AdvLink_35.l0 k ls ls (ls.length : Int) (i : Int) = some true
 | 0, i, h => ⟨1, by simp only [api_AdvLink_35.l0]; rw [if_neg (by omega)]⟩
 | d + 1, i, h => by
  obtain ⟨k, hk⟩ := eq35_l0 ls hl d (i + 1) (by omega)
  have hw : wrap64 ((i : Int) + 1) = ((i + 1 : Nat) : Int) := by rw [wrap_in _ (by omega) (by omega)]; omega
  refine ⟨k + 1, ?_⟩
  simp only [api_AdvLink_35.l0]
  rw [if_pos (by omega), if_pos (by omega), if_pos (by omega), if_pos (by omega), if_neg (by simp), hw, hk]
theorem sameAdv_refl (id seq age : Int) (ls : List S28) (hl : ls.length ≤ 100000) : ∃ k, patchbaykeep2_sameAdv.f k id seq age ls id seq age ls = some true := by
 obtain ⟨k, hk⟩ := eq35_l0 ls hl ls.length 0 (by omega)
 refine ⟨k, ?_⟩
 unfold patchbaykeep2_sameAdv.f api_AdvLink_35.f
 rw [if_pos rfl, if_pos rfl, if_pos rfl, if_pos rfl]
 have : api_AdvLink_35.l0 k ls ls (ls.length : Int) 0 = some true := hk
 rw [this]
 rfl
end Go.Proofs.Ytaneaabmgnanbaa.M
