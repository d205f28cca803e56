/- The law RatioTexts of the given program returns true for every input, and each argument reads afterwards as it read before. Condition: none. -/
import Derived.Test.YtdnbllnelfkfmaaLawR5
import Derived.Test.YtdnbllnelfkfmaaPost
import Derived.JoinedOf
import Derived.WideWitness
namespace Go.Proofs.Ytdnbllnelfkfmaa.K
open Go Go.ChangeShapes Go.WideShapes Go.ChangeAt Go.RowKit
set_option linter.unusedVariables false
theorem finRatioTexts_sound : Sound Try.prog := ⟨by kernel_rfl, by kernel_rfl, by kernel_rfl⟩
theorem finRatioTexts_own : ownKnob Try.prog.godebug = none := by kernel_rfl
set_option maxRecDepth 100000 in
theorem finRatioTexts_lifted (os : Os) (started : os.Started) (H : Type) (enc : TypeId × Value → H) :
    ReturnsInHanded {} Try.checked os 9 .any (Rows.ratioTextsSpec.pre6 enc Try.prog Try.f9 Rows.ratioTextsRow.domain false) (Rows.ratioTextsSpec.post enc Try.prog Try.f9 false true false false) := by
  refine returnsInHanded_of_change (C := Try.checked) finRatioTexts_own started (by kernel_rfl) Try.func9
    (ChangeSpec.witness6 (enc := enc) (C := Try.checked) false ⟨#[], #[.string .empty], []⟩ 8 (by kernel_rfl) (by kernel_rfl) (by kernel_rfl) (by kernel_rfl)) ?_
  intro W base args ds gs before hval hW _ _
  exact law_calls finRatioTexts_sound (n := 12) (tb := 4) (ash := [.one (.str)]) (by kernel_rfl) (of_decide_eq_true (by kernel_rfl)) rfl (fun ds h => by
    match ds, h with
    | [_], _ => rfl) rfl Try.underlying4 rfl hval hW (fun es hes hb => by
    obtain ⟨_, _, rfl, h1, hes0⟩ := hes.one_inv
    obtain ⟨x1, rfl⟩ := h1.str_inv
    obtain rfl := hes0.nil_inv
    exact law_RatioTexts x1)

theorem ratioTexts_holds : Rows.RatioTextsSaid :=
  OpenClaim.holds_of_wide 9 Try.f9 rfl rfl rfl rfl rfl rfl rfl ⟨rfl, rfl, rfl, rfl, rfl⟩ rfl rfl rfl rfl rfl (by kernel_rfl) Try.func9 (by kernel_rfl)
    (of_decide_eq_true (by kernel_rfl)) (by unfold Func.isWrapper; first | (rw [if_pos (by decide +kernel)]; kernel_rfl) | (rw [if_neg (by decide +kernel)]; exact ⟨rfl, rfl⟩))
    (fun os started H enc _ => finRatioTexts_lifted os started H enc)
end Go.Proofs.Ytdnbllnelfkfmaa.K
