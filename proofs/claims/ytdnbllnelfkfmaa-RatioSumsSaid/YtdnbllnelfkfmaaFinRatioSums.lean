/- The law RatioSums of the given program returns true for every input, and each argument reads afterwards as it read before. Condition: none. -/
import Derived.Test.YtdnbllnelfkfmaaLawR4
import Derived.Test.YtdnbllnelfkfmaaPost
import Derived.JoinedOf
import Derived.WideWitness
namespace Go.Proofs.Ytdnbllnelfkfmaa.K
open Go Go.ChangeShapes Go.WideShapes Go.ChangeAt Go.RowKit
set_option linter.unusedVariables false
theorem finRatioSums_sound : Sound Try.prog := ⟨by kernel_rfl, by kernel_rfl, by kernel_rfl⟩
theorem finRatioSums_own : ownKnob Try.prog.godebug = none := by kernel_rfl
set_option maxRecDepth 100000 in
theorem finRatioSums_lifted (os : Os) (started : os.Started) (H : Type) (enc : TypeId × Value → H) :
    ReturnsInHanded {} Try.checked os 4 .any (Rows.ratioSumsSpec.pre6 enc Try.prog Try.f4 Rows.ratioSumsRow.domain false) (Rows.ratioSumsSpec.post enc Try.prog Try.f4 false true false false) := by
  refine returnsInHanded_of_change (C := Try.checked) finRatioSums_own started (by kernel_rfl) Try.func4
    (ChangeSpec.witness6 (enc := enc) (C := Try.checked) false ⟨#[], #[.slice none 0 0], []⟩ 8 (by kernel_rfl) (by kernel_rfl) (by kernel_rfl) (by kernel_rfl)) ?_
  intro W base args ds gs before hval hW _ _
  exact law_calls finRatioSums_sound (n := 12) (tb := 4) (ash := [.one (.sl [.bool, .ints .u32, .ints .u32])]) (by kernel_rfl) (of_decide_eq_true (by kernel_rfl)) rfl (fun ds h => by
    match ds, h with
    | [_], _ => rfl) rfl Try.underlying4 rfl hval hW (fun es hes hb => by
    obtain ⟨_, _, rfl, h1, hes0⟩ := hes.one_inv
    obtain ⟨x1, rfl, r1⟩ := h1.sl_inv
    obtain rfl := hes0.nil_inv
    exact law_RatioSums x1 r1)

theorem ratioSums_holds : Rows.RatioSumsSaid :=
  OpenClaim.holds_of_wide 4 Try.f4 rfl rfl rfl rfl rfl rfl rfl ⟨rfl, rfl, rfl, rfl, rfl⟩ rfl rfl rfl rfl rfl (by kernel_rfl) Try.func4 (by kernel_rfl)
    (of_decide_eq_true (by kernel_rfl)) (by unfold Func.isWrapper; first | (rw [if_pos (by decide +kernel)]; kernel_rfl) | (rw [if_neg (by decide +kernel)]; exact ⟨rfl, rfl⟩))
    (fun os started H enc _ => finRatioSums_lifted os started H enc)
end Go.Proofs.Ytdnbllnelfkfmaa.K
