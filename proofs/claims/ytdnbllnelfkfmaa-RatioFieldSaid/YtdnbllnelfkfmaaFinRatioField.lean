/- The law RatioField of the given program returns true for every input, and each argument reads afterwards as it read before. Condition: none. -/
import Derived.Test.YtdnbllnelfkfmaaLawR3
import Derived.Test.YtdnbllnelfkfmaaPost
import Derived.JoinedOf
import Derived.WideWitness
namespace Go.Proofs.Ytdnbllnelfkfmaa.K
open Go Go.ChangeShapes Go.WideShapes Go.ChangeAt Go.RowKit
set_option linter.unusedVariables false
theorem finRatioField_sound : Sound Try.prog := ⟨by kernel_rfl, by kernel_rfl, by kernel_rfl⟩
theorem finRatioField_own : ownKnob Try.prog.godebug = none := by kernel_rfl
set_option maxRecDepth 100000 in
theorem finRatioField_lifted (os : Os) (started : os.Started) (H : Type) (enc : TypeId × Value → H) :
    ReturnsInHanded {} Try.checked os 8 .any (Rows.ratioFieldSpec.pre6 enc Try.prog Try.f8 Rows.ratioFieldRow.domain false) (Rows.ratioFieldSpec.post enc Try.prog Try.f8 false true false false) := by
  refine returnsInHanded_of_change (C := Try.checked) finRatioField_own started (by kernel_rfl) Try.func8
    (ChangeSpec.witness6 (enc := enc) (C := Try.checked) false ⟨#[], #[.agg #[.bool false, .slice none 0 0, .slice none 0 0], .agg #[.bool false, .slice none 0 0, .slice none 0 0], .agg #[.bool false, .slice none 0 0, .slice none 0 0]], []⟩ 8 (by kernel_rfl) (by kernel_rfl) (by kernel_rfl) (by kernel_rfl)) ?_
  intro W base args ds gs before hval hW _ _
  exact law_calls finRatioField_sound (n := 12) (tb := 4) (ash := [.agg [.bool, .ints .u32, .ints .u32], .agg [.bool, .ints .u32, .ints .u32], .agg [.bool, .ints .u32, .ints .u32]]) (by kernel_rfl) (of_decide_eq_true (by kernel_rfl)) rfl (fun ds h => by
    match ds, h with
    | [_, _, _], _ => rfl) rfl Try.underlying4 rfl hval hW (fun es hes hb => by
    obtain ⟨_, _, rfl, h1, hes0⟩ := hes.agg_inv
    obtain ⟨_, _, rfl, h2, h3⟩ := h1.cons_inv
    obtain ⟨x1, rfl⟩ := h2.bool_inv
    obtain ⟨_, _, rfl, h4, h5⟩ := h3.cons_inv
    obtain ⟨x2, rfl⟩ := h4.ints_inv
    obtain ⟨_, _, rfl, h6, h7⟩ := h5.cons_inv
    obtain ⟨x3, rfl⟩ := h6.ints_inv
    obtain rfl := h7.nil_inv
    obtain ⟨_, _, rfl, h8, hes1⟩ := hes0.agg_inv
    obtain ⟨_, _, rfl, h9, h10⟩ := h8.cons_inv
    obtain ⟨x4, rfl⟩ := h9.bool_inv
    obtain ⟨_, _, rfl, h11, h12⟩ := h10.cons_inv
    obtain ⟨x5, rfl⟩ := h11.ints_inv
    obtain ⟨_, _, rfl, h13, h14⟩ := h12.cons_inv
    obtain ⟨x6, rfl⟩ := h13.ints_inv
    obtain rfl := h14.nil_inv
    obtain ⟨_, _, rfl, h15, hes2⟩ := hes1.agg_inv
    obtain ⟨_, _, rfl, h16, h17⟩ := h15.cons_inv
    obtain ⟨x7, rfl⟩ := h16.bool_inv
    obtain ⟨_, _, rfl, h18, h19⟩ := h17.cons_inv
    obtain ⟨x8, rfl⟩ := h18.ints_inv
    obtain ⟨_, _, rfl, h20, h21⟩ := h19.cons_inv
    obtain ⟨x9, rfl⟩ := h20.ints_inv
    obtain rfl := h21.nil_inv
    obtain rfl := hes2.nil_inv
    exact law_RatioField x1 x2 x3 x4 x5 x6 x7 x8 x9)

theorem ratioField_holds : Rows.RatioFieldSaid :=
  OpenClaim.holds_of_wide 8 Try.f8 rfl rfl rfl rfl rfl rfl rfl ⟨rfl, rfl, rfl, rfl, rfl⟩ rfl rfl rfl rfl rfl (by kernel_rfl) Try.func8 (by kernel_rfl)
    (of_decide_eq_true (by kernel_rfl)) (by unfold Func.isWrapper; first | (rw [if_pos (by decide +kernel)]; kernel_rfl) | (rw [if_neg (by decide +kernel)]; exact ⟨rfl, rfl⟩))
    (fun os started H enc _ => finRatioField_lifted os started H enc)
end Go.Proofs.Ytdnbllnelfkfmaa.K
