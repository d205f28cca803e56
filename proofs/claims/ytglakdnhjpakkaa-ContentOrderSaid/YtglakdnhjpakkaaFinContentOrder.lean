/- The law ContentOrder of the given program returns true for every input, and each argument reads afterwards as it read before. Condition: none. -/
import Derived.Test.YtglakdnhjpakkaaCLaw
import Derived.Test.YtglakdnhjpakkaaPost2
import Derived.JoinedOf
import Derived.SizedLaws
import Derived.WideWitness
namespace Go.Proofs.Ytglakdnhjpakkaa.K
open Go Go.ChangeShapes Go.WideShapes Go.ChangeAt Go.RowKit
set_option linter.unusedVariables false
theorem finContentOrder_sound : Sound Try.prog := ⟨by kernel_rfl, by kernel_rfl, by kernel_rfl⟩
theorem finContentOrder_own : ownKnob Try.prog.godebug = none := by kernel_rfl
set_option maxRecDepth 100000 in
theorem finContentOrder_lifted (os : Os) (started : os.Started) (H : Type) (enc : TypeId × Value → H) :
    ReturnsInHanded {} Try.checked os 6 .any (Rows.contentOrderSpec.pre6 enc Try.prog Try.f6 Rows.contentOrderRow.domain false) (Rows.contentOrderSpec.post enc Try.prog Try.f6 false true false false) := by
  refine returnsInHanded_of_change_sized (C := Try.checked) finContentOrder_own started (by kernel_rfl) Try.func6
    (ChangeSpec.witness6 (enc := enc) (C := Try.checked) false ⟨#[], #[.string .empty, .string .empty, .string .empty], []⟩ 8 (by kernel_rfl) (by kernel_rfl) (by kernel_rfl) (by kernel_rfl)) ?_
  intro W base args ds gs before hval hW _ hsize _
  exact law_callsS finContentOrder_sound (n := 12) (tb := 4) (ash := [.one (.str), .one (.str), .one (.str)]) (by kernel_rfl) (of_decide_eq_true (by kernel_rfl)) rfl (fun ds h => by
    match ds, h with
    | [_, _, _], _ => rfl) rfl Try.underlying4 (gam_nil rfl) hval hW hsize (fun es hes hes_ => by
    obtain ⟨_, _, rfl, h1, hes0⟩ := hes.one_inv
    obtain ⟨x1, rfl⟩ := h1.str_inv
    obtain ⟨_, _, rfl, h2, hes1⟩ := hes0.one_inv
    obtain ⟨x2, rfl⟩ := h2.str_inv
    obtain ⟨_, _, rfl, h3, hes2⟩ := hes1.one_inv
    obtain ⟨x3, rfl⟩ := h3.str_inv
    obtain rfl := hes2.nil_inv
    exact law_ContentOrder x1 x2 x3 ((hes_ 0 _ _ rfl rfl).1 Try.underlying9) ((hes_ 1 _ _ rfl rfl).1 Try.underlying9) ((hes_ 2 _ _ rfl rfl).1 Try.underlying9))

theorem contentOrder_holds : Rows.ContentOrderSaid :=
  OpenClaim.holds_of_wide 6 Try.f6 rfl rfl rfl rfl rfl rfl rfl ⟨rfl, rfl, rfl, rfl, rfl⟩ rfl rfl rfl rfl rfl (by kernel_rfl) Try.func6 (by kernel_rfl)
    (of_decide_eq_true (by kernel_rfl)) (by unfold Func.isWrapper; first | (rw [if_pos (by decide +kernel)]; kernel_rfl) | (rw [if_neg (by decide +kernel)]; exact ⟨rfl, rfl⟩))
    (fun os started H enc _ => finContentOrder_lifted os started H enc)
end Go.Proofs.Ytglakdnhjpakkaa.K
