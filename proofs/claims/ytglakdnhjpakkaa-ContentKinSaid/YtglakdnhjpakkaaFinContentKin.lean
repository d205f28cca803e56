/- The law ContentKin of the given program returns true for every input, and each argument reads afterwards as it read before. Condition: none. -/
import Derived.Test.YtglakdnhjpakkaaCLaw2
import Derived.Test.YtglakdnhjpakkaaPost2
import Derived.JoinedOf
import Derived.SizedLaws
import Derived.WideWitness
namespace Go.Proofs.Ytglakdnhjpakkaa.K
open Go Go.ChangeShapes Go.WideShapes Go.ChangeAt Go.RowKit
set_option linter.unusedVariables false
theorem finContentKin_sound : Sound Try.prog := ⟨by kernel_rfl, by kernel_rfl, by kernel_rfl⟩
theorem finContentKin_own : ownKnob Try.prog.godebug = none := by kernel_rfl
set_option maxRecDepth 100000 in
theorem finContentKin_lifted (os : Os) (started : os.Started) (H : Type) (enc : TypeId × Value → H) :
    ReturnsInHanded {} Try.checked os 7 .any (Rows.contentKinSpec.pre6 enc Try.prog Try.f7 Rows.contentKinRow.domain false) (Rows.contentKinSpec.post enc Try.prog Try.f7 false true false false) := by
  refine returnsInHanded_of_change_sized (C := Try.checked) finContentKin_own started (by kernel_rfl) Try.func7
    (ChangeSpec.witness6 (enc := enc) (C := Try.checked) false ⟨#[], #[.slice none 0 0], []⟩ 8 (by kernel_rfl) (by kernel_rfl) (by kernel_rfl) (by kernel_rfl)) ?_
  intro W base args ds gs before hval hW _ hsize _
  exact law_callsS finContentKin_sound (n := 12) (tb := 4) (ash := [.one (.sl [.str, .str])]) (by kernel_rfl) (of_decide_eq_true (by kernel_rfl)) rfl (fun ds h => by
    match ds, h with
    | [_], _ => rfl) rfl Try.underlying4 (gam_nil rfl) hval hW hsize (fun es hes hes_ => by
    obtain ⟨_, _, rfl, h1, hes0⟩ := hes.one_inv
    obtain ⟨x1, rfl, r1⟩ := h1.sl_inv
    obtain rfl := hes0.nil_inv
    exact law_ContentKin x1 r1 (by have h := (hes_ 0 _ _ rfl rfl).1 _ Try.underlying27; rw [show Try.prog.bytesOf 42 = 32 by kernel_rfl] at h; exact h))

theorem contentKin_holds : Rows.ContentKinSaid :=
  OpenClaim.holds_of_wide 7 Try.f7 rfl rfl rfl rfl rfl rfl rfl ⟨rfl, rfl, rfl, rfl, rfl⟩ rfl rfl rfl rfl rfl (by kernel_rfl) Try.func7 (by kernel_rfl)
    (of_decide_eq_true (by kernel_rfl)) (by unfold Func.isWrapper; first | (rw [if_pos (by decide +kernel)]; kernel_rfl) | (rw [if_neg (by decide +kernel)]; exact ⟨rfl, rfl⟩))
    (fun os started H enc _ => finContentKin_lifted os started H enc)
end Go.Proofs.Ytglakdnhjpakkaa.K
