/- The law ContentCounts of the given program returns true for every input, and each argument reads afterwards as it read before. Condition: none. -/
import Derived.Test.YtglakdnhjpakkaaCLaw2
import Derived.Test.YtglakdnhjpakkaaPost2
import Derived.JoinedOf
import Derived.SizedLaws
import Derived.WideWitness
namespace Go.Proofs.Ytglakdnhjpakkaa.K
open Go Go.ChangeShapes Go.WideShapes Go.ChangeAt Go.RowKit
set_option linter.unusedVariables false
theorem finContentCounts_sound : Sound Try.prog := ⟨by kernel_rfl, by kernel_rfl, by kernel_rfl⟩
theorem finContentCounts_own : ownKnob Try.prog.godebug = none := by kernel_rfl
set_option maxRecDepth 100000 in
theorem finContentCounts_lifted (os : Os) (started : os.Started) (H : Type) (enc : TypeId × Value → H) :
    ReturnsInHanded {} Try.checked os 5 .any (Rows.contentCountsSpec.pre6 enc Try.prog Try.f5 Rows.contentCountsRow.domain false) (Rows.contentCountsSpec.post enc Try.prog Try.f5 false true false false) := by
  refine returnsInHanded_of_change_sized (C := Try.checked) finContentCounts_own started (by kernel_rfl) Try.func5
    (ChangeSpec.witness6 (enc := enc) (C := Try.checked) false ⟨#[], #[.slice none 0 0, .slice none 0 0, .int .u8 0], []⟩ 8 (by kernel_rfl) (by kernel_rfl) (by kernel_rfl) (by kernel_rfl)) ?_
  intro W base args ds gs before hval hW _ hsize _
  exact law_callsS finContentCounts_sound (n := 12) (tb := 4) (ash := [.one (.sl [.str, .str]), .one (.sl [.str]), .one (.int .u8)]) (by kernel_rfl) (of_decide_eq_true (by kernel_rfl)) rfl (fun ds h => by
    match ds, h with
    | [_, _, _], _ => rfl) rfl Try.underlying4 (gam_nil rfl) hval hW hsize (fun es hes hes_ => by
    obtain ⟨_, _, rfl, h1, hes0⟩ := hes.one_inv
    obtain ⟨x1, rfl, r1⟩ := h1.sl_inv
    obtain ⟨_, _, rfl, h2, hes1⟩ := hes0.one_inv
    obtain ⟨x2, rfl, r2⟩ := h2.sl_inv
    obtain ⟨_, _, rfl, h3, hes2⟩ := hes1.one_inv
    obtain ⟨x3, rfl, r3⟩ := h3.int_inv
    obtain rfl := hes2.nil_inv
    exact law_ContentCounts x1 r1 x2 r2 x3 (by have h := (hes_ 0 _ _ rfl rfl).1 _ Try.underlying27; rw [show Try.prog.bytesOf 42 = 32 by kernel_rfl] at h; exact h) (by have h := (hes_ 1 _ _ rfl rfl).1 _ Try.underlying28; rw [show Try.prog.bytesOf 9 = 16 by kernel_rfl] at h; exact h))

theorem contentCounts_holds : Rows.ContentCountsSaid :=
  OpenClaim.holds_of_wide 5 Try.f5 rfl rfl rfl rfl rfl rfl rfl ⟨rfl, rfl, rfl, rfl, rfl⟩ rfl rfl rfl rfl rfl (by kernel_rfl) Try.func5 (by kernel_rfl)
    (of_decide_eq_true (by kernel_rfl)) (by unfold Func.isWrapper; first | (rw [if_pos (by decide +kernel)]; kernel_rfl) | (rw [if_neg (by decide +kernel)]; exact ⟨rfl, rfl⟩))
    (fun os started H enc _ => finContentCounts_lifted os started H enc)
end Go.Proofs.Ytglakdnhjpakkaa.K
