/- The law ContentLists of the given program returns true for every input, and each argument reads afterwards as it read before. Condition: none. -/
import Derived.Test.YtglakdnhjpakkaaCLaw3
import Derived.Test.YtglakdnhjpakkaaPost3
import Derived.JoinedOf
import Derived.SizedLaws
import Derived.WideWitness
namespace Go.Proofs.Ytglakdnhjpakkaa.K
open Go Go.ChangeShapes Go.WideShapes Go.ChangeAt Go.RowKit
set_option linter.unusedVariables false
theorem finContentLists_sound : Sound Try.prog := ⟨by kernel_rfl, by kernel_rfl, by kernel_rfl⟩
theorem finContentLists_own : ownKnob Try.prog.godebug = none := by kernel_rfl
set_option maxRecDepth 100000 in
theorem finContentLists_lifted (os : Os) (started : os.Started) (H : Type) (enc : TypeId × Value → H) :
    ReturnsInHanded {} Try.checked os 4 .any (Rows.contentListsSpec.pre6 enc Try.prog Try.f4 Rows.contentListsRow.domain false) (Rows.contentListsSpec.post enc Try.prog Try.f4 false true false false) := by
  refine returnsInHanded_of_change_sized (C := Try.checked) finContentLists_own started (by kernel_rfl) Try.func4
    (ChangeSpec.witness6 (enc := enc) (C := Try.checked) false ⟨#[], #[.slice none 0 0, .string .empty, .slice none 0 0, .slice none 0 0], []⟩ 8 (by kernel_rfl) (by kernel_rfl) (by kernel_rfl) (by kernel_rfl)) ?_
  intro W base args ds gs before hval hW _ hsize _
  exact law_callsN finContentLists_sound (n := 12) (tb := 4) (ash := [.one (.sl [.str, .str]), .one (.str), .one (.sl [.str]), .one (.sl [.str, .int .i64, .int .i64])]) (by kernel_rfl) (of_decide_eq_true (by kernel_rfl)) rfl (fun ds h => by
    match ds, h with
    | [_, _, _, _], _ => rfl) rfl Try.underlying4 (gam_nil rfl) hval hW hsize (fun es hes hes_ nes_ => by
    obtain ⟨_, _, rfl, h1, hes0⟩ := hes.one_inv
    obtain ⟨x1, rfl, r1⟩ := h1.sl_inv
    obtain ⟨_, _, rfl, h2, hes1⟩ := hes0.one_inv
    obtain ⟨x2, rfl⟩ := h2.str_inv
    obtain ⟨_, _, rfl, h3, hes2⟩ := hes1.one_inv
    obtain ⟨x3, rfl, r3⟩ := h3.sl_inv
    obtain ⟨_, _, rfl, h4, hes3⟩ := hes2.one_inv
    obtain ⟨x4, rfl, r4⟩ := h4.sl_inv
    obtain rfl := hes3.nil_inv
    exact lawF_ContentLists x1 r1 x2 x3 r3 x4 r4 (by have h := (hes_ 0 _ _ rfl rfl).1 _ Try.underlying27; rw [show Try.prog.bytesOf 42 = 32 by kernel_rfl] at h; exact h) ((hes_ 1 _ _ rfl rfl).1 Try.underlying9) (by have h := (hes_ 2 _ _ rfl rfl).1 _ Try.underlying28; rw [show Try.prog.bytesOf 9 = 16 by kernel_rfl] at h; exact h) (by have h := (hes_ 3 _ _ rfl rfl).1 _ Try.underlying29; rw [show Try.prog.bytesOf 51 = 32 by kernel_rfl] at h; exact h) (fun i row hi s hs => ((nes_ 3 _ _ rfl rfl _ _ rfl _ Try.underlying29 (by kernel_rfl) i row hi).2 _ Try.underlying51 0 _ rfl _ hs) Try.underlying9))

theorem contentLists_holds : Rows.ContentListsSaid :=
  OpenClaim.holds_of_wide 4 Try.f4 rfl rfl rfl rfl rfl rfl rfl ⟨rfl, rfl, rfl, rfl, rfl⟩ rfl rfl rfl rfl rfl (by kernel_rfl) Try.func4 (by kernel_rfl)
    (of_decide_eq_true (by kernel_rfl)) (by unfold Func.isWrapper; first | (rw [if_pos (by decide +kernel)]; kernel_rfl) | (rw [if_neg (by decide +kernel)]; exact ⟨rfl, rfl⟩))
    (fun os started H enc _ => finContentLists_lifted os started H enc)
end Go.Proofs.Ytglakdnhjpakkaa.K
