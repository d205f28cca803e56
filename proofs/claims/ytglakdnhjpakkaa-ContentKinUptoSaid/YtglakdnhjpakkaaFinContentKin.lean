/- The law ContentKin of the given program returns true for every input of bulk up to 1048576, and each argument reads afterwards as it read before. Condition: none beyond the bulk. -/
import Derived.Test.YtglakdnhjpakkaaCLaw2
import Derived.Test.YtglakdnhjpakkaaPost
import Derived.JoinedOf
import Derived.WideWitness
namespace Go.Proofs.Ytglakdnhjpakkaa.K
open Go Go.ChangeShapes Go.WideShapes Go.ChangeAt Go.RowKit
set_option linter.unusedVariables false
theorem finContentKin_sound : Sound Try.prog := ⟨by kernel_rfl, by kernel_rfl, by kernel_rfl⟩
theorem finContentKin_own : ownKnob Try.prog.godebug = none := by kernel_rfl
set_option maxRecDepth 100000 in
theorem finContentKin_lifted (os : Os) (started : os.Started) (H : Type) (enc : TypeId × Value → H) (F : Stop.Interp) :
    ReturnsInHanded {} Try.checked os 7 .any ((Rows.OpenSpec.upto Rows.contentKinSpec).pre6 enc Try.prog Try.f7 Rows.contentKinUptoRow.domain false) (((Rows.OpenSpec.upto Rows.contentKinSpec).at F).post enc Try.prog Try.f7 false true false false) := by
  refine returnsInHanded_of_cond (C := Try.checked) (s := Rows.OpenSpec.upto Rows.contentKinSpec) (k := Rows.uptoSmall) rfl finContentKin_own started (by kernel_rfl) Try.func7
    (OpenSpec.witness (enc := enc) (C := Try.checked) (s := Rows.OpenSpec.upto Rows.contentKinSpec) (k := Rows.uptoSmall) rfl false ⟨#[], #[.slice none 0 0], []⟩ 8 (by kernel_rfl) (by kernel_rfl) (by kernel_rfl)
      (x := ([.nil], [], [])) (by kernel_rfl) rfl (by kernel_rfl)) ?_
  intro W base args ds gs before hval hW _ hk _
  have hN : ∀ {m : Nat}, m ≤ Rows.uptoBulkAll ds → m ≤ 1048576 := fun h => Nat.le_trans h (by
    have h1 := of_decide_eq_true hk
    rw [uptoBulkAll_append] at h1
    omega)
  exact law_calls finContentKin_sound (n := 12) (tb := 4) (ash := [.one (.sl [.str, .str])]) (by kernel_rfl) (of_decide_eq_true (by kernel_rfl)) rfl (fun ds h => by
    match ds, h with
    | [_], _ => rfl) rfl Try.underlying4 (gam_nil rfl) hval hW (fun es hes hb => by
    obtain ⟨_, _, rfl, h1, hes0⟩ := hes.one_inv
    obtain ⟨x1, rfl, r1⟩ := h1.sl_inv
    obtain rfl := hes0.nil_inv
    exact law_ContentKin x1 r1 (hN hb))

theorem contentKinUpto_holds : Rows.ContentKinUptoSaid :=
  OpenClaim.holds_of_cond 7 Try.f7 rfl rfl rfl rfl rfl rfl rfl ⟨rfl, rfl, rfl, rfl, rfl⟩ rfl rfl rfl rfl rfl (by kernel_rfl) Try.func7 (by kernel_rfl)
    (of_decide_eq_true (by kernel_rfl)) (by unfold Func.isWrapper; first | (rw [if_pos (by decide +kernel)]; kernel_rfl) | (rw [if_neg (by decide +kernel)]; exact ⟨rfl, rfl⟩))
    (fun os started H enc _ F => finContentKin_lifted os started H enc F)
end Go.Proofs.Ytglakdnhjpakkaa.K
