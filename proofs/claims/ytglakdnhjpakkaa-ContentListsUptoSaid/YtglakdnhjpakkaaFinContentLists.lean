/- The law ContentLists of the given program returns true for every input of bulk up to 1048576, and each argument reads afterwards as it read before. Condition: none beyond the bulk. -/
import Derived.Test.YtglakdnhjpakkaaCLaw2
import Derived.Test.YtglakdnhjpakkaaPost
import Derived.JoinedOf
import Derived.WideWitness
namespace Go.Proofs.Ytglakdnhjpakkaa.K
open Go Go.ChangeShapes Go.WideShapes Go.ChangeAt Go.RowKit
set_option linter.unusedVariables false
theorem finContentLists_sound : Sound Try.prog := ⟨by kernel_rfl, by kernel_rfl, by kernel_rfl⟩
theorem finContentLists_own : ownKnob Try.prog.godebug = none := by kernel_rfl
set_option maxRecDepth 100000 in
theorem finContentLists_lifted (os : Os) (started : os.Started) (H : Type) (enc : TypeId × Value → H) (F : Stop.Interp) :
    ReturnsInHanded {} Try.checked os 4 .any ((Rows.OpenSpec.upto Rows.contentListsSpec).pre6 enc Try.prog Try.f4 Rows.contentListsUptoRow.domain false) (((Rows.OpenSpec.upto Rows.contentListsSpec).at F).post enc Try.prog Try.f4 false true false false) := by
  refine returnsInHanded_of_cond (C := Try.checked) (s := Rows.OpenSpec.upto Rows.contentListsSpec) (k := Rows.uptoSmall) rfl finContentLists_own started (by kernel_rfl) Try.func4
    (OpenSpec.witness (enc := enc) (C := Try.checked) (s := Rows.OpenSpec.upto Rows.contentListsSpec) (k := Rows.uptoSmall) rfl false ⟨#[], #[.slice none 0 0, .string .empty, .slice none 0 0, .slice none 0 0], []⟩ 8 (by kernel_rfl) (by kernel_rfl) (by kernel_rfl)
      (x := ([.nil, .lit (.string []), .nil, .nil], [], [])) (by kernel_rfl) rfl (by kernel_rfl)) ?_
  intro W base args ds gs before hval hW _ hk _
  have hN : ∀ {m : Nat}, m ≤ Rows.uptoBulkAll ds → m ≤ 1048576 := fun h => Nat.le_trans h (by
    have h1 := of_decide_eq_true hk
    rw [uptoBulkAll_append] at h1
    omega)
  exact law_calls finContentLists_sound (n := 12) (tb := 4) (ash := [.one (.sl [.str, .str]), .one (.str), .one (.sl [.str]), .one (.sl [.str, .int .i64, .int .i64])]) (by kernel_rfl) (of_decide_eq_true (by kernel_rfl)) rfl (fun ds h => by
    match ds, h with
    | [_, _, _, _], _ => rfl) rfl Try.underlying4 (gam_nil rfl) hval hW (fun es hes hb => by
    obtain ⟨_, _, rfl, h1, hes0⟩ := hes.one_inv
    obtain ⟨x1, rfl, r1⟩ := h1.sl_inv
    obtain ⟨_, _, rfl, h2, hes1⟩ := hes0.one_inv
    obtain ⟨x2, rfl⟩ := h2.str_inv
    obtain ⟨_, _, rfl, h3, hes2⟩ := hes1.one_inv
    obtain ⟨x3, rfl, r3⟩ := h3.sl_inv
    obtain ⟨_, _, rfl, h4, hes3⟩ := hes2.one_inv
    obtain ⟨x4, rfl, r4⟩ := h4.sl_inv
    obtain rfl := hes3.nil_inv
    exact law_ContentLists x1 r1 x2 x3 r3 x4 r4 (hN hb))

theorem contentListsUpto_holds : Rows.ContentListsUptoSaid :=
  OpenClaim.holds_of_cond 4 Try.f4 rfl rfl rfl rfl rfl rfl rfl ⟨rfl, rfl, rfl, rfl, rfl⟩ rfl rfl rfl rfl rfl (by kernel_rfl) Try.func4 (by kernel_rfl)
    (of_decide_eq_true (by kernel_rfl)) (by unfold Func.isWrapper; first | (rw [if_pos (by decide +kernel)]; kernel_rfl) | (rw [if_neg (by decide +kernel)]; exact ⟨rfl, rfl⟩))
    (fun os started H enc _ F => finContentLists_lifted os started H enc F)
end Go.Proofs.Ytglakdnhjpakkaa.K
