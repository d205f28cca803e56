/- The law RatersAgreement of the given program returns true for every input, and each argument reads afterwards as it read before. Condition: none. -/
import Derived.Test.YtmefecfkajjajaaGreatDoorRtS
import Derived.Test.YtmefecfkajjajaaGreatDoorPost
import Derived.Test.YtmefecfkajjajaaGreatDoorCards
import Derived.Test.YtmefecfkajjajaaGreatDoorTie
import Derived.Test.YtmefecfkajjajaaGreatDoorLaid
import Derived.ProofKit
import Derived.OpenShut
import Derived.Deep.DeepHandedRow
import Derived.WideWitness
namespace Go.Proofs.YtmefecfkajjajaaGreatDoor.K
open Go Go.ChangeShapes Go.WideShapes Go.ChangeAt Go.RowKit
set_option linter.unusedVariables false
theorem finRatersAgreement_sound : Sound Tryz.prog := ⟨by kernel_rfl, by kernel_rfl, by kernel_rfl⟩
theorem finRatersAgreement_own : ownKnob Tryz.prog.godebug = none := by kernel_rfl
theorem finRatersAgreement_gam {W : World} (h : laidMetH Tryz.prog Rows.ratersAgreementRow.laid W) : Gam W :=
  gam_of_laid (by rfl) (fun p hp => by
    simp only [gamList, List.mem_cons, List.not_mem_nil, or_false] at hp
    rcases hp with rfl | rfl | rfl
    · exact ⟨"math/bits.deBruijn32tab", 128, 5, 32, by kernel_rfl, by kernel_rfl, by kernel_rfl, by kernel_rfl, by kernel_rfl, by kernel_rfl, .head _⟩
    · exact ⟨"math/bits.deBruijn64tab", 129, 5, 64, by kernel_rfl, by kernel_rfl, by kernel_rfl, by kernel_rfl, by kernel_rfl, by kernel_rfl, .tail _ (.head _)⟩
    · exact ⟨"internal/strconv.uint64pow10", 124, 46, 20, by kernel_rfl, by kernel_rfl, by kernel_rfl, by kernel_rfl, by kernel_rfl, by kernel_rfl, .tail _ (.tail _ (.head _))⟩) h
def finRatersAgreement_tab (p : Nat × IntKind × List Int) (o : Obj) : Obj := match o with
  | .cells _ t fz => .cells (p.2.2.map (Value.int p.2.1)).toArray t fz
  | o => o
noncomputable def finRatersAgreement_world (os : Os) : World :=
  { World.holding Tryz.prog os ⟨#[], #[], []⟩ with heap := gamList.foldl (fun h p => h.modify p.1 (finRatersAgreement_tab p)) (World.holding Tryz.prog os ⟨#[], #[], []⟩).heap }
theorem finRatersAgreement_met (os : Os) : laidMet Tryz.prog Rows.ratersAgreementRow.laid ((finRatersAgreement_world os).forCall (fun _ _ => 0) ⟨#[], #[.slice none 0 0, .slice none 0 0, .int .i64 0], []⟩).memory :=
  laidMet_of_run' 8 (by kernel_rfl) (by kernel_rfl)
theorem finRatersAgreement_reads (os : Os) {H : Type} (enc : TypeId × Value → H) : ∃ places, DataW.whole enc Tryz.prog ((finRatersAgreement_world os).forCall (fun _ _ => 0) ⟨#[], #[.slice none 0 0, .slice none 0 0, .int .i64 0], []⟩).memory Tryz.f3.params.toList Rows.ratersAgreementSpec.vars false #[(.slice none 0 0 : Value), .slice none 0 0, .int .i64 0].toList 8 = some ([.nil, .nil, .lit (.int .i64 0)], [], places) :=
  ⟨[], by kernel_rfl⟩
set_option maxRecDepth 100000 in
theorem finRatersAgreement_lifted (os : Os) (started : os.Started) (H : Type) (enc : TypeId × Value → H) (F : Stop.Interp) :
    ReturnsInHanded {} Tryz.checked os 3 .any ((OpenSpec.ofChange Rows.ratersAgreementSpec).preRow enc Tryz.prog Tryz.f3 Rows.ratersAgreementRow.domain false Rows.ratersAgreementRow.laid) (((OpenSpec.ofChange Rows.ratersAgreementSpec).at F).post enc Tryz.prog Tryz.f3 false true false false) := by
  obtain ⟨places, hx⟩ := finRatersAgreement_reads os enc
  refine returnsInHanded_of_row (C := Tryz.checked) (s := (OpenSpec.ofChange Rows.ratersAgreementSpec)) finRatersAgreement_own started (by kernel_rfl) Tryz.func3
    (witness_row_at (enc := enc) (C := Tryz.checked) false (finRatersAgreement_world os) #[(.slice none 0 0 : Value), .slice none 0 0, .int .i64 0] rfl (by kernel_rfl) (by kernel_rfl) (by kernel_rfl)
      (OpenSpec.preRow_of_cond 8 hx (by kernel_rfl) (fun k hk => by cases hk) (by kernel_rfl) (finRatersAgreement_met os))) ?_
  intro W base args ds gs before hval hW _ _ _ hL _ _
  exact law_calls finRatersAgreement_sound (n := 12) (tb := 4) (ash := [.one (.ints .i64), .one (.ints .i64), .one (.int .i64)]) (by kernel_rfl) (of_decide_eq_true (by kernel_rfl)) rfl (fun ds h => by
    match ds, h with
    | [_, _, _], _ => rfl) rfl Tryz.underlying4 (finRatersAgreement_gam hL) hval hW (fun es hes hb => by
    obtain ⟨_, _, rfl, h1, hes0⟩ := hes.one_inv
    obtain ⟨x1, rfl⟩ := h1.ints_inv
    obtain ⟨_, _, rfl, h2, hes1⟩ := hes0.one_inv
    obtain ⟨x2, rfl⟩ := h2.ints_inv
    obtain ⟨_, _, rfl, h3, hes2⟩ := hes1.one_inv
    obtain ⟨x3, rfl, r3⟩ := h3.int_inv
    obtain rfl := hes2.nil_inv
    exact law_RatersAgreement x1 x2 x3)

theorem ratersAgreement_said : Rows.RatersAgreementSaid :=
  OpenClaim.holds_of_cond 3 Tryz.f3 rfl rfl rfl rfl rfl rfl rfl ⟨rfl, rfl, rfl, rfl, rfl⟩ rfl rfl rfl rfl rfl (by kernel_rfl) Tryz.func3 (by kernel_rfl)
    (of_decide_eq_true (by kernel_rfl)) (by unfold Func.isWrapper; first | (rw [if_pos (by decide +kernel)]; kernel_rfl) | (rw [if_neg (by decide +kernel)]; exact ⟨rfl, rfl⟩))
    (fun os started H enc _ F => by rw [OpenClaim.pre_eq_preRow]; exact finRatersAgreement_lifted os started H enc F)
theorem finRatersAgreement_plain (f : FuncId) (fn : Func) (hf : Tryz.pinned.checked.prog.funcNamed "examboard/examboardlaw42.RatersAgreement" = some f) (hfn : Tryz.pinned.checked.prog.funcs[f]? = some fn) :
    false = Tryz.pinned.checked.prog.looks [] ∧ ∀ (j : Nat) t, fn.params[j]? = some t → Tryz.pinned.checked.prog.wantsStandIn t = false := by
  obtain rfl : f = 3 := Option.some.inj ((show Tryz.prog.funcNamed "examboard/examboardlaw42.RatersAgreement" = some 3 by kernel_rfl).symm.trans hf) |>.symm
  obtain rfl : fn = Tryz.f3 := (Option.some.inj (Tryz.func3.symm.trans hfn)).symm
  refine ⟨by kernel_rfl, fun j t ht => ?_⟩
  have hall : Tryz.f3.params.toList.all (fun t => Tryz.prog.wantsStandIn t == false) = true := by kernel_rfl
  have := List.all_eq_true.1 hall t (by rw [Array.mem_toList_iff]; exact Array.mem_of_getElem? ht)
  have h2 : Tryz.prog.wantsStandIn t = false := by simpa using this
  exact h2
theorem ratersAgreement_holds : Rows.RatersAgreementCardSaid :=
  Claim7.holds_tied_plain_at .later [] _ _ _ _ ratersAgreement_said (fun _ h => by cases h) (by kernel_rfl) (fun _ h => by cases h) ratersAgreement_row_tie rfl ⟨rfl, rfl⟩ (by kernel_rfl) rfl finRatersAgreement_plain (by kernel_rfl)
end Go.Proofs.YtmefecfkajjajaaGreatDoor.K
