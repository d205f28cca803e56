/- The law RatioUnary of the given program returns true for every input, and each argument reads afterwards as it read before. Condition: none. -/
import Derived.Test.YtpolinoaefdobaaDoorLawU
import Derived.Test.YtpolinoaefdobaaDoorPost
import Derived.Test.YtpolinoaefdobaaDoorCards
import Derived.Test.YtpolinoaefdobaaDoorTie
import Derived.Test.YtpolinoaefdobaaDoorLaid
import Derived.ProofKit
import Derived.OpenShut
import Derived.Deep.DeepHandedRow
import Derived.WideWitness
namespace Go.Proofs.YtpolinoaefdobaaDoor.K
open Go Go.ChangeShapes Go.WideShapes Go.ChangeAt Go.RowKit
set_option linter.unusedVariables false
theorem finRatioUnary_sound : Sound Tryd.prog := ⟨by kernel_rfl, by kernel_rfl, by kernel_rfl⟩
theorem finRatioUnary_own : ownKnob Tryd.prog.godebug = none := by kernel_rfl
theorem finRatioUnary_gam {W : World} (h : laidMetH Tryd.prog Rows.ratioUnaryRow.laid W) : Gam W :=
  gam_of_laid (by rfl) (fun p hp => by
    simp only [gamList, List.mem_cons, List.not_mem_nil, or_false] at hp
    rcases hp with rfl | rfl | rfl
    · exact ⟨"math/bits.deBruijn32tab", 89, 5, 32, by kernel_rfl, by kernel_rfl, by kernel_rfl, by kernel_rfl, by kernel_rfl, by kernel_rfl, .head _⟩
    · exact ⟨"math/bits.deBruijn64tab", 90, 5, 64, by kernel_rfl, by kernel_rfl, by kernel_rfl, by kernel_rfl, by kernel_rfl, by kernel_rfl, .tail _ (.head _)⟩
    · exact ⟨"internal/strconv.uint64pow10", 85, 49, 20, by kernel_rfl, by kernel_rfl, by kernel_rfl, by kernel_rfl, by kernel_rfl, by kernel_rfl, .tail _ (.tail _ (.head _))⟩) h
def finRatioUnary_tab (p : Nat × IntKind × List Int) (o : Obj) : Obj := match o with
  | .cells _ t fz => .cells (p.2.2.map (Value.int p.2.1)).toArray t fz
  | o => o
noncomputable def finRatioUnary_world (os : Os) : World :=
  { World.holding Tryd.prog os ⟨#[], #[], []⟩ with heap := gamList.foldl (fun h p => h.modify p.1 (finRatioUnary_tab p)) (World.holding Tryd.prog os ⟨#[], #[], []⟩).heap }
theorem finRatioUnary_met (os : Os) : laidMet Tryd.prog Rows.ratioUnaryRow.laid ((finRatioUnary_world os).forCall (fun _ _ => 0) ⟨#[], #[.agg #[.bool false, .slice none 0 0, .slice none 0 0]], []⟩).memory :=
  laidMet_of_run' 8 (by kernel_rfl) (by kernel_rfl)
theorem finRatioUnary_reads (os : Os) {H : Type} (enc : TypeId × Value → H) : ∃ places, DataW.whole enc Tryd.prog ((finRatioUnary_world os).forCall (fun _ _ => 0) ⟨#[], #[.agg #[.bool false, .slice none 0 0, .slice none 0 0]], []⟩).memory Tryd.f3.params.toList Rows.ratioUnarySpec.vars false #[(.agg #[.bool false, .slice none 0 0, .slice none 0 0] : Value)].toList 8 = some ([.agg [.agg [.lit (.bool false), .nil], .nil]], [], places) :=
  ⟨[], by kernel_rfl⟩
set_option maxRecDepth 100000 in
theorem finRatioUnary_lifted (os : Os) (started : os.Started) (H : Type) (enc : TypeId × Value → H) (F : Stop.Interp) :
    ReturnsInHanded {} Tryd.checked os 3 .any ((OpenSpec.ofChange Rows.ratioUnarySpec).preRow enc Tryd.prog Tryd.f3 Rows.ratioUnaryRow.domain false Rows.ratioUnaryRow.laid) (((OpenSpec.ofChange Rows.ratioUnarySpec).at F).post enc Tryd.prog Tryd.f3 false true false false) := by
  obtain ⟨places, hx⟩ := finRatioUnary_reads os enc
  refine returnsInHanded_of_row (C := Tryd.checked) (s := (OpenSpec.ofChange Rows.ratioUnarySpec)) finRatioUnary_own started (by kernel_rfl) Tryd.func3
    (witness_row_at (enc := enc) (C := Tryd.checked) false (finRatioUnary_world os) #[(.agg #[.bool false, .slice none 0 0, .slice none 0 0] : Value)] rfl (by kernel_rfl) (by kernel_rfl) (by kernel_rfl)
      (OpenSpec.preRow_of_cond 8 hx (by kernel_rfl) (fun k hk => by cases hk) (by kernel_rfl) (finRatioUnary_met os))) ?_
  intro W base args ds gs before hval hW _ _ _ hL _ _
  exact law_calls finRatioUnary_sound (n := 12) (tb := 4) (ash := [.agg [.bool, .ints .u32, .ints .u32]]) (by kernel_rfl) (of_decide_eq_true (by kernel_rfl)) rfl (fun ds h => by
    match ds, h with
    | [_], _ => rfl) rfl Tryd.underlying4 (finRatioUnary_gam hL) hval hW (fun es hes hb => by
    obtain ⟨_, _, rfl, h1, hes0⟩ := hes.agg_inv
    obtain ⟨_, _, rfl, h2, h3⟩ := h1.cons_inv
    obtain ⟨x1, rfl⟩ := h2.bool_inv
    obtain ⟨_, _, rfl, h4, h5⟩ := h3.cons_inv
    obtain ⟨x2, rfl⟩ := h4.ints_inv
    obtain ⟨_, _, rfl, h6, h7⟩ := h5.cons_inv
    obtain ⟨x3, rfl⟩ := h6.ints_inv
    obtain rfl := h7.nil_inv
    obtain rfl := hes0.nil_inv
    exact law_RatioUnary x1 x2 x3)

theorem ratioUnary_said : Rows.RatioUnarySaid :=
  OpenClaim.holds_of_cond 3 Tryd.f3 rfl rfl rfl rfl rfl rfl rfl ⟨rfl, rfl, rfl, rfl, rfl⟩ rfl rfl rfl rfl rfl (by kernel_rfl) Tryd.func3 (by kernel_rfl)
    (of_decide_eq_true (by kernel_rfl)) (by unfold Func.isWrapper; first | (rw [if_pos (by decide +kernel)]; kernel_rfl) | (rw [if_neg (by decide +kernel)]; exact ⟨rfl, rfl⟩))
    (fun os started H enc _ F => by rw [OpenClaim.pre_eq_preRow]; exact finRatioUnary_lifted os started H enc F)
theorem finRatioUnary_plain (f : FuncId) (fn : Func) (hf : Tryd.pinned.checked.prog.funcNamed "examboard/examboardlaw03.RatioUnary" = some f) (hfn : Tryd.pinned.checked.prog.funcs[f]? = some fn) :
    false = Tryd.pinned.checked.prog.looks [] ∧ ∀ (j : Nat) t, fn.params[j]? = some t → Tryd.pinned.checked.prog.wantsStandIn t = false := by
  obtain rfl : f = 3 := Option.some.inj ((show Tryd.prog.funcNamed "examboard/examboardlaw03.RatioUnary" = some 3 by kernel_rfl).symm.trans hf) |>.symm
  obtain rfl : fn = Tryd.f3 := (Option.some.inj (Tryd.func3.symm.trans hfn)).symm
  refine ⟨by kernel_rfl, fun j t ht => ?_⟩
  have hall : Tryd.f3.params.toList.all (fun t => Tryd.prog.wantsStandIn t == false) = true := by kernel_rfl
  have := List.all_eq_true.1 hall t (by rw [Array.mem_toList_iff]; exact Array.mem_of_getElem? ht)
  have h2 : Tryd.prog.wantsStandIn t = false := by simpa using this
  exact h2
theorem ratioUnary_holds : Rows.RatioUnaryCardSaid :=
  Claim7.holds_tied_plain_at .later [] _ _ _ _ ratioUnary_said (fun _ h => by cases h) (by kernel_rfl) (fun _ h => by cases h) ratioUnary_row_tie rfl ⟨rfl, rfl⟩ (by kernel_rfl) rfl finRatioUnary_plain (by kernel_rfl)
end Go.Proofs.YtpolinoaefdobaaDoor.K
