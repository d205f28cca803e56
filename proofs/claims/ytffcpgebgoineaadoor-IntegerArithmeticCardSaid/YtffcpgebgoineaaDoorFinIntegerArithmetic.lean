/- The law IntegerArithmetic of the given program returns true for every input, and each argument reads afterwards as it read before. Condition: none. -/
import Derived.Test.YtffcpgebgoineaaDoorLawI3
import Derived.Test.YtffcpgebgoineaaDoorPost2
import Derived.Test.YtffcpgebgoineaaDoorCards
import Derived.Test.YtffcpgebgoineaaDoorTie
import Derived.Test.YtffcpgebgoineaaDoorLaid
import Derived.ProofKit
import Derived.OpenShut
import Derived.Deep.DeepHandedRow
import Derived.WideWitness
namespace Go.Proofs.YtffcpgebgoineaaDoor.K
open Go Go.ChangeShapes Go.WideShapes Go.ChangeAt Go.RowKit
set_option linter.unusedVariables false
theorem finIntegerArithmetic_sound : Sound Tryd.prog := ⟨by kernel_rfl, by kernel_rfl, by kernel_rfl⟩
theorem finIntegerArithmetic_own : ownKnob Tryd.prog.godebug = none := by kernel_rfl
theorem finIntegerArithmetic_gam {W : World} (h : laidMetH Tryd.prog Rows.integerArithmeticRow.laid W) : Gam W :=
  gam_of_laid (by rfl) (fun p hp => by
    simp only [gamList, List.mem_cons, List.not_mem_nil, or_false] at hp
    rcases hp with rfl | rfl | rfl
    · exact ⟨"math/bits.deBruijn32tab", 86, 5, 32, by kernel_rfl, by kernel_rfl, by kernel_rfl, by kernel_rfl, by kernel_rfl, by kernel_rfl, .head _⟩
    · exact ⟨"math/bits.deBruijn64tab", 87, 5, 64, by kernel_rfl, by kernel_rfl, by kernel_rfl, by kernel_rfl, by kernel_rfl, by kernel_rfl, .tail _ (.head _)⟩
    · exact ⟨"internal/strconv.uint64pow10", 82, 43, 20, by kernel_rfl, by kernel_rfl, by kernel_rfl, by kernel_rfl, by kernel_rfl, by kernel_rfl, .tail _ (.tail _ (.head _))⟩) h
def finIntegerArithmetic_tab (p : Nat × IntKind × List Int) (o : Obj) : Obj := match o with
  | .cells _ t fz => .cells (p.2.2.map (Value.int p.2.1)).toArray t fz
  | o => o
noncomputable def finIntegerArithmetic_world (os : Os) : World :=
  { World.holding Tryd.prog os ⟨#[], #[], []⟩ with heap := gamList.foldl (fun h p => h.modify p.1 (finIntegerArithmetic_tab p)) (World.holding Tryd.prog os ⟨#[], #[], []⟩).heap }
theorem finIntegerArithmetic_met (os : Os) : laidMet Tryd.prog Rows.integerArithmeticRow.laid ((finIntegerArithmetic_world os).forCall (fun _ _ => 0) ⟨#[], #[.agg #[.bool false, .slice none 0 0], .agg #[.bool false, .slice none 0 0]], []⟩).memory :=
  laidMet_of_run' 8 (by kernel_rfl) (by kernel_rfl)
theorem finIntegerArithmetic_reads (os : Os) {H : Type} (enc : TypeId × Value → H) : ∃ places, DataW.whole enc Tryd.prog ((finIntegerArithmetic_world os).forCall (fun _ _ => 0) ⟨#[], #[.agg #[.bool false, .slice none 0 0], .agg #[.bool false, .slice none 0 0]], []⟩).memory Tryd.f3.params.toList Rows.integerArithmeticSpec.vars false #[(.agg #[.bool false, .slice none 0 0] : Value), .agg #[.bool false, .slice none 0 0]].toList 8 = some ([.agg [.lit (.bool false), .nil], .agg [.lit (.bool false), .nil]], [], places) :=
  ⟨[], by kernel_rfl⟩
set_option maxRecDepth 100000 in
theorem finIntegerArithmetic_lifted (os : Os) (started : os.Started) (H : Type) (enc : TypeId × Value → H) (F : Stop.Interp) :
    ReturnsInHanded {} Tryd.checked os 3 .any ((OpenSpec.ofChange Rows.integerArithmeticSpec).preRow enc Tryd.prog Tryd.f3 Rows.integerArithmeticRow.domain false Rows.integerArithmeticRow.laid) (((OpenSpec.ofChange Rows.integerArithmeticSpec).at F).post enc Tryd.prog Tryd.f3 false true false false) := by
  obtain ⟨places, hx⟩ := finIntegerArithmetic_reads os enc
  refine returnsInHanded_of_row (C := Tryd.checked) (s := (OpenSpec.ofChange Rows.integerArithmeticSpec)) finIntegerArithmetic_own started (by kernel_rfl) Tryd.func3
    (witness_row_at (enc := enc) (C := Tryd.checked) false (finIntegerArithmetic_world os) #[(.agg #[.bool false, .slice none 0 0] : Value), .agg #[.bool false, .slice none 0 0]] rfl (by kernel_rfl) (by kernel_rfl) (by kernel_rfl)
      (OpenSpec.preRow_of_cond 8 hx (by kernel_rfl) (fun k hk => by cases hk) (by kernel_rfl) (finIntegerArithmetic_met os))) ?_
  intro W base args ds gs before hval hW _ _ hsize hL _ _
  exact law_callsS finIntegerArithmetic_sound (n := 12) (tb := 4) (ash := [.agg [.bool, .ints .u32], .agg [.bool, .ints .u32]]) (by kernel_rfl) (of_decide_eq_true (by kernel_rfl)) rfl (fun ds h => by
    match ds, h with
    | [_, _], _ => rfl) rfl Tryd.underlying4 (finIntegerArithmetic_gam hL) hval hW hsize (fun es hes hes_ => by
    obtain ⟨_, _, rfl, h1, hes0⟩ := hes.agg_inv
    obtain ⟨_, _, rfl, h2, h3⟩ := h1.cons_inv
    obtain ⟨x1, rfl⟩ := h2.bool_inv
    obtain ⟨_, _, rfl, h4, h5⟩ := h3.cons_inv
    obtain ⟨x2, rfl⟩ := h4.ints_inv
    obtain rfl := h5.nil_inv
    obtain ⟨_, _, rfl, h6, hes1⟩ := hes0.agg_inv
    obtain ⟨_, _, rfl, h7, h8⟩ := h6.cons_inv
    obtain ⟨x3, rfl⟩ := h7.bool_inv
    obtain ⟨_, _, rfl, h9, h10⟩ := h8.cons_inv
    obtain ⟨x4, rfl⟩ := h9.ints_inv
    obtain rfl := h10.nil_inv
    obtain rfl := hes1.nil_inv
    exact lawF_IntegerArithmetic x1 x2 x3 x4 (by have h := (hes_ 0 _ _ rfl rfl).2 _ rfl _ Tryd.underlying25 1 _ rfl _ rfl _ Tryd.underlying23; rw [show Tryd.prog.bytesOf 34 = 4 by kernel_rfl] at h; exact h) (by have h := (hes_ 1 _ _ rfl rfl).2 _ rfl _ Tryd.underlying25 1 _ rfl _ rfl _ Tryd.underlying23; rw [show Tryd.prog.bytesOf 34 = 4 by kernel_rfl] at h; exact h))

theorem integerArithmetic_said : Rows.IntegerArithmeticSaid :=
  OpenClaim.holds_of_cond 3 Tryd.f3 rfl rfl rfl rfl rfl rfl rfl ⟨rfl, rfl, rfl, rfl, rfl⟩ rfl rfl rfl rfl rfl (by kernel_rfl) Tryd.func3 (by kernel_rfl)
    (of_decide_eq_true (by kernel_rfl)) (by unfold Func.isWrapper; first | (rw [if_pos (by decide +kernel)]; kernel_rfl) | (rw [if_neg (by decide +kernel)]; exact ⟨rfl, rfl⟩))
    (fun os started H enc _ F => by rw [OpenClaim.pre_eq_preRow]; exact finIntegerArithmetic_lifted os started H enc F)
theorem finIntegerArithmetic_plain (f : FuncId) (fn : Func) (hf : Tryd.pinned.checked.prog.funcNamed "examboard/examboardlaw02.IntegerArithmetic" = some f) (hfn : Tryd.pinned.checked.prog.funcs[f]? = some fn) :
    false = Tryd.pinned.checked.prog.looks [] ∧ ∀ (j : Nat) t, fn.params[j]? = some t → Tryd.pinned.checked.prog.wantsStandIn t = false := by
  obtain rfl : f = 3 := Option.some.inj ((show Tryd.prog.funcNamed "examboard/examboardlaw02.IntegerArithmetic" = some 3 by kernel_rfl).symm.trans hf) |>.symm
  obtain rfl : fn = Tryd.f3 := (Option.some.inj (Tryd.func3.symm.trans hfn)).symm
  refine ⟨by kernel_rfl, fun j t ht => ?_⟩
  have hall : Tryd.f3.params.toList.all (fun t => Tryd.prog.wantsStandIn t == false) = true := by kernel_rfl
  have := List.all_eq_true.1 hall t (by rw [Array.mem_toList_iff]; exact Array.mem_of_getElem? ht)
  have h2 : Tryd.prog.wantsStandIn t = false := by simpa using this
  exact h2
theorem integerArithmetic_holds : Rows.IntegerArithmeticCardSaid :=
  Claim7.holds_tied_plain_at .later [] _ _ _ _ integerArithmetic_said (fun _ h => by cases h) (by kernel_rfl) (fun _ h => by cases h) integerArithmetic_row_tie rfl ⟨rfl, rfl⟩ (by kernel_rfl) rfl finIntegerArithmetic_plain (by kernel_rfl)
end Go.Proofs.YtffcpgebgoineaaDoor.K
