/- The law IntegerForms of the given program returns true for every input, and each argument reads afterwards as it read before. Condition: none. -/
import Derived.Test.YtekbfndgmjiciaaDoorLawI3
import Derived.Test.YtekbfndgmjiciaaDoorPost2
import Derived.Test.YtekbfndgmjiciaaDoorCards
import Derived.Test.YtekbfndgmjiciaaDoorTie
import Derived.Test.YtekbfndgmjiciaaDoorLaid
import Derived.ProofKit
import Derived.OpenShut
import Derived.Deep.DeepHandedRow
import Derived.WideWitness
namespace Go.Proofs.YtekbfndgmjiciaaDoor.K
open Go Go.ChangeShapes Go.WideShapes Go.ChangeAt Go.RowKit
set_option linter.unusedVariables false
theorem finIntegerForms_sound : Sound Tryd.prog := ⟨by kernel_rfl, by kernel_rfl, by kernel_rfl⟩
theorem finIntegerForms_own : ownKnob Tryd.prog.godebug = none := by kernel_rfl
theorem finIntegerForms_gam {W : World} (h : laidMetH Tryd.prog Rows.integerFormsRow.laid W) : Gam W :=
  gam_of_laid (by rfl) (fun p hp => by
    simp only [gamList, List.mem_cons, List.not_mem_nil, or_false] at hp
    rcases hp with rfl | rfl | rfl
    · exact ⟨"math/bits.deBruijn32tab", 85, 5, 32, by kernel_rfl, by kernel_rfl, by kernel_rfl, by kernel_rfl, by kernel_rfl, by kernel_rfl, .head _⟩
    · exact ⟨"math/bits.deBruijn64tab", 86, 5, 64, by kernel_rfl, by kernel_rfl, by kernel_rfl, by kernel_rfl, by kernel_rfl, by kernel_rfl, .tail _ (.head _)⟩
    · exact ⟨"internal/strconv.uint64pow10", 81, 40, 20, by kernel_rfl, by kernel_rfl, by kernel_rfl, by kernel_rfl, by kernel_rfl, by kernel_rfl, .tail _ (.tail _ (.head _))⟩) h
def finIntegerForms_tab (p : Nat × IntKind × List Int) (o : Obj) : Obj := match o with
  | .cells _ t fz => .cells (p.2.2.map (Value.int p.2.1)).toArray t fz
  | o => o
noncomputable def finIntegerForms_world (os : Os) : World :=
  { World.holding Tryd.prog os ⟨#[], #[], []⟩ with heap := gamList.foldl (fun h p => h.modify p.1 (finIntegerForms_tab p)) (World.holding Tryd.prog os ⟨#[], #[], []⟩).heap }
theorem finIntegerForms_met (os : Os) : laidMet Tryd.prog Rows.integerFormsRow.laid ((finIntegerForms_world os).forCall (fun _ _ => 0) ⟨#[], #[.int .i64 0, .agg #[.bool false, .slice none 0 0]], []⟩).memory :=
  laidMet_of_run' 8 (by kernel_rfl) (by kernel_rfl)
theorem finIntegerForms_reads (os : Os) {H : Type} (enc : TypeId × Value → H) : ∃ places, DataW.whole enc Tryd.prog ((finIntegerForms_world os).forCall (fun _ _ => 0) ⟨#[], #[.int .i64 0, .agg #[.bool false, .slice none 0 0]], []⟩).memory Tryd.f3.params.toList Rows.integerFormsSpec.vars false #[(.int .i64 0 : Value), .agg #[.bool false, .slice none 0 0]].toList 8 = some ([.lit (.int .i64 0), .agg [.lit (.bool false), .nil]], [], places) :=
  ⟨[], by kernel_rfl⟩
set_option maxRecDepth 100000 in
theorem finIntegerForms_lifted (os : Os) (started : os.Started) (H : Type) (enc : TypeId × Value → H) (F : Stop.Interp) :
    ReturnsInHanded {} Tryd.checked os 3 .any ((OpenSpec.ofChange Rows.integerFormsSpec).preRow enc Tryd.prog Tryd.f3 Rows.integerFormsRow.domain false Rows.integerFormsRow.laid) (((OpenSpec.ofChange Rows.integerFormsSpec).at F).post enc Tryd.prog Tryd.f3 false true false false) := by
  obtain ⟨places, hx⟩ := finIntegerForms_reads os enc
  refine returnsInHanded_of_row (C := Tryd.checked) (s := (OpenSpec.ofChange Rows.integerFormsSpec)) finIntegerForms_own started (by kernel_rfl) Tryd.func3
    (witness_row_at (enc := enc) (C := Tryd.checked) false (finIntegerForms_world os) #[(.int .i64 0 : Value), .agg #[.bool false, .slice none 0 0]] rfl (by kernel_rfl) (by kernel_rfl) (by kernel_rfl)
      (OpenSpec.preRow_of_cond 8 hx (by kernel_rfl) (fun k hk => by cases hk) (by kernel_rfl) (finIntegerForms_met os))) ?_
  intro W base args ds gs before hval hW _ _ hsize hL _ _
  exact law_callsS finIntegerForms_sound (n := 12) (tb := 4) (ash := [.one (.int .i64), .agg [.bool, .ints .u32]]) (by kernel_rfl) (of_decide_eq_true (by kernel_rfl)) rfl (fun ds h => by
    match ds, h with
    | [_, _], _ => rfl) rfl Tryd.underlying4 (finIntegerForms_gam hL) hval hW hsize (fun es hes hes_ => by
    obtain ⟨_, _, rfl, h1, hes0⟩ := hes.one_inv
    obtain ⟨x1, rfl, r1⟩ := h1.int_inv
    obtain ⟨_, _, rfl, h2, hes1⟩ := hes0.agg_inv
    obtain ⟨_, _, rfl, h3, h4⟩ := h2.cons_inv
    obtain ⟨x2, rfl⟩ := h3.bool_inv
    obtain ⟨_, _, rfl, h5, h6⟩ := h4.cons_inv
    obtain ⟨x3, rfl⟩ := h5.ints_inv
    obtain rfl := h6.nil_inv
    obtain rfl := hes1.nil_inv
    exact lawF_IntegerForms x1 x2 x3 (by have h := (hes_ 1 _ _ rfl rfl).2 _ rfl _ Tryd.underlying25 1 _ rfl _ rfl _ Tryd.underlying23; rw [show Tryd.prog.bytesOf 44 = 4 by kernel_rfl] at h; exact h))

theorem integerForms_said : Rows.IntegerFormsSaid :=
  OpenClaim.holds_of_cond 3 Tryd.f3 rfl rfl rfl rfl rfl rfl rfl ⟨rfl, rfl, rfl, rfl, rfl⟩ rfl rfl rfl rfl rfl (by kernel_rfl) Tryd.func3 (by kernel_rfl)
    (of_decide_eq_true (by kernel_rfl)) (by unfold Func.isWrapper; first | (rw [if_pos (by decide +kernel)]; kernel_rfl) | (rw [if_neg (by decide +kernel)]; exact ⟨rfl, rfl⟩))
    (fun os started H enc _ F => by rw [OpenClaim.pre_eq_preRow]; exact finIntegerForms_lifted os started H enc F)
theorem finIntegerForms_plain (f : FuncId) (fn : Func) (hf : Tryd.pinned.checked.prog.funcNamed "examboard/examboardlaw02.IntegerForms" = some f) (hfn : Tryd.pinned.checked.prog.funcs[f]? = some fn) :
    false = Tryd.pinned.checked.prog.looks [] ∧ ∀ (j : Nat) t, fn.params[j]? = some t → Tryd.pinned.checked.prog.wantsStandIn t = false := by
  obtain rfl : f = 3 := Option.some.inj ((show Tryd.prog.funcNamed "examboard/examboardlaw02.IntegerForms" = some 3 by kernel_rfl).symm.trans hf) |>.symm
  obtain rfl : fn = Tryd.f3 := (Option.some.inj (Tryd.func3.symm.trans hfn)).symm
  refine ⟨by kernel_rfl, fun j t ht => ?_⟩
  have hall : Tryd.f3.params.toList.all (fun t => Tryd.prog.wantsStandIn t == false) = true := by kernel_rfl
  have := List.all_eq_true.1 hall t (by rw [Array.mem_toList_iff]; exact Array.mem_of_getElem? ht)
  have h2 : Tryd.prog.wantsStandIn t = false := by simpa using this
  exact h2
theorem integerForms_holds : Rows.IntegerFormsCardSaid :=
  Claim7.holds_tied_plain_at .later [] _ _ _ _ integerForms_said (fun _ h => by cases h) (by kernel_rfl) (fun _ h => by cases h) integerForms_row_tie rfl ⟨rfl, rfl⟩ (by kernel_rfl) rfl finIntegerForms_plain (by kernel_rfl)
end Go.Proofs.YtekbfndgmjiciaaDoor.K
