/- The law NatQuotients of the given program returns true for every input, and each argument reads afterwards as it read before. Condition: none. -/
import Derived.Test.YtnleagkinejenaaDoorLawN3
import Derived.Test.YtnleagkinejenaaDoorPost2
import Derived.Test.YtnleagkinejenaaDoorCards
import Derived.Test.YtnleagkinejenaaDoorTie
import Derived.Test.YtnleagkinejenaaDoorLaid
import Derived.ProofKit
import Derived.OpenShut
import Derived.Deep.DeepHandedRow
import Derived.WideWitness
namespace Go.Proofs.YtnleagkinejenaaDoor.K
open Go Go.ChangeShapes Go.WideShapes Go.ChangeAt Go.RowKit
set_option linter.unusedVariables false
theorem finNatQuotients_sound : Sound Tryd.prog := ⟨by kernel_rfl, by kernel_rfl, by kernel_rfl⟩
theorem finNatQuotients_own : ownKnob Tryd.prog.godebug = none := by kernel_rfl
theorem finNatQuotients_gam {W : World} (h : laidMetH Tryd.prog Rows.natQuotientsRow.laid W) : Gam W :=
  gam_of_laid (by rfl) (fun p hp => by
    simp only [gamList, List.mem_cons, List.not_mem_nil, or_false] at hp
    rcases hp with rfl | rfl | rfl
    · exact ⟨"math/bits.deBruijn32tab", 74, 5, 32, by kernel_rfl, by kernel_rfl, by kernel_rfl, by kernel_rfl, by kernel_rfl, by kernel_rfl, .head _⟩
    · exact ⟨"math/bits.deBruijn64tab", 75, 5, 64, by kernel_rfl, by kernel_rfl, by kernel_rfl, by kernel_rfl, by kernel_rfl, by kernel_rfl, .tail _ (.head _)⟩
    · exact ⟨"internal/strconv.uint64pow10", 70, 22, 20, by kernel_rfl, by kernel_rfl, by kernel_rfl, by kernel_rfl, by kernel_rfl, by kernel_rfl, .tail _ (.tail _ (.head _))⟩) h
def finNatQuotients_tab (p : Nat × IntKind × List Int) (o : Obj) : Obj := match o with
  | .cells _ t fz => .cells (p.2.2.map (Value.int p.2.1)).toArray t fz
  | o => o
noncomputable def finNatQuotients_world (os : Os) : World :=
  { World.holding Tryd.prog os ⟨#[], #[], []⟩ with heap := gamList.foldl (fun h p => h.modify p.1 (finNatQuotients_tab p)) (World.holding Tryd.prog os ⟨#[], #[], []⟩).heap }
theorem finNatQuotients_met (os : Os) : laidMet Tryd.prog Rows.natQuotientsRow.laid ((finNatQuotients_world os).forCall (fun _ _ => 0) ⟨#[], #[.slice none 0 0, .slice none 0 0], []⟩).memory :=
  laidMet_of_run' 8 (by kernel_rfl) (by kernel_rfl)
theorem finNatQuotients_reads (os : Os) {H : Type} (enc : TypeId × Value → H) : ∃ places, DataW.whole enc Tryd.prog ((finNatQuotients_world os).forCall (fun _ _ => 0) ⟨#[], #[.slice none 0 0, .slice none 0 0], []⟩).memory Tryd.f5.params.toList Rows.natQuotientsSpec.vars false #[(.slice none 0 0 : Value), .slice none 0 0].toList 8 = some ([.nil, .nil], [], places) :=
  ⟨[], by kernel_rfl⟩
set_option maxRecDepth 100000 in
theorem finNatQuotients_lifted (os : Os) (started : os.Started) (H : Type) (enc : TypeId × Value → H) (F : Stop.Interp) :
    ReturnsInHanded {} Tryd.checked os 5 .any ((OpenSpec.ofChange Rows.natQuotientsSpec).preRow enc Tryd.prog Tryd.f5 Rows.natQuotientsRow.domain false Rows.natQuotientsRow.laid) (((OpenSpec.ofChange Rows.natQuotientsSpec).at F).post enc Tryd.prog Tryd.f5 false true false false) := by
  obtain ⟨places, hx⟩ := finNatQuotients_reads os enc
  refine returnsInHanded_of_row (C := Tryd.checked) (s := (OpenSpec.ofChange Rows.natQuotientsSpec)) finNatQuotients_own started (by kernel_rfl) Tryd.func5
    (witness_row_at (enc := enc) (C := Tryd.checked) false (finNatQuotients_world os) #[(.slice none 0 0 : Value), .slice none 0 0] rfl (by kernel_rfl) (by kernel_rfl) (by kernel_rfl)
      (OpenSpec.preRow_of_cond 8 hx (by kernel_rfl) (fun k hk => by cases hk) (by kernel_rfl) (finNatQuotients_met os))) ?_
  intro W base args ds gs before hval hW _ _ hsize hL _ _
  exact law_callsS finNatQuotients_sound (n := 12) (tb := 4) (ash := [.one (.ints .u32), .one (.ints .u32)]) (by kernel_rfl) (of_decide_eq_true (by kernel_rfl)) rfl (fun ds h => by
    match ds, h with
    | [_, _], _ => rfl) rfl Tryd.underlying4 (finNatQuotients_gam hL) hval hW hsize (fun es hes hes_ => by
    obtain ⟨_, _, rfl, h1, hes0⟩ := hes.one_inv
    obtain ⟨x1, rfl⟩ := h1.ints_inv
    obtain ⟨_, _, rfl, h2, hes1⟩ := hes0.one_inv
    obtain ⟨x2, rfl⟩ := h2.ints_inv
    obtain rfl := hes1.nil_inv
    exact law_NatQuotients x1 x2 (by have h := (hes_ 0 _ _ rfl rfl).1 _ Tryd.underlying24; rw [show Tryd.prog.bytesOf 40 = 4 by kernel_rfl] at h; exact h) (by have h := (hes_ 1 _ _ rfl rfl).1 _ Tryd.underlying24; rw [show Tryd.prog.bytesOf 40 = 4 by kernel_rfl] at h; exact h))

theorem natQuotients_said : Rows.NatQuotientsSaid :=
  OpenClaim.holds_of_cond 5 Tryd.f5 rfl rfl rfl rfl rfl rfl rfl ⟨rfl, rfl, rfl, rfl, rfl⟩ rfl rfl rfl rfl rfl (by kernel_rfl) Tryd.func5 (by kernel_rfl)
    (of_decide_eq_true (by kernel_rfl)) (by unfold Func.isWrapper; first | (rw [if_pos (by decide +kernel)]; kernel_rfl) | (rw [if_neg (by decide +kernel)]; exact ⟨rfl, rfl⟩))
    (fun os started H enc _ F => by rw [OpenClaim.pre_eq_preRow]; exact finNatQuotients_lifted os started H enc F)
theorem finNatQuotients_plain (f : FuncId) (fn : Func) (hf : Tryd.pinned.checked.prog.funcNamed "examboard/examboardlaw01.NatQuotients" = some f) (hfn : Tryd.pinned.checked.prog.funcs[f]? = some fn) :
    false = Tryd.pinned.checked.prog.looks [] ∧ ∀ (j : Nat) t, fn.params[j]? = some t → Tryd.pinned.checked.prog.wantsStandIn t = false := by
  obtain rfl : f = 5 := Option.some.inj ((show Tryd.prog.funcNamed "examboard/examboardlaw01.NatQuotients" = some 5 by kernel_rfl).symm.trans hf) |>.symm
  obtain rfl : fn = Tryd.f5 := (Option.some.inj (Tryd.func5.symm.trans hfn)).symm
  refine ⟨by kernel_rfl, fun j t ht => ?_⟩
  have hall : Tryd.f5.params.toList.all (fun t => Tryd.prog.wantsStandIn t == false) = true := by kernel_rfl
  have := List.all_eq_true.1 hall t (by rw [Array.mem_toList_iff]; exact Array.mem_of_getElem? ht)
  have h2 : Tryd.prog.wantsStandIn t = false := by simpa using this
  exact h2
theorem natQuotients_holds : Rows.NatQuotientsCardSaid :=
  Claim7.holds_tied_plain_at .later [] _ _ _ _ natQuotients_said (fun _ h => by cases h) (by kernel_rfl) (fun _ h => by cases h) natQuotients_row_tie rfl ⟨rfl, rfl⟩ (by kernel_rfl) rfl finNatQuotients_plain (by kernel_rfl)
end Go.Proofs.YtnleagkinejenaaDoor.K
