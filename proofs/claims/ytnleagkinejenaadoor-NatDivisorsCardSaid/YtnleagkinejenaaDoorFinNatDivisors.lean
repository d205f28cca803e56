/- The law NatDivisors of the given program returns true for every input, and each argument reads afterwards as it read before. Condition: none. -/
import Derived.Test.YtnleagkinejenaaDoorLawN3
import Derived.Test.YtnleagkinejenaaDoorPost2
import Derived.Test.YtnleagkinejenaaDoorCards
import Derived.Test.YtnleagkinejenaaDoorTie
import Derived.Test.YtnleagkinejenaaDoorLaid
import Derived.ProofKit
import Derived.OpenShut
import Derived.Deep.DeepHandedRow
import Derived.WideWitness
namespace Go.Proofs.YtnleagkinejenaaDoor.K
open Go Go.ChangeShapes Go.WideShapes Go.ChangeAt Go.RowKit
set_option linter.unusedVariables false
theorem finNatDivisors_sound : Sound Tryd.prog := ⟨by kernel_rfl, by kernel_rfl, by kernel_rfl⟩
theorem finNatDivisors_own : ownKnob Tryd.prog.godebug = none := by kernel_rfl
theorem finNatDivisors_gam {W : World} (h : laidMetH Tryd.prog Rows.natDivisorsRow.laid W) : Gam W :=
  gam_of_laid (by rfl) (fun p hp => by
    simp only [gamList, List.mem_cons, List.not_mem_nil, or_false] at hp
    rcases hp with rfl | rfl | rfl
    · exact ⟨"math/bits.deBruijn32tab", 74, 5, 32, by kernel_rfl, by kernel_rfl, by kernel_rfl, by kernel_rfl, by kernel_rfl, by kernel_rfl, .head _⟩
    · exact ⟨"math/bits.deBruijn64tab", 75, 5, 64, by kernel_rfl, by kernel_rfl, by kernel_rfl, by kernel_rfl, by kernel_rfl, by kernel_rfl, .tail _ (.head _)⟩
    · exact ⟨"internal/strconv.uint64pow10", 70, 22, 20, by kernel_rfl, by kernel_rfl, by kernel_rfl, by kernel_rfl, by kernel_rfl, by kernel_rfl, .tail _ (.tail _ (.head _))⟩) h
def finNatDivisors_tab (p : Nat × IntKind × List Int) (o : Obj) : Obj := match o with
  | .cells _ t fz => .cells (p.2.2.map (Value.int p.2.1)).toArray t fz
  | o => o
noncomputable def finNatDivisors_world (os : Os) : World :=
  { World.holding Tryd.prog os ⟨#[], #[], []⟩ with heap := gamList.foldl (fun h p => h.modify p.1 (finNatDivisors_tab p)) (World.holding Tryd.prog os ⟨#[], #[], []⟩).heap }
theorem finNatDivisors_met (os : Os) : laidMet Tryd.prog Rows.natDivisorsRow.laid ((finNatDivisors_world os).forCall (fun _ _ => 0) ⟨#[], #[.slice none 0 0, .slice none 0 0, .slice none 0 0], []⟩).memory :=
  laidMet_of_run' 8 (by kernel_rfl) (by kernel_rfl)
theorem finNatDivisors_reads (os : Os) {H : Type} (enc : TypeId × Value → H) : ∃ places, DataW.whole enc Tryd.prog ((finNatDivisors_world os).forCall (fun _ _ => 0) ⟨#[], #[.slice none 0 0, .slice none 0 0, .slice none 0 0], []⟩).memory Tryd.f6.params.toList Rows.natDivisorsSpec.vars false #[(.slice none 0 0 : Value), .slice none 0 0, .slice none 0 0].toList 8 = some ([.nil, .nil, .nil], [], places) :=
  ⟨[], by kernel_rfl⟩
set_option maxRecDepth 100000 in
theorem finNatDivisors_lifted (os : Os) (started : os.Started) (H : Type) (enc : TypeId × Value → H) (F : Stop.Interp) :
    ReturnsInHanded {} Tryd.checked os 6 .any ((OpenSpec.ofChange Rows.natDivisorsSpec).preRow enc Tryd.prog Tryd.f6 Rows.natDivisorsRow.domain false Rows.natDivisorsRow.laid) (((OpenSpec.ofChange Rows.natDivisorsSpec).at F).post enc Tryd.prog Tryd.f6 false true false false) := by
  obtain ⟨places, hx⟩ := finNatDivisors_reads os enc
  refine returnsInHanded_of_row (C := Tryd.checked) (s := (OpenSpec.ofChange Rows.natDivisorsSpec)) finNatDivisors_own started (by kernel_rfl) Tryd.func6
    (witness_row_at (enc := enc) (C := Tryd.checked) false (finNatDivisors_world os) #[(.slice none 0 0 : Value), .slice none 0 0, .slice none 0 0] rfl (by kernel_rfl) (by kernel_rfl) (by kernel_rfl)
      (OpenSpec.preRow_of_cond 8 hx (by kernel_rfl) (fun k hk => by cases hk) (by kernel_rfl) (finNatDivisors_met os))) ?_
  intro W base args ds gs before hval hW _ _ hsize hL _ _
  exact law_callsS finNatDivisors_sound (n := 12) (tb := 4) (ash := [.one (.ints .u32), .one (.ints .u32), .one (.ints .u32)]) (by kernel_rfl) (of_decide_eq_true (by kernel_rfl)) rfl (fun ds h => by
    match ds, h with
    | [_, _, _], _ => rfl) rfl Tryd.underlying4 (finNatDivisors_gam hL) hval hW hsize (fun es hes hes_ => by
    obtain ⟨_, _, rfl, h1, hes0⟩ := hes.one_inv
    obtain ⟨x1, rfl⟩ := h1.ints_inv
    obtain ⟨_, _, rfl, h2, hes1⟩ := hes0.one_inv
    obtain ⟨x2, rfl⟩ := h2.ints_inv
    obtain ⟨_, _, rfl, h3, hes2⟩ := hes1.one_inv
    obtain ⟨x3, rfl⟩ := h3.ints_inv
    obtain rfl := hes2.nil_inv
    exact law_NatDivisors x1 x2 x3 (by have h := (hes_ 0 _ _ rfl rfl).1 _ Tryd.underlying24; rw [show Tryd.prog.bytesOf 40 = 4 by kernel_rfl] at h; exact h) (by have h := (hes_ 1 _ _ rfl rfl).1 _ Tryd.underlying24; rw [show Tryd.prog.bytesOf 40 = 4 by kernel_rfl] at h; exact h) (by have h := (hes_ 2 _ _ rfl rfl).1 _ Tryd.underlying24; rw [show Tryd.prog.bytesOf 40 = 4 by kernel_rfl] at h; exact h))

theorem natDivisors_said : Rows.NatDivisorsSaid :=
  OpenClaim.holds_of_cond 6 Tryd.f6 rfl rfl rfl rfl rfl rfl rfl ⟨rfl, rfl, rfl, rfl, rfl⟩ rfl rfl rfl rfl rfl (by kernel_rfl) Tryd.func6 (by kernel_rfl)
    (of_decide_eq_true (by kernel_rfl)) (by unfold Func.isWrapper; first | (rw [if_pos (by decide +kernel)]; kernel_rfl) | (rw [if_neg (by decide +kernel)]; exact ⟨rfl, rfl⟩))
    (fun os started H enc _ F => by rw [OpenClaim.pre_eq_preRow]; exact finNatDivisors_lifted os started H enc F)
theorem finNatDivisors_plain (f : FuncId) (fn : Func) (hf : Tryd.pinned.checked.prog.funcNamed "examboard/examboardlaw01.NatDivisors" = some f) (hfn : Tryd.pinned.checked.prog.funcs[f]? = some fn) :
    false = Tryd.pinned.checked.prog.looks [] ∧ ∀ (j : Nat) t, fn.params[j]? = some t → Tryd.pinned.checked.prog.wantsStandIn t = false := by
  obtain rfl : f = 6 := Option.some.inj ((show Tryd.prog.funcNamed "examboard/examboardlaw01.NatDivisors" = some 6 by kernel_rfl).symm.trans hf) |>.symm
  obtain rfl : fn = Tryd.f6 := (Option.some.inj (Tryd.func6.symm.trans hfn)).symm
  refine ⟨by kernel_rfl, fun j t ht => ?_⟩
  have hall : Tryd.f6.params.toList.all (fun t => Tryd.prog.wantsStandIn t == false) = true := by kernel_rfl
  have := List.all_eq_true.1 hall t (by rw [Array.mem_toList_iff]; exact Array.mem_of_getElem? ht)
  have h2 : Tryd.prog.wantsStandIn t = false := by simpa using this
  exact h2
theorem natDivisors_holds : Rows.NatDivisorsCardSaid :=
  Claim7.holds_tied_plain_at .later [] _ _ _ _ natDivisors_said (fun _ h => by cases h) (by kernel_rfl) (fun _ h => by cases h) natDivisors_row_tie rfl ⟨rfl, rfl⟩ (by kernel_rfl) rfl finNatDivisors_plain (by kernel_rfl)
end Go.Proofs.YtnleagkinejenaaDoor.K
