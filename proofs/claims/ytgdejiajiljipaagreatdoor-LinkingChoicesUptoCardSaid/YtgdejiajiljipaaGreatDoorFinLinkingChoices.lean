/- The law LinkingChoices of the given program returns true for every input of bulk up to 1048576, and each argument reads afterwards as it read before. Condition: none beyond the bulk. -/
import Derived.Test.YtgdejiajiljipaaGreatDoorLawL5
import Derived.Test.YtgdejiajiljipaaGreatDoorPost
import Derived.Test.YtgdejiajiljipaaGreatDoorCards
import Derived.Test.YtgdejiajiljipaaGreatDoorTie
import Derived.Test.YtgdejiajiljipaaGreatDoorLaid
import Derived.ProofKit
import Derived.OpenShut
import Derived.Deep.DeepHandedRow
import Derived.WideWitness
namespace Go.Proofs.YtgdejiajiljipaaGreatDoor.K
open Go Go.ChangeShapes Go.WideShapes Go.ChangeAt Go.RowKit
set_option linter.unusedVariables false
theorem finLinkingChoices_sound : Sound Tryz.prog := ⟨by kernel_rfl, by kernel_rfl, by kernel_rfl⟩
theorem finLinkingChoices_own : ownKnob Tryz.prog.godebug = none := by kernel_rfl
theorem finLinkingChoices_gam {W : World} (h : laidMetH Tryz.prog Rows.linkingChoicesUptoRow.laid W) : Gam W :=
  gam_of_laid (by rfl) (fun p hp => by
    simp only [gamList, List.mem_cons, List.not_mem_nil, or_false] at hp
    rcases hp with rfl | rfl | rfl
    · exact ⟨"math/bits.deBruijn32tab", 123, 5, 32, by kernel_rfl, by kernel_rfl, by kernel_rfl, by kernel_rfl, by kernel_rfl, by kernel_rfl, .head _⟩
    · exact ⟨"math/bits.deBruijn64tab", 124, 5, 64, by kernel_rfl, by kernel_rfl, by kernel_rfl, by kernel_rfl, by kernel_rfl, by kernel_rfl, .tail _ (.head _)⟩
    · exact ⟨"internal/strconv.uint64pow10", 119, 85, 20, by kernel_rfl, by kernel_rfl, by kernel_rfl, by kernel_rfl, by kernel_rfl, by kernel_rfl, .tail _ (.tail _ (.head _))⟩) h
def finLinkingChoices_tab (p : Nat × IntKind × List Int) (o : Obj) : Obj := match o with
  | .cells _ t fz => .cells (p.2.2.map (Value.int p.2.1)).toArray t fz
  | o => o
noncomputable def finLinkingChoices_world (os : Os) : World :=
  { World.holding Tryz.prog os ⟨#[], #[], []⟩ with heap := gamList.foldl (fun h p => h.modify p.1 (finLinkingChoices_tab p)) (World.holding Tryz.prog os ⟨#[], #[], []⟩).heap }
theorem finLinkingChoices_met (os : Os) : laidMet Tryz.prog Rows.linkingChoicesUptoRow.laid ((finLinkingChoices_world os).forCall (fun _ _ => 0) ⟨#[], #[.slice none 0 0, .slice none 0 0, .slice none 0 0], []⟩).memory :=
  laidMet_of_run' 8 (by kernel_rfl) (by kernel_rfl)
theorem finLinkingChoices_reads (os : Os) {H : Type} (enc : TypeId × Value → H) : ∃ places, DataW.whole enc Tryz.prog ((finLinkingChoices_world os).forCall (fun _ _ => 0) ⟨#[], #[.slice none 0 0, .slice none 0 0, .slice none 0 0], []⟩).memory Tryz.f5.params.toList Rows.linkingChoicesSpec.vars false #[(.slice none 0 0 : Value), .slice none 0 0, .slice none 0 0].toList 8 = some ([.nil, .nil, .nil], [], places) :=
  ⟨[], by kernel_rfl⟩
set_option maxRecDepth 100000 in
theorem finLinkingChoices_lifted (os : Os) (started : os.Started) (H : Type) (enc : TypeId × Value → H) (F : Stop.Interp) :
    ReturnsInHanded {} Tryz.checked os 5 .any ((Rows.OpenSpec.upto Rows.linkingChoicesSpec).preRow enc Tryz.prog Tryz.f5 Rows.linkingChoicesUptoRow.domain false Rows.linkingChoicesUptoRow.laid) (((Rows.OpenSpec.upto Rows.linkingChoicesSpec).at F).post enc Tryz.prog Tryz.f5 false true false false) := by
  obtain ⟨places, hx⟩ := finLinkingChoices_reads os enc
  refine returnsInHanded_of_row (C := Tryz.checked) (s := (Rows.OpenSpec.upto Rows.linkingChoicesSpec)) finLinkingChoices_own started (by kernel_rfl) Tryz.func5
    (witness_row_at (enc := enc) (C := Tryz.checked) false (finLinkingChoices_world os) #[(.slice none 0 0 : Value), .slice none 0 0, .slice none 0 0] rfl (by kernel_rfl) (by kernel_rfl) (by kernel_rfl)
      (OpenSpec.preRow_of_cond 8 hx (by kernel_rfl) (fun k hk => by cases hk; kernel_rfl) (by kernel_rfl) (finLinkingChoices_met os))) ?_
  intro W base args ds gs before hval hW _ hk _ hL _ _
  have hN : ∀ {m : Nat}, m ≤ Rows.uptoBulkAll ds → m ≤ 1048576 := fun h => Nat.le_trans h (by
    have h1 := of_decide_eq_true (hk _ rfl)
    rw [uptoBulkAll_append] at h1
    omega)
  exact law_calls finLinkingChoices_sound (n := 12) (tb := 4) (ash := [.one (.sl [.bool, .ints .u32, .ints .u32, .bool, .ints .u32, .ints .u32]), .one (.ints .i64), .one (.ints .i64)]) (by kernel_rfl) (of_decide_eq_true (by kernel_rfl)) rfl (fun ds h => by
    match ds, h with
    | [_, _, _], _ => rfl) rfl Tryz.underlying4 (finLinkingChoices_gam hL) hval hW (fun es hes hb => by
    obtain ⟨_, _, rfl, h1, hes0⟩ := hes.one_inv
    obtain ⟨x1, rfl, r1⟩ := h1.sl_inv
    obtain ⟨_, _, rfl, h2, hes1⟩ := hes0.one_inv
    obtain ⟨x2, rfl⟩ := h2.ints_inv
    obtain ⟨_, _, rfl, h3, hes2⟩ := hes1.one_inv
    obtain ⟨x3, rfl⟩ := h3.ints_inv
    obtain rfl := hes2.nil_inv
    exact law_LinkingChoices x1 r1 x2 x3 (hN hb))

theorem linkingChoicesUpto_said : Rows.LinkingChoicesUptoSaid :=
  OpenClaim.holds_of_cond 5 Tryz.f5 rfl rfl rfl rfl rfl rfl rfl ⟨rfl, rfl, rfl, rfl, rfl⟩ rfl rfl rfl rfl rfl (by kernel_rfl) Tryz.func5 (by kernel_rfl)
    (of_decide_eq_true (by kernel_rfl)) (by unfold Func.isWrapper; first | (rw [if_pos (by decide +kernel)]; kernel_rfl) | (rw [if_neg (by decide +kernel)]; exact ⟨rfl, rfl⟩))
    (fun os started H enc _ F => by rw [OpenClaim.pre_eq_preRow]; exact finLinkingChoices_lifted os started H enc F)
theorem finLinkingChoices_plain (f : FuncId) (fn : Func) (hf : Tryz.pinned.checked.prog.funcNamed "examboard/examboardlaw45.LinkingChoices" = some f) (hfn : Tryz.pinned.checked.prog.funcs[f]? = some fn) :
    false = Tryz.pinned.checked.prog.looks [] ∧ ∀ (j : Nat) t, fn.params[j]? = some t → Tryz.pinned.checked.prog.wantsStandIn t = false := by
  obtain rfl : f = 5 := Option.some.inj ((show Tryz.prog.funcNamed "examboard/examboardlaw45.LinkingChoices" = some 5 by kernel_rfl).symm.trans hf) |>.symm
  obtain rfl : fn = Tryz.f5 := (Option.some.inj (Tryz.func5.symm.trans hfn)).symm
  refine ⟨by kernel_rfl, fun j t ht => ?_⟩
  have hall : Tryz.f5.params.toList.all (fun t => Tryz.prog.wantsStandIn t == false) = true := by kernel_rfl
  have := List.all_eq_true.1 hall t (by rw [Array.mem_toList_iff]; exact Array.mem_of_getElem? ht)
  have h2 : Tryz.prog.wantsStandIn t = false := by simpa using this
  exact h2
theorem linkingChoicesUpto_holds : Rows.LinkingChoicesUptoCardSaid :=
  Claim7.holds_tied_plain_at .later [] _ _ _ _ linkingChoicesUpto_said (fun _ h => by cases h) (by kernel_rfl) (fun _ h => by cases h) linkingChoicesUpto_row_tie rfl ⟨rfl, rfl⟩ (by kernel_rfl) rfl finLinkingChoices_plain (by kernel_rfl)
end Go.Proofs.YtgdejiajiljipaaGreatDoor.K
