/- The law LinkingAnchors of the given program returns true for every input of bulk up to 1048576, and each argument reads afterwards as it read before. Condition: none beyond the bulk. -/
import Derived.Test.YtgdejiajiljipaaGreatDoorLawL4
import Derived.Test.YtgdejiajiljipaaGreatDoorPost
import Derived.Test.YtgdejiajiljipaaGreatDoorCards
import Derived.Test.YtgdejiajiljipaaGreatDoorTie
import Derived.Test.YtgdejiajiljipaaGreatDoorLaid
import Derived.ProofKit
import Derived.OpenShut
import Derived.Deep.DeepHandedRow
import Derived.WideWitness
namespace Go.Proofs.YtgdejiajiljipaaGreatDoor.K
open Go Go.ChangeShapes Go.WideShapes Go.ChangeAt Go.RowKit
set_option linter.unusedVariables false
theorem finLinkingAnchors_sound : Sound Tryz.prog := ⟨by kernel_rfl, by kernel_rfl, by kernel_rfl⟩
theorem finLinkingAnchors_own : ownKnob Tryz.prog.godebug = none := by kernel_rfl
theorem finLinkingAnchors_gam {W : World} (h : laidMetH Tryz.prog Rows.linkingAnchorsUptoRow.laid W) : Gam W :=
  gam_of_laid (by rfl) (fun p hp => by
    simp only [gamList, List.mem_cons, List.not_mem_nil, or_false] at hp
    rcases hp with rfl | rfl | rfl
    · exact ⟨"math/bits.deBruijn32tab", 123, 5, 32, by kernel_rfl, by kernel_rfl, by kernel_rfl, by kernel_rfl, by kernel_rfl, by kernel_rfl, .head _⟩
    · exact ⟨"math/bits.deBruijn64tab", 124, 5, 64, by kernel_rfl, by kernel_rfl, by kernel_rfl, by kernel_rfl, by kernel_rfl, by kernel_rfl, .tail _ (.head _)⟩
    · exact ⟨"internal/strconv.uint64pow10", 119, 85, 20, by kernel_rfl, by kernel_rfl, by kernel_rfl, by kernel_rfl, by kernel_rfl, by kernel_rfl, .tail _ (.tail _ (.head _))⟩) h
def finLinkingAnchors_tab (p : Nat × IntKind × List Int) (o : Obj) : Obj := match o with
  | .cells _ t fz => .cells (p.2.2.map (Value.int p.2.1)).toArray t fz
  | o => o
noncomputable def finLinkingAnchors_world (os : Os) : World :=
  { World.holding Tryz.prog os ⟨#[], #[], []⟩ with heap := gamList.foldl (fun h p => h.modify p.1 (finLinkingAnchors_tab p)) (World.holding Tryz.prog os ⟨#[], #[], []⟩).heap }
theorem finLinkingAnchors_met (os : Os) : laidMet Tryz.prog Rows.linkingAnchorsUptoRow.laid ((finLinkingAnchors_world os).forCall (fun _ _ => 0) ⟨#[], #[.agg #[.bool false, .slice none 0 0, .slice none 0 0, .bool false, .slice none 0 0, .slice none 0 0], .slice none 0 0, .slice none 0 0], []⟩).memory :=
  laidMet_of_run' 8 (by kernel_rfl) (by kernel_rfl)
theorem finLinkingAnchors_reads (os : Os) {H : Type} (enc : TypeId × Value → H) : ∃ places, DataW.whole enc Tryz.prog ((finLinkingAnchors_world os).forCall (fun _ _ => 0) ⟨#[], #[.agg #[.bool false, .slice none 0 0, .slice none 0 0, .bool false, .slice none 0 0, .slice none 0 0], .slice none 0 0, .slice none 0 0], []⟩).memory Tryz.f4.params.toList Rows.linkingAnchorsSpec.vars false #[(.agg #[.bool false, .slice none 0 0, .slice none 0 0, .bool false, .slice none 0 0, .slice none 0 0] : Value), .slice none 0 0, .slice none 0 0].toList 8 = some ([.agg [.agg [.agg [.lit (.bool false), .nil], .nil], .agg [.agg [.lit (.bool false), .nil], .nil]], .nil, .nil], [], places) :=
  ⟨[], by kernel_rfl⟩
set_option maxRecDepth 100000 in
theorem finLinkingAnchors_lifted (os : Os) (started : os.Started) (H : Type) (enc : TypeId × Value → H) (F : Stop.Interp) :
    ReturnsInHanded {} Tryz.checked os 4 .any ((Rows.OpenSpec.upto Rows.linkingAnchorsSpec).preRow enc Tryz.prog Tryz.f4 Rows.linkingAnchorsUptoRow.domain false Rows.linkingAnchorsUptoRow.laid) (((Rows.OpenSpec.upto Rows.linkingAnchorsSpec).at F).post enc Tryz.prog Tryz.f4 false true false false) := by
  obtain ⟨places, hx⟩ := finLinkingAnchors_reads os enc
  refine returnsInHanded_of_row (C := Tryz.checked) (s := (Rows.OpenSpec.upto Rows.linkingAnchorsSpec)) finLinkingAnchors_own started (by kernel_rfl) Tryz.func4
    (witness_row_at (enc := enc) (C := Tryz.checked) false (finLinkingAnchors_world os) #[(.agg #[.bool false, .slice none 0 0, .slice none 0 0, .bool false, .slice none 0 0, .slice none 0 0] : Value), .slice none 0 0, .slice none 0 0] rfl (by kernel_rfl) (by kernel_rfl) (by kernel_rfl)
      (OpenSpec.preRow_of_cond 8 hx (by kernel_rfl) (fun k hk => by cases hk; kernel_rfl) (by kernel_rfl) (finLinkingAnchors_met os))) ?_
  intro W base args ds gs before hval hW _ hk _ hL _ _
  have hN : ∀ {m : Nat}, m ≤ Rows.uptoBulkAll ds → m ≤ 1048576 := fun h => Nat.le_trans h (by
    have h1 := of_decide_eq_true (hk _ rfl)
    rw [uptoBulkAll_append] at h1
    omega)
  exact law_calls finLinkingAnchors_sound (n := 12) (tb := 4) (ash := [.agg [.bool, .ints .u32, .ints .u32, .bool, .ints .u32, .ints .u32], .one (.ints .i64), .one (.ints .i64)]) (by kernel_rfl) (of_decide_eq_true (by kernel_rfl)) rfl (fun ds h => by
    match ds, h with
    | [_, _, _], _ => rfl) rfl Tryz.underlying4 (finLinkingAnchors_gam hL) hval hW (fun es hes hb => by
    obtain ⟨_, _, rfl, h1, hes0⟩ := hes.agg_inv
    obtain ⟨_, _, rfl, h2, h3⟩ := h1.cons_inv
    obtain ⟨x1, rfl⟩ := h2.bool_inv
    obtain ⟨_, _, rfl, h4, h5⟩ := h3.cons_inv
    obtain ⟨x2, rfl⟩ := h4.ints_inv
    obtain ⟨_, _, rfl, h6, h7⟩ := h5.cons_inv
    obtain ⟨x3, rfl⟩ := h6.ints_inv
    obtain ⟨_, _, rfl, h8, h9⟩ := h7.cons_inv
    obtain ⟨x4, rfl⟩ := h8.bool_inv
    obtain ⟨_, _, rfl, h10, h11⟩ := h9.cons_inv
    obtain ⟨x5, rfl⟩ := h10.ints_inv
    obtain ⟨_, _, rfl, h12, h13⟩ := h11.cons_inv
    obtain ⟨x6, rfl⟩ := h12.ints_inv
    obtain rfl := h13.nil_inv
    obtain ⟨_, _, rfl, h14, hes1⟩ := hes0.one_inv
    obtain ⟨x7, rfl⟩ := h14.ints_inv
    obtain ⟨_, _, rfl, h15, hes2⟩ := hes1.one_inv
    obtain ⟨x8, rfl⟩ := h15.ints_inv
    obtain rfl := hes2.nil_inv
    exact law_LinkingAnchors x1 x2 x3 x4 x5 x6 x7 x8 (hN hb))

theorem linkingAnchorsUpto_said : Rows.LinkingAnchorsUptoSaid :=
  OpenClaim.holds_of_cond 4 Tryz.f4 rfl rfl rfl rfl rfl rfl rfl ⟨rfl, rfl, rfl, rfl, rfl⟩ rfl rfl rfl rfl rfl (by kernel_rfl) Tryz.func4 (by kernel_rfl)
    (of_decide_eq_true (by kernel_rfl)) (by unfold Func.isWrapper; first | (rw [if_pos (by decide +kernel)]; kernel_rfl) | (rw [if_neg (by decide +kernel)]; exact ⟨rfl, rfl⟩))
    (fun os started H enc _ F => by rw [OpenClaim.pre_eq_preRow]; exact finLinkingAnchors_lifted os started H enc F)
theorem finLinkingAnchors_plain (f : FuncId) (fn : Func) (hf : Tryz.pinned.checked.prog.funcNamed "examboard/examboardlaw45.LinkingAnchors" = some f) (hfn : Tryz.pinned.checked.prog.funcs[f]? = some fn) :
    false = Tryz.pinned.checked.prog.looks [] ∧ ∀ (j : Nat) t, fn.params[j]? = some t → Tryz.pinned.checked.prog.wantsStandIn t = false := by
  obtain rfl : f = 4 := Option.some.inj ((show Tryz.prog.funcNamed "examboard/examboardlaw45.LinkingAnchors" = some 4 by kernel_rfl).symm.trans hf) |>.symm
  obtain rfl : fn = Tryz.f4 := (Option.some.inj (Tryz.func4.symm.trans hfn)).symm
  refine ⟨by kernel_rfl, fun j t ht => ?_⟩
  have hall : Tryz.f4.params.toList.all (fun t => Tryz.prog.wantsStandIn t == false) = true := by kernel_rfl
  have := List.all_eq_true.1 hall t (by rw [Array.mem_toList_iff]; exact Array.mem_of_getElem? ht)
  have h2 : Tryz.prog.wantsStandIn t = false := by simpa using this
  exact h2
theorem linkingAnchorsUpto_holds : Rows.LinkingAnchorsUptoCardSaid :=
  Claim7.holds_tied_plain_at .later [] _ _ _ _ linkingAnchorsUpto_said (fun _ h => by cases h) (by kernel_rfl) (fun _ h => by cases h) linkingAnchorsUpto_row_tie rfl ⟨rfl, rfl⟩ (by kernel_rfl) rfl finLinkingAnchors_plain (by kernel_rfl)
end Go.Proofs.YtgdejiajiljipaaGreatDoor.K
