/- The law LinkingChain of the given program returns true for every input of bulk up to 1048576, and each argument reads afterwards as it read before. Condition: none beyond the bulk. -/
import Derived.Test.YtgdejiajiljipaaDoorLawL9
import Derived.Test.YtgdejiajiljipaaDoorPost
import Derived.Test.YtgdejiajiljipaaDoorCards
import Derived.Test.YtgdejiajiljipaaDoorTie
import Derived.Test.YtgdejiajiljipaaDoorLaid
import Derived.ProofKit
import Derived.OpenShut
import Derived.Deep.DeepHandedRow
import Derived.WideWitness
namespace Go.Proofs.YtgdejiajiljipaaDoor.K
open Go Go.ChangeShapes Go.WideShapes Go.ChangeAt Go.RowKit
set_option linter.unusedVariables false
theorem finLinkingChain_sound : Sound Tryd.prog := ⟨by kernel_rfl, by kernel_rfl, by kernel_rfl⟩
theorem finLinkingChain_own : ownKnob Tryd.prog.godebug = none := by kernel_rfl
theorem finLinkingChain_gam {W : World} (h : laidMetH Tryd.prog Rows.linkingChainUptoRow.laid W) : Gam W :=
  gam_of_laid (by rfl) (fun p hp => by
    simp only [gamList, List.mem_cons, List.not_mem_nil, or_false] at hp
    rcases hp with rfl | rfl | rfl
    · exact ⟨"math/bits.deBruijn32tab", 117, 5, 32, by kernel_rfl, by kernel_rfl, by kernel_rfl, by kernel_rfl, by kernel_rfl, by kernel_rfl, .head _⟩
    · exact ⟨"math/bits.deBruijn64tab", 118, 5, 64, by kernel_rfl, by kernel_rfl, by kernel_rfl, by kernel_rfl, by kernel_rfl, by kernel_rfl, .tail _ (.head _)⟩
    · exact ⟨"internal/strconv.uint64pow10", 113, 75, 20, by kernel_rfl, by kernel_rfl, by kernel_rfl, by kernel_rfl, by kernel_rfl, by kernel_rfl, .tail _ (.tail _ (.head _))⟩) h
def finLinkingChain_tab (p : Nat × IntKind × List Int) (o : Obj) : Obj := match o with
  | .cells _ t fz => .cells (p.2.2.map (Value.int p.2.1)).toArray t fz
  | o => o
noncomputable def finLinkingChain_world (os : Os) : World :=
  { World.holding Tryd.prog os ⟨#[], #[], []⟩ with heap := gamList.foldl (fun h p => h.modify p.1 (finLinkingChain_tab p)) (World.holding Tryd.prog os ⟨#[], #[], []⟩).heap }
theorem finLinkingChain_met (os : Os) : laidMet Tryd.prog Rows.linkingChainUptoRow.laid ((finLinkingChain_world os).forCall (fun _ _ => 0) ⟨#[], #[.slice none 0 0, .slice none 0 0, .agg #[.bool false, .slice none 0 0, .slice none 0 0], .agg #[.bool false, .slice none 0 0, .slice none 0 0]], []⟩).memory :=
  laidMet_of_run' 8 (by kernel_rfl) (by kernel_rfl)
theorem finLinkingChain_reads (os : Os) {H : Type} (enc : TypeId × Value → H) : ∃ places, DataW.whole enc Tryd.prog ((finLinkingChain_world os).forCall (fun _ _ => 0) ⟨#[], #[.slice none 0 0, .slice none 0 0, .agg #[.bool false, .slice none 0 0, .slice none 0 0], .agg #[.bool false, .slice none 0 0, .slice none 0 0]], []⟩).memory Tryd.f6.params.toList Rows.linkingChainSpec.vars false #[(.slice none 0 0 : Value), .slice none 0 0, .agg #[.bool false, .slice none 0 0, .slice none 0 0], .agg #[.bool false, .slice none 0 0, .slice none 0 0]].toList 8 = some ([.nil, .nil, .agg [.agg [.lit (.bool false), .nil], .nil], .agg [.agg [.lit (.bool false), .nil], .nil]], [], places) :=
  ⟨[], by kernel_rfl⟩
set_option maxRecDepth 100000 in
theorem finLinkingChain_lifted (os : Os) (started : os.Started) (H : Type) (enc : TypeId × Value → H) (F : Stop.Interp) :
    ReturnsInHanded {} Tryd.checked os 6 .any ((Rows.OpenSpec.upto Rows.linkingChainSpec).preRow enc Tryd.prog Tryd.f6 Rows.linkingChainUptoRow.domain false Rows.linkingChainUptoRow.laid) (((Rows.OpenSpec.upto Rows.linkingChainSpec).at F).post enc Tryd.prog Tryd.f6 false true false false) := by
  obtain ⟨places, hx⟩ := finLinkingChain_reads os enc
  refine returnsInHanded_of_row (C := Tryd.checked) (s := (Rows.OpenSpec.upto Rows.linkingChainSpec)) finLinkingChain_own started (by kernel_rfl) Tryd.func6
    (witness_row_at (enc := enc) (C := Tryd.checked) false (finLinkingChain_world os) #[(.slice none 0 0 : Value), .slice none 0 0, .agg #[.bool false, .slice none 0 0, .slice none 0 0], .agg #[.bool false, .slice none 0 0, .slice none 0 0]] rfl (by kernel_rfl) (by kernel_rfl) (by kernel_rfl)
      (OpenSpec.preRow_of_cond 8 hx (by kernel_rfl) (fun k hk => by cases hk; kernel_rfl) (by kernel_rfl) (finLinkingChain_met os))) ?_
  intro W base args ds gs before hval hW _ hk _ hL _ _
  have hN : ∀ {m : Nat}, m ≤ Rows.uptoBulkAll ds → m ≤ 1048576 := fun h => Nat.le_trans h (by
    have h1 := of_decide_eq_true (hk _ rfl)
    rw [uptoBulkAll_append] at h1
    omega)
  exact law_calls finLinkingChain_sound (n := 12) (tb := 4) (ash := [.one (.sl [.bool, .ints .u32, .ints .u32, .bool, .ints .u32, .ints .u32]), .one (.sl [.bool, .ints .u32, .ints .u32, .bool, .ints .u32, .ints .u32]), .agg [.bool, .ints .u32, .ints .u32], .agg [.bool, .ints .u32, .ints .u32]]) (by kernel_rfl) (of_decide_eq_true (by kernel_rfl)) rfl (fun ds h => by
    match ds, h with
    | [_, _, _, _], _ => rfl) rfl Tryd.underlying4 (finLinkingChain_gam hL) hval hW (fun es hes hb => by
    obtain ⟨_, _, rfl, h1, hes0⟩ := hes.one_inv
    obtain ⟨x1, rfl, r1⟩ := h1.sl_inv
    obtain ⟨_, _, rfl, h2, hes1⟩ := hes0.one_inv
    obtain ⟨x2, rfl, r2⟩ := h2.sl_inv
    obtain ⟨_, _, rfl, h3, hes2⟩ := hes1.agg_inv
    obtain ⟨_, _, rfl, h4, h5⟩ := h3.cons_inv
    obtain ⟨x3, rfl⟩ := h4.bool_inv
    obtain ⟨_, _, rfl, h6, h7⟩ := h5.cons_inv
    obtain ⟨x4, rfl⟩ := h6.ints_inv
    obtain ⟨_, _, rfl, h8, h9⟩ := h7.cons_inv
    obtain ⟨x5, rfl⟩ := h8.ints_inv
    obtain rfl := h9.nil_inv
    obtain ⟨_, _, rfl, h10, hes3⟩ := hes2.agg_inv
    obtain ⟨_, _, rfl, h11, h12⟩ := h10.cons_inv
    obtain ⟨x6, rfl⟩ := h11.bool_inv
    obtain ⟨_, _, rfl, h13, h14⟩ := h12.cons_inv
    obtain ⟨x7, rfl⟩ := h13.ints_inv
    obtain ⟨_, _, rfl, h15, h16⟩ := h14.cons_inv
    obtain ⟨x8, rfl⟩ := h15.ints_inv
    obtain rfl := h16.nil_inv
    obtain rfl := hes3.nil_inv
    exact law_LinkingChain x1 r1 x2 r2 x3 x4 x5 x6 x7 x8 (hN hb))

theorem linkingChainUpto_said : Rows.LinkingChainUptoSaid :=
  OpenClaim.holds_of_cond 6 Tryd.f6 rfl rfl rfl rfl rfl rfl rfl ⟨rfl, rfl, rfl, rfl, rfl⟩ rfl rfl rfl rfl rfl (by kernel_rfl) Tryd.func6 (by kernel_rfl)
    (of_decide_eq_true (by kernel_rfl)) (by unfold Func.isWrapper; first | (rw [if_pos (by decide +kernel)]; kernel_rfl) | (rw [if_neg (by decide +kernel)]; exact ⟨rfl, rfl⟩))
    (fun os started H enc _ F => by rw [OpenClaim.pre_eq_preRow]; exact finLinkingChain_lifted os started H enc F)
theorem finLinkingChain_plain (f : FuncId) (fn : Func) (hf : Tryd.pinned.checked.prog.funcNamed "examboard/examboardlaw45.LinkingChain" = some f) (hfn : Tryd.pinned.checked.prog.funcs[f]? = some fn) :
    false = Tryd.pinned.checked.prog.looks [] ∧ ∀ (j : Nat) t, fn.params[j]? = some t → Tryd.pinned.checked.prog.wantsStandIn t = false := by
  obtain rfl : f = 6 := Option.some.inj ((show Tryd.prog.funcNamed "examboard/examboardlaw45.LinkingChain" = some 6 by kernel_rfl).symm.trans hf) |>.symm
  obtain rfl : fn = Tryd.f6 := (Option.some.inj (Tryd.func6.symm.trans hfn)).symm
  refine ⟨by kernel_rfl, fun j t ht => ?_⟩
  have hall : Tryd.f6.params.toList.all (fun t => Tryd.prog.wantsStandIn t == false) = true := by kernel_rfl
  have := List.all_eq_true.1 hall t (by rw [Array.mem_toList_iff]; exact Array.mem_of_getElem? ht)
  have h2 : Tryd.prog.wantsStandIn t = false := by simpa using this
  exact h2
theorem linkingChainUpto_holds : Rows.LinkingChainUptoCardSaid :=
  Claim7.holds_tied_plain_at .later [] _ _ _ _ linkingChainUpto_said (fun _ h => by cases h) (by kernel_rfl) (fun _ h => by cases h) linkingChainUpto_row_tie rfl ⟨rfl, rfl⟩ (by kernel_rfl) rfl finLinkingChain_plain (by kernel_rfl)
end Go.Proofs.YtgdejiajiljipaaDoor.K
