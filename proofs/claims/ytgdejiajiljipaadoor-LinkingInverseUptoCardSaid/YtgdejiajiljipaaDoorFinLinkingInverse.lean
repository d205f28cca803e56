/- The law LinkingInverse of the given program returns true for every input of bulk up to 1048576, and each argument reads afterwards as it read before. Condition: none beyond the bulk. -/
import Derived.Test.YtgdejiajiljipaaDoorLawL6
import Derived.Test.YtgdejiajiljipaaDoorPost
import Derived.Test.YtgdejiajiljipaaDoorCards
import Derived.Test.YtgdejiajiljipaaDoorTie
import Derived.Test.YtgdejiajiljipaaDoorLaid
import Derived.ProofKit
import Derived.OpenShut
import Derived.Deep.DeepHandedRow
import Derived.WideWitness
namespace Go.Proofs.YtgdejiajiljipaaDoor.K
open Go Go.ChangeShapes Go.WideShapes Go.ChangeAt Go.RowKit
set_option linter.unusedVariables false
theorem finLinkingInverse_sound : Sound Tryd.prog := ⟨by kernel_rfl, by kernel_rfl, by kernel_rfl⟩
theorem finLinkingInverse_own : ownKnob Tryd.prog.godebug = none := by kernel_rfl
theorem finLinkingInverse_gam {W : World} (h : laidMetH Tryd.prog Rows.linkingInverseUptoRow.laid W) : Gam W :=
  gam_of_laid (by rfl) (fun p hp => by
    simp only [gamList, List.mem_cons, List.not_mem_nil, or_false] at hp
    rcases hp with rfl | rfl | rfl
    · exact ⟨"math/bits.deBruijn32tab", 117, 5, 32, by kernel_rfl, by kernel_rfl, by kernel_rfl, by kernel_rfl, by kernel_rfl, by kernel_rfl, .head _⟩
    · exact ⟨"math/bits.deBruijn64tab", 118, 5, 64, by kernel_rfl, by kernel_rfl, by kernel_rfl, by kernel_rfl, by kernel_rfl, by kernel_rfl, .tail _ (.head _)⟩
    · exact ⟨"internal/strconv.uint64pow10", 113, 75, 20, by kernel_rfl, by kernel_rfl, by kernel_rfl, by kernel_rfl, by kernel_rfl, by kernel_rfl, .tail _ (.tail _ (.head _))⟩) h
def finLinkingInverse_tab (p : Nat × IntKind × List Int) (o : Obj) : Obj := match o with
  | .cells _ t fz => .cells (p.2.2.map (Value.int p.2.1)).toArray t fz
  | o => o
noncomputable def finLinkingInverse_world (os : Os) : World :=
  { World.holding Tryd.prog os ⟨#[], #[], []⟩ with heap := gamList.foldl (fun h p => h.modify p.1 (finLinkingInverse_tab p)) (World.holding Tryd.prog os ⟨#[], #[], []⟩).heap }
theorem finLinkingInverse_met (os : Os) : laidMet Tryd.prog Rows.linkingInverseUptoRow.laid ((finLinkingInverse_world os).forCall (fun _ _ => 0) ⟨#[], #[.agg #[.bool false, .slice none 0 0, .slice none 0 0, .bool false, .slice none 0 0, .slice none 0 0], .agg #[.bool false, .slice none 0 0, .slice none 0 0, .bool false, .slice none 0 0, .slice none 0 0], .agg #[.bool false, .slice none 0 0, .slice none 0 0, .bool false, .slice none 0 0, .slice none 0 0], .agg #[.bool false, .slice none 0 0, .slice none 0 0]], []⟩).memory :=
  laidMet_of_run' 8 (by kernel_rfl) (by kernel_rfl)
theorem finLinkingInverse_reads (os : Os) {H : Type} (enc : TypeId × Value → H) : ∃ places, DataW.whole enc Tryd.prog ((finLinkingInverse_world os).forCall (fun _ _ => 0) ⟨#[], #[.agg #[.bool false, .slice none 0 0, .slice none 0 0, .bool false, .slice none 0 0, .slice none 0 0], .agg #[.bool false, .slice none 0 0, .slice none 0 0, .bool false, .slice none 0 0, .slice none 0 0], .agg #[.bool false, .slice none 0 0, .slice none 0 0, .bool false, .slice none 0 0, .slice none 0 0], .agg #[.bool false, .slice none 0 0, .slice none 0 0]], []⟩).memory Tryd.f3.params.toList Rows.linkingInverseSpec.vars false #[(.agg #[.bool false, .slice none 0 0, .slice none 0 0, .bool false, .slice none 0 0, .slice none 0 0] : Value), .agg #[.bool false, .slice none 0 0, .slice none 0 0, .bool false, .slice none 0 0, .slice none 0 0], .agg #[.bool false, .slice none 0 0, .slice none 0 0, .bool false, .slice none 0 0, .slice none 0 0], .agg #[.bool false, .slice none 0 0, .slice none 0 0]].toList 8 = some ([.agg [.agg [.agg [.lit (.bool false), .nil], .nil], .agg [.agg [.lit (.bool false), .nil], .nil]], .agg [.agg [.agg [.lit (.bool false), .nil], .nil], .agg [.agg [.lit (.bool false), .nil], .nil]], .agg [.agg [.agg [.lit (.bool false), .nil], .nil], .agg [.agg [.lit (.bool false), .nil], .nil]], .agg [.agg [.lit (.bool false), .nil], .nil]], [], places) :=
  ⟨[], by kernel_rfl⟩
set_option maxRecDepth 100000 in
theorem finLinkingInverse_lifted (os : Os) (started : os.Started) (H : Type) (enc : TypeId × Value → H) (F : Stop.Interp) :
    ReturnsInHanded {} Tryd.checked os 3 .any ((Rows.OpenSpec.upto Rows.linkingInverseSpec).preRow enc Tryd.prog Tryd.f3 Rows.linkingInverseUptoRow.domain false Rows.linkingInverseUptoRow.laid) (((Rows.OpenSpec.upto Rows.linkingInverseSpec).at F).post enc Tryd.prog Tryd.f3 false true false false) := by
  obtain ⟨places, hx⟩ := finLinkingInverse_reads os enc
  refine returnsInHanded_of_row (C := Tryd.checked) (s := (Rows.OpenSpec.upto Rows.linkingInverseSpec)) finLinkingInverse_own started (by kernel_rfl) Tryd.func3
    (witness_row_at (enc := enc) (C := Tryd.checked) false (finLinkingInverse_world os) #[(.agg #[.bool false, .slice none 0 0, .slice none 0 0, .bool false, .slice none 0 0, .slice none 0 0] : Value), .agg #[.bool false, .slice none 0 0, .slice none 0 0, .bool false, .slice none 0 0, .slice none 0 0], .agg #[.bool false, .slice none 0 0, .slice none 0 0, .bool false, .slice none 0 0, .slice none 0 0], .agg #[.bool false, .slice none 0 0, .slice none 0 0]] rfl (by kernel_rfl) (by kernel_rfl) (by kernel_rfl)
      (OpenSpec.preRow_of_cond 8 hx (by kernel_rfl) (fun k hk => by cases hk; kernel_rfl) (by kernel_rfl) (finLinkingInverse_met os))) ?_
  intro W base args ds gs before hval hW _ hk _ hL _ _
  have hN : ∀ {m : Nat}, m ≤ Rows.uptoBulkAll ds → m ≤ 1048576 := fun h => Nat.le_trans h (by
    have h1 := of_decide_eq_true (hk _ rfl)
    rw [uptoBulkAll_append] at h1
    omega)
  exact law_calls finLinkingInverse_sound (n := 12) (tb := 4) (ash := [.agg [.bool, .ints .u32, .ints .u32, .bool, .ints .u32, .ints .u32], .agg [.bool, .ints .u32, .ints .u32, .bool, .ints .u32, .ints .u32], .agg [.bool, .ints .u32, .ints .u32, .bool, .ints .u32, .ints .u32], .agg [.bool, .ints .u32, .ints .u32]]) (by kernel_rfl) (of_decide_eq_true (by kernel_rfl)) rfl (fun ds h => by
    match ds, h with
    | [_, _, _, _], _ => rfl) rfl Tryd.underlying4 (finLinkingInverse_gam hL) hval hW (fun es hes hb => by
    obtain ⟨_, _, rfl, h1, hes0⟩ := hes.agg_inv
    obtain ⟨_, _, rfl, h2, h3⟩ := h1.cons_inv
    obtain ⟨x1, rfl⟩ := h2.bool_inv
    obtain ⟨_, _, rfl, h4, h5⟩ := h3.cons_inv
    obtain ⟨x2, rfl⟩ := h4.ints_inv
    obtain ⟨_, _, rfl, h6, h7⟩ := h5.cons_inv
    obtain ⟨x3, rfl⟩ := h6.ints_inv
    obtain ⟨_, _, rfl, h8, h9⟩ := h7.cons_inv
    obtain ⟨x4, rfl⟩ := h8.bool_inv
    obtain ⟨_, _, rfl, h10, h11⟩ := h9.cons_inv
    obtain ⟨x5, rfl⟩ := h10.ints_inv
    obtain ⟨_, _, rfl, h12, h13⟩ := h11.cons_inv
    obtain ⟨x6, rfl⟩ := h12.ints_inv
    obtain rfl := h13.nil_inv
    obtain ⟨_, _, rfl, h14, hes1⟩ := hes0.agg_inv
    obtain ⟨_, _, rfl, h15, h16⟩ := h14.cons_inv
    obtain ⟨x7, rfl⟩ := h15.bool_inv
    obtain ⟨_, _, rfl, h17, h18⟩ := h16.cons_inv
    obtain ⟨x8, rfl⟩ := h17.ints_inv
    obtain ⟨_, _, rfl, h19, h20⟩ := h18.cons_inv
    obtain ⟨x9, rfl⟩ := h19.ints_inv
    obtain ⟨_, _, rfl, h21, h22⟩ := h20.cons_inv
    obtain ⟨x10, rfl⟩ := h21.bool_inv
    obtain ⟨_, _, rfl, h23, h24⟩ := h22.cons_inv
    obtain ⟨x11, rfl⟩ := h23.ints_inv
    obtain ⟨_, _, rfl, h25, h26⟩ := h24.cons_inv
    obtain ⟨x12, rfl⟩ := h25.ints_inv
    obtain rfl := h26.nil_inv
    obtain ⟨_, _, rfl, h27, hes2⟩ := hes1.agg_inv
    obtain ⟨_, _, rfl, h28, h29⟩ := h27.cons_inv
    obtain ⟨x13, rfl⟩ := h28.bool_inv
    obtain ⟨_, _, rfl, h30, h31⟩ := h29.cons_inv
    obtain ⟨x14, rfl⟩ := h30.ints_inv
    obtain ⟨_, _, rfl, h32, h33⟩ := h31.cons_inv
    obtain ⟨x15, rfl⟩ := h32.ints_inv
    obtain ⟨_, _, rfl, h34, h35⟩ := h33.cons_inv
    obtain ⟨x16, rfl⟩ := h34.bool_inv
    obtain ⟨_, _, rfl, h36, h37⟩ := h35.cons_inv
    obtain ⟨x17, rfl⟩ := h36.ints_inv
    obtain ⟨_, _, rfl, h38, h39⟩ := h37.cons_inv
    obtain ⟨x18, rfl⟩ := h38.ints_inv
    obtain rfl := h39.nil_inv
    obtain ⟨_, _, rfl, h40, hes3⟩ := hes2.agg_inv
    obtain ⟨_, _, rfl, h41, h42⟩ := h40.cons_inv
    obtain ⟨x19, rfl⟩ := h41.bool_inv
    obtain ⟨_, _, rfl, h43, h44⟩ := h42.cons_inv
    obtain ⟨x20, rfl⟩ := h43.ints_inv
    obtain ⟨_, _, rfl, h45, h46⟩ := h44.cons_inv
    obtain ⟨x21, rfl⟩ := h45.ints_inv
    obtain rfl := h46.nil_inv
    obtain rfl := hes3.nil_inv
    exact law_LinkingInverse x1 x2 x3 x4 x5 x6 x7 x8 x9 x10 x11 x12 x13 x14 x15 x16 x17 x18 x19 x20 x21 (hN hb))

theorem linkingInverseUpto_said : Rows.LinkingInverseUptoSaid :=
  OpenClaim.holds_of_cond 3 Tryd.f3 rfl rfl rfl rfl rfl rfl rfl ⟨rfl, rfl, rfl, rfl, rfl⟩ rfl rfl rfl rfl rfl (by kernel_rfl) Tryd.func3 (by kernel_rfl)
    (of_decide_eq_true (by kernel_rfl)) (by unfold Func.isWrapper; first | (rw [if_pos (by decide +kernel)]; kernel_rfl) | (rw [if_neg (by decide +kernel)]; exact ⟨rfl, rfl⟩))
    (fun os started H enc _ F => by rw [OpenClaim.pre_eq_preRow]; exact finLinkingInverse_lifted os started H enc F)
theorem finLinkingInverse_plain (f : FuncId) (fn : Func) (hf : Tryd.pinned.checked.prog.funcNamed "examboard/examboardlaw45.LinkingInverse" = some f) (hfn : Tryd.pinned.checked.prog.funcs[f]? = some fn) :
    false = Tryd.pinned.checked.prog.looks [] ∧ ∀ (j : Nat) t, fn.params[j]? = some t → Tryd.pinned.checked.prog.wantsStandIn t = false := by
  obtain rfl : f = 3 := Option.some.inj ((show Tryd.prog.funcNamed "examboard/examboardlaw45.LinkingInverse" = some 3 by kernel_rfl).symm.trans hf) |>.symm
  obtain rfl : fn = Tryd.f3 := (Option.some.inj (Tryd.func3.symm.trans hfn)).symm
  refine ⟨by kernel_rfl, fun j t ht => ?_⟩
  have hall : Tryd.f3.params.toList.all (fun t => Tryd.prog.wantsStandIn t == false) = true := by kernel_rfl
  have := List.all_eq_true.1 hall t (by rw [Array.mem_toList_iff]; exact Array.mem_of_getElem? ht)
  have h2 : Tryd.prog.wantsStandIn t = false := by simpa using this
  exact h2
theorem linkingInverseUpto_holds : Rows.LinkingInverseUptoCardSaid :=
  Claim7.holds_tied_plain_at .later [] _ _ _ _ linkingInverseUpto_said (fun _ h => by cases h) (by kernel_rfl) (fun _ h => by cases h) linkingInverseUpto_row_tie rfl ⟨rfl, rfl⟩ (by kernel_rfl) rfl finLinkingInverse_plain (by kernel_rfl)
end Go.Proofs.YtgdejiajiljipaaDoor.K
