/- The law RatersChecks of the given program returns true for every input, and each argument reads afterwards as it read before. Condition: none. -/
import Derived.Test.YtmefecfkajjajaaDoorRtO
import Derived.Test.YtmefecfkajjajaaDoorPost
import Derived.Test.YtmefecfkajjajaaDoorCards
import Derived.Test.YtmefecfkajjajaaDoorTie
import Derived.Test.YtmefecfkajjajaaDoorLaid
import Derived.ProofKit
import Derived.OpenShut
import Derived.Deep.DeepHandedRow
import Derived.WideWitness
namespace Go.Proofs.YtmefecfkajjajaaDoor.K
open Go Go.ChangeShapes Go.WideShapes Go.ChangeAt Go.RowKit
set_option linter.unusedVariables false
theorem finRatersChecks_sound : Sound Tryd.prog := ⟨by kernel_rfl, by kernel_rfl, by kernel_rfl⟩
theorem finRatersChecks_own : ownKnob Tryd.prog.godebug = none := by kernel_rfl
theorem finRatersChecks_gam {W : World} (h : laidMetH Tryd.prog Rows.ratersChecksRow.laid W) : Gam W :=
  gam_of_laid (by rfl) (fun p hp => by
    simp only [gamList, List.mem_cons, List.not_mem_nil, or_false] at hp
    rcases hp with rfl | rfl | rfl
    · exact ⟨"math/bits.deBruijn32tab", 137, 5, 32, by kernel_rfl, by kernel_rfl, by kernel_rfl, by kernel_rfl, by kernel_rfl, by kernel_rfl, .head _⟩
    · exact ⟨"math/bits.deBruijn64tab", 138, 5, 64, by kernel_rfl, by kernel_rfl, by kernel_rfl, by kernel_rfl, by kernel_rfl, by kernel_rfl, .tail _ (.head _)⟩
    · exact ⟨"internal/strconv.uint64pow10", 134, 52, 20, by kernel_rfl, by kernel_rfl, by kernel_rfl, by kernel_rfl, by kernel_rfl, by kernel_rfl, .tail _ (.tail _ (.head _))⟩) h
def finRatersChecks_tab (p : Nat × IntKind × List Int) (o : Obj) : Obj := match o with
  | .cells _ t fz => .cells (p.2.2.map (Value.int p.2.1)).toArray t fz
  | o => o
noncomputable def finRatersChecks_world (os : Os) : World :=
  { World.holding Tryd.prog os ⟨#[], #[], []⟩ with heap := gamList.foldl (fun h p => h.modify p.1 (finRatersChecks_tab p)) (World.holding Tryd.prog os ⟨#[], #[], []⟩).heap }
theorem finRatersChecks_met (os : Os) : laidMet Tryd.prog Rows.ratersChecksRow.laid ((finRatersChecks_world os).forCall (fun _ _ => 0) ⟨#[], #[.slice none 0 0, .slice none 0 0, .slice none 0 0, .agg #[.int .i64 0, .int .i64 0, .slice none 0 0], .int .i64 0], []⟩).memory :=
  laidMet_of_run' 8 (by kernel_rfl) (by kernel_rfl)
theorem finRatersChecks_reads (os : Os) {H : Type} (enc : TypeId × Value → H) : ∃ places, DataW.whole enc Tryd.prog ((finRatersChecks_world os).forCall (fun _ _ => 0) ⟨#[], #[.slice none 0 0, .slice none 0 0, .slice none 0 0, .agg #[.int .i64 0, .int .i64 0, .slice none 0 0], .int .i64 0], []⟩).memory Tryd.f5.params.toList Rows.ratersChecksSpec.vars false #[(.slice none 0 0 : Value), .slice none 0 0, .slice none 0 0, .agg #[.int .i64 0, .int .i64 0, .slice none 0 0], .int .i64 0].toList 8 = some ([.nil, .nil, .nil, .agg [.lit (.int .i64 0), .lit (.int .i64 0), .nil], .lit (.int .i64 0)], [], places) :=
  ⟨[], by kernel_rfl⟩
set_option maxRecDepth 100000 in
theorem finRatersChecks_lifted (os : Os) (started : os.Started) (H : Type) (enc : TypeId × Value → H) (F : Stop.Interp) :
    ReturnsInHanded {} Tryd.checked os 5 .any ((OpenSpec.ofChange Rows.ratersChecksSpec).preRow enc Tryd.prog Tryd.f5 Rows.ratersChecksRow.domain false Rows.ratersChecksRow.laid) (((OpenSpec.ofChange Rows.ratersChecksSpec).at F).post enc Tryd.prog Tryd.f5 false true false false) := by
  obtain ⟨places, hx⟩ := finRatersChecks_reads os enc
  refine returnsInHanded_of_row (C := Tryd.checked) (s := (OpenSpec.ofChange Rows.ratersChecksSpec)) finRatersChecks_own started (by kernel_rfl) Tryd.func5
    (witness_row_at (enc := enc) (C := Tryd.checked) false (finRatersChecks_world os) #[(.slice none 0 0 : Value), .slice none 0 0, .slice none 0 0, .agg #[.int .i64 0, .int .i64 0, .slice none 0 0], .int .i64 0] rfl (by kernel_rfl) (by kernel_rfl) (by kernel_rfl)
      (OpenSpec.preRow_of_cond 8 hx (by kernel_rfl) (fun k hk => by cases hk) (by kernel_rfl) (finRatersChecks_met os))) ?_
  intro W base args ds gs before hval hW _ _ _ hL _ _
  exact law_calls finRatersChecks_sound (n := 12) (tb := 4) (ash := [.one (.sl [.int .i64, .int .i64, .ints .i64]), .one (.ints .i64), .one (.sl [.int .i64, .int .i64]), .agg [.int .i64, .int .i64, .ints .i64], .one (.int .i64)]) (by kernel_rfl) (of_decide_eq_true (by kernel_rfl)) rfl (fun ds h => by
    match ds, h with
    | [_, _, _, _, _], _ => rfl) rfl Tryd.underlying4 (finRatersChecks_gam hL) hval hW (fun es hes hb => by
    obtain ⟨_, _, rfl, h1, hes0⟩ := hes.one_inv
    obtain ⟨x1, rfl, r1⟩ := h1.sl_inv
    obtain ⟨_, _, rfl, h2, hes1⟩ := hes0.one_inv
    obtain ⟨x2, rfl⟩ := h2.ints_inv
    obtain ⟨_, _, rfl, h3, hes2⟩ := hes1.one_inv
    obtain ⟨x3, rfl, r3⟩ := h3.sl_inv
    obtain ⟨_, _, rfl, h4, hes3⟩ := hes2.agg_inv
    obtain ⟨_, _, rfl, h5, h6⟩ := h4.cons_inv
    obtain ⟨x4, rfl, r4⟩ := h5.int_inv
    obtain ⟨_, _, rfl, h7, h8⟩ := h6.cons_inv
    obtain ⟨x5, rfl, r5⟩ := h7.int_inv
    obtain ⟨_, _, rfl, h9, h10⟩ := h8.cons_inv
    obtain ⟨x6, rfl⟩ := h9.ints_inv
    obtain rfl := h10.nil_inv
    obtain ⟨_, _, rfl, h11, hes4⟩ := hes3.one_inv
    obtain ⟨x7, rfl, r7⟩ := h11.int_inv
    obtain rfl := hes4.nil_inv
    exact law_RatersChecks x1 r1 x2 x3 r3 x4 x5 x6 x7)

theorem ratersChecks_said : Rows.RatersChecksSaid :=
  OpenClaim.holds_of_cond 5 Tryd.f5 rfl rfl rfl rfl rfl rfl rfl ⟨rfl, rfl, rfl, rfl, rfl⟩ rfl rfl rfl rfl rfl (by kernel_rfl) Tryd.func5 (by kernel_rfl)
    (of_decide_eq_true (by kernel_rfl)) (by unfold Func.isWrapper; first | (rw [if_pos (by decide +kernel)]; kernel_rfl) | (rw [if_neg (by decide +kernel)]; exact ⟨rfl, rfl⟩))
    (fun os started H enc _ F => by rw [OpenClaim.pre_eq_preRow]; exact finRatersChecks_lifted os started H enc F)
theorem finRatersChecks_plain (f : FuncId) (fn : Func) (hf : Tryd.pinned.checked.prog.funcNamed "examboard/examboardlaw42.RatersChecks" = some f) (hfn : Tryd.pinned.checked.prog.funcs[f]? = some fn) :
    false = Tryd.pinned.checked.prog.looks [] ∧ ∀ (j : Nat) t, fn.params[j]? = some t → Tryd.pinned.checked.prog.wantsStandIn t = false := by
  obtain rfl : f = 5 := Option.some.inj ((show Tryd.prog.funcNamed "examboard/examboardlaw42.RatersChecks" = some 5 by kernel_rfl).symm.trans hf) |>.symm
  obtain rfl : fn = Tryd.f5 := (Option.some.inj (Tryd.func5.symm.trans hfn)).symm
  refine ⟨by kernel_rfl, fun j t ht => ?_⟩
  have hall : Tryd.f5.params.toList.all (fun t => Tryd.prog.wantsStandIn t == false) = true := by kernel_rfl
  have := List.all_eq_true.1 hall t (by rw [Array.mem_toList_iff]; exact Array.mem_of_getElem? ht)
  have h2 : Tryd.prog.wantsStandIn t = false := by simpa using this
  exact h2
theorem ratersChecks_holds : Rows.RatersChecksCardSaid :=
  Claim7.holds_tied_plain_at .later [] _ _ _ _ ratersChecks_said (fun _ h => by cases h) (by kernel_rfl) (fun _ h => by cases h) ratersChecks_row_tie rfl ⟨rfl, rfl⟩ (by kernel_rfl) rfl finRatersChecks_plain (by kernel_rfl)
end Go.Proofs.YtmefecfkajjajaaDoor.K
