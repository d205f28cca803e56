/- The laws of layer 2 (examboardlaw02) without a bound on the arguments: Forms, Division, Order. -/
import Derived.Test.YtffcpgebgoineaaDoorLawI
namespace Go.Proofs.YtffcpgebgoineaaDoor.K
open Go
set_option linter.unusedVariables false
set_option linter.unusedSimpArgs false

set_option maxHeartbeats 2000000 in
theorem lawF_IntegerArithmetic (b : Bool) (a : List Int) (b' : Bool) (a' : List Int) (hb1 : a.length * 4 ≤ 140737488351232) (hb2 : a'.length * 4 ≤ 140737488351232) : Evals Tryd.prog 3 [.agg [.bool b, .ints .u32 a], .agg [.bool b', .ints .u32 a']] (.bool true) := by
  refine evals_of_awp Tryd.func3 rfl (CallOK.of Tryd.func3 (by kernel_rfl) rfl) (Nat.le_of_ble_eq_true rfl) ?_
  rintro w R hR ⟨vs, hv⟩
  obtain ⟨_, hL⟩ := hv.sint 0 rfl
  obtain ⟨_, hL'⟩ := hv.sint 1 rfl
  obtain ⟨x, i1⟩ : ∃ x, IA b a x 35184372087808 := ⟨_, rfl, by omega⟩
  obtain ⟨y, i2⟩ : ∃ x, IA b' a' x 35184372087808 := ⟨_, rfl, by omega⟩
  have z1 := i1.sz hL
  have z2 := i2.sz hL'
  repeat' (first
    | (apply RunL.step; exact rfl; apply op_ev (τ := τ); exact rfl; (first | exact isame_eq | exact iawake | exact cisub | exact cmake | exact cineg | exact cisign | exact cicmp | exact ciadd | exact cimul | exact cidiv | exact cidiv0 | exact iof_ev _ | exact r2norm | exact r2make | exact r2sign | exact r2cmp | exact r2neg | exact r2add | exact r2sub | exact r2mul | exact r2div | exact r2div0 | exact r2of _); exact rfl) | (apply RunL.step; exact rfl; exact opA) | (apply RunL.hand; exact rfl; exact rfl; exact lenA; exact rfl) | (apply AWP.seq) | (apply AWP.region; exact rfl) | (apply AWP.block) | (apply AWP.skip) | (apply AWP.exit) | (apply AWP.retF; exact rfl; exact rfl; exact rfl; exact rfl; exact lenA; exact rfl) | (apply AWP.ret) | (apply RunL.nil) | (apply RunL.on; exact rfl; exact rfl; exact rfl; exact rfl; (first | exact rfl | assumption)) | (apply RunL.noU; exact rfl; exact rfl; exact rfl; exact rfl; exact rfl; exact rfl) | (apply RunL.no; exact rfl; exact rfl; exact rfl; exact rfl; (first | exact rfl | assumption); exact rfl; exact rfl) | (refine AWP.cond _ (Rd.of rfl) (fun hc => ?_) (fun hc => ?_) <;> first | (exfalso; cases hc; done) | (have hc' := hc; (try simp only [sc, reduceCtorEq, cmpOf] at hc'); try (exfalso; omega)))
    | (
     apply AWP.drawA
     repeat' (first
       | (apply DL.cons; (try (apply OpLoc.on; exact rfl; exact rfl; exact rfl; exact rfl; (first | exact rfl | assumption))); apply ol_ev (τ := τ); exact rfl; (first | exact isame_eq | exact iawake | exact cisub | exact cmake | exact cineg | exact cisign | exact cicmp | exact ciadd | exact cimul | exact cidiv | exact cidiv0 | exact iof_ev _ | exact r2norm | exact r2make | exact r2sign | exact r2cmp | exact r2neg | exact r2add | exact r2sub | exact r2mul | exact r2div | exact r2div0 | exact r2of _); exact rfl; exact rfl) | (apply DL.cons; exact olA; exact rfl) | (apply DL.nil; kernel_rfl) | (refine DL.split rfl rfl rfl rfl (fun hb => ?_) (fun hb => ?_) <;> have hb' := hb <;> (try simp only [sc, reduceCtorEq, cmpOf] at hb') <;> try (exfalso; omega)))
     all_goals (fail_if_success apply DL.id))
    | (refine RunL.split rfl rfl rfl rfl (fun hb => ?_) (fun hb => ?_) <;> have hb' := hb <;> (try simp only [sc, reduceCtorEq, cmpOf] at hb') <;> try (exfalso; omega)) )
  all_goals (apply Ends.mk (.cons (.tmp rfl) .nil); first | rfl | (simp only [pack]; congr 1; simp only [cmpOf, decide_eq_true_eq, beq_iff_eq, bne_iff_ne]; omega))
end Go.Proofs.YtffcpgebgoineaaDoor.K
