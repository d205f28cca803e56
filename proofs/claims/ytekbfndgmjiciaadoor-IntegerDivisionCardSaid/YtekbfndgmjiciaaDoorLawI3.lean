/- The laws of layer 2 (examboardlaw02) without a bound on the arguments: Forms, Division, Order. -/
import Derived.Test.YtekbfndgmjiciaaDoorLawI
namespace Go.Proofs.YtekbfndgmjiciaaDoor.K
open Go
set_option linter.unusedVariables false
set_option linter.unusedSimpArgs false

set_option maxHeartbeats 2000000 in
theorem lawF_IntegerForms (n : Int) (b : Bool) (a : List Int) (hb1 : a.length * 4 ≤ 140737488351232) : Evals Tryd.prog 3 [.int .i64 n, .agg [.bool b, .ints .u32 a]] (.bool true) := by
  refine evals_of_awp Tryd.func3 rfl (CallOK.of Tryd.func3 (by kernel_rfl) rfl) (Nat.le_of_ble_eq_true rfl) ?_
  rintro w R hR ⟨vs, hv⟩
  have hl : a.length ≤ 35184372087808 := by omega
  repeat' (first
    | (apply RunL.step; exact rfl; apply op_ev (τ := τ); exact rfl; (first | exact cint64 | exact r2int64 | exact r2make | exact cmake | exact r2norm | exact cinorm | exact isame_eq | exact iawake | exact r2of _ | exact iof_ev _ | exact cmake | exact cineg | exact cisign | exact cicmp | exact ciadd | exact cimul | exact cidiv | exact cidiv0 | exact iof_ev _ | exact r2norm | exact r2make | exact r2sign | exact r2cmp | exact r2neg | exact r2add | exact r2sub | exact r2mul | exact r2div | exact r2div0 | exact r2of _); exact rfl) | (apply RunL.step; exact rfl; exact opA) | (apply RunL.hand; exact rfl; exact rfl; exact lenA; exact rfl) | (apply AWP.seq) | (apply AWP.region; exact rfl) | (apply AWP.block) | (apply AWP.skip) | (apply AWP.exit) | (apply AWP.retF; exact rfl; exact rfl; exact rfl; exact rfl; exact lenA; exact rfl) | (apply AWP.ret) | (apply RunL.nil) | (apply RunL.on; exact rfl; exact rfl; exact rfl; exact rfl; (first | exact rfl | assumption)) | (apply RunL.noU; exact rfl; exact rfl; exact rfl; exact rfl; exact rfl; exact rfl) | (apply RunL.no; exact rfl; exact rfl; exact rfl; exact rfl; (first | exact rfl | assumption); exact rfl; exact rfl) | (refine AWP.cond _ (Rd.of rfl) (fun hc => ?_) (fun hc => ?_) <;> first | (exfalso; cases hc; done) | (have hc' := hc; (try simp only [sc, reduceCtorEq, cmpOf] at hc'); try (exfalso; omega)))
    | (
     apply AWP.drawA
     repeat' (first
       | (apply DL.cons; (try (apply OpLoc.on; exact rfl; exact rfl; exact rfl; exact rfl; (first | exact rfl | assumption))); apply ol_ev (τ := τ); exact rfl; (first | exact cint64 | exact r2int64 | exact r2make | exact cmake | exact r2norm | exact cinorm | exact isame_eq | exact iawake | exact r2of _ | exact iof_ev _ | exact cmake | exact cineg | exact cisign | exact cicmp | exact ciadd | exact cimul | exact cidiv | exact cidiv0 | exact iof_ev _ | exact r2norm | exact r2make | exact r2sign | exact r2cmp | exact r2neg | exact r2add | exact r2sub | exact r2mul | exact r2div | exact r2div0 | exact r2of _); exact rfl; exact rfl) | (apply DL.cons; exact olA; exact rfl) | (apply DL.nil; kernel_rfl) | (refine DL.split rfl rfl rfl rfl (fun hb => ?_) (fun hb => ?_) <;> have hb' := hb <;> (try simp only [sc, reduceCtorEq, cmpOf] at hb') <;> try (exfalso; omega)))
     all_goals (fail_if_success apply DL.id))
    | (refine RunL.split rfl rfl rfl rfl (fun hb => ?_) (fun hb => ?_) <;> have hb' := hb <;> (try simp only [sc, reduceCtorEq, cmpOf] at hb') <;> try (exfalso; omega)) )
  all_goals (apply Ends.mk (.cons (.tmp rfl) .nil); first | rfl | (simp only [pack]; congr 1; simp only [cmpOf, decide_eq_true_eq, beq_iff_eq, bne_iff_ne]; omega))

set_option maxHeartbeats 2000000 in
theorem lawF_IntegerDivision (b : Bool) (a : List Int) (b' : Bool) (a' : List Int) (hb1 : a.length * 4 ≤ 140737488351232) (hb2 : a'.length * 4 ≤ 140737488351232) : Evals Tryd.prog 4 [.agg [.bool b, .ints .u32 a], .agg [.bool b', .ints .u32 a']] (.bool true) := by
  refine evals_of_awp Tryd.func4 rfl (CallOK.of Tryd.func4 (by kernel_rfl) rfl) (Nat.le_of_ble_eq_true rfl) ?_
  rintro w R hR ⟨vs, hv⟩
  obtain ⟨_, hL⟩ := hv.sint 0 rfl
  obtain ⟨_, hL'⟩ := hv.sint 1 rfl
  obtain ⟨x, i1⟩ : ∃ x, IA b a x 35184372087808 := ⟨_, rfl, by omega⟩
  obtain ⟨y, i2⟩ : ∃ x, IA b' a' x 35184372087808 := ⟨_, rfl, by omega⟩
  have z1 := i1.sz hL
  have z2 := i2.sz hL'
  have e0 := cmpI_eq0 y 0
  by_cases hy : y = 0
  · have e1 := e0.2 hy
    have hd := cidiv0 (h := i1) (g := i2)
    rw [hy, Int.fdiv_zero, if_pos rfl] at hd
    repeat' (first
      | (apply RunL.step; exact rfl; apply op_ev (τ := τ); exact rfl; (first | exact hd | exact isame_as | exact isame_eq | exact isame_zz | exact iawake | exact cisub | exact cinorm | exact cmake | exact cineg | exact cisign | exact cicmp | exact ciadd | exact cimul | exact cidiv | exact cidiv0 | exact iof_ev _); exact rfl) | (apply RunL.step; exact rfl; exact opA) | (apply RunL.hand; exact rfl; exact rfl; exact lenA; exact rfl) | (apply AWP.seq) | (apply AWP.region; exact rfl) | (apply AWP.block) | (apply AWP.skip) | (apply AWP.exit) | (apply AWP.retF; exact rfl; exact rfl; exact rfl; exact rfl; exact lenA; exact rfl) | (apply AWP.ret) | (apply RunL.nil) | (apply RunL.on; exact rfl; exact rfl; exact rfl; exact rfl; (first | exact rfl | assumption)) | (apply RunL.noU; exact rfl; exact rfl; exact rfl; exact rfl; exact rfl; exact rfl) | (apply RunL.no; exact rfl; exact rfl; exact rfl; exact rfl; (first | exact rfl | assumption); exact rfl; exact rfl) | (refine AWP.cond _ (Rd.of rfl) (fun hc => ?_) (fun hc => ?_) <;> first | (exfalso; cases hc; done) | (have hc' := hc; (try simp only [sc, reduceCtorEq, cmpOf] at hc'); try (exfalso; omega)))
      | (
       apply AWP.drawA
       repeat' (first
         | (apply DL.cons; (try (apply OpLoc.on; exact rfl; exact rfl; exact rfl; exact rfl; (first | exact rfl | assumption))); apply ol_ev (τ := τ); exact rfl; (first | exact hd | exact isame_as | exact isame_eq | exact isame_zz | exact iawake | exact cisub | exact cinorm | exact cmake | exact cineg | exact cisign | exact cicmp | exact ciadd | exact cimul | exact cidiv | exact cidiv0 | exact iof_ev _); exact rfl; exact rfl) | (apply DL.cons; exact olA; exact rfl) | (apply DL.nil; kernel_rfl) | (refine DL.split rfl rfl rfl rfl (fun hb => ?_) (fun hb => ?_) <;> have hb' := hb <;> (try simp only [sc, reduceCtorEq, cmpOf] at hb') <;> try (exfalso; omega)))
       all_goals (fail_if_success apply DL.id))
      | (refine RunL.split rfl rfl rfl rfl (fun hb => ?_) (fun hb => ?_) <;> have hb' := hb <;> (try simp only [sc, reduceCtorEq, cmpOf] at hb') <;> try (exfalso; omega)) )
    all_goals (apply Ends.mk (.cons (.tmp rfl) .nil); first | rfl | (simp only [pack]; congr 1; simp only [cmpOf, decide_eq_true_eq, beq_iff_eq, bne_iff_ne]; omega))
  · have e1 : cmpI y 0 ≠ 0 := fun h => hy (e0.1 h)
    have q1 : y * Int.fdiv x y + Int.fmod x y = x := Int.mul_fdiv_add_fmod x y
    have q2 : cmpI (Int.fmod x y) 0 ≠ 0 → cmpI (Int.fmod x y) 0 = cmpI y 0 ∧ cmpI (Int.fmod x y) y = - cmpI y 0 := by
      intro h
      rw [ne_eq, cmpI_eq0] at h
      rcases Int.lt_or_gt_of_ne hy with h1 | h1
      · have h2 := Int.fmod_lt_of_pos (-x) (b := -y) (by omega)
        have h3 := Int.fmod_nonneg_of_pos (-x) (b := -y) (by omega)
        have e : Int.fmod (-x) (-y) = - Int.fmod x y := by rw [Int.fmod_def, Int.fmod_def, Int.neg_fdiv_neg, Int.neg_mul]; omega
        rw [e] at h2 h3
        rcases cmpI_cases (Int.fmod x y) 0 with g | g | g <;> rcases cmpI_cases y 0 with k | k | k <;> rcases cmpI_cases (Int.fmod x y) y with j | j | j <;> omega
      · have h2 := Int.fmod_lt_of_pos x (b := y) h1
        have h3 := Int.fmod_nonneg_of_pos x (b := y) h1
        rcases cmpI_cases (Int.fmod x y) 0 with g | g | g <;> rcases cmpI_cases y 0 with k | k | k <;> rcases cmpI_cases (Int.fmod x y) y with j | j | j <;> omega
    have b1 := cmpI_bound y 0
    have b2 := cmpI_bound (Int.fmod x y) 0
    have b3 := cmpI_bound (Int.fmod x y) y
    repeat' (first
      | (apply RunL.step; exact rfl; apply op_ev (τ := τ); exact rfl; (first | exact hd | exact isame_as | exact isame_eq | exact isame_zz | exact iawake | exact cisub | exact cinorm | exact cmake | exact cineg | exact cisign | exact cicmp | exact ciadd | exact cimul | exact cidiv | exact cidiv0 | exact iof_ev _); exact rfl) | (apply RunL.step; exact rfl; exact opA) | (apply RunL.hand; exact rfl; exact rfl; exact lenA; exact rfl) | (apply AWP.seq) | (apply AWP.region; exact rfl) | (apply AWP.block) | (apply AWP.skip) | (apply AWP.exit) | (apply AWP.retF; exact rfl; exact rfl; exact rfl; exact rfl; exact lenA; exact rfl) | (apply AWP.ret) | (apply RunL.nil) | (apply RunL.on; exact rfl; exact rfl; exact rfl; exact rfl; (first | exact rfl | assumption)) | (apply RunL.noU; exact rfl; exact rfl; exact rfl; exact rfl; exact rfl; exact rfl) | (apply RunL.no; exact rfl; exact rfl; exact rfl; exact rfl; (first | exact rfl | assumption); exact rfl; exact rfl) | (refine AWP.cond _ (Rd.of rfl) (fun hc => ?_) (fun hc => ?_) <;> first | (exfalso; cases hc; done) | (have hc' := hc; (try simp only [sc, reduceCtorEq, cmpOf] at hc'); try (exfalso; omega)))
      | (
       apply AWP.drawA
       repeat' (first
         | (apply DL.cons; (try (apply OpLoc.on; exact rfl; exact rfl; exact rfl; exact rfl; (first | exact rfl | assumption))); apply ol_ev (τ := τ); exact rfl; (first | exact hd | exact isame_as | exact isame_eq | exact isame_zz | exact iawake | exact cisub | exact cinorm | exact cmake | exact cineg | exact cisign | exact cicmp | exact ciadd | exact cimul | exact cidiv | exact cidiv0 | exact iof_ev _); exact rfl; exact rfl) | (apply DL.cons; exact olA; exact rfl) | (apply DL.nil; kernel_rfl) | (refine DL.split rfl rfl rfl rfl (fun hb => ?_) (fun hb => ?_) <;> have hb' := hb <;> (try simp only [sc, reduceCtorEq, cmpOf] at hb') <;> try (exfalso; omega)))
       all_goals (fail_if_success apply DL.id))
      | (refine RunL.split rfl rfl rfl rfl (fun hb => ?_) (fun hb => ?_) <;> have hb' := hb <;> (try simp only [sc, reduceCtorEq, cmpOf] at hb') <;> try (exfalso; omega)) )
    all_goals (apply Ends.mk (.cons (.tmp rfl) .nil); first | rfl | (simp only [pack]; congr 1; simp only [cmpOf, decide_eq_true_eq, beq_iff_eq, bne_iff_ne]; omega))
set_option maxHeartbeats 2000000 in
theorem lawF_IntegerOrder (b : Bool) (a : List Int) (b' : Bool) (a' : List Int) (b'' : Bool) (a'' : List Int) (hb1 : a.length * 4 ≤ 140737488351232) (hb2 : a'.length * 4 ≤ 140737488351232) (hb3 : a''.length * 4 ≤ 140737488351232) : Evals Tryd.prog 5 [.agg [.bool b, .ints .u32 a], .agg [.bool b', .ints .u32 a'], .agg [.bool b'', .ints .u32 a'']] (.bool true) := by
  refine evals_of_awp Tryd.func5 rfl (CallOK.of Tryd.func5 (by kernel_rfl) rfl) (Nat.le_of_ble_eq_true rfl) ?_
  rintro w R hR ⟨vs, hv⟩
  obtain ⟨_, hL⟩ := hv.sint 0 rfl
  obtain ⟨_, hL'⟩ := hv.sint 1 rfl
  obtain ⟨_, hL''⟩ := hv.sint 2 rfl
  obtain ⟨x, i1⟩ : ∃ x, IA b a x 35184372087808 := ⟨_, rfl, by omega⟩
  obtain ⟨y, i2⟩ : ∃ x, IA b' a' x 35184372087808 := ⟨_, rfl, by omega⟩
  obtain ⟨z, i3⟩ : ∃ x, IA b'' a'' x 35184372087808 := ⟨_, rfl, by omega⟩
  have z1 := i1.sz hL
  have z2 := i2.sz hL'
  have z3 := i3.sz hL''
  have e1 := cmpI_swap x y
  have e2 := cmpI_sub x y
  have e3 := cmpI_add x y z
  have e4 := cmpI_mul x y z
  have b1 := cmpI_bound x y
  have b2 := cmpI_bound z 0
  have b3 := cmpI_bound (x * z) (y * z)
  rw [e4] at b3
  have t1 : cmpI x y ≤ 0 → cmpI y z ≤ 0 → cmpI x z ≤ 0 := by
    intro h1 h2
    rcases cmpI_cases x y with g | g | g <;> rcases cmpI_cases y z with k | k | k <;> rcases cmpI_cases x z with j | j | j <;> omega
  repeat' (first
    | (apply RunL.step; exact rfl; apply op_ev (τ := τ); exact rfl; (first | exact isame_cmp _ _ | exact iawake | exact cisub | exact cinorm | exact cmake | exact cineg | exact cisign | exact cicmp | exact ciadd | exact cimul | exact cidiv | exact cidiv0 | exact iof_ev _); exact rfl) | (apply RunL.step; exact rfl; exact opA) | (apply RunL.hand; exact rfl; exact rfl; exact lenA; exact rfl) | (apply AWP.seq) | (apply AWP.region; exact rfl) | (apply AWP.block) | (apply AWP.skip) | (apply AWP.exit) | (apply AWP.retF; exact rfl; exact rfl; exact rfl; exact rfl; exact lenA; exact rfl) | (apply AWP.ret) | (apply RunL.nil) | (apply RunL.on; exact rfl; exact rfl; exact rfl; exact rfl; (first | exact rfl | assumption)) | (apply RunL.noU; exact rfl; exact rfl; exact rfl; exact rfl; exact rfl; exact rfl) | (apply RunL.no; exact rfl; exact rfl; exact rfl; exact rfl; (first | exact rfl | assumption); exact rfl; exact rfl) | (refine AWP.cond _ (Rd.of rfl) (fun hc => ?_) (fun hc => ?_) <;> first | (exfalso; cases hc; done) | (have hc' := hc; (try simp only [sc, reduceCtorEq, cmpOf] at hc'); try (exfalso; omega)))
    | (
     apply AWP.drawA
     repeat' (first
       | (apply DL.cons; (try (apply OpLoc.on; exact rfl; exact rfl; exact rfl; exact rfl; (first | exact rfl | assumption))); apply ol_ev (τ := τ); exact rfl; (first | exact isame_cmp _ _ | exact iawake | exact cisub | exact cinorm | exact cmake | exact cineg | exact cisign | exact cicmp | exact ciadd | exact cimul | exact cidiv | exact cidiv0 | exact iof_ev _); exact rfl; exact rfl) | (apply DL.cons; exact olA; exact rfl) | (apply DL.nil; kernel_rfl) | (refine DL.split rfl rfl rfl rfl (fun hb => ?_) (fun hb => ?_) <;> have hb' := hb <;> (try simp only [sc, reduceCtorEq, cmpOf] at hb') <;> try (exfalso; omega)))
     all_goals (fail_if_success apply DL.id))
    | (refine RunL.split rfl rfl rfl rfl (fun hb => ?_) (fun hb => ?_) <;> have hb' := hb <;> (try simp only [sc, reduceCtorEq, cmpOf] at hb') <;> try (exfalso; omega)) )
  all_goals
    first   | (apply Ends.mk (.cons (.tmp rfl) .nil); first | rfl | (simp only [pack]; congr 1; simp only [cmpOf, decide_eq_true_eq, beq_iff_eq, bne_iff_ne]; omega))   | (exfalso; omega)   | (exfalso; grind)
end Go.Proofs.YtekbfndgmjiciaaDoor.K
