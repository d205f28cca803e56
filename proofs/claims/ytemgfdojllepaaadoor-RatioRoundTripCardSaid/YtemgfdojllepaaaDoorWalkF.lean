/- Walks: nat.Gcd. -/
import Derived.Test.YtemgfdojllepaaaDoorWalkE
namespace Go.Proofs.YtemgfdojllepaaaDoor.K
open Go
set_option linter.unusedVariables false
set_option linter.unusedSimpArgs false

theorem gcd_step {x y : Int} (hx : 0 ≤ x) (hy : 0 < y) : Int.gcd y (x % y) = Int.gcd x y := by
  obtain ⟨m, rfl⟩ := Int.eq_ofNat_of_zero_le hx
  obtain ⟨n, rfl⟩ := Int.eq_ofNat_of_zero_le (Int.le_of_lt hy)
  rw [← Int.natCast_emod, Int.gcd_natCast_natCast, Int.gcd_natCast_natCast, Nat.gcd_comm m n, Nat.gcd_rec n m, Nat.gcd_comm]

theorem gcd_ev (a b : List Int) (h1 : a.length ≤ 70368744177663) (h2 : b.length ≤ 70368744177663) : Evals Tryd.prog 90 [.ints .u32 a, .ints .u32 b] (.ints .u32 (limbs (Int.gcd (val a) (val b)))) := by
  refine evals_of_awp Tryd.func90 rfl (CallOK.of Tryd.func90 (by kernel_rfl) rfl) (Nat.le_of_ble_eq_true rfl) ?_
  rintro w R hR ⟨vs, hv⟩
  obtain ⟨hla, ha⟩ := hv.nat 0 rfl
  obtain ⟨hlb, hb⟩ := hv.nat 1 rfl
  have g1 := limbs_val_length a ha
  have g2 := limbs_val_length b hb
  have va := val_nonneg ha
  have vb := val_nonneg hb
  have hdm : False → Evals Tryd.prog 0 [] (.tup []) := fun h => h.elim
  repeat' (first
    | (apply RunL.step; exact rfl; first
      | fail)
    | (apply RunL.step; exact rfl; apply op_ev (τ := τ); exact rfl; (first | exact norm_ev _ (by omega) | exact hdm (by omega)); exact rfl)
    | (apply RunL.step; exact rfl; exact opA)
    | (apply RunL.hand; exact rfl; exact rfl; exact lenA; exact rfl)
    | (apply AWP.seq)
    | (apply AWP.region; exact rfl)
    | (apply AWP.block)
    | (apply AWP.skip)
    | (apply AWP.exit)
    | (apply AWP.retF; exact rfl; exact rfl; exact rfl; exact rfl; exact lenA; exact rfl)
    | (apply AWP.ret)
    | (apply RunL.nil)
    | (apply RunL.on; exact rfl; exact rfl; exact rfl; exact rfl; (first | exact rfl | assumption))
    | (apply RunL.noU; exact rfl; exact rfl; exact rfl; exact rfl; exact rfl; exact rfl)
    | (apply RunL.no; exact rfl; exact rfl; exact rfl; exact rfl; (first | exact rfl | assumption); exact rfl; exact rfl)
    | (refine AWP.cond _ (Rd.of rfl) (fun hc => ?_) (fun hc => ?_) <;> first | (exfalso; cases hc; done) | (have hc' := hc; (try simp only [decide_eq_true_eq, decide_eq_false_iff_not, Bool.not_true, Bool.not_false, bne_self_eq_false, beq_self_eq_true, ne_self_iff_false, Bool.true_bne, Bool.false_bne, Bool.true_beq, Bool.false_beq, Bool.false_eq_true, Bool.true_eq_false, reduceCtorEq, Bool.not_eq_true', Bool.not_eq_false', beq_iff_eq, bne_iff_ne, beq_eq_false_iff_ne, bne_eq_false_iff_eq, cmpOf] at hc'); try (exfalso; omega)))
    | (
      apply AWP.drawA
      repeat' (first
        | (apply DL.cons; (try (apply OpLoc.on; exact rfl; exact rfl; exact rfl; exact rfl; (first | exact rfl | assumption))); apply ol_ev (τ := τ); exact rfl; (first | exact norm_ev _ (by omega) | exact hdm (by omega)); exact rfl; exact rfl)
        | (apply DL.cons; exact olA; exact rfl)
        | (apply DL.nil; kernel_rfl)
        | (refine DL.split rfl rfl rfl rfl (fun hb => ?_) (fun hb => ?_) <;> have hb' := hb <;> (try simp only [decide_eq_true_eq, decide_eq_false_iff_not, Bool.not_true, Bool.not_false, bne_self_eq_false, beq_self_eq_true, ne_self_iff_false, Bool.true_bne, Bool.false_bne, Bool.true_beq, Bool.false_beq, Bool.false_eq_true, Bool.true_eq_false, reduceCtorEq, Bool.not_eq_true', Bool.not_eq_false', beq_iff_eq, bne_iff_ne, beq_eq_false_iff_ne, bne_eq_false_iff_eq, cmpOf] at hb') <;> try (exfalso; omega)))
      all_goals (fail_if_success apply DL.id))
    | (refine RunL.split rfl rfl rfl rfl (fun hb => ?_) (fun hb => ?_) <;> have hb' := hb <;> (try simp only [decide_eq_true_eq, decide_eq_false_iff_not, Bool.not_true, Bool.not_false, bne_self_eq_false, beq_self_eq_true, ne_self_iff_false, Bool.true_bne, Bool.false_bne, Bool.true_beq, Bool.false_beq, Bool.false_eq_true, Bool.true_eq_false, reduceCtorEq, Bool.not_eq_true', Bool.not_eq_false', beq_iff_eq, bne_iff_ne, beq_eq_false_iff_ne, bne_eq_false_iff_eq, cmpOf] at hb') <;> try (exfalso; omega))
    )
  refine AWP.loop2 (fun x y => ⟨[(0, .val (.ints .u32 (limbs x))), (1, .val (.ints .u32 (limbs y)))], []⟩)
    (fun x y => 0 ≤ x ∧ 0 ≤ y ∧ (limbs x).length ≤ 70368744177663 ∧ (limbs y).length ≤ 70368744177663 ∧ Int.gcd x y = Int.gcd (val a) (val b)) (fun _ y => y.toNat) _ _ ⟨va, vb, by omega, by omega, rfl⟩ (St.Le.of (by repeat' (first | exact all_nil | refine all_cons rfl ?_)) (by repeat' (first | exact all_nil | refine all_cons rfl ?_))) ?_
  rintro x y ⟨k1, k2, k3, k4, k5⟩
  have f0 := limbs_nil k2
  clear hdm
  have hdm : 0 < (limbs y).length → Evals Tryd.prog 69 [.ints .u32 (limbs x), .ints .u32 (limbs y)] (.tup [.ints .u32 (limbs (x / y)), .ints .u32 (limbs (x % y)), .bool true]) := fun h => by
    have := divMod_ev (limbs x) (limbs y) k3
    have hy : y ≠ 0 := by omega
    rw [val_limbs k1, val_limbs k2] at this
    simpa [hy] using this
  repeat' (first
    | (apply RunL.step; exact rfl; first
      | fail)
    | (apply RunL.step; exact rfl; apply op_ev (τ := τ); exact rfl; (first | exact norm_ev _ (by omega) | exact hdm (by omega)); exact rfl)
    | (apply RunL.step; exact rfl; exact opA)
    | (apply RunL.hand; exact rfl; exact rfl; exact lenA; exact rfl)
    | (apply AWP.seq)
    | (apply AWP.region; exact rfl)
    | (apply AWP.block)
    | (apply AWP.skip)
    | (apply AWP.exit)
    | (apply AWP.retF; exact rfl; exact rfl; exact rfl; exact rfl; exact lenA; exact rfl)
    | (apply AWP.ret)
    | (apply RunL.nil)
    | (apply RunL.on; exact rfl; exact rfl; exact rfl; exact rfl; (first | exact rfl | assumption))
    | (apply RunL.noU; exact rfl; exact rfl; exact rfl; exact rfl; exact rfl; exact rfl)
    | (apply RunL.no; exact rfl; exact rfl; exact rfl; exact rfl; (first | exact rfl | assumption); exact rfl; exact rfl)
    | (refine AWP.cond _ (Rd.of rfl) (fun hc => ?_) (fun hc => ?_) <;> first | (exfalso; cases hc; done) | (have hc' := hc; (try simp only [decide_eq_true_eq, decide_eq_false_iff_not, Bool.not_true, Bool.not_false, bne_self_eq_false, beq_self_eq_true, ne_self_iff_false, Bool.true_bne, Bool.false_bne, Bool.true_beq, Bool.false_beq, Bool.false_eq_true, Bool.true_eq_false, reduceCtorEq, Bool.not_eq_true', Bool.not_eq_false', beq_iff_eq, bne_iff_ne, beq_eq_false_iff_ne, bne_eq_false_iff_eq, cmpOf] at hc'); try (exfalso; omega)))
    | (
      apply AWP.drawA
      repeat' (first
        | (apply DL.cons; (try (apply OpLoc.on; exact rfl; exact rfl; exact rfl; exact rfl; (first | exact rfl | assumption))); apply ol_ev (τ := τ); exact rfl; (first | exact norm_ev _ (by omega) | exact hdm (by omega)); exact rfl; exact rfl)
        | (apply DL.cons; exact olA; exact rfl)
        | (apply DL.nil; kernel_rfl)
        | (refine DL.split rfl rfl rfl rfl (fun hb => ?_) (fun hb => ?_) <;> have hb' := hb <;> (try simp only [decide_eq_true_eq, decide_eq_false_iff_not, Bool.not_true, Bool.not_false, bne_self_eq_false, beq_self_eq_true, ne_self_iff_false, Bool.true_bne, Bool.false_bne, Bool.true_beq, Bool.false_beq, Bool.false_eq_true, Bool.true_eq_false, reduceCtorEq, Bool.not_eq_true', Bool.not_eq_false', beq_iff_eq, bne_iff_ne, beq_eq_false_iff_ne, bne_eq_false_iff_eq, cmpOf] at hb') <;> try (exfalso; omega)))
      all_goals (fail_if_success apply DL.id))
    | (refine RunL.split rfl rfl rfl rfl (fun hb => ?_) (fun hb => ?_) <;> have hb' := hb <;> (try simp only [decide_eq_true_eq, decide_eq_false_iff_not, Bool.not_true, Bool.not_false, bne_self_eq_false, beq_self_eq_true, ne_self_iff_false, Bool.true_bne, Bool.false_bne, Bool.true_beq, Bool.false_beq, Bool.false_eq_true, Bool.true_eq_false, reduceCtorEq, Bool.not_eq_true', Bool.not_eq_false', beq_iff_eq, bne_iff_ne, beq_eq_false_iff_ne, bne_eq_false_iff_eq, cmpOf] at hb') <;> try (exfalso; omega))
    )
  · have hy : 0 < y := by omega
    have r1 := Int.emod_nonneg x (show y ≠ 0 by omega)
    have r2 := Int.emod_lt_of_pos x hy
    have := limbs_mono (show x % y ≤ y by omega)
    exact ⟨_, _, St.Le.of (by repeat' (first | exact all_nil | refine all_cons rfl ?_)) (by repeat' (first | exact all_nil | refine all_cons rfl ?_)), ⟨k2, r1, k4, by omega, by rw [gcd_step k1 hy, k5]⟩, by omega⟩
  · apply Ends.mk (.cons (.tmp rfl) .nil)
    have hy : y = 0 := by omega
    subst hy
    rw [← k5, Int.gcd_zero_right]
    simp only [pack]
    congr 2
    omega
end Go.Proofs.YtemgfdojllepaaaDoor.K
