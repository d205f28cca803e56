/- Walks: integer.DivMod. -/
import Derived.Test.YtglakdnhjpakkaaWalkH
namespace Go.Proofs.Ytglakdnhjpakkaa.K
open Go
set_option linter.unusedVariables false
set_option linter.unusedSimpArgs false

theorem fdiv_unique {x v q r : Int} (h : x = v * q + r) (h0 : 0 ≤ r) (h1 : r < v) : x.fdiv v = q ∧ x.fmod v = r ∧ (-x).fdiv (-v) = q ∧ (-x).fmod (-v) = -r := by
  have h2 := divmod_of h h0 h1
  have e1 : x.fdiv v = q := by rw [Int.fdiv_eq_ediv_of_nonneg _ (by omega)]; exact h2.1
  have e2 : (-x).fdiv (-v) = q := by rw [Int.neg_fdiv_neg]; exact e1
  refine ⟨e1, ?_, e2, ?_⟩
  · rw [Int.fmod_def, e1]; omega
  · rw [Int.fmod_def, e2, Int.neg_mul]; omega
theorem fdiv_eq {u v : Int} (hu : 0 ≤ u) (hv : 0 < v) {n m : Bool} (h : n = m ∨ u % v = 0) :
    Int.fdiv (if n then -u else u) (if m then -v else v) = (if (n != m) then -(u / v) else u / v) ∧ Int.fmod (if n then -u else u) (if m then -v else v) = (if n then -(u % v) else u % v) := by
  have h1 := Int.mul_ediv_add_emod u v
  have h2 := Int.emod_nonneg u (show v ≠ 0 by omega)
  have h3 := Int.emod_lt_of_pos u hv
  have k1 := fdiv_unique h1.symm h2 h3
  cases n <;> cases m <;> simp at h ⊢
  · exact ⟨k1.1, k1.2.1⟩
  · have k2 := fdiv_unique (x := -u) (v := v) (q := -(u / v)) (r := 0) (by rw [Int.mul_neg]; omega) (by omega) hv
    rw [Int.neg_neg] at k2
    exact ⟨k2.2.2.1, by rw [k2.2.2.2, h]; rfl⟩
  · have k2 := fdiv_unique (x := -u) (v := v) (q := -(u / v)) (r := 0) (by rw [Int.mul_neg]; omega) (by omega) hv
    exact ⟨k2.1, by rw [k2.2.1, h]; rfl⟩
  · exact ⟨k1.1, k1.2.1⟩
theorem fdiv_ne {u v : Int} (hu : 0 ≤ u) (hv : 0 < v) {n m : Bool} (h : n ≠ m) (hr : u % v ≠ 0) :
    Int.fdiv (if n then -u else u) (if m then -v else v) = -(u / v + 1) ∧ Int.fmod (if n then -u else u) (if m then -v else v) = (if m then -(v - u % v) else v - u % v) := by
  have h1 := Int.mul_ediv_add_emod u v
  have h2 := Int.emod_nonneg u (show v ≠ 0 by omega)
  have h3 := Int.emod_lt_of_pos u hv
  have k2 := fdiv_unique (x := -u) (v := v) (q := -(u / v + 1)) (r := v - u % v) (by rw [Int.mul_neg, Int.mul_add]; omega) (by omega) (by omega)
  cases n <;> cases m <;> simp at h ⊢
  · rw [Int.neg_neg] at k2
    exact ⟨by rw [k2.2.2.1], by rw [k2.2.2.2]⟩
  · exact ⟨by rw [k2.1], k2.2.1⟩

theorem intD_zero : intD 0 = .agg [.bool false, .ints .u32 []] := by simp [intD, limbs_zero]

end Go.Proofs.Ytglakdnhjpakkaa.K
