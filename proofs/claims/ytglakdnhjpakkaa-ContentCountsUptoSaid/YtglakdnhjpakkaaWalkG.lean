/- Walks: package integer. -/
import Derived.Test.YtglakdnhjpakkaaWalkF
namespace Go.Proofs.Ytglakdnhjpakkaa.K
open Go
set_option linter.unusedVariables false
set_option linter.unusedSimpArgs false

/-- the integer that a sign and limbs name -/
def sI (n : Bool) (l : List Int) : Int := if n then - val l else val l
/-- the datum of an integer, in normal form -/
abbrev intD (x : Int) : D := .agg [.bool (decide (x < 0)), .ints .u32 (limbs x.natAbs)]
theorem sI_natAbs {n : Bool} {l : List Int} (h : Lim l) : (((sI n l).natAbs : Nat) : Int) = val l := by
  have := val_nonneg h
  unfold sI; split <;> omega
theorem sI_norm (x : Int) : sI (decide (x < 0)) (limbs x.natAbs) = x := by
  unfold sI
  rw [val_limbs (by omega)]
  by_cases h : x < 0
  · simp [h]; omega
  · simp [h]; omega
theorem sI_neg {n : Bool} {l : List Int} (h : Lim l) : (n && decide (0 < val l)) = decide (sI n l < 0) := by
  have := val_nonneg h
  rw [Bool.eq_iff_iff]
  simp [sI]
  cases n <;> simp <;> omega

theorem len_u64 {x : Int} (h : x < 18446744073709551616) : (limbs x).length ≤ 70368744177663 := by
  have := limbs_length_le (n := x) (k := 2) (by omega)
  omega
theorem sI_false {l : List Int} : sI false l = val l := rfl
theorem sI_true {l : List Int} : sI true l = - val l := rfl
theorem cmpI_bound (x y : Int) : -1 ≤ cmpI x y ∧ cmpI x y ≤ 1 := by unfold cmpI; split <;> (try split) <;> omega
theorem cmpI_neg (x y : Int) : cmpI (-x) (-y) = - cmpI x y := by unfold cmpI; split <;> (try split) <;> (try split) <;> omega
end Go.Proofs.Ytglakdnhjpakkaa.K
