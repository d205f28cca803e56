/- Walks: the reference of layer 2 (examboardref02). -/
import Derived.Test.YtnleagkinejenaaDoorWalkM
namespace Go.Proofs.YtnleagkinejenaaDoor.K
open Go
set_option linter.unusedVariables false
set_option linter.unusedSimpArgs false

section
variable {p q : Bool} {a b : List Int} {x y : Int} {k m : Nat}
theorem fdiv_signs {x y : Int} (hy : y ≠ 0) :
    (decide (x < 0) ≠ decide (y < 0) → (x.natAbs : Int) % y.natAbs ≠ 0 → x.fdiv y = sN (decide (x < 0) != decide (y < 0)) ((x.natAbs : Int) / y.natAbs) - 1) ∧
    (decide (x < 0) = decide (y < 0) ∨ (x.natAbs : Int) % y.natAbs = 0 → x.fdiv y = sN (decide (x < 0) != decide (y < 0)) ((x.natAbs : Int) / y.natAbs)) := by
  have ex : (if decide (x < 0) then -(x.natAbs : Int) else x.natAbs) = x := by
    by_cases h : x < 0 <;> simp [h] <;> omega
  have ey : (if decide (y < 0) then -(y.natAbs : Int) else y.natAbs) = y := by
    by_cases h : y < 0 <;> simp [h] <;> omega
  have hu : 0 ≤ (x.natAbs : Int) := by omega
  have hv : 0 < (y.natAbs : Int) := by omega
  constructor
  · intro h1 h2
    have h3 := (fdiv_ne hu hv h1 h2).1
    rw [ex, ey] at h3
    rw [h3, sN, if_pos (bne_iff_ne.2 h1)]
    omega
  · intro h
    have h3 := (fdiv_eq hu hv h).1
    rw [ex, ey] at h3
    rw [h3, sN]
end
end Go.Proofs.YtnleagkinejenaaDoor.K
