/- The laws of layer 2 (examboardlaw02), continued. -/
import Derived.Test.YtalaciffklejkaaDoorLawI
import Derived.Test.YtalaciffklejkaaDoorInv
namespace Go.Proofs.YtalaciffklejkaaDoor.K
open Go
set_option linter.unusedVariables false
set_option linter.unusedSimpArgs false

theorem cmpI_swap (x y : Int) : cmpI y x = - cmpI x y := by
  rcases cmpI_cases x y with h | h | h <;> rcases cmpI_cases y x with g | g | g <;> omega
theorem cmpI_sub (x y : Int) : cmpI (x - y) 0 = cmpI x y := by
  rcases cmpI_cases x y with h | h | h <;> rcases cmpI_cases (x - y) 0 with g | g | g <;> omega
theorem cmpI_add (x y z : Int) : cmpI (x + z) (y + z) = cmpI x y := by
  rcases cmpI_cases x y with h | h | h <;> rcases cmpI_cases (x + z) (y + z) with g | g | g <;> omega
theorem cmpI_mul (x y z : Int) : cmpI (x * z) (y * z) = cmpI x y * cmpI z 0 := by
  rcases cmpI_cases z 0 with ⟨g, g2⟩ | ⟨g, g2⟩ | ⟨g, g2⟩
  · rcases cmpI_cases x y with ⟨h, h2⟩ | ⟨h, h2⟩ | ⟨h, h2⟩
    · have := Int.mul_lt_mul_of_neg_right h g
      rw [g2, h2]; rcases cmpI_cases (x * z) (y * z) with k | k | k <;> omega
    · subst h; rw [g2, h2]; rcases cmpI_cases (x * z) (x * z) with k | k | k <;> omega
    · have := Int.mul_lt_mul_of_neg_right h g
      rw [g2, h2]; rcases cmpI_cases (x * z) (y * z) with k | k | k <;> omega
  · subst g; rw [g2, Int.mul_zero, Int.mul_zero, Int.mul_zero]; exact g2
  · rcases cmpI_cases x y with ⟨h, h2⟩ | ⟨h, h2⟩ | ⟨h, h2⟩
    · have := Int.mul_lt_mul_of_pos_right h g
      rw [g2, h2]; rcases cmpI_cases (x * z) (y * z) with k | k | k <;> omega
    · subst h; rw [g2, h2]; rcases cmpI_cases (x * z) (x * z) with k | k | k <;> omega
    · have := Int.mul_lt_mul_of_pos_right h g
      rw [g2, h2]; rcases cmpI_cases (x * z) (y * z) with k | k | k <;> omega
theorem cmpI_mul0 (x y : Int) : cmpI (x * y) 0 = cmpI x 0 * cmpI y 0 := by
  have := cmpI_mul x 0 y
  rwa [Int.zero_mul] at this
theorem cmpI_eq0 (x y : Int) : cmpI x y = 0 ↔ x = y := by
  rcases cmpI_cases x y with h | h | h <;> omega
theorem IA.sz {n : Bool} {a : List Int} {x : Int} {k : Nat} (h : IA n a x k) (hl : Lim a) : SzI x k := ⟨by rw [← h.v, sI_natAbs hl]; exact Int.lt_of_lt_of_le (val_lt hl) (pow_mono h.hl)⟩
theorem NA.sz {a : List Int} {x : Int} {k : Nat} (h : NA a x k) (hl : Lim a) : SzN x k := ⟨by rw [← h.v]; exact val_nonneg hl, by rw [← h.v]; exact Int.lt_of_lt_of_le (val_lt hl) (pow_mono h.hl)⟩
end Go.Proofs.YtalaciffklejkaaDoor.K
