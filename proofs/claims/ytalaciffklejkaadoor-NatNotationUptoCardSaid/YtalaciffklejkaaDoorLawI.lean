/- The laws of layer 2 (examboardlaw02). -/
import Derived.Test.YtalaciffklejkaaDoorWalkV
import Derived.Test.YtalaciffklejkaaDoorWalkT
import Derived.Test.YtalaciffklejkaaDoorLawR
import Derived.Test.YtalaciffklejkaaDoorPost
namespace Go.Proofs.YtalaciffklejkaaDoor.K
open Go
set_option linter.unusedVariables false
set_option linter.unusedSimpArgs false

theorem intD_inj {x y : Int} (h1 : decide (x < 0) = decide (y < 0)) (h2 : limbs x.natAbs = limbs y.natAbs) : x = y := by
  have e1 := sI_norm x
  have e2 := sI_norm y
  rw [← e1, ← e2, h1, h2]
theorem intS_m4 : intS (-4) = [45, 52] := by
  rw [intS, if_pos (by omega), show (((-4 : Int).natAbs : Nat) : Int) = 4 from rfl, decD_small (by omega) (by omega)]; rfl
theorem intS_1 : intS 1 = [49] := by
  rw [intS, if_neg (by omega), show (((1 : Int).natAbs : Nat) : Int) = 1 from rfl, decD_small (by omega) (by omega)]; rfl
theorem intS_m12 : intS (-12) = [45, 49, 50] := by
  rw [intS, if_pos (by omega), show (((-12 : Int).natAbs : Nat) : Int) = 12 from rfl, decD_big (by omega), show (12 : Int) / 10 = 1 from rfl, decD_small (by omega) (by omega)]; rfl
end Go.Proofs.YtalaciffklejkaaDoor.K
