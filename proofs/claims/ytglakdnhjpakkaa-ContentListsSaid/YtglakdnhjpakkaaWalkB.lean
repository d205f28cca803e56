/- Walks: nat.Of, Add, Sub, Mul. -/
import Derived.Test.YtglakdnhjpakkaaWalkA
import Derived.Test.YtglakdnhjpakkaaOwn
namespace Go.Proofs.Ytglakdnhjpakkaa.K
open Go
set_option linter.unusedVariables false
set_option linter.unusedSimpArgs false

theorem cmpI_lt {x y : Int} : cmpI x y < 0 ↔ x < y := by unfold cmpI; split <;> (try split) <;> omega
end Go.Proofs.Ytglakdnhjpakkaa.K
