/- The package-level variables that this seat lays: number, kind, numbers. Written by gen_tys.py. -/
import GoSem.Core.Value
namespace Go.Proofs.Ytglakdnhjpakkaa.K
open Go
def gamList : List (Nat × IntKind × List Int) := []
theorem gamNe : ∀ p ∈ gamList, p.2.2 ≠ [] := by simp [gamList]
end Go.Proofs.Ytglakdnhjpakkaa.K
