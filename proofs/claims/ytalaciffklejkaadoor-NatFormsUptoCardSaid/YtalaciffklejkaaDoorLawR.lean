/- Walks: the laws of layer 3 (examboardlaw03). -/
import Derived.Test.YtalaciffklejkaaDoorWalkO
namespace Go.Proofs.YtalaciffklejkaaDoor.K
open Go
set_option linter.unusedVariables false
set_option linter.unusedSimpArgs false

theorem list_ext_ix {a b : List Int} (h : a.length = b.length) (hi : ∀ i : Nat, i < a.length → ix a i = ix b i) : a = b := by
  apply List.ext_getElem h
  intro i h1 h2
  have := hi i h1
  simpa [ix, h1, h2] using this
theorem limbs_one' : limbs 1 = [1] := by rw [limbs_pos (by omega)]; simp [limbs_le]
end Go.Proofs.YtalaciffklejkaaDoor.K
