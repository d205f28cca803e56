/- Walks: the parsers of integers and ratios, and those of the references. -/
import Derived.Test.YtnleagkinejenaaDoorWalkS
import Derived.Test.YtnleagkinejenaaDoorWalkO
namespace Go.Proofs.YtnleagkinejenaaDoor.K
open Go
set_option linter.unusedVariables false
set_option linter.unusedSimpArgs false

/-- what the parser of ratios hands back -/
def ratP (l : List UInt8) : Int × Rat :=
  if 0 ≤ idx1 l 47 then
    let n := l.take (idx1 l 47).toNat
    let d := l.drop ((idx1 l 47).toNat + 1)
    if intE n ≠ 0 then (intE n, 0) else if natE d ≠ 0 then (natE d, 0) else if natV d = 0 then (2, 0) else (0, Rat.divInt (intV n) (natV d))
  else if intE l ≠ 0 then (intE l, 0) else (0, Rat.divInt (intV l) 1)
theorem idx1_eq {l : List UInt8} {c : UInt8} {i : Nat} (h : l[i]? = some c) (h2 : ∀ k : Nat, k < i → l[k]? ≠ some c) : idx1 l c = i := by
  rcases idx1_cases l c with ⟨_, h3⟩ | ⟨h3, h4, h5, h6⟩
  · exact absurd h (h3 i)
  · rcases Int.lt_trichotomy (idx1 l c) i with h7 | h7 | h7
    · exact absurd h5 (h2 _ (by omega))
    · exact h7
    · exact absurd h (h6 i h7)
theorem chr_some {l : List UInt8} {i : Int} (h0 : 0 ≤ i) (h : i < l.length) (c : UInt8) : l[i.toNat]? = some c ↔ ((ixb l i).toNat : Int) = c.toNat := by
  rw [ixu h0 h]
  constructor
  · intro e; cases e; rfl
  · intro e; rw [UInt8.toNat_inj.1 (show (ixb l i).toNat = c.toNat by omega)]
end Go.Proofs.YtnleagkinejenaaDoor.K
