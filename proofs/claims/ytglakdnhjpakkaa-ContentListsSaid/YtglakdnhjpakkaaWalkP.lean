/- Walks: the parsers of decimals: nat.Parse, integer.Parse and their references. -/
import Derived.Test.YtglakdnhjpakkaaRat
import Derived.Test.YtglakdnhjpakkaaTxt
namespace Go.Proofs.Ytglakdnhjpakkaa.K
open Go
set_option linter.unusedVariables false
set_option linter.unusedSimpArgs false

theorem HoldsAll.str {R : Nat → Prop} {w : World} {ds : List D} {vs : Array Value} (i : Nat) {l : List UInt8} (h : HoldsAll R w ds vs) (hi : ds[i]? = some (.str l)) : l.length ≤ 9223372036854775807 := by
  have h1 : i < vs.size := by have := (List.getElem?_eq_some_iff.1 hi).1; have := h.1; omega
  have h2 := h.2 i _ vs[i] hi (by simp [h1])
  generalize vs[i] = v at h2
  cases h2 with
  | str s hs => simp only [maxLen] at hs; simp; omega

/-- the digits before a place -/
def digs (l : List UInt8) (i : Int) : Prop := ∀ j : Nat, (j : Int) < i → 48 ≤ chr l j ∧ chr l j ≤ 57
theorem digs.succ {l : List UInt8} {i : Int} (h : digs l i) (hi : 0 ≤ i) (hc : 48 ≤ chr l i ∧ chr l i ≤ 57) : digs l (i + 1) := fun j hj => by
  by_cases e : (j : Int) = i
  · rw [e]; exact hc
  · exact h j (by omega)
theorem decV_step {l : List UInt8} {i : Int} (h0 : 0 ≤ i) (hi : i < l.length) : decV (l.take (i + 1).toNat) = decV (l.take i.toNat) * 10 + (chr l i - 48) := by
  obtain ⟨n, rfl⟩ := Int.eq_ofNat_of_zero_le h0
  rw [show ((n : Int) + 1).toNat = n + 1 by omega, show ((n : Int)).toNat = n by omega, decV_take (by omega)]

end Go.Proofs.Ytglakdnhjpakkaa.K
