/- Walks: nat.trim, Norm, Of, Cmp. -/
import Derived.Test.YtglakdnhjpakkaaAuto
namespace Go.Proofs.Ytglakdnhjpakkaa.K
open Go
set_option linter.unusedVariables false
set_option linter.unusedSimpArgs false

theorem HoldsAll.ints {R : Nat → Prop} {w : World} {ds : List D} {vs : Array Value} (i : Nat) {k : IntKind} {l : List Int} (h : HoldsAll R w ds vs) (hi : ds[i]? = some (.ints k l)) : l.length ≤ 9223372036854775807 ∧ ∀ x ∈ l, InR k x := by
  have h1 : i < vs.size := by have := (List.getElem?_eq_some_iff.1 hi).1; have := h.1; omega
  have h2 := h.2 i _ vs[i] hi (by simp [h1])
  generalize vs[i] = v at h2
  cases h2 with
  | intsNil => exact ⟨by simp, fun x hx => by cases hx⟩
  | intsE => exact ⟨by simp, fun x hx => by cases hx⟩
  | ints => refine ⟨?_, by assumption⟩; simp only [maxLen] at *; omega
theorem lim_of {l : List Int} (h : ∀ x ∈ l, InR .u32 x) : Lim l := fun x hx => by
  have := h x hx
  simp [InR, IntKind.min, IntKind.max, IntKind.bits, IntKind.signed] at this
  omega
theorem HoldsAll.nat {R : Nat → Prop} {w : World} {ds : List D} {vs : Array Value} (i : Nat) {l : List Int} (h : HoldsAll R w ds vs) (hi : ds[i]? = some (.ints .u32 l)) : l.length ≤ 9223372036854775807 ∧ Lim l :=
  ⟨(h.ints i hi).1, lim_of (h.ints i hi).2⟩
theorem HoldsAll.int {R : Nat → Prop} {w : World} {ds : List D} {vs : Array Value} (i : Nat) {k : IntKind} {n : Int} (h : HoldsAll R w ds vs) (hi : ds[i]? = some (.int k n)) : InR k n := by
  have h1 : i < vs.size := by have := (List.getElem?_eq_some_iff.1 hi).1; have := h.1; omega
  have h2 := h.2 i _ vs[i] hi (by simp [h1])
  generalize vs[i] = v at h2
  cases h2; assumption

end Go.Proofs.Ytglakdnhjpakkaa.K
