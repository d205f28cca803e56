/- Walks: package integer, the arithmetic. -/
import Derived.Test.YtglakdnhjpakkaaWalkG
namespace Go.Proofs.Ytglakdnhjpakkaa.K
open Go
set_option linter.unusedVariables false
set_option linter.unusedSimpArgs false

theorem HoldsAll.agg {R : Nat → Prop} {w : World} {ds : List D} {vs : Array Value} (i : Nat) {es : List D} (h : HoldsAll R w ds vs) (hi : ds[i]? = some (.agg es)) : ∃ us, HoldsAll R w es us := by
  have h1 : i < vs.size := by have := (List.getElem?_eq_some_iff.1 hi).1; have := h.1; omega
  have h2 := h.2 i _ vs[i] hi (by simp [h1])
  generalize vs[i] = v at h2
  cases h2 with
  | agg _ cs hs hh => exact ⟨cs, hs, hh⟩
theorem HoldsAll.sint {R : Nat → Prop} {w : World} {ds : List D} {vs : Array Value} (i : Nat) {n : Bool} {l : List Int} (h : HoldsAll R w ds vs) (hi : ds[i]? = some (.agg [.bool n, .ints .u32 l])) : l.length ≤ 9223372036854775807 ∧ Lim l := by
  obtain ⟨us, hu⟩ := h.agg i hi
  exact hu.nat 1 rfl

theorem cmpI_cases (x y : Int) : (x < y ∧ cmpI x y = -1) ∨ (x = y ∧ cmpI x y = 0) ∨ (y < x ∧ cmpI x y = 1) := by unfold cmpI; split <;> (try split) <;> omega
theorem icmp_eq {n m : Bool} {v u : Int} (hv : 0 ≤ v) (hu : 0 ≤ u) (h1 : cmpI (if n then -v else v) 0 = cmpI (if m then -u else u) 0) :
    cmpI (if n then -v else v) 0 * cmpI v u = cmpI (if n then -v else v) (if m then -u else u) := by
  rcases cmpI_cases (if n then -v else v) 0 with ⟨a1, a2⟩ | ⟨a1, a2⟩ | ⟨a1, a2⟩ <;>
  rcases cmpI_cases (if m then -u else u) 0 with ⟨b1, b2⟩ | ⟨b1, b2⟩ | ⟨b1, b2⟩ <;>
  rcases cmpI_cases v u with ⟨c1, c2⟩ | ⟨c1, c2⟩ | ⟨c1, c2⟩ <;>
  rcases cmpI_cases (if n then -v else v) (if m then -u else u) with ⟨d1, d2⟩ | ⟨d1, d2⟩ | ⟨d1, d2⟩ <;>
  (rw [a2, c2, d2]) <;> (first | rfl | (exfalso; rw [a2, b2] at h1; cases n <;> cases m <;> simp at * <;> omega))
theorem limbs_add_length {l k : List Int} (hl : Lim l) (hk : Lim k) : (limbs (val l + val k)).length ≤ l.length + k.length + 1 := by
  refine limbs_length_le ?_
  have h1 := val_lt hl
  have h2 := val_lt hk
  have h3 := pow_pos' l.length
  have h4 := pow_pos' k.length
  have h5 : (4294967296 : Int) ^ l.length * 1 ≤ 4294967296 ^ l.length * 4294967296 ^ k.length := Int.mul_le_mul_of_nonneg_left (by omega) (by omega)
  have h6 : 1 * (4294967296 : Int) ^ k.length ≤ 4294967296 ^ l.length * 4294967296 ^ k.length := Int.mul_le_mul_of_nonneg_right (by omega) (by omega)
  rw [Int.pow_succ, Int.pow_add]
  omega
theorem limbs_mul_length {l k : List Int} (hl : Lim l) (hk : Lim k) : (limbs (val l * val k)).length ≤ l.length + k.length := by
  refine limbs_length_le ?_
  rw [Int.pow_add]
  have h1 := val_lt hl
  have h2 := val_lt hk
  have h3 := val_nonneg hl
  have h4 := val_nonneg hk
  have h5 := pow_pos' k.length
  have h6 : val l * val k ≤ val l * 4294967296 ^ k.length := Int.mul_le_mul_of_nonneg_left (by omega) h3
  have h7 := Int.mul_lt_mul_of_pos_right h1 h5
  omega
theorem limbs_sub_length {l k : List Int} (hl : Lim l) (hk : Lim k) : (limbs (val l - val k)).length ≤ l.length := by
  have h1 := limbs_mono (show val l - val k ≤ val l by have := val_nonneg hk; omega)
  have h2 := limbs_val_length l hl
  omega

end Go.Proofs.Ytglakdnhjpakkaa.K
