/- Walks: nat.Gcd. -/
import Derived.Test.YtglakdnhjpakkaaWalkE
namespace Go.Proofs.Ytglakdnhjpakkaa.K
open Go
set_option linter.unusedVariables false
set_option linter.unusedSimpArgs false

theorem gcd_step {x y : Int} (hx : 0 ≤ x) (hy : 0 < y) : Int.gcd y (x % y) = Int.gcd x y := by
  obtain ⟨m, rfl⟩ := Int.eq_ofNat_of_zero_le hx
  obtain ⟨n, rfl⟩ := Int.eq_ofNat_of_zero_le (Int.le_of_lt hy)
  rw [← Int.natCast_emod, Int.gcd_natCast_natCast, Int.gcd_natCast_natCast, Nat.gcd_comm m n, Nat.gcd_rec n m, Nat.gcd_comm]

end Go.Proofs.Ytglakdnhjpakkaa.K
namespace Go.Proofs.Ytglakdnhjpakkaa.K
open Go
set_option linter.unusedVariables false
set_option linter.unusedSimpArgs false

/-- the integer that a sign and limbs name -/
def sI (n : Bool) (l : List Int) : Int := if n then - val l else val l
/-- the datum of an integer, in normal form -/
abbrev intD (x : Int) : D := .agg [.bool (decide (x < 0)), .ints .u32 (limbs x.natAbs)]
theorem sI_natAbs {n : Bool} {l : List Int} (h : Lim l) : (((sI n l).natAbs : Nat) : Int) = val l := by
  have := val_nonneg h
  unfold sI; split <;> omega
theorem sI_norm (x : Int) : sI (decide (x < 0)) (limbs x.natAbs) = x := by
  unfold sI
  rw [val_limbs (by omega)]
  by_cases h : x < 0
  · simp [h]; omega
  · simp [h]; omega
theorem sI_neg {n : Bool} {l : List Int} (h : Lim l) : (n && decide (0 < val l)) = decide (sI n l < 0) := by
  have := val_nonneg h
  rw [Bool.eq_iff_iff]
  simp [sI]
  cases n <;> simp <;> omega

theorem len_u64 {x : Int} (h : x < 18446744073709551616) : (limbs x).length ≤ 70368744177663 := by
  have := limbs_length_le (n := x) (k := 2) (by omega)
  omega
theorem sI_false {l : List Int} : sI false l = val l := rfl
theorem sI_true {l : List Int} : sI true l = - val l := rfl
theorem cmpI_bound (x y : Int) : -1 ≤ cmpI x y ∧ cmpI x y ≤ 1 := by unfold cmpI; split <;> (try split) <;> omega
theorem cmpI_neg (x y : Int) : cmpI (-x) (-y) = - cmpI x y := by unfold cmpI; split <;> (try split) <;> (try split) <;> omega
end Go.Proofs.Ytglakdnhjpakkaa.K
namespace Go.Proofs.Ytglakdnhjpakkaa.K
open Go
set_option linter.unusedVariables false
set_option linter.unusedSimpArgs false

theorem HoldsAll.agg {R : Nat → Prop} {w : World} {ds : List D} {vs : Array Value} (i : Nat) {es : List D} (h : HoldsAll R w ds vs) (hi : ds[i]? = some (.agg es)) : ∃ us, HoldsAll R w es us := by
  have h1 : i < vs.size := by have := (List.getElem?_eq_some_iff.1 hi).1; have := h.1; omega
  have h2 := h.2 i _ vs[i] hi (by simp [h1])
  generalize vs[i] = v at h2
  cases h2 with
  | agg _ cs hs hh => exact ⟨cs, hs, hh⟩
theorem HoldsAll.sint {R : Nat → Prop} {w : World} {ds : List D} {vs : Array Value} (i : Nat) {n : Bool} {l : List Int} (h : HoldsAll R w ds vs) (hi : ds[i]? = some (.agg [.bool n, .ints .u32 l])) : l.length ≤ 9223372036854775807 ∧ Lim l := by
  obtain ⟨us, hu⟩ := h.agg i hi
  exact hu.nat 1 rfl

theorem cmpI_cases (x y : Int) : (x < y ∧ cmpI x y = -1) ∨ (x = y ∧ cmpI x y = 0) ∨ (y < x ∧ cmpI x y = 1) := by unfold cmpI; split <;> (try split) <;> omega
theorem icmp_eq {n m : Bool} {v u : Int} (hv : 0 ≤ v) (hu : 0 ≤ u) (h1 : cmpI (if n then -v else v) 0 = cmpI (if m then -u else u) 0) :
    cmpI (if n then -v else v) 0 * cmpI v u = cmpI (if n then -v else v) (if m then -u else u) := by
  rcases cmpI_cases (if n then -v else v) 0 with ⟨a1, a2⟩ | ⟨a1, a2⟩ | ⟨a1, a2⟩ <;>
  rcases cmpI_cases (if m then -u else u) 0 with ⟨b1, b2⟩ | ⟨b1, b2⟩ | ⟨b1, b2⟩ <;>
  rcases cmpI_cases v u with ⟨c1, c2⟩ | ⟨c1, c2⟩ | ⟨c1, c2⟩ <;>
  rcases cmpI_cases (if n then -v else v) (if m then -u else u) with ⟨d1, d2⟩ | ⟨d1, d2⟩ | ⟨d1, d2⟩ <;>
  (rw [a2, c2, d2]) <;> (first | rfl | (exfalso; rw [a2, b2] at h1; cases n <;> cases m <;> simp at * <;> omega))
theorem limbs_add_length {l k : List Int} (hl : Lim l) (hk : Lim k) : (limbs (val l + val k)).length ≤ l.length + k.length + 1 := by
  refine limbs_length_le ?_
  have h1 := val_lt hl
  have h2 := val_lt hk
  have h3 := pow_pos' l.length
  have h4 := pow_pos' k.length
  have h5 : (4294967296 : Int) ^ l.length * 1 ≤ 4294967296 ^ l.length * 4294967296 ^ k.length := Int.mul_le_mul_of_nonneg_left (by omega) (by omega)
  have h6 : 1 * (4294967296 : Int) ^ k.length ≤ 4294967296 ^ l.length * 4294967296 ^ k.length := Int.mul_le_mul_of_nonneg_right (by omega) (by omega)
  rw [Int.pow_succ, Int.pow_add]
  omega
theorem limbs_mul_length {l k : List Int} (hl : Lim l) (hk : Lim k) : (limbs (val l * val k)).length ≤ l.length + k.length := by
  refine limbs_length_le ?_
  rw [Int.pow_add]
  have h1 := val_lt hl
  have h2 := val_lt hk
  have h3 := val_nonneg hl
  have h4 := val_nonneg hk
  have h5 := pow_pos' k.length
  have h6 : val l * val k ≤ val l * 4294967296 ^ k.length := Int.mul_le_mul_of_nonneg_left (by omega) h3
  have h7 := Int.mul_lt_mul_of_pos_right h1 h5
  omega
theorem limbs_sub_length {l k : List Int} (hl : Lim l) (hk : Lim k) : (limbs (val l - val k)).length ≤ l.length := by
  have h1 := limbs_mono (show val l - val k ≤ val l by have := val_nonneg hk; omega)
  have h2 := limbs_val_length l hl
  omega

end Go.Proofs.Ytglakdnhjpakkaa.K
namespace Go.Proofs.Ytglakdnhjpakkaa.K
open Go
set_option linter.unusedVariables false
set_option linter.unusedSimpArgs false

theorem fdiv_unique {x v q r : Int} (h : x = v * q + r) (h0 : 0 ≤ r) (h1 : r < v) : x.fdiv v = q ∧ x.fmod v = r ∧ (-x).fdiv (-v) = q ∧ (-x).fmod (-v) = -r := by
  have h2 := divmod_of h h0 h1
  have e1 : x.fdiv v = q := by rw [Int.fdiv_eq_ediv_of_nonneg _ (by omega)]; exact h2.1
  have e2 : (-x).fdiv (-v) = q := by rw [Int.neg_fdiv_neg]; exact e1
  refine ⟨e1, ?_, e2, ?_⟩
  · rw [Int.fmod_def, e1]; omega
  · rw [Int.fmod_def, e2, Int.neg_mul]; omega
theorem fdiv_eq {u v : Int} (hu : 0 ≤ u) (hv : 0 < v) {n m : Bool} (h : n = m ∨ u % v = 0) :
    Int.fdiv (if n then -u else u) (if m then -v else v) = (if (n != m) then -(u / v) else u / v) ∧ Int.fmod (if n then -u else u) (if m then -v else v) = (if n then -(u % v) else u % v) := by
  have h1 := Int.mul_ediv_add_emod u v
  have h2 := Int.emod_nonneg u (show v ≠ 0 by omega)
  have h3 := Int.emod_lt_of_pos u hv
  have k1 := fdiv_unique h1.symm h2 h3
  cases n <;> cases m <;> simp at h ⊢
  · exact ⟨k1.1, k1.2.1⟩
  · have k2 := fdiv_unique (x := -u) (v := v) (q := -(u / v)) (r := 0) (by rw [Int.mul_neg]; omega) (by omega) hv
    rw [Int.neg_neg] at k2
    exact ⟨k2.2.2.1, by rw [k2.2.2.2, h]; rfl⟩
  · have k2 := fdiv_unique (x := -u) (v := v) (q := -(u / v)) (r := 0) (by rw [Int.mul_neg]; omega) (by omega) hv
    exact ⟨k2.1, by rw [k2.2.1, h]; rfl⟩
  · exact ⟨k1.1, k1.2.1⟩
theorem fdiv_ne {u v : Int} (hu : 0 ≤ u) (hv : 0 < v) {n m : Bool} (h : n ≠ m) (hr : u % v ≠ 0) :
    Int.fdiv (if n then -u else u) (if m then -v else v) = -(u / v + 1) ∧ Int.fmod (if n then -u else u) (if m then -v else v) = (if m then -(v - u % v) else v - u % v) := by
  have h1 := Int.mul_ediv_add_emod u v
  have h2 := Int.emod_nonneg u (show v ≠ 0 by omega)
  have h3 := Int.emod_lt_of_pos u hv
  have k2 := fdiv_unique (x := -u) (v := v) (q := -(u / v + 1)) (r := v - u % v) (by rw [Int.mul_neg, Int.mul_add]; omega) (by omega) (by omega)
  cases n <;> cases m <;> simp at h ⊢
  · rw [Int.neg_neg] at k2
    exact ⟨by rw [k2.2.2.1], by rw [k2.2.2.2]⟩
  · exact ⟨by rw [k2.1], k2.2.1⟩

theorem intD_zero : intD 0 = .agg [.bool false, .ints .u32 []] := by simp [intD, limbs_zero]

end Go.Proofs.Ytglakdnhjpakkaa.K
