/- Walks: nat.divLimb, shiftLeft, shiftRight. -/
import Derived.Test.YtglakdnhjpakkaaWalkB
import Derived.Test.YtglakdnhjpakkaaOwn
namespace Go.Proofs.Ytglakdnhjpakkaa.K
open Go
set_option linter.unusedVariables false
set_option linter.unusedSimpArgs false

theorem shift_bound {x : Int} {k : Nat} (hx : 0 ≤ x ∧ x < 4294967296) (hk : k ≤ 31) : 0 ≤ x * 2 ^ k ∧ x * 2 ^ k < 9223372036854775808 ∧ 0 ≤ x * 2 ^ k / 4294967296 ∧ x * 2 ^ k / 4294967296 < 2 ^ k := by
  have h0 := pow2_pos k
  have h2 : (2 : Int) ^ k ≤ 2 ^ 31 := pow2_le hk
  have h3 : x * 2 ^ k ≤ x * 2 ^ 31 := Int.mul_le_mul_of_nonneg_left h2 hx.1
  have h4 : 0 ≤ x * 2 ^ k := Int.mul_nonneg hx.1 (Int.le_of_lt h0)
  have h5 : x * 2 ^ k < 4294967296 * 2 ^ k := Int.mul_lt_mul_of_pos_right hx.2 h0
  refine ⟨h4, by omega, by omega, ?_⟩
  apply Int.ediv_lt_of_lt_mul (by omega)
  rw [Int.mul_comm (2 ^ k)]; exact h5
theorem or_dvd {l h : Int} {k : Nat} (hk : k ≤ 31) (hl : 0 ≤ l ∧ l < 2 ^ k) (hh : 0 ≤ h ∧ h < 4294967296) : bitsOf .or .u32 l (h * 2 ^ k % 4294967296) = l + h * 2 ^ k % 4294967296 ∧ l + h * 2 ^ k % 4294967296 < 4294967296 := by
  obtain ⟨a, rfl⟩ := Int.eq_ofNat_of_zero_le hl.1
  obtain ⟨b, rfl⟩ := Int.eq_ofNat_of_zero_le hh.1
  have ha : a < 2 ^ k := by have := hl.2; exact_mod_cast this
  have e : (b : Int) * 2 ^ k % 4294967296 = ((2 ^ k * (b % 2 ^ (32 - k)) : Nat) : Int) := by
    have h1 : (4294967296 : Nat) = 2 ^ k * 2 ^ (32 - k) := by rw [← Nat.pow_add, show k + (32 - k) = 32 by omega]
    have h2 : b * 2 ^ k % 4294967296 = 2 ^ k * (b % 2 ^ (32 - k)) := by rw [h1, Nat.mul_comm b, Nat.mul_mod_mul_left]
    rw [← h2, Int.natCast_emod, Int.natCast_mul, Int.natCast_pow]
    rfl
  rw [e]
  have hp : 0 < 2 ^ k := Nat.two_pow_pos k
  have hlt : b % 2 ^ (32 - k) < 2 ^ (32 - k) := Nat.mod_lt _ (Nat.two_pow_pos _)
  have hsum : a + 2 ^ k * (b % 2 ^ (32 - k)) < 4294967296 := by
    have h1 : 2 ^ k * (b % 2 ^ (32 - k)) + 2 ^ k ≤ 2 ^ k * 2 ^ (32 - k) := by
      rw [← Nat.mul_succ]; exact Nat.mul_le_mul_left _ hlt
    rw [← Nat.pow_add, show k + (32 - k) = 32 by omega] at h1
    omega
  generalize b % 2 ^ (32 - k) = c at *
  have e3 : a ||| 2 ^ k * c = a + 2 ^ k * c := by rw [Nat.or_comm, ← Nat.two_pow_add_eq_or_of_lt ha]; omega
  generalize 2 ^ k * c = y at *
  refine ⟨?_, by omega⟩
  have e1 : (BitVec.ofInt IntKind.u32.bits (a : Int)).toNat = a := by
    rw [BitVec.toNat_ofInt]; simp only [IntKind.bits]; omega
  have e2 : (BitVec.ofInt IntKind.u32.bits (y : Int)).toNat = y := by
    rw [BitVec.toNat_ofInt]; simp only [IntKind.bits]; omega
  unfold bitsOf
  simp only [BitVec.toNat_or, e1, e2]
  rw [e3, wrap_u32' (by omega)]
  omega
theorem shl_step {A l : List Int} {i : Int} {k : Nat} (hk : k ≤ 31) (hA : Lim A) (hl : Lim l) (h0 : 0 ≤ i) (hi : i < (A.length : Int)) (hll : l.length = A.length + 1) (hlo : ix l i < 2 ^ k) (heq : val (l.take (i.toNat + 1)) = val (A.take i.toNat) * 2 ^ k) {n m : Nat} {x0 : Int} (hn : (n : Int) = i) (hm : (m : Int) = i + 1) (hx0 : x0 = ix l i) :
    let l' := (l.set n (bitsOf .or .u32 x0 (ix A i * 2 ^ k % 4294967296))).set m (ix A i * 2 ^ k / 4294967296)
    Lim l' ∧ ix l' (i + 1) < 2 ^ k ∧ val (l'.take ((i + 1).toNat + 1)) = val (A.take (i + 1).toNat) * 2 ^ k := by
  subst hx0
  have q1 := hA.ix i
  have q2 := shift_bound q1 hk
  have q3 := hl.ix i
  obtain ⟨q4, q5⟩ := or_dvd (l := ix l i) (h := ix A i) hk ⟨q3.1, hlo⟩ q1
  have q6 : (2 : Int) ^ k ≤ 2 ^ 31 := pow2_le hk
  obtain rfl : n = i.toNat := by omega
  obtain rfl : m = i.toNat + 1 := by omega
  have ei : ((i.toNat : Nat) : Int) = i := by omega
  have ei1 : ((i.toNat + 1 : Nat) : Int) = i + 1 := by omega
  have e1 : (i + 1).toNat = i.toNat + 1 := by omega
  rw [q4]
  refine ⟨(hl.set (by omega)).set (by omega), ?_, ?_⟩
  · rw [← ei1, ix_set_same (by simp; omega)]; exact q2.2.2.2
  · rw [e1, val_take_set (by simp; omega), val_take_set (by omega), val_take_succ A, Int.pow_succ, ei]
    rw [val_take_succ, ei] at heq
    have h5 := carry_step (4294967296 ^ i.toNat) (ix A i * 2 ^ k) (ix A i * 2 ^ k / 4294967296) (ix A i * 2 ^ k % 4294967296) (by omega)
    generalize ix A i * 2 ^ k / 4294967296 = u at *
    generalize ix A i * 2 ^ k % 4294967296 = v at *
    generalize (4294967296 : Int) ^ i.toNat = p at *
    generalize (2 : Int) ^ k = z at *
    grind

theorem shr_digit {A : List Int} (hA : Lim A) {i : Int} {k : Nat} (hk : k ≤ 31) (h0 : 0 ≤ i) (hi : i < (A.length : Int)) : val A / 2 ^ k / 4294967296 ^ i.toNat % 4294967296 = (ix A i + ix A (i + 1) * 4294967296) / 2 ^ k % 4294967296 := by
  have e1 : val A / 2 ^ k / 4294967296 ^ i.toNat = val (A.drop i.toNat) / 2 ^ k := by
    rw [Int.ediv_ediv_of_nonneg (Int.le_of_lt (pow2_pos k)), Int.mul_comm, ← Int.ediv_ediv_of_nonneg (Int.le_of_lt (pow_pos' _))]
    congr 1
    have h1 := val_split A i.toNat (by omega)
    have h2 := val_lt (hA.take i.toNat)
    have h3 := val_nonneg (hA.take i.toNat)
    have e : (A.take i.toNat).length = i.toNat := by simp; omega
    rw [e] at h2
    exact (divmod_of (d := 4294967296 ^ i.toNat) (q := val (A.drop i.toNat)) (r := val (A.take i.toNat)) (by omega) h3 h2).1
  have ei : ((i.toNat : Nat) : Int) = i := by omega
  have e2 : ∃ W, val (A.drop i.toNat) = ix A i + ix A (i + 1) * 4294967296 + 18446744073709551616 * W := by
    rw [val_drop A i.toNat (by omega), ei]
    by_cases h : i.toNat + 1 < A.length
    · refine ⟨val (A.drop (i.toNat + 1 + 1)), ?_⟩
      rw [val_drop A (i.toNat + 1) h, show ((i.toNat + 1 : Nat) : Int) = i + 1 by omega]
      omega
    · refine ⟨0, ?_⟩
      rw [List.drop_eq_nil_of_le (by omega), ix_beyond (l := A) (i := i + 1) (by omega)]
      simp [val]
  obtain ⟨W, hW⟩ := e2
  rw [e1, hW]
  have hz : (18446744073709551616 : Int) = 2 ^ k * (4294967296 * 2 ^ (32 - k)) := by
    have : (2 : Int) ^ k * 2 ^ (32 - k) = 4294967296 := by rw [← Int.pow_add, show k + (32 - k) = 32 by omega]; rfl
    have e : (2 : Int) ^ k * (4294967296 * 2 ^ (32 - k)) = 4294967296 * (2 ^ k * 2 ^ (32 - k)) := by grind
    rw [e, this]; rfl
  have hne : (2 : Int) ^ k ≠ 0 := by have := pow2_pos k; omega
  rw [hz, Int.mul_assoc, Int.add_mul_ediv_left _ _ hne, Int.mul_assoc, Int.add_mul_emod_self_left]

end Go.Proofs.Ytglakdnhjpakkaa.K
