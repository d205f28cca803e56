/- Walks: nat.divLong, DivMod. -/
import Derived.Test.YtglakdnhjpakkaaDivK
namespace Go.Proofs.Ytglakdnhjpakkaa.K
open Go
set_option linter.unusedVariables false
set_option linter.unusedSimpArgs false

theorem pow2_32 {k m : Nat} (h : k + m = 32) : (2 : Int) ^ k * 2 ^ m = 4294967296 := by rw [← Int.pow_add, h]; rfl
theorem norm_shift {b : List Int} (hb : Lim b) {n : Nat} (hl : b.length = n + 1) (ht : 1 ≤ ix b n) :
    ∃ k : Nat, 32 - bitlen (ix b n) = (k : Int) ∧ k ≤ 31 ∧ val b * 2 ^ k < 4294967296 ^ (n + 1) ∧ 4294967296 ^ n * 2147483648 ≤ val b * 2 ^ k ∧ 4294967296 ^ n * 2 ^ k ≤ val b * 2 ^ k := by
  have h1 := bitlen_bounds (x := ix b n) (by omega)
  have h2 := bitlen_le (x := ix b n) (k := 32) (by have := hb.ix n; omega)
  have h3 : val (b.take (n + 1)) = _ := val_take_succ b n
  rw [List.take_of_length_le (by omega)] at h3
  have h4 := val_lt (hb.take n)
  rw [show (b.take n).length = n by simp; omega] at h4
  have h5 := val_nonneg (hb.take n)
  obtain ⟨m, hm⟩ : ∃ m : Nat, bitlen (ix b n) = (m : Int) + 1 := ⟨(bitlen (ix b n) - 1).toNat, by omega⟩
  refine ⟨31 - m, by omega, by omega, ?_, ?_, ?_⟩
  rw [Int.pow_succ]
  all_goals
    rw [hm] at h1 h2
    rw [show ((m : Int) + 1 - 1).toNat = m by omega, show ((m : Int) + 1).toNat = m + 1 by omega] at h1
    have hp := pow_pos' n
    have hz := pow2_pos (31 - m)
    have e1 := pow2_32 (k := 31 - m) (m := m + 1) (by omega)
    rw [Int.pow_succ] at e1
    generalize (2 : Int) ^ (31 - m) = z at *
    generalize (4294967296 : Int) ^ n = p at *
    generalize hzm : (2 : Int) ^ m = y at *
  · have h6 : val b < p * (2 * y) := by
      have : p * (ix b n + 1) ≤ p * (2 * y) := Int.mul_le_mul_of_nonneg_left (by rw [Int.pow_succ] at h1; omega) (by omega)
      rw [Int.mul_add] at this
      omega
    have h7 := Int.mul_lt_mul_of_pos_right h6 hz
    have : p * (2 * y) * z = p * 4294967296 := by grind
    omega
  · have h6 : p * y ≤ val b := by
      have : p * y ≤ p * ix b n := Int.mul_le_mul_of_nonneg_left h1.2.1 (by omega)
      omega
    have h7 := Int.mul_le_mul_of_nonneg_right h6 (Int.le_of_lt hz)
    have e2 : z * (y * 2) = 2 * (z * y) := by grind
    have e3 : z * y = 2147483648 := by omega
    have : p * y * z = p * 2147483648 := by rw [← e3]; grind
    omega
  · have h6 : p ≤ val b := by
      have : p * 1 ≤ p * ix b n := Int.mul_le_mul_of_nonneg_left ht (by omega)
      omega
    exact Int.mul_le_mul_of_nonneg_right h6 (Int.le_of_lt hz)

theorem ix_dig {n i : Nat} {v : Int} (h : i < n) : ix (dig n v) i = v / 4294967296 ^ i % 4294967296 := by
  induction n generalizing i v with
  | zero => omega
  | succ n ih =>
    cases i with
    | zero => simp [dig, ix]
    | succ i =>
      have := ih (v := v / 4294967296) (i := i) (by omega)
      simp only [ix, Int.toNat_natCast] at this
      simp only [ix, Int.toNat_natCast, dig, List.getD_cons_succ, this]
      rw [Int.pow_succ, Int.mul_comm, ← Int.ediv_ediv_of_nonneg (by omega)]
theorem dig_take : ∀ {n m : Nat} (v : Int), n ≤ m → (dig m v).take n = dig n v
  | 0, m, v, h => by simp [dig]
  | n + 1, 0, v, h => by omega
  | n + 1, m + 1, v, h => by simp [dig, dig_take (n := n) (m := m) _ (by omega)]
theorem limbs_dig {n : Nat} {v : Int} (h0 : 0 ≤ v) (h : v < 4294967296 ^ n) : limbs (val (dig n v)) = limbs v := by rw [val_dig n v h0 h]

/-- the answer of the division, of the numbers shifted -/
theorem shifted_div {a b : Int} {k : Nat} (hb : 0 < b) : a * 2 ^ k / (b * 2 ^ k) = a / b ∧ a * 2 ^ k % (b * 2 ^ k) = a % b * 2 ^ k := by
  have hz := pow2_pos k
  have h1 := Int.mul_ediv_add_emod a b
  have h2 := Int.emod_nonneg a (show b ≠ 0 by omega)
  have h3 := Int.emod_lt_of_pos a hb
  refine divmod_of (d := b * 2 ^ k) (q := a / b) (r := a % b * 2 ^ k) ?_ (Int.mul_nonneg h2 (Int.le_of_lt hz)) (Int.mul_lt_mul_of_pos_right h3 hz)
  generalize (2 : Int) ^ k = z at *
  generalize a / b = q at *
  generalize a % b = r at *
  rw [← h1]; grind

theorem top_init {l : List Int} (hl : Lim l) {s n la : Nat} {z V : Int} (hs : s + n = la) (hsl : s ≤ l.length) (h : val l < 4294967296 ^ la * z) (hV : 4294967296 ^ n * z ≤ V) : val (l.drop s) < V := by
  have h1 := val_split l s hsl
  have h2 := val_nonneg (hl.take s)
  have h3 := pow_pos' s
  rw [← hs, Int.pow_add, Int.mul_assoc] at h
  have h4 : val (l.drop s) < 4294967296 ^ n * z := by
    refine Int.lt_of_mul_lt_mul_left (a := 4294967296 ^ s) ?_ (Int.le_of_lt h3)
    omega
  omega
theorem seg_split (l : List Int) (J N : Nat) : l.take J ++ (l.drop J).take N ++ l.drop (J + N) = l := by
  rw [List.append_assoc, ← List.drop_drop, List.take_append_drop, List.take_append_drop]
theorem top_digit {n N : Nat} {V : Int} (hN : N = n + 1) (h : V < 4294967296 ^ N) (h2 : 4294967296 ^ n * 2147483648 ≤ V) : 2147483648 ≤ ix (dig N V) (N - 1) := by
  subst hN
  rw [show ((n + 1 : Nat) : Int) - 1 = n by omega, ix_dig (by omega)]
  have hp := pow_pos' n
  have h3 : 2147483648 ≤ V / 4294967296 ^ n := by rw [Int.le_ediv_iff_mul_le hp, Int.mul_comm]; exact h2
  have h4 : V / 4294967296 ^ n < 4294967296 := Int.ediv_lt_of_lt_mul hp (by rw [Int.pow_succ] at h; rw [Int.mul_comm]; exact h)
  omega

theorem limbs_nil {n : Int} (h0 : 0 ≤ n) : (limbs n).length = 0 ↔ n = 0 := by
  constructor
  · intro h
    have := List.eq_nil_of_length_eq_zero h
    rw [← val_limbs h0, this]; rfl
  · intro h; subst h; rw [limbs_zero]; rfl
theorem limbs_top {n : Int} (h : 0 < (limbs n).length) : 1 ≤ ix (limbs n) ((limbs n).length - 1) := by
  have h0 : 0 < n := by
    rcases Int.lt_or_le 0 n with h1 | h1
    · exact h1
    · rw [limbs_le h1] at h; simp at h
  have h1 := (Lim.limbs n).ix ((limbs n).length - 1)
  have h2 := trim_eq (Lim.limbs n)
  rw [val_limbs (by omega)] at h2
  have h3 := trim_step h
  rcases Int.lt_or_le 0 (ix (limbs n) ((limbs n).length - 1)) with h4 | h4
  · omega
  · exfalso
    rw [if_pos (by omega), h2] at h3
    have h5 := trim_length_le ((limbs n).take ((limbs n).length - 1))
    rw [← h3] at h5
    simp at h5
    omega
theorem limbs_one {n : Int} (h0 : 0 ≤ n) (h : (limbs n).length = 1) : ix (limbs n) 0 = n := by
  obtain ⟨x, hx⟩ := List.length_eq_one_iff.1 h
  have := val_limbs h0
  rw [hx] at this ⊢
  simp [val] at this
  simp [ix, this]

end Go.Proofs.Ytglakdnhjpakkaa.K
