/- Walks: the reference of layer 1 (examboardref01): Bits, short, Shift, half, DivMod, Gcd. -/
import Derived.Test.YtekbfndgmjiciaaDoorWalkL
namespace Go.Proofs.YtekbfndgmjiciaaDoor.K
open Go
set_option linter.unusedVariables false
set_option linter.unusedSimpArgs false

theorem bitlen_half {x : Int} (h : 0 < x) : bitlen x = bitlen (x / 2) + 1 := by
  by_cases h1 : 2 ≤ x
  · have := bitlen_shift (x := x) (k := 1) (by omega)
    simpa using this
  · have : x = 1 := by omega
    subst this; decide
theorem ix_rep (n : Nat) (i : Int) : ix (List.replicate n 0) i = 0 := by
  unfold ix
  rw [List.getD_eq_getElem?_getD, List.getElem?_replicate]
  split <;> rfl
theorem ix_drop (l : List Int) (q : Nat) (i : Int) (h : 0 ≤ i) : ix (l.drop q) i = ix l (q + i) := by
  unfold ix
  rw [List.getD_eq_getElem?_getD, List.getD_eq_getElem?_getD, List.getElem?_drop]
  congr 2; omega
theorem bitlen_eq_zero {x : Int} (h : 0 ≤ x) : bitlen x = 0 ↔ x = 0 := by
  constructor
  · intro h1
    rcases Int.lt_or_eq_of_le h with h2 | h2
    · have := (bitlen_bounds h2).1; omega
    · exact h2.symm
  · intro h1; subst h1; rfl
theorem bitlen_zero : bitlen 0 = 0 := rfl
theorem bitlen_top {x : Int} (h : 0 < (limbs x).length) : bitlen x = 32 * (((limbs x).length : Int) - 1) + bitlen (ix (limbs x) (((limbs x).length : Int) - 1)) := by
  have hx : 0 < x := by
    rcases Int.lt_or_le 0 x with h1 | h1
    · exact h1
    · rw [limbs_le h1] at h; simp at h
  have ht := limbs_top h
  obtain ⟨n, hn⟩ : ∃ n : Nat, (limbs x).length = n + 1 := ⟨(limbs x).length - 1, by omega⟩
  have hs := val_split (limbs x) n (by omega)
  rw [val_limbs (by omega)] at hs
  have hd := val_drop' (limbs x) n
  rw [List.drop_eq_nil_of_le (show (limbs x).length ≤ n + 1 by omega)] at hd
  simp only [val, Int.mul_zero, Int.add_zero] at hd
  rw [hn] at ht ⊢
  rw [show ((n + 1 : Nat) : Int) - 1 = n by omega] at ht ⊢
  rw [hd] at hs
  have h2 := val_lt ((Lim.limbs x).take n)
  have h3 := val_nonneg ((Lim.limbs x).take n)
  have e : ((limbs x).take n).length = n := by simp; omega
  rw [e] at h2
  have hp : (4294967296 : Int) ^ n = 2 ^ (32 * n) := by rw [Int.pow_mul]; rfl
  have hq : x / 2 ^ (32 * n) = ix (limbs x) n := by
    rw [← hp]
    exact (divmod_of (d := 4294967296 ^ n) (q := ix (limbs x) n) (r := val ((limbs x).take n)) (by omega) h3 h2).1
  have hle : (2 : Int) ^ (32 * n) ≤ x := by
    rw [← hp]
    have hpp := pow_pos' n
    have : (4294967296 : Int) ^ n * 1 ≤ 4294967296 ^ n * ix (limbs x) n := Int.mul_le_mul_of_nonneg_left ht (by omega)
    omega
  rw [bitlen_shift hle, hq]
  omega

section
variable {a b : List Int} {x y : Int} {k m : Nat}
theorem or_bit {L : Int} {k : Nat} (hk : k ≤ 31) (hL : 0 ≤ L ∧ L < 4294967296) (hd : (2 : Int) ^ (k + 1) ∣ L) : bitsOf .or .u32 L (2 ^ k) = L + 2 ^ k ∧ L + 2 ^ k < 4294967296 := by
  obtain ⟨c, hc⟩ := hd
  have hp := pow2_pos k
  have h31 := pow2_le hk
  have hc0 : 0 ≤ c := by
    rcases Int.lt_or_le c 0 with h | h
    · have h2 := Int.mul_le_mul_of_nonneg_left (show c ≤ -1 by omega) (Int.le_of_lt (pow2_pos (k + 1)))
      have := pow2_pos (k + 1)
      omega
    · exact h
  obtain ⟨n, rfl⟩ := Int.eq_ofNat_of_zero_le hc0
  have eL : L = ((2 ^ (k + 1) * n : Nat) : Int) := by rw [hc]; simp
  have e2 : (2 : Int) ^ k = ((2 ^ k : Nat) : Int) := by simp
  rw [e2] at *
  have hlt : 2 ^ (k + 1) * n + 2 ^ k < 4294967296 := by
    have h1 : (4294967296 : Nat) = 2 ^ (k + 1) * 2 ^ (31 - k) := by rw [← Nat.pow_add, show k + 1 + (31 - k) = 32 by omega]
    have h2 : 2 ^ (k + 1) * n < 2 ^ (k + 1) * 2 ^ (31 - k) := by rw [← h1]; omega
    have h3 : n < 2 ^ (31 - k) := Nat.lt_of_mul_lt_mul_left h2
    have h4 : 2 ^ (k + 1) * (n + 1) ≤ 2 ^ (k + 1) * 2 ^ (31 - k) := Nat.mul_le_mul_left _ h3
    rw [← h1, Nat.mul_add, Nat.mul_one] at h4
    have h5 : 2 ^ (k + 1) = 2 ^ k * 2 := Nat.pow_succ ..
    have h6 := Nat.two_pow_pos k
    omega
  have hor : (2 ^ (k + 1) * n) ||| 2 ^ k = 2 ^ (k + 1) * n + 2 ^ k := by
    rw [← Nat.two_pow_add_eq_or_of_lt (Nat.pow_lt_pow_right (by omega) (by omega))]
  rw [eL]
  generalize 2 ^ (k + 1) * n = u at *
  generalize 2 ^ k = v at *
  have e3 : (BitVec.ofInt IntKind.u32.bits (u : Int)).toNat = u := by rw [BitVec.toNat_ofInt]; simp only [IntKind.bits]; omega
  have e4 : (BitVec.ofInt IntKind.u32.bits (v : Int)).toNat = v := by rw [BitVec.toNat_ofInt]; simp only [IntKind.bits]; omega
  refine ⟨?_, by omega⟩
  unfold bitsOf
  simp only [BitVec.toNat_or, e3, e4]
  rw [hor, wrap_u32' (by omega)]
  omega
/-- the bit i of a row whose lower bits are 0 -/
theorem bit_step {l : List Int} (hl : Lim l) {i : Int} (h0 : 0 ≤ i) {j : Nat} (hj : (j : Int) = i / 32) (hjl : j < l.length) (hd : (2 : Int) ^ (i.toNat + 1) ∣ val l) :
    (2 : Int) ^ ((i % 32).toNat + 1) ∣ ix l j ∧ val (l.set j (ix l j + 2 ^ (i % 32).toNat)) = val l + 2 ^ i.toNat := by
  have hs := val_split l j (by omega)
  have hdr := val_drop l j hjl
  have ht1 := val_nonneg (hl.take j)
  have ht2 := val_lt (hl.take j)
  have e : (l.take j).length = j := by simp; omega
  rw [e] at ht2
  have hB : (4294967296 : Int) ^ j = 2 ^ (32 * j) := by rw [Int.pow_mul]; rfl
  have hi : i.toNat = 32 * j + (i % 32).toNat := by omega
  generalize hr : (i % 32).toNat = r at *
  have hr31 : r ≤ 31 := by omega
  have hB2 : (2 : Int) ^ (i.toNat + 1) = 4294967296 ^ j * 2 ^ (r + 1) := by rw [hB, ← Int.pow_add]; congr 1; omega
  have hp := pow_pos' j
  constructor
  · obtain ⟨c, hc⟩ := hd
    rw [hB2] at hc
    have t0 : val (l.take j) = 0 := by
      have h1 : (4294967296 : Int) ^ j ∣ val (l.take j) := by
        have : val (l.take j) = 4294967296 ^ j * (2 ^ (r + 1) * c - val (l.drop j)) := by rw [Int.mul_sub]; rw [← Int.mul_assoc]; omega
        exact ⟨_, this⟩
      have := Int.emod_eq_zero_of_dvd h1
      rwa [Int.emod_eq_of_lt ht1 ht2] at this
    have h2 : val (l.drop j) = 2 ^ (r + 1) * c := by
      have : 4294967296 ^ j * val (l.drop j) = 4294967296 ^ j * (2 ^ (r + 1) * c) := by rw [← Int.mul_assoc]; omega
      exact Int.eq_of_mul_eq_mul_left (by omega) this
    have h3 : (4294967296 : Int) = 2 ^ (r + 1) * 2 ^ (31 - r) := by rw [← Int.pow_add, show r + 1 + (31 - r) = 32 by omega]; rfl
    refine ⟨c - 2 ^ (31 - r) * val (l.drop (j + 1)), ?_⟩
    rw [Int.mul_sub, ← Int.mul_assoc, ← h3]; omega
  · have h1 := val_take_set_lt (l := l) (p := j) (n := l.length) (v := ix l j + 2 ^ r) hjl hjl
    rw [List.take_of_length_le (by simp), List.take_of_length_le (Nat.le_refl _)] at h1
    rw [h1, show i.toNat = 32 * j + r by omega, Int.pow_add, ← hB]
    grind

theorem bitlen_lt {x y : Int} (hx : 0 ≤ x) (h : bitlen x < bitlen y) : x < y := by
  have hy : 0 < y := by
    rcases Int.lt_or_le 0 y with h1 | h1
    · exact h1
    · have h2 : bitlen y = 0 := by unfold bitlen; rw [if_pos h1]
      have := bitlen_nonneg x
      omega
  obtain ⟨b1, b2, b3⟩ := bitlen_bounds hy
  rcases Int.lt_or_eq_of_le hx with h1 | h1
  · obtain ⟨c1, c2, c3⟩ := bitlen_bounds h1
    have := pow2_le (show (bitlen x).toNat ≤ (bitlen y - 1).toNat by omega)
    omega
  · omega
theorem div_init {x y : Int} (hx : 0 ≤ x) (hy : 0 < y) {n : Nat} (hn : (n : Int) = bitlen x - bitlen y) {k : Nat} (hk : bitlen x ≤ 32 * k) : x < y * 2 ^ (n + 1) ∧ y * 2 ^ n < 4294967296 ^ (k + 1) := by
  obtain ⟨b1, b2, b3⟩ := bitlen_bounds hy
  have hb := bitlen_nonneg x
  have hp := pow2_pos (n + 1)
  have hx2 : x < 2 ^ (bitlen x).toNat := by
    rcases Int.lt_or_eq_of_le hx with h1 | h1
    · exact (bitlen_bounds h1).2.2
    · rw [← h1]; exact pow2_pos _
  constructor
  · have h1 : (2 : Int) ^ (bitlen y - 1).toNat * 2 ^ (n + 1) ≤ y * 2 ^ (n + 1) := Int.mul_le_mul_of_nonneg_right b2 (by omega)
    rw [← Int.pow_add, show (bitlen y - 1).toNat + (n + 1) = (bitlen x).toNat by omega] at h1
    omega
  · have h1 : y * 2 ^ n < 2 ^ (bitlen y).toNat * 2 ^ n := Int.mul_lt_mul_of_pos_right b3 (pow2_pos n)
    rw [← Int.pow_add, show (bitlen y).toNat + n = (bitlen x).toNat by omega] at h1
    have h2 := pow2_le (show (bitlen x).toNat ≤ 32 * k by omega)
    rw [Int.pow_mul] at h2
    have h3 := pow_mono (Nat.le_succ k)
    simp only [Nat.succ_eq_add_one] at h3
    have : (2 : Int) ^ 32 = 4294967296 := rfl
    rw [this] at h2
    omega

end
end Go.Proofs.YtekbfndgmjiciaaDoor.K
