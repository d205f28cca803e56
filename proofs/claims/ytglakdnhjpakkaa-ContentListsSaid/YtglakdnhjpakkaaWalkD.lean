/- Walks: math/bits.Len32, LeadingZeros32; nat.estimate, subtract, addBack. -/
import Derived.Test.YtglakdnhjpakkaaWalkC
namespace Go.Proofs.Ytglakdnhjpakkaa.K
open Go
set_option linter.unusedVariables false
set_option linter.unusedSimpArgs false

def lenTab : List UInt8 := (List.range 256).map fun n => UInt8.ofNat (if n = 0 then 0 else Nat.log2 n + 1)
theorem lenTab_at {l : List UInt8} (h : l = lenTab) {x : Int} (h0 : 0 ≤ x) (h1 : x < 256) : l[x.toNat]? = some (UInt8.ofNat (bitlen x).toNat) := by
  subst h
  obtain ⟨n, rfl⟩ := Int.eq_ofNat_of_zero_le h0
  have hn : n < 256 := by omega
  rw [bitlen_nat]
  simp only [lenTab, List.getElem?_map, Int.toNat_natCast]
  rw [List.getElem?_range hn]
  simp only [Option.map_some]
  congr 2
  split <;> omega
theorem len_byte {x : Int} (h0 : 0 ≤ x) (h1 : x < 256) : ((UInt8.ofNat (bitlen x).toNat).toNat : Int) = bitlen x ∧ 0 ≤ bitlen x ∧ bitlen x ≤ 8 := by
  have h2 := bitlen_nonneg x
  have h3 := bitlen_le (x := x) (k := 8) (by omega)
  refine ⟨?_, h2, h3⟩
  simp [UInt8.toNat_ofNat']
  omega
theorem ix_seg {pre x post : List Int} {i : Int} (h0 : 0 ≤ i) (hi : i < (x.length : Int)) : ix (pre ++ x ++ post) ((pre.length + i.toNat : Nat) : Int) = ix x i := by
  simp only [ix, Int.toNat_natCast, List.getD_eq_getElem?_getD]
  rw [List.getElem?_append_left (by simp; omega), List.getElem?_append_right (by omega)]
  congr 2; omega
theorem set_seg {pre x post : List Int} {i : Nat} {v : Int} (hi : i < x.length) : (pre ++ x ++ post).set (pre.length + i) v = pre ++ x.set i v ++ post := by
  rw [List.set_append_left _ _ (by simp; omega), List.set_append_right _ _ (by omega)]
  congr 3; omega
theorem subm_step {m x C : List Int} {i c b q p t : Int} (h0 : 0 ≤ i) (hi : i < (x.length : Int)) (hb : 0 ≤ b ∧ b ≤ 1) (hx : 0 ≤ ix x i ∧ ix x i < 4294967296) (hxm : ix x i = ix m i)
    (heq : val (x.take i.toNat) + q * val (C.take i.toNat) = val (m.take i.toNat) + 4294967296 ^ i.toNat * (c + b)) (hp : p = q * ix C i + c) (ht : t = (ix x i - p % 4294967296 - b) % 18446744073709551616) :
    val ((x.set i.toNat (t % 4294967296)).take (i + 1).toNat) + q * val (C.take (i + 1).toNat) = val (m.take (i + 1).toNat) + 4294967296 ^ (i + 1).toNat * (p / 4294967296 + t / 9223372036854775808) := by
  have e : (i + 1).toNat = i.toNat + 1 := by omega
  have ei : ((i.toNat : Nat) : Int) = i := by omega
  rw [e, val_take_set (by omega), val_take_succ, val_take_succ, Int.pow_succ, ei]
  have h2 : t % 4294967296 + q * ix C i + c = ix m i - b + 4294967296 * (p / 4294967296 + t / 9223372036854775808) := by omega
  generalize (4294967296 : Int) ^ i.toNat = z at *
  generalize t % 4294967296 = u at *
  generalize p / 4294967296 + t / 9223372036854775808 = v at *
  grind
theorem drop_set_lt {l : List Int} {n k : Nat} {v : Int} (h : n < k) : (l.set n v).drop k = l.drop k := List.drop_set_of_lt h
theorem ix_of_drop {x m : List Int} {i j : Nat} (h : x.drop i = m.drop i) (hij : i ≤ j) : ix x j = ix m j := by
  simp only [ix, Int.toNat_natCast, List.getD_eq_getElem?_getD]
  have h1 : (x.drop i)[j - i]? = (m.drop i)[j - i]? := by rw [h]
  rw [List.getElem?_drop, List.getElem?_drop] at h1
  rw [show i + (j - i) = j by omega] at h1
  rw [h1]

theorem subm_done {y m C : List Int} {q g : Int} {n : Nat} (hy : Lim y) (hyn : y.length = n + 1) (hm : Lim m) (hg : 0 ≤ g ∧ g ≤ 1) (heq : val y + q * val C = val m + 4294967296 ^ (n + 1) * g) :
    y = dig (n + 1) (val m - q * val C + if val m < q * val C then 4294967296 ^ (n + 1) else 0) ∧ (g ≠ 0 ↔ val m < q * val C) := by
  have h1 := val_lt hy
  have h2 := val_nonneg hy
  have h3 := val_nonneg hm
  rw [hyn] at h1
  have key : g ≠ 0 ↔ val m < q * val C := by
    rcases (by omega : g = 0 ∨ g = 1) with h | h
    · subst h; simp; omega
    · subst h; simp; omega
  refine ⟨dig_eq hy hyn ?_, key⟩
  rcases (by omega : g = 0 ∨ g = 1) with h | h
  · subst h; rw [if_neg (by simpa using key)]; omega
  · subst h; rw [if_pos (by simpa using key)]; omega
theorem dig_add_mul : ∀ (n : Nat) (v w : Int), dig n (v + 4294967296 ^ n * w) = dig n v
  | 0, v, w => rfl
  | n + 1, v, w => by
    have e : (4294967296 : Int) ^ (n + 1) * w = 4294967296 * (4294967296 ^ n * w) := by rw [Int.pow_succ]; grind
    simp only [dig]
    rw [e, show (v + 4294967296 * (4294967296 ^ n * w)) / 4294967296 = v / 4294967296 + 4294967296 ^ n * w by omega, dig_add_mul n, show (v + 4294967296 * (4294967296 ^ n * w)) % 4294967296 = v % 4294967296 by omega]

end Go.Proofs.Ytglakdnhjpakkaa.K
