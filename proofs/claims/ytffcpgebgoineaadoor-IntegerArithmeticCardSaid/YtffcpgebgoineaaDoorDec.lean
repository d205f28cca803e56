/- Decimals written: plain laws. -/
import Derived.Test.YtffcpgebgoineaaDoorNum
import Derived.Lib.ItoaNum
namespace Go.Proofs.YtffcpgebgoineaaDoor.K
open Go
set_option linter.unusedVariables false
set_option linter.unusedSimpArgs false

/-- the digits of a natural number -/
def decD (x : Int) : List UInt8 := Lib.decDigits x.toNat
theorem decD_small {x : Int} (h : 0 ≤ x) (h2 : x < 10) : decD x = [UInt8.ofNat (48 + x.toNat)] := by
  rw [decD, Lib.decDigits, dif_pos (by omega)]
theorem decD_big {x : Int} (h : 10 ≤ x) : decD x = decD (x / 10) ++ [UInt8.ofNat (48 + (x % 10).toNat)] := by
  have e1 : (x / 10).toNat = x.toNat / 10 := by omega
  have e2 : (x % 10).toNat = x.toNat % 10 := by omega
  rw [decD, Lib.decDigits, dif_neg (by omega), decD, e1, e2]
theorem decD_zero : decD 0 = [48] := by rw [decD_small (by omega) (by omega)]; rfl
/-- just k digits -/
def pk : Nat → Int → List UInt8
  | 0, _ => []
  | k + 1, r => pk k (r / 10) ++ [UInt8.ofNat (48 + (r % 10).toNat)]
theorem pk_length (k : Nat) (r : Int) : (pk k r).length = k := by
  induction k generalizing r with
  | zero => rfl
  | succ k ih => simp [pk, ih]
theorem decD_pk {h : Int} (hh : 0 < h) (k : Nat) (r : Int) (hr : 0 ≤ r) (hr2 : r < 10 ^ k) : decD (h * 10 ^ k + r) = decD h ++ pk k r := by
  induction k generalizing r with
  | zero => simp only [pk, List.append_nil, Int.pow_zero] at *; congr 1; omega
  | succ k ih =>
    have hp : (0 : Int) < 10 ^ k := Int.pow_pos (by omega)
    rw [Int.pow_succ] at hr2 ⊢
    have hq : h * (10 ^ k * 10) = h * 10 ^ k * 10 := by rw [Int.mul_assoc]
    have hge : 1 ≤ h * 10 ^ k := by
      have : 1 * 1 ≤ h * 10 ^ k := Int.mul_le_mul (by omega) (by omega) (by omega) (by omega)
      omega
    rw [hq]
    rw [decD_big (by omega)]
    have e1 : (h * 10 ^ k * 10 + r) / 10 = h * 10 ^ k + r / 10 := by omega
    have e2 : (h * 10 ^ k * 10 + r) % 10 = r % 10 := by omega
    rw [e1, e2, ih (r / 10) (by omega) (by omega), pk, List.append_assoc]
theorem pk_zero (k : Nat) : pk k 0 = List.replicate k 48 := by
  induction k with
  | zero => rfl
  | succ k ih =>
    rw [pk, show (0 : Int) / 10 = 0 by rfl, ih]
    rw [List.replicate_succ']; rfl
theorem decD_le {k : Nat} (hk : 0 < k) {r : Int} (hr : 0 ≤ r) (h : r < 10 ^ k) : (decD r).length ≤ k := by
  induction k generalizing r with
  | zero => omega
  | succ k ih =>
    by_cases h1 : r < 10
    · rw [decD_small hr h1]; simp
    · rw [Int.pow_succ] at h
      rw [decD_big (by omega)]
      have hk0 : 0 < k := by
        rcases Nat.eq_zero_or_pos k with h0 | h0
        · subst h0; simp at h; omega
        · exact h0
      have := ih hk0 (r := r / 10) (by omega) (by omega)
      simp; omega
theorem pk_pad {k : Nat} (hk : 0 < k) {r : Int} (hr : 0 ≤ r) (h : r < 10 ^ k) : pk k r = List.replicate (k - (decD r).length) 48 ++ decD r := by
  induction k generalizing r with
  | zero => omega
  | succ k ih =>
    rw [pk]
    by_cases h1 : r < 10
    · rw [show r / 10 = 0 by omega, pk_zero, decD_small hr h1, show r % 10 = r by omega]
      simp
    · rw [Int.pow_succ] at h
      have hk0 : 0 < k := by
        rcases Nat.eq_zero_or_pos k with h0 | h0
        · subst h0; simp at h; omega
        · exact h0
      rw [ih hk0 (r := r / 10) (by omega) (by omega), decD_big (show 10 ≤ r by omega), List.append_assoc]
      simp
theorem decD_group {x : Int} (h : 0 < x / 1000000000) : decD x = decD (x / 1000000000) ++ (List.replicate (9 - (decD (x % 1000000000)).length) 48 ++ decD (x % 1000000000)) := by
  have h1 := Int.mul_ediv_add_emod x 1000000000
  have h2 := decD_pk h 9 (x % 1000000000) (by omega) (by omega)
  rw [← pk_pad (by omega) (by omega) (by omega), ← h2]
  congr 1
  omega

/-- groups of nine digits, the lowest first -/
def grpF : Nat → Int → List Int
  | 0, _ => []
  | n + 1, x => if x ≤ 0 then [] else (x % 1000000000) :: grpF n (x / 1000000000)
def grp (x : Int) : List Int := grpF (x.toNat + 1) x
theorem grpF_eq : ∀ (n m : Nat) (x : Int), x.toNat < n → x.toNat < m → grpF n x = grpF m x
  | 0, _, _, h, _ => by omega
  | _, 0, _, _, h => by omega
  | n + 1, m + 1, x, h1, h2 => by
    simp only [grpF]
    split
    · rfl
    · rw [grpF_eq n m (x / 1000000000) (by omega) (by omega)]
theorem grp_pos {x : Int} (h : 0 < x) : grp x = (x % 1000000000) :: grp (x / 1000000000) := by
  rw [grp, grpF, if_neg (by omega), grp]
  congr 1
  exact grpF_eq _ _ _ (by omega) (by omega)
theorem grp_nil {x : Int} (h : x ≤ 0) : grp x = [] := by rw [grp, grpF, if_pos h]
theorem grp_range (x : Int) (n : Nat) (hn : x.toNat ≤ n) : ∀ g ∈ grp x, 0 ≤ g ∧ g < 1000000000 := by
  induction n generalizing x with
  | zero => rw [grp_nil (by omega)]; simp
  | succ n ih =>
    by_cases h : 0 < x
    · rw [grp_pos h]
      intro g hg
      rcases List.mem_cons.1 hg with rfl | hg
      · omega
      · exact ih (x / 1000000000) (by omega) g hg
    · rw [grp_nil (by omega)]; simp
theorem grp_len {x : Int} {m : Nat} (h : x < 1000000000 ^ m) : (grp x).length ≤ m := by
  induction m generalizing x with
  | zero => rw [grp_nil (by simp at h; omega)]; simp
  | succ m ih =>
    by_cases h0 : 0 < x
    · rw [grp_pos h0]
      rw [Int.pow_succ] at h
      have := ih (x := x / 1000000000) (by omega)
      simp; omega
    · rw [grp_nil (by omega)]; simp
theorem grp_len_limbs {x : Int} {k : Nat} (h : x < 4294967296 ^ k) : (grp x).length ≤ 2 * k := by
  apply grp_len
  have h1 : (4294967296 : Int) ^ k ≤ 1000000000 ^ (2 * k) := by
    rw [Int.pow_mul]
    have : ∀ n : Nat, (4294967296 : Int) ^ n ≤ (1000000000 ^ 2) ^ n := by
      intro n
      induction n with
      | zero => simp
      | succ n ih =>
        rw [Int.pow_succ, Int.pow_succ]
        have h0 : (0 : Int) ≤ 4294967296 ^ n := Int.le_of_lt (Int.pow_pos (by omega))
        exact Int.mul_le_mul ih (by omega) (by omega) (by omega)
    exact this k
  omega
/-- what lies above the first i groups -/
def hiG (x : Int) : Nat → Int
  | 0 => x
  | n + 1 => hiG x n / 1000000000
theorem hiG_succ' (x : Int) (n : Nat) : hiG x (n + 1) = hiG (x / 1000000000) n := by
  induction n with
  | zero => rfl
  | succ n ih => rw [hiG, ih, hiG]
theorem grp_get {x : Int} {i : Nat} (h : i < (grp x).length) : (grp x)[i] = hiG x i % 1000000000 ∧ 0 < hiG x i := by
  induction i generalizing x with
  | zero =>
    have h0 : 0 < x := by
      rcases Int.lt_or_le 0 x with h0 | h0
      · exact h0
      · rw [grp_nil h0] at h; simp at h
    simp only [grp_pos h0, hiG]
    exact ⟨rfl, h0⟩
  | succ i ih =>
    have h0 : 0 < x := by
      rcases Int.lt_or_le 0 x with h0 | h0
      · exact h0
      · rw [grp_nil h0] at h; simp at h
    have hl : i < (grp (x / 1000000000)).length := by rw [grp_pos h0] at h; simpa using h
    have h1 := ih hl
    rw [hiG_succ']
    simp only [grp_pos h0, List.getElem_cons_succ]
    exact h1
theorem hiG_top (x : Int) (n : Nat) (hn : (grp x).length ≤ n) : hiG x n ≤ 0 := by
  induction n generalizing x with
  | zero =>
    rcases Int.lt_or_le 0 x with h0 | h0
    · rw [grp_pos h0] at hn; simp at hn
    · exact h0
  | succ n ih =>
    rw [hiG_succ']
    by_cases h0 : 0 < x
    · rw [grp_pos h0] at hn
      exact ih _ (by simpa using hn)
    · exact ih _ (by rw [grp_nil (by omega)]; simp)
theorem decD_le_limbs {x : Int} {k : Nat} (h0 : 0 < x) (h : x < 4294967296 ^ k) : (decD x).length ≤ 10 * k := by
  have hk : 0 < k := by
    rcases Nat.eq_zero_or_pos k with h1 | h1
    · subst h1; simp at h; omega
    · exact h1
  apply decD_le (by omega) (by omega)
  have h1 : (4294967296 : Int) ^ k ≤ 10 ^ (10 * k) := by
    rw [Int.pow_mul]
    have : ∀ n : Nat, (4294967296 : Int) ^ n ≤ (10 ^ 10) ^ n := by
      intro n
      induction n with
      | zero => simp
      | succ n ih =>
        rw [Int.pow_succ, Int.pow_succ]
        have h0 : (0 : Int) ≤ 4294967296 ^ n := Int.le_of_lt (Int.pow_pos (by omega))
        exact Int.mul_le_mul ih (by omega) (by omega) (by omega)
    exact this k
  omega
/-- the digits of what is left, and those that were taken off -/
def leftD (y : Int) : List Int := if y = 0 then [] else (decD y).map fun c => (c.toNat : Int)
theorem digit_byte {r : Int} (h0 : 0 ≤ r) (h : r < 10) : ((UInt8.ofNat (48 + r.toNat)).toNat : Int) = 48 + r := by
  have : (UInt8.ofNat (48 + r.toNat)).toNat = (48 + r.toNat) % 256 := by simp
  rw [this]; omega
theorem leftD_step {y : Int} (h : 0 < y) : leftD y = leftD (y / 10) ++ [48 + y % 10] := by
  rw [leftD, if_neg (by omega)]
  by_cases h1 : y < 10
  · rw [show y / 10 = 0 by omega, leftD, if_pos rfl, decD_small (by omega) h1]
    simp only [List.map_cons, List.map_nil, List.nil_append]
    rw [digit_byte (by omega) h1, show y % 10 = y by omega]
  · rw [decD_big (by omega), leftD, if_neg (by omega)]
    simp only [List.map_append, List.map_cons, List.map_nil]
    rw [digit_byte (by omega) (by omega)]
/-- writing from the back -/
theorem set_back {B : List Int} {i : Nat} (h : i < B.length) : (List.replicate (B.length - i) 0 ++ (B.take i).reverse).set (B.length - 1 - i) B[i] = List.replicate (B.length - (i + 1)) 0 ++ (B.take (i + 1)).reverse := by
  rw [List.take_succ_eq_append_getElem h, List.reverse_append]
  have e : B.length - i = (B.length - (i + 1)) + 1 := by omega
  rw [e, List.replicate_succ', List.append_assoc]
  rw [List.set_append_right _ _ (by simp; omega)]
  simp only [List.length_replicate]
  rw [show B.length - 1 - i - (B.length - (i + 1)) = 0 by omega]
  rfl
end Go.Proofs.YtffcpgebgoineaaDoor.K
