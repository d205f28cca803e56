/- Rational numbers as the program holds them: a sign, limbs of the numerator, limbs of the denominator. Nothing of any program stands here. -/
import Derived.Test.YtffcpgebgoineaaDoorSz
namespace Go.Proofs.YtffcpgebgoineaaDoor.K
open Go
set_option linter.unusedVariables false
set_option linter.unusedSimpArgs false

/-- the datum of a rational number, in normal form -/
abbrev ratD (q : Rat) : D := .agg [.bool (decide (q.num < 0)), .ints .u32 (limbs q.num.natAbs), .ints .u32 (limbs q.den)]

theorem rat_of {u v : Int} (hv : 0 < v) : (Rat.divInt u v).num = u / (Int.gcd v u : Nat) ∧ ((Rat.divInt u v).den : Int) = v / (Int.gcd v u : Nat) := by
  rw [Rat.num_divInt, Rat.den_divInt, if_neg (by omega)]
  refine ⟨by rw [Int.sign_eq_one_of_pos hv, Int.one_mul], ?_⟩
  have : ((v.natAbs : Nat) : Int) = v := by omega
  rw [Int.natCast_ediv, this]
theorem rat_self (q : Rat) : Rat.divInt q.num q.den = q := Rat.num_divInt_den q

/-- numerator and denominator are below these powers of the base -/
class SzR (q : Rat) (k : outParam Nat) : Prop where
  num : (q.num.natAbs : Int) < 4294967296 ^ k
  den : (q.den : Int) < 4294967296 ^ k
/-- a number in any form: its value, and how many limbs a part has at most -/
class RA (s : Bool) (l d : List Int) (q : outParam Rat) (k : outParam Nat) : Prop where
  v : Rat.divInt (sI s l) (val d) = q
  hl : l.length ≤ k
  hd : d.length ≤ k

theorem SzR.mono {q : Rat} {k m : Nat} (h : SzR q k) (hm : k ≤ m) : SzR q m :=
  ⟨Int.lt_of_lt_of_le h.num (pow_mono hm), Int.lt_of_lt_of_le h.den (pow_mono hm)⟩
theorem SzR.lens {q : Rat} {k : Nat} (h : SzR q k) : (limbs q.num.natAbs).length ≤ k ∧ (limbs q.den).length ≤ k := ⟨limbs_length_le h.num, limbs_length_le h.den⟩

instance RA.ratD (q : Rat) (k : Nat) [h : SzR q k] : RA (decide (q.num < 0)) (limbs q.num.natAbs) (limbs q.den) q k :=
  ⟨by rw [sI_norm, val_limbs (by omega), rat_self], h.lens.1, h.lens.2⟩

theorem div_natAbs_le (u : Int) (g : Nat) : ((u / (g : Int)).natAbs : Int) ≤ u.natAbs := by
  have := Int.natAbs_ediv_le_natAbs u g
  omega
/-- a quotient of numbers below a power of the base -/
theorem SzR.divInt {u v : Int} {k : Nat} (hv : 0 < v) (h1 : (u.natAbs : Int) < 4294967296 ^ k) (h2 : v < 4294967296 ^ k) : SzR (Rat.divInt u v) k := by
  obtain ⟨e1, e2⟩ := rat_of (u := u) hv
  refine ⟨?_, ?_⟩
  · rw [e1]; exact Int.lt_of_le_of_lt (div_natAbs_le _ _) h1
  · rw [e2]
    have := Int.ediv_le_self (Int.gcd v u : Nat) (Int.le_of_lt hv)
    omega
theorem natAbs_sI {n : Bool} {l : List Int} (h : Lim l) : ((sI n l).natAbs : Int) < 4294967296 ^ l.length := by rw [sI_natAbs h]; exact val_lt h
theorem RA.sz {s : Bool} {l d : List Int} {q : Rat} {k : Nat} (h : RA s l d q k) (hl : Lim l) (hd : Lim d) : SzR q (k + 1) := by
  have hp := pow_pos' k
  have h0 := val_nonneg hd
  rw [← h.v]
  rcases Int.lt_or_eq_of_le h0 with h1 | h1
  · refine SzR.divInt h1 ?_ ?_
    · have := natAbs_sI (n := s) hl
      have := pow_mono (Nat.le_trans h.hl (Nat.le_succ k))
      simp only [Nat.succ_eq_add_one] at this
      omega
    · have := val_lt hd
      have := pow_mono (Nat.le_trans h.hd (Nat.le_succ k))
      simp only [Nat.succ_eq_add_one] at this
      omega
  · rw [← h1, Rat.divInt_zero]
    exact ⟨by rw [Int.pow_succ]; simp; omega, by rw [Int.pow_succ]; simp; omega⟩

theorem den_pos (q : Rat) : (0 : Int) < q.den := by have := q.den_nz; omega

instance SzR.mul (x y : Rat) (k m : Nat) [h : SzR x k] [g : SzR y m] : SzR (x * y) (k + m) := by
  have e : x * y = Rat.divInt (x.num * y.num) (x.den * y.den) := by
    rw [← Rat.divInt_mul_divInt, rat_self, rat_self]
  rw [e]
  refine SzR.divInt (Int.mul_pos (den_pos x) (den_pos y)) ?_ ?_
  · rw [natAbs_mul']; exact mul_pow_lt (by omega) (by omega) h.num g.num
  · exact mul_pow_lt (by omega) (by omega) h.den g.den
instance SzR.add (x y : Rat) (k m : Nat) [h : SzR x k] [g : SzR y m] : SzR (x + y) (k + m + 1) := by
  have e : x + y = Rat.divInt (x.num * y.den + y.num * x.den) (x.den * y.den) := by
    rw [← Rat.divInt_add_divInt _ _ (by have := den_pos x; omega) (by have := den_pos y; omega), rat_self, rat_self]
  rw [e]
  refine SzR.divInt (Int.mul_pos (den_pos x) (den_pos y)) ?_ ?_
  · have h1 := mul_pow_lt (by omega) (by omega) h.num g.den
    have h2 := mul_pow_lt (by omega) (by omega) g.num h.den
    rw [Nat.add_comm m k] at h2
    have h3 : (x.num.natAbs : Int) * (y.den : Int) + (y.num.natAbs : Int) * (x.den : Int) < 4294967296 ^ (k + m + 1) := by
      have := pow_pos' (k + m)
      rw [Int.pow_succ]; omega
    have h4 := Int.natAbs_add_le (x.num * y.den) (y.num * x.den)
    have h5 := natAbs_mul' x.num y.den
    have h6 := natAbs_mul' y.num x.den
    simp only [Int.natAbs_natCast] at h5 h6
    omega
  · have h1 := mul_pow_lt (by omega) (by omega) h.den g.den
    exact Int.lt_of_lt_of_le h1 (pow_mono (Nat.le_succ _))
instance SzR.neg (x : Rat) (k : Nat) [h : SzR x k] : SzR (-x) k := ⟨by rw [Rat.neg_num, Int.natAbs_neg]; exact h.num, by rw [Rat.neg_den]; exact h.den⟩
instance SzR.sub (x y : Rat) (k m : Nat) [h : SzR x k] [g : SzR y m] : SzR (x - y) (k + m + 1) := by
  rw [Rat.sub_eq_add_neg]; exact SzR.add x (-y) k m
theorem SzR.inv (x : Rat) (k : Nat) (h : SzR x k) : SzR (x⁻¹) (k + 1) := by
  have hp := pow_pos' k
  have hm := pow_mono (Nat.le_succ k)
  simp only [Nat.succ_eq_add_one] at hm
  refine ⟨?_, ?_⟩
  · rw [Rat.num_inv, natAbs_mul']
    have := h.den
    have h2 := Int.natAbs_sign (z := x.num)
    rw [h2]
    split <;> simp <;> omega
  · rw [Rat.den_inv]
    have := h.num
    split
    · rw [Int.pow_succ]; simp; omega
    · omega
instance SzR.div (x y : Rat) (k m : Nat) [h : SzR x k] [g : SzR y m] : SzR (x / y) (k + (m + 1)) := by
  rw [Rat.div_def]
  have := SzR.inv y m g
  exact SzR.mul x (y⁻¹) k (m + 1)
instance SzR.zero : SzR 0 1 := ⟨by simp, by simp⟩
instance SzR.one : SzR 1 1 := ⟨by simp, by simp⟩
theorem SzR.int (n : Int) (k : Nat) (h : (n.natAbs : Int) < 4294967296 ^ (k + 1)) : SzR (n : Rat) (k + 1) := by
  refine ⟨by simpa using h, ?_⟩
  have := pow_mono (show 1 ≤ k + 1 by omega)
  simp only [Rat.den_intCast]; omega
instance SzR.abs (x : Rat) (k : Nat) [h : SzR x k] : SzR (if x < 0 then -x else x) k := by
  split
  · exact SzR.neg x k
  · exact h

instance SzR.di (u v : Int) (k m : Nat) [h : SzI u k] [g : SzI v m] : SzR (Rat.divInt u v) (k + m + 1) := by
  have h1 := Int.lt_of_lt_of_le h.lt (pow_mono (show k ≤ k + m + 1 by omega))
  have h2 := Int.lt_of_lt_of_le g.lt (pow_mono (show m ≤ k + m + 1 by omega))
  have hp := pow_pos' (k + m)
  have hq : (4294967296 : Int) ^ (k + m + 1) = 4294967296 ^ (k + m) * 4294967296 := Int.pow_succ ..
  rcases (by omega : v < 0 ∨ v = 0 ∨ 0 < v) with h0 | h0 | h0
  · rw [← Rat.neg_divInt_neg]
    exact SzR.divInt (by omega) (by rw [Int.natAbs_neg]; exact h1) (by omega)
  · subst h0
    rw [Rat.divInt_zero]
    exact ⟨by simp; omega, by simp; omega⟩
  · exact SzR.divInt h0 h1 (by omega)
theorem ratD_inj {p q : Rat} (h : decide (p.num < 0) = decide (q.num < 0)) (h1 : limbs p.num.natAbs = limbs q.num.natAbs) (h2 : limbs p.den = limbs q.den) : p = q := by
  have e1 := limbs_inj (by omega) (by omega) h1
  have e2 := limbs_inj (by omega) (by omega) h2
  rw [decide_eq_decide] at h
  exact Rat.ext (by omega) (by omega)

/-- order of two numbers -/
def cmpQ (x y : Rat) : Int := if x < y then -1 else if y < x then 1 else 0
theorem cmpQ_divInt {a b c d : Int} (hb : 0 < b) (hd : 0 < d) : cmpI (a * d) (c * b) = cmpQ (Rat.divInt a b) (Rat.divInt c d) := by
  have key : ∀ {a b c d : Int}, 0 < b → 0 < d → (Rat.divInt a b < Rat.divInt c d ↔ a * d < c * b) := by
    intro a b c d hb hd
    rw [Rat.divInt_eq_div, Rat.divInt_eq_div, Rat.div_lt_iff (Rat.intCast_pos.2 hb)]
    rw [show (c : Rat) / (d : Rat) * (b : Rat) = (c : Rat) * (b : Rat) / (d : Rat) by rw [Rat.div_def, Rat.div_def]; grind]
    rw [Rat.lt_div_iff (Rat.intCast_pos.2 hd), ← Rat.intCast_mul, ← Rat.intCast_mul, Rat.intCast_lt_intCast]
  unfold cmpI cmpQ
  simp only [key hb hd, key hd hb]
theorem cmpQ_cases (x y : Rat) : (x < y ∧ cmpQ x y = -1) ∨ (x = y ∧ cmpQ x y = 0) ∨ (y < x ∧ cmpQ x y = 1) := by
  unfold cmpQ
  split
  · exact .inl ⟨‹_›, rfl⟩
  · split
    · exact .inr (.inr ⟨‹_›, rfl⟩)
    · exact .inr (.inl ⟨by grind, rfl⟩)
end Go.Proofs.YtffcpgebgoineaaDoor.K
