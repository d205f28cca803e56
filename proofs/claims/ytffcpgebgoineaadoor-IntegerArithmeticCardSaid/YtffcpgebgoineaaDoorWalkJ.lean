/- Walks: package ratio, the parts of a number, the normal form. -/
import Derived.Test.YtffcpgebgoineaaDoorRat
namespace Go.Proofs.YtffcpgebgoineaaDoor.K
open Go
set_option linter.unusedVariables false
set_option linter.unusedSimpArgs false

theorem HoldsAll.rat {R : Nat → Prop} {w : World} {ds : List D} {vs : Array Value} (i : Nat) {s : Bool} {l d : List Int} (h : HoldsAll R w ds vs) (hi : ds[i]? = some (.agg [.bool s, .ints .u32 l, .ints .u32 d])) : (l.length ≤ 9223372036854775807 ∧ Lim l) ∧ d.length ≤ 9223372036854775807 ∧ Lim d := by
  obtain ⟨us, hu⟩ := h.agg i hi
  exact ⟨hu.nat 1 rfl, hu.nat 2 rfl⟩

/-- the parts of a number: 0 and 1 if the denominator is 0 -/
def partS (s : Bool) (d : List Int) : Bool := if val d = 0 then false else s
def partL (l d : List Int) : List Int := if val d = 0 then [] else l
def partD (d : List Int) : List Int := if val d = 0 then limbs 1 else d

theorem cmpI_zero {x : Int} (h : 0 ≤ x) : (cmpI x 0 = 0) ↔ x = 0 := by unfold cmpI; split <;> (try split) <;> omega

/-- what is to be known of the parts -/
theorem part_facts {s : Bool} {l d : List Int} (hl : Lim l) (hd : Lim d) : Lim (partL l d) ∧ Lim (partD d) ∧ 0 < val (partD d) ∧ (partL l d).length ≤ l.length ∧ (partD d).length ≤ d.length + 1 ∧ Rat.divInt (sI (partS s d) (partL l d)) (val (partD d)) = Rat.divInt (sI s l) (val d) := by
  have h0 := val_nonneg hd
  unfold partL partD partS
  by_cases h : val d = 0
  · simp only [h, if_true]
    refine ⟨Lim.nil, Lim.limbs 1, by rw [val_limbs (by omega)]; omega, by simp, ?_, ?_⟩
    · have := limbs_length_le (n := 1) (k := 1) (by omega); omega
    · rw [Rat.divInt_zero]; simp [sI, val]
  · simp only [if_neg h]
    exact ⟨hl, hd, by omega, Nat.le_refl _, by omega, by first | rfl | trivial⟩

theorem sN_div {n : Bool} {l : List Int} {g : Nat} (hl : Lim l) (hg : (g : Int) ∣ val l) : sN n (val l / g) = sI n l / g := by
  cases n
  · simp [sI, sN]
  · simp [sI, sN, Int.neg_ediv_of_dvd hg]
theorem gcd_sI (n : Bool) (l : List Int) (y : Int) : Int.gcd y (sI n l) = Int.gcd (val l) y := by
  cases n
  · simp [sI, Int.gcd_comm]
  · simp [sI, Int.gcd_neg, Int.gcd_comm]
end Go.Proofs.YtffcpgebgoineaaDoor.K
namespace Go.Proofs.YtffcpgebgoineaaDoor.K
open Go
set_option linter.unusedVariables false
set_option linter.unusedSimpArgs false

/-- the parts of a number in any form, by its value -/
theorem RA.part {s : Bool} {l d : List Int} {q : Rat} {k : Nat} (h : RA s l d q k) (hl : Lim l) (hd : Lim d) :
    Rat.divInt (sI (partS s d) (partL l d)) (val (partD d)) = q ∧ 0 < val (partD d) ∧ (partL l d).length ≤ k ∧ (partD d).length ≤ k + 1 ∧ (∀ b, SzI (sI b (partL l d)) (partL l d).length) ∧ SzN (val (partD d)) (partD d).length ∧ SzN (val (partL l d)) (partL l d).length := by
  obtain ⟨h1, h2, h3, h4, h5, h6⟩ := part_facts (s := s) hl hd
  have := h.hl
  have := h.hd
  exact ⟨h6.trans h.v, h3, by omega, by omega, fun b => SzI.sI h1, SzN.val h2, SzN.val h1⟩

theorem sI_ne (p q : Bool) (a b : List Int) : Rat.divInt (sI (p != q) a) (val b) = Rat.divInt (sI p a) (sI q b) := by
  cases p <;> cases q <;> simp only [sI, bne_self_eq_false, Bool.false_eq_true, if_false, if_true, Bool.true_bne, Bool.false_bne, Bool.not_false, Bool.not_true, Rat.divInt_neg', Int.neg_neg] <;> rfl
theorem abs_divInt {n : Bool} {l : List Int} {v : Int} (hv : 0 < v) (hl : 0 ≤ val l) : Rat.divInt (val l) v = if Rat.divInt (sI n l) v < 0 then -(Rat.divInt (sI n l) v) else Rat.divInt (sI n l) v := by
  have key : ∀ u : Int, (Rat.divInt u v < 0 ↔ u < 0) := fun u => by
    have := Rat.divInt_nonneg_iff_of_pos_right (a := u) hv
    rw [← Rat.not_le, this]; omega
  rw [Rat.neg_divInt]
  simp only [key]
  cases n
  · simp only [sI, Bool.false_eq_true, if_false]
    rw [if_neg (by omega)]
  · simp only [sI, if_true, Int.neg_neg]
    split
    · rfl
    · have : val l = 0 := by omega
      rw [this]; rfl
theorem div_divInt {a b c d : Int} (hb : 0 < b) (hd : 0 < d) : Rat.divInt (a * d) (c * b) = Rat.divInt a b / Rat.divInt c d := by
  rw [Rat.div_def, Rat.inv_divInt, Rat.divInt_mul_divInt, Int.mul_comm b c]
theorem div_zero {b c d : Int} (hb : 0 < b) (hd : 0 < d) : c * b ≠ 0 ↔ Rat.divInt c d ≠ 0 := by
  have : Rat.divInt c d = 0 ↔ c = 0 := by
    rw [show (0 : Rat) = Rat.divInt 0 1 from rfl, Rat.divInt_eq_divInt_iff (by omega) (by omega)]; omega
  rw [ne_eq, ne_eq, this, Int.mul_eq_zero]; omega
theorem floor_divInt {a b : Int} (hb : 0 < b) : (Rat.divInt a b).floor = Int.fdiv a b := by
  rw [Int.fdiv_eq_ediv_of_nonneg _ (by omega), Rat.floor_def, (rat_of hb).1, (rat_of (u := a) hb).2]
  have hg : (0 : Int) < (Int.gcd b a : Nat) := by
    have := Int.gcd_pos_of_ne_zero_left a (show b ≠ 0 by omega); omega
  obtain ⟨u, hu⟩ := Int.gcd_dvd_right b a
  obtain ⟨v, hv⟩ := Int.gcd_dvd_left b a
  generalize (Int.gcd b a : Nat) = g at *
  subst hu hv
  rw [Int.mul_ediv_cancel_left _ (by omega), Int.mul_ediv_cancel_left _ (by omega), Int.mul_ediv_mul_of_pos _ _ hg]

section
variable {s s' : Bool} {l d l' d' : List Int} {x y : Rat} {k m : Nat}
end
end Go.Proofs.YtffcpgebgoineaaDoor.K
