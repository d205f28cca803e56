/- Walks: package ratio, the arithmetic. -/
import Derived.Test.YtalaciffklejkaaDoorWalkJ
namespace Go.Proofs.YtalaciffklejkaaDoor.K
open Go
set_option linter.unusedVariables false
set_option linter.unusedSimpArgs false

/-- the parts of a number in any form, by its value -/
theorem RA.part {s : Bool} {l d : List Int} {q : Rat} {k : Nat} (h : RA s l d q k) (hl : Lim l) (hd : Lim d) :
    Rat.divInt (sI (partS s d) (partL l d)) (val (partD d)) = q ∧ 0 < val (partD d) ∧ (partL l d).length ≤ k ∧ (partD d).length ≤ k + 1 ∧ (∀ b, SzI (sI b (partL l d)) (partL l d).length) ∧ SzN (val (partD d)) (partD d).length ∧ SzN (val (partL l d)) (partL l d).length := by
  obtain ⟨h1, h2, h3, h4, h5, h6⟩ := part_facts (s := s) hl hd
  have := h.hl
  have := h.hd
  exact ⟨h6.trans h.v, h3, by omega, by omega, fun b => SzI.sI h1, SzN.val h2, SzN.val h1⟩

theorem sI_ne (p q : Bool) (a b : List Int) : Rat.divInt (sI (p != q) a) (val b) = Rat.divInt (sI p a) (sI q b) := by
  cases p <;> cases q <;> simp only [sI, bne_self_eq_false, Bool.false_eq_true, if_false, if_true, Bool.true_bne, Bool.false_bne, Bool.not_false, Bool.not_true, Rat.divInt_neg', Int.neg_neg] <;> rfl
theorem abs_divInt {n : Bool} {l : List Int} {v : Int} (hv : 0 < v) (hl : 0 ≤ val l) : Rat.divInt (val l) v = if Rat.divInt (sI n l) v < 0 then -(Rat.divInt (sI n l) v) else Rat.divInt (sI n l) v := by
  have key : ∀ u : Int, (Rat.divInt u v < 0 ↔ u < 0) := fun u => by
    have := Rat.divInt_nonneg_iff_of_pos_right (a := u) hv
    rw [← Rat.not_le, this]; omega
  rw [Rat.neg_divInt]
  simp only [key]
  cases n
  · simp only [sI, Bool.false_eq_true, if_false]
    rw [if_neg (by omega)]
  · simp only [sI, if_true, Int.neg_neg]
    split
    · rfl
    · have : val l = 0 := by omega
      rw [this]; rfl
theorem div_divInt {a b c d : Int} (hb : 0 < b) (hd : 0 < d) : Rat.divInt (a * d) (c * b) = Rat.divInt a b / Rat.divInt c d := by
  rw [Rat.div_def, Rat.inv_divInt, Rat.divInt_mul_divInt, Int.mul_comm b c]
theorem div_zero {b c d : Int} (hb : 0 < b) (hd : 0 < d) : c * b ≠ 0 ↔ Rat.divInt c d ≠ 0 := by
  have : Rat.divInt c d = 0 ↔ c = 0 := by
    rw [show (0 : Rat) = Rat.divInt 0 1 from rfl, Rat.divInt_eq_divInt_iff (by omega) (by omega)]; omega
  rw [ne_eq, ne_eq, this, Int.mul_eq_zero]; omega
theorem floor_divInt {a b : Int} (hb : 0 < b) : (Rat.divInt a b).floor = Int.fdiv a b := by
  rw [Int.fdiv_eq_ediv_of_nonneg _ (by omega), Rat.floor_def, (rat_of hb).1, (rat_of (u := a) hb).2]
  have hg : (0 : Int) < (Int.gcd b a : Nat) := by
    have := Int.gcd_pos_of_ne_zero_left a (show b ≠ 0 by omega); omega
  obtain ⟨u, hu⟩ := Int.gcd_dvd_right b a
  obtain ⟨v, hv⟩ := Int.gcd_dvd_left b a
  generalize (Int.gcd b a : Nat) = g at *
  subst hu hv
  rw [Int.mul_ediv_cancel_left _ (by omega), Int.mul_ediv_cancel_left _ (by omega), Int.mul_ediv_mul_of_pos _ _ hg]

section
variable {s s' : Bool} {l d l' d' : List Int} {x y : Rat} {k m : Nat}
end
end Go.Proofs.YtalaciffklejkaaDoor.K
