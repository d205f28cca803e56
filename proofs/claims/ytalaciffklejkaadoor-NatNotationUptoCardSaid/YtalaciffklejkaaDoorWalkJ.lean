/- Walks: package ratio, the parts of a number, the normal form. -/
import Derived.Test.YtalaciffklejkaaDoorRat
namespace Go.Proofs.YtalaciffklejkaaDoor.K
open Go
set_option linter.unusedVariables false
set_option linter.unusedSimpArgs false

theorem HoldsAll.rat {R : Nat → Prop} {w : World} {ds : List D} {vs : Array Value} (i : Nat) {s : Bool} {l d : List Int} (h : HoldsAll R w ds vs) (hi : ds[i]? = some (.agg [.bool s, .ints .u32 l, .ints .u32 d])) : (l.length ≤ 9223372036854775807 ∧ Lim l) ∧ d.length ≤ 9223372036854775807 ∧ Lim d := by
  obtain ⟨us, hu⟩ := h.agg i hi
  exact ⟨hu.nat 1 rfl, hu.nat 2 rfl⟩

/-- the parts of a number: 0 and 1 if the denominator is 0 -/
def partS (s : Bool) (d : List Int) : Bool := if val d = 0 then false else s
def partL (l d : List Int) : List Int := if val d = 0 then [] else l
def partD (d : List Int) : List Int := if val d = 0 then limbs 1 else d

theorem cmpI_zero {x : Int} (h : 0 ≤ x) : (cmpI x 0 = 0) ↔ x = 0 := by unfold cmpI; split <;> (try split) <;> omega

/-- what is to be known of the parts -/
theorem part_facts {s : Bool} {l d : List Int} (hl : Lim l) (hd : Lim d) : Lim (partL l d) ∧ Lim (partD d) ∧ 0 < val (partD d) ∧ (partL l d).length ≤ l.length ∧ (partD d).length ≤ d.length + 1 ∧ Rat.divInt (sI (partS s d) (partL l d)) (val (partD d)) = Rat.divInt (sI s l) (val d) := by
  have h0 := val_nonneg hd
  unfold partL partD partS
  by_cases h : val d = 0
  · simp only [h, if_true]
    refine ⟨Lim.nil, Lim.limbs 1, by rw [val_limbs (by omega)]; omega, by simp, ?_, ?_⟩
    · have := limbs_length_le (n := 1) (k := 1) (by omega); omega
    · rw [Rat.divInt_zero]; simp [sI, val]
  · simp only [if_neg h]
    exact ⟨hl, hd, by omega, Nat.le_refl _, by omega, by first | rfl | trivial⟩

theorem sN_div {n : Bool} {l : List Int} {g : Nat} (hl : Lim l) (hg : (g : Int) ∣ val l) : sN n (val l / g) = sI n l / g := by
  cases n
  · simp [sI, sN]
  · simp [sI, sN, Int.neg_ediv_of_dvd hg]
theorem gcd_sI (n : Bool) (l : List Int) (y : Int) : Int.gcd y (sI n l) = Int.gcd (val l) y := by
  cases n
  · simp [sI, Int.gcd_comm]
  · simp [sI, Int.gcd_neg, Int.gcd_comm]
end Go.Proofs.YtalaciffklejkaaDoor.K
