/- Walks: the reference of layer 3 (examboardref03). -/
import Derived.Test.YtffcpgebgoineaaDoorWalkN
import Derived.Test.YtffcpgebgoineaaDoorWalkJ
namespace Go.Proofs.YtffcpgebgoineaaDoor.K
open Go
set_option linter.unusedVariables false
set_option linter.unusedSimpArgs false

instance (priority := low) RA.parts (u v : Int) (k m : Nat) [h : SzI u k] [g : SzN v m] : RA (decide (u < 0)) (limbs u.natAbs) (limbs v) (Rat.divInt u v) (k + m) :=
  ⟨by rw [sI_norm, val_limbs g.nn], Nat.le_trans (limbs_length_le h.lt) (by omega), Nat.le_trans (limbs_length_le g.lt) (by omega)⟩

/-- numerator and denominator: 0 and 1 if the denominator is 0 -/
def topV (s : Bool) (l d : List Int) : Int := if val d = 0 then 0 else sI s l
def lowV (d : List Int) : Int := if val d = 0 then 1 else val d
theorem RA.tl {s : Bool} {l d : List Int} {q : Rat} {k : Nat} (h : RA s l d q k) (hl : Lim l) (hd : Lim d) :
    Rat.divInt (topV s l d) (lowV d) = q ∧ 0 < lowV d ∧ SzI (topV s l d) k ∧ SzN (lowV d) (k + 1) := by
  have h0 := val_nonneg hd
  have h1 := val_lt hd
  have h2 := natAbs_sI (n := s) hl
  have h3 := pow_mono h.hl
  have h4 := pow_mono (show d.length ≤ k + 1 from Nat.le_succ_of_le h.hd)
  have h5 := pow_pos' k
  have h6 : (4294967296 : Int) ^ (k + 1) = 4294967296 ^ k * 4294967296 := Int.pow_succ ..
  unfold topV lowV
  by_cases hz : val d = 0
  · rw [if_pos hz, if_pos hz]
    refine ⟨?_, by omega, ⟨by simpa using h5⟩, ⟨by omega, by omega⟩⟩
    rw [← h.v, hz, Rat.divInt_zero, Rat.zero_divInt]
  · rw [if_neg hz, if_neg hz]
    exact ⟨h.v, by omega, ⟨by omega⟩, ⟨h0, by omega⟩⟩
theorem divInt_sign {u v : Int} {n : Bool} (h : n = decide (u < 0)) : sN n (u.natAbs : Nat) = u := by
  subst h; unfold sN
  by_cases h : u < 0 <;> simp [h] <;> omega

section
variable {s s' : Bool} {l d l' d' : List Int} {x y : Rat} {k m : Nat}
end
end Go.Proofs.YtffcpgebgoineaaDoor.K
