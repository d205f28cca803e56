/- Walks: the laws of layer 3 (examboardlaw03). -/
import Derived.Test.YtffcpgebgoineaaDoorWalkO
namespace Go.Proofs.YtffcpgebgoineaaDoor.K
open Go
set_option linter.unusedVariables false
set_option linter.unusedSimpArgs false

theorem list_ext_ix {a b : List Int} (h : a.length = b.length) (hi : ∀ i : Nat, i < a.length → ix a i = ix b i) : a = b := by
  apply List.ext_getElem h
  intro i h1 h2
  have := hi i h1
  simpa [ix, h1, h2] using this
theorem limbs_one' : limbs 1 = [1] := by rw [limbs_pos (by omega)]; simp [limbs_le]
end Go.Proofs.YtffcpgebgoineaaDoor.K
namespace Go.Proofs.YtffcpgebgoineaaDoor.K
open Go
set_option linter.unusedVariables false
set_option linter.unusedSimpArgs false

instance SzI.floor (x : Rat) (k : Nat) [h : SzR x k] : SzI x.floor k := ⟨by
  rw [Rat.floor_def]
  have := Int.natAbs_ediv_le_natAbs x.num x.den
  have := h.num
  omega⟩
theorem divInt_one' (n : Int) : Rat.divInt n 1 = (n : Rat) := by rw [Rat.divInt_eq_div, Rat.intCast_one]; grind
theorem SzR.ofRA {s : Bool} {l d : List Int} {q : Rat} {k : Nat} (h : RA s l d q k) (hl : Lim l) (hd : Lim d) : SzR q (k + 1) := h.sz hl hd

end Go.Proofs.YtffcpgebgoineaaDoor.K
namespace Go.Proofs.YtffcpgebgoineaaDoor.K
open Go
set_option linter.unusedVariables false
set_option linter.unusedSimpArgs false

theorem cmpQ_neg (x y : Rat) : cmpQ y x = - cmpQ x y := by
  rcases cmpQ_cases x y with ⟨h1, h2⟩ | ⟨h1, h2⟩ | ⟨h1, h2⟩ <;> rcases cmpQ_cases y x with ⟨h3, h4⟩ | ⟨h3, h4⟩ | ⟨h3, h4⟩ <;> first | omega | (exfalso; grind)
theorem cmpQ_sub (x y : Rat) : cmpQ (x - y) 0 = cmpQ x y := by
  rcases cmpQ_cases x y with ⟨h1, h2⟩ | ⟨h1, h2⟩ | ⟨h1, h2⟩ <;> rcases cmpQ_cases (x - y) 0 with ⟨h3, h4⟩ | ⟨h3, h4⟩ | ⟨h3, h4⟩ <;> first | omega | (exfalso; grind)
theorem cmpQ_add (x y z : Rat) : cmpQ (x + z) (y + z) = cmpQ x y := by
  rcases cmpQ_cases x y with ⟨h1, h2⟩ | ⟨h1, h2⟩ | ⟨h1, h2⟩ <;> rcases cmpQ_cases (x + z) (y + z) with ⟨h3, h4⟩ | ⟨h3, h4⟩ | ⟨h3, h4⟩ <;> first | omega | (exfalso; grind)
theorem cmpQ_mul (x y z : Rat) : cmpQ x y * cmpQ z 0 = cmpQ (x * z) (y * z) := by
  have key : ∀ {a b c : Rat}, a < b → 0 < c → a * c < b * c := fun h1 h2 => Rat.mul_lt_mul_of_pos_right h1 h2
  have keyn : ∀ {a b c : Rat}, a < b → c < 0 → b * c < a * c := fun {a b c} h1 h2 => by
    have := key h1 (show 0 < -c by grind)
    grind
  rcases cmpQ_cases z 0 with ⟨g1, g2⟩ | ⟨g1, g2⟩ | ⟨g1, g2⟩
  · rcases cmpQ_cases x y with ⟨h1, h2⟩ | ⟨h1, h2⟩ | ⟨h1, h2⟩
    · have := keyn h1 g1
      rw [g2, h2]; unfold cmpQ; rw [if_neg (by grind), if_pos this]; rfl
    · subst h1
      rw [g2, h2]; unfold cmpQ; rw [if_neg (by grind), if_neg (by grind)]; rfl
    · have := keyn h1 g1
      rw [g2, h2]; unfold cmpQ; rw [if_pos this]; rfl
  · subst g1
    rw [g2, Rat.mul_zero, Rat.mul_zero]; unfold cmpQ; simp
  · rcases cmpQ_cases x y with ⟨h1, h2⟩ | ⟨h1, h2⟩ | ⟨h1, h2⟩
    · have := key h1 g1
      rw [g2, h2]; unfold cmpQ; rw [if_pos this]; rfl
    · subst h1
      rw [g2, h2]; unfold cmpQ; rw [if_neg (by grind), if_neg (by grind)]; rfl
    · have := key h1 g1
      rw [g2, h2]; unfold cmpQ; rw [if_neg (by grind), if_pos this]; rfl
theorem cmpQ_bound (x y : Rat) : -1 ≤ cmpQ x y ∧ cmpQ x y ≤ 1 := by
  rcases cmpQ_cases x y with ⟨h1, h2⟩ | ⟨h1, h2⟩ | ⟨h1, h2⟩ <;> omega
theorem cmpQ_zero (x y : Rat) : cmpQ x y = 0 ↔ x = y := by
  rcases cmpQ_cases x y with ⟨h1, h2⟩ | ⟨h1, h2⟩ | ⟨h1, h2⟩
  · exact ⟨fun h => by omega, fun h => by grind⟩
  · exact ⟨fun _ => h1, fun _ => h2⟩
  · exact ⟨fun h => by omega, fun h => by grind⟩

section
variable {s s' : Bool} {l d l' d' : List Int} {x y : Rat} {k m : Nat}
end

end Go.Proofs.YtffcpgebgoineaaDoor.K
