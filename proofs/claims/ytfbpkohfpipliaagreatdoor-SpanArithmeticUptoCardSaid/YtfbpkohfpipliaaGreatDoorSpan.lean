/- Intervals of rational numbers: plain laws. Nothing of any program stands here. -/
import Derived.Test.YtfbpkohfpipliaaGreatDoorRat
namespace Go.Proofs.YtfbpkohfpipliaaGreatDoor.K
open Go
set_option linter.unusedVariables false
set_option linter.unusedSimpArgs false

/-- the smaller and the greater of two numbers -/
def loQ (x y : Rat) : Rat := if y < x then y else x
def hiQ (x y : Rat) : Rat := if y < x then x else y
theorem loQ_le (x y : Rat) : loQ x y ≤ hiQ x y := by unfold loQ hiQ; split <;> grind
theorem loQ_cases (x y : Rat) : (loQ x y = x ∧ hiQ x y = y ∧ x ≤ y) ∨ (loQ x y = y ∧ hiQ x y = x ∧ y < x) := by
  unfold loQ hiQ; split
  · exact .inr ⟨rfl, rfl, by assumption⟩
  · exact .inl ⟨rfl, rfl, by grind⟩
instance SzR.lo (x y : Rat) (k m : Nat) [h : SzR x k] [g : SzR y m] : SzR (loQ x y) (k + m) := by
  unfold loQ; split
  · exact g.mono (by omega)
  · exact h.mono (by omega)
instance SzR.hi (x y : Rat) (k m : Nat) [h : SzR x k] [g : SzR y m] : SzR (hiQ x y) (k + m) := by
  unfold hiQ; split
  · exact h.mono (by omega)
  · exact g.mono (by omega)
theorem SzR.prop (p : Prop) (h : p) : p := h
/-- one of two numbers in any form -/
instance RA.lo (s s' : Bool) (l d l' d' : List Int) (x y : Rat) (k m : Nat) [h : RA s l d x k] [g : RA s' l' d' y m] : RA (if y < x then s' else s) (if y < x then l' else l) (if y < x then d' else d) (loQ x y) (k + m) := by
  have h1 := h.hl
  have h2 := h.hd
  have g1 := g.hl
  have g2 := g.hd
  unfold loQ
  split
  · exact ⟨g.v, by omega, by omega⟩
  · exact ⟨h.v, by omega, by omega⟩
instance RA.hi (s s' : Bool) (l d l' d' : List Int) (x y : Rat) (k m : Nat) [h : RA s l d x k] [g : RA s' l' d' y m] : RA (if y < x then s else s') (if y < x then l else l') (if y < x then d else d') (hiQ x y) (k + m) := by
  have h1 := h.hl
  have h2 := h.hd
  have g1 := g.hl
  have g2 := g.hd
  unfold hiQ
  split
  · exact ⟨h.v, by omega, by omega⟩
  · exact ⟨g.v, by omega, by omega⟩
/-- the datum of an interval, in normal form -/
abbrev spanD (p q : Rat) : D := .agg [.bool (decide (p.num < 0)), .ints .u32 (limbs p.num.natAbs), .ints .u32 (limbs p.den), .bool (decide (q.num < 0)), .ints .u32 (limbs q.num.natAbs), .ints .u32 (limbs q.den)]
theorem cmpQ_pos (x y : Rat) : 0 < cmpQ x y ↔ y < x := by
  rcases cmpQ_cases x y with ⟨h1, h2⟩ | ⟨h1, h2⟩ | ⟨h1, h2⟩
  · exact ⟨fun h => by omega, fun h => by grind⟩
  · exact ⟨fun h => by omega, fun h => by grind⟩
  · exact ⟨fun _ => h1, fun _ => by omega⟩
theorem cmpQ_lt (x y : Rat) : cmpQ x y < 0 ↔ x < y := by
  rcases cmpQ_cases x y with ⟨h1, h2⟩ | ⟨h1, h2⟩ | ⟨h1, h2⟩
  · exact ⟨fun _ => h1, fun _ => by omega⟩
  · exact ⟨fun h => by omega, fun h => by grind⟩
  · exact ⟨fun h => by omega, fun h => by grind⟩
theorem cmpQ_le (x y : Rat) : cmpQ x y ≤ 0 ↔ x ≤ y := by
  have h0 := cmpQ_pos x y
  constructor
  · intro h
    have : ¬ y < x := fun h1 => by have := h0.2 h1; omega
    grind
  · intro h
    have h2 : ¬ 0 < cmpQ x y := fun h1 => by have := h0.1 h1; grind
    omega
theorem loQ_le_iff (a b c : Rat) : loQ a b ≤ c ↔ a ≤ c ∨ b ≤ c := by unfold loQ; split <;> grind
theorem le_loQ (a b c : Rat) : c ≤ loQ a b ↔ c ≤ a ∧ c ≤ b := by unfold loQ; split <;> grind
theorem hiQ_le_iff (a b c : Rat) : hiQ a b ≤ c ↔ a ≤ c ∧ b ≤ c := by unfold hiQ; split <;> grind
theorem le_hiQ (a b c : Rat) : c ≤ hiQ a b ↔ c ≤ a ∨ c ≤ b := by unfold hiQ; split <;> grind
theorem lohi {p q : Rat} (h : p ≤ q) : loQ p q = p ∧ hiQ p q = q := by unfold loQ hiQ; split <;> grind
theorem mulIn {a b c d x y : Rat} (h1 : a ≤ x) (h2 : x ≤ b) (h3 : c ≤ y) (h4 : y ≤ d) :
    (a * c ≤ x * y ∨ a * d ≤ x * y ∨ b * c ≤ x * y ∨ b * d ≤ x * y) ∧ (x * y ≤ a * c ∨ x * y ≤ a * d ∨ x * y ≤ b * c ∨ x * y ≤ b * d) := by
  have mm : ∀ {p q r : Rat}, p ≤ q → 0 ≤ r → p * r ≤ q * r := fun h h0 => Rat.mul_le_mul_of_nonneg_right h h0
  have mn : ∀ {p q r : Rat}, p ≤ q → r ≤ 0 → q * r ≤ p * r := fun {p q r} h h0 => by
    have := mm h (show (0 : Rat) ≤ -r by grind)
    grind
  have e1 : (a * y ≤ x * y ∧ x * y ≤ b * y) ∨ (b * y ≤ x * y ∧ x * y ≤ a * y) := by
    rcases Rat.le_total (a := 0) (b := y) with h | h
    · exact .inl ⟨mm h1 h, mm h2 h⟩
    · exact .inr ⟨mn h2 h, mn h1 h⟩
  have e2 : ∀ p : Rat, (p * c ≤ p * y ∧ p * y ≤ p * d) ∨ (p * d ≤ p * y ∧ p * y ≤ p * c) := fun p => by
    rcases Rat.le_total (a := 0) (b := p) with h | h
    · have := mm h3 h; have := mm h4 h; exact .inl ⟨by grind, by grind⟩
    · have := mn h3 h; have := mn h4 h; exact .inr ⟨by grind, by grind⟩
  have k1 := e2 a
  have k2 := e2 b
  clear e2 mm mn
  generalize a * c = A at *
  generalize a * d = B at *
  generalize b * c = C at *
  generalize b * d = E at *
  generalize x * y = Z at *
  generalize a * y = U at *
  generalize b * y = V at *
  constructor
  · rcases e1 with ⟨e, _⟩ | ⟨e, _⟩
    · rcases k1 with ⟨k, _⟩ | ⟨k, _⟩
      · exact .inl (Rat.le_trans k e)
      · exact .inr (.inl (Rat.le_trans k e))
    · rcases k2 with ⟨k, _⟩ | ⟨k, _⟩
      · exact .inr (.inr (.inl (Rat.le_trans k e)))
      · exact .inr (.inr (.inr (Rat.le_trans k e)))
  · rcases e1 with ⟨_, e⟩ | ⟨_, e⟩
    · rcases k2 with ⟨_, k⟩ | ⟨_, k⟩
      · exact .inr (.inr (.inr (Rat.le_trans e k)))
      · exact .inr (.inr (.inl (Rat.le_trans e k)))
    · rcases k1 with ⟨_, k⟩ | ⟨_, k⟩
      · exact .inr (.inl (Rat.le_trans e k))
      · exact .inl (Rat.le_trans e k)
/-- the least and the greatest of the four products -/
def mulLo (x y z w : Rat) : Rat := loQ (loQ (x * z) (x * w)) (loQ (y * z) (y * w))
def mulHi (x y z w : Rat) : Rat := hiQ (hiQ (x * z) (x * w)) (hiQ (y * z) (y * w))
theorem mulLo_le (x y z w : Rat) : mulLo x y z w ≤ mulHi x y z w := by
  have h1 : mulLo x y z w ≤ x * z := by
    have := (le_loQ (loQ (x * z) (x * w)) (loQ (y * z) (y * w)) (mulLo x y z w)).1 (Rat.le_refl)
    exact ((le_loQ _ _ _).1 this.1).1
  have h2 : x * z ≤ mulHi x y z w := by
    have := (hiQ_le_iff (hiQ (x * z) (x * w)) (hiQ (y * z) (y * w)) (mulHi x y z w)).1 (Rat.le_refl)
    exact ((hiQ_le_iff _ _ _).1 this.1).1
  exact Rat.le_trans h1 h2
theorem hasMul {x y z w p q : Rat} (h1 : loQ x y ≤ p ∧ p ≤ hiQ x y) (h2 : loQ z w ≤ q ∧ q ≤ hiQ z w) : mulLo x y z w ≤ p * q ∧ p * q ≤ mulHi x y z w := by
  obtain ⟨k1, k2⟩ := mulIn h1.1 h1.2 h2.1 h2.2
  simp only [mulLo, mulHi, loQ_le_iff, le_hiQ]
  rcases loQ_cases x y with ⟨e1, e2, _⟩ | ⟨e1, e2, _⟩ <;> rcases loQ_cases z w with ⟨e3, e4, _⟩ | ⟨e3, e4, _⟩ <;> rw [e1, e2, e3, e4] at k1 k2 <;> exact ⟨by grind, by grind⟩
theorem ends_in (x y : Rat) : (loQ x y ≤ x ∧ x ≤ hiQ x y) ∧ (loQ x y ≤ y ∧ y ≤ hiQ x y) := by unfold loQ hiQ; split <;> grind
/-- an interval lies in another one -/
def within (x y z w : Rat) : Prop := (loQ z w ≤ x ∧ x ≤ hiQ z w) ∧ (loQ z w ≤ y ∧ y ≤ hiQ z w)
instance (x y z w : Rat) : Decidable (within x y z w) := inferInstanceAs (Decidable (_ ∧ _))
theorem within_ends {x y z w : Rat} : within x y z w ↔ loQ z w ≤ loQ x y ∧ hiQ x y ≤ hiQ z w := by
  unfold within
  rcases loQ_cases x y with ⟨e1, e2, _⟩ | ⟨e1, e2, _⟩ <;> rw [e1, e2] <;> constructor <;> intro h <;> grind
theorem within_mul {x y z w u v : Rat} (h : within x y z w) : within (mulLo x y u v) (mulHi x y u v) (mulLo z w u v) (mulHi z w u v) := by
  obtain ⟨e1, e2⟩ := lohi (mulLo_le z w u v)
  obtain ⟨i1, i2⟩ := ends_in u v
  have p1 := hasMul h.1 i1
  have p2 := hasMul h.1 i2
  have p3 := hasMul h.2 i1
  have p4 := hasMul h.2 i2
  have q1 : mulLo z w u v ≤ mulLo x y u v := by
    show _ ≤ loQ (loQ (x * u) (x * v)) (loQ (y * u) (y * v))
    simp only [le_loQ]; exact ⟨⟨p1.1, p2.1⟩, p3.1, p4.1⟩
  have q2 : mulHi x y u v ≤ mulHi z w u v := by
    show hiQ (hiQ (x * u) (x * v)) (hiQ (y * u) (y * v)) ≤ _
    simp only [hiQ_le_iff]; exact ⟨⟨p1.2, p2.2⟩, p3.2, p4.2⟩
  have q3 := mulLo_le x y u v
  unfold within
  rw [e1, e2]
  exact ⟨⟨q1, Rat.le_trans q3 q2⟩, Rat.le_trans q1 q3, q2⟩
/-- 0 if two intervals meet; else on which side of the other one the first lies -/
def sideQ (x y z w : Rat) : Int := if hiQ x y < loQ z w then -1 else if hiQ z w < loQ x y then 1 else 0
theorem sideQ_swap (x y z w : Rat) : sideQ z w x y = - sideQ x y z w := by
  have h1 := loQ_le x y
  have h2 := loQ_le z w
  unfold sideQ
  by_cases p : hiQ z w < loQ x y <;> by_cases q : hiQ x y < loQ z w
  · exfalso; grind
  · simp [p, q]
  · simp [p, q]
  · simp [p, q]
theorem sideQ_zero (x y z w : Rat) : sideQ x y z w = 0 ↔ hiQ (loQ x y) (loQ z w) ≤ loQ (hiQ x y) (hiQ z w) := by
  have h1 := loQ_le x y
  have h2 := loQ_le z w
  rw [hiQ_le_iff, le_loQ, le_loQ]
  unfold sideQ
  split
  · constructor
    · intro h; omega
    · intro h; grind
  · split
    · constructor
      · intro h; omega
      · intro h; grind
    · constructor
      · intro _; grind
      · intro _; rfl
end Go.Proofs.YtfbpkohfpipliaaGreatDoor.K
