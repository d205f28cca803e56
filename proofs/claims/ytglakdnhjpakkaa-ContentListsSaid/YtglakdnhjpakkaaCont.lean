/- Content codes and outlines: plain definitions and laws. Nothing of any program stands here. -/
import Derived.Test.YtglakdnhjpakkaaWalkS
namespace Go.Proofs.Ytglakdnhjpakkaa.K
open Go
set_option linter.unusedVariables false
set_option linter.unusedSimpArgs false

/-- a capital letter or a digit -/
def isCap (c : Int) : Bool := decide ((65 ≤ c ∧ c ≤ 90) ∨ (48 ≤ c ∧ c ≤ 57))
def segOK (l : List UInt8) : Bool := decide ((∀ c ∈ l, isCap c.toNat = true) ∧ 1 ≤ l.length ∧ l.length ≤ 8)
/-- the parts of a code between the points, n at most; whether there are no more -/
def hd : Nat → List UInt8 → List (List UInt8)
  | 0, _ => []
  | n + 1, l => if 0 ≤ idx1 l 46 then l.take (idx1 l 46).toNat :: hd n (l.drop ((idx1 l 46).toNat + 1)) else [l]
def okS : Nat → List UInt8 → Bool
  | 0, _ => false
  | n + 1, l => if 0 ≤ idx1 l 46 then okS n (l.drop ((idx1 l 46).toNat + 1)) else true
theorem hd_length (n : Nat) (l : List UInt8) : (hd n l).length ≤ n := by
  induction n generalizing l with
  | zero => simp [hd]
  | succ n ih => rw [hd]; split <;> simp; exact ih _
theorem hd_pos (n : Nat) (l : List UInt8) : 1 ≤ (hd (n + 1) l).length := by rw [hd]; split <;> simp
theorem okS_full {n : Nat} {l : List UInt8} (h : okS n l = false) : (hd n l).length = n := by
  induction n generalizing l with
  | zero => simp [hd]
  | succ n ih =>
    rw [okS] at h; rw [hd]
    split
    · rename_i h1; rw [if_pos h1] at h; simp [ih h]
    · rename_i h1; rw [if_neg h1] at h; cases h
def validS (l : List UInt8) : Bool := decide (l.length ≤ 24) && (okS 5 l && (hd 5 l).all segOK)
/-- the same, letter by letter -/
def vrun : Int → Int → List UInt8 → Bool
  | sg, sz, [] => decide (0 < sz ∧ sg ≤ 5)
  | sg, sz, c :: r => if (c.toNat : Int) = 46 then (if sz = 0 then false else vrun (sg + 1) 0 r) else if isCap c.toNat then (if 8 < sz + 1 then false else vrun sg (sz + 1) r) else false
theorem isCap_46 : isCap 46 = false := by decide
theorem idx1_none {l : List UInt8} {c : UInt8} (h : ∀ k : Nat, l[k]? ≠ some c) : idx1 l c = -1 := by
  rcases idx1_cases l c with h1 | h1
  · exact h1.1
  · exact absurd h1.2.2.1 (h _)
theorem idx1_at {l : List UInt8} {c : UInt8} {i : Nat} (h : l[i]? = some c) (h2 : ∀ k : Nat, k < i → l[k]? ≠ some c) : idx1 l c = i := by
  rcases idx1_cases l c with ⟨_, h3⟩ | ⟨h3, h4, h5, h6⟩
  · exact absurd h (h3 i)
  · rcases Int.lt_trichotomy (idx1 l c) i with h7 | h7 | h7
    · exact absurd h5 (h2 _ (by omega))
    · exact h7
    · exact absurd h (h6 i h7)
theorem caps_no {l : List UInt8} (h : ∀ c ∈ l, isCap c.toNat = true) (k : Nat) : l[k]? ≠ some 46 := fun e => by
  have := h _ (List.mem_of_getElem? e)
  exact absurd this (by decide)
theorem vrun_eq (r : List UInt8) : ∀ (p : List UInt8) (sg : Int), 1 ≤ sg → (∀ c ∈ p, isCap c.toNat = true) → p.length ≤ 8 →
    vrun sg p.length r = (okS (6 - sg).toNat (p ++ r) && (hd (6 - sg).toNat (p ++ r)).all segOK) := by
  induction r with
  | nil =>
    intro p sg h1 h2 h3
    rw [List.append_nil]
    have e : idx1 p 46 = -1 := idx1_none (caps_no h2)
    by_cases h5 : sg ≤ 5
    · obtain ⟨n, hn⟩ : ∃ n, (6 - sg).toNat = n + 1 := ⟨(5 - sg).toNat, by omega⟩
      have hp : ¬ (0 : Int) ≤ idx1 p 46 := by omega
      rw [hn, okS, hd, if_neg hp, if_neg hp]
      simp only [vrun, List.all_cons, List.all_nil, Bool.and_true, Bool.true_and, segOK]
      rw [decide_eq_decide]
      constructor
      · intro h; exact ⟨h2, by omega, h3⟩
      · intro h; exact ⟨by omega, h5⟩
    · rw [show (6 - sg).toNat = 0 by omega, okS, Bool.false_and, vrun, decide_eq_false (by omega)]
  | cons c r ih =>
    intro p sg h1 h2 h3
    rw [vrun]
    by_cases hc : (c.toNat : Int) = 46
    · have hc' : c = 46 := UInt8.toNat_inj.1 (by simpa using (show c.toNat = 46 by omega))
      subst hc'
      rw [if_pos hc]
      have e : idx1 (p ++ 46 :: r) 46 = p.length := idx1_at (by simp) (fun k hk => by rw [List.getElem?_append_left hk]; exact caps_no h2 k)
      by_cases h5 : sg ≤ 5
      · obtain ⟨n, hn⟩ : ∃ n, (6 - sg).toNat = n + 1 := ⟨(5 - sg).toNat, by omega⟩
        have hp : (0 : Int) ≤ p.length := by omega
        rw [hn, okS, hd, e, if_pos hp, if_pos hp]
        have e1 : (p ++ 46 :: r).take ((p.length : Nat) : Int).toNat = p := by rw [Int.toNat_natCast, List.take_left]
        have e2 : (p ++ 46 :: r).drop (((p.length : Nat) : Int).toNat + 1) = r := by rw [Int.toNat_natCast, List.drop_append]; simp
        rw [e1, e2]
        have := ih [] (sg + 1) (by omega) (by simp) (by simp)
        rw [show (6 - (sg + 1)).toNat = n by omega, List.nil_append] at this
        simp only [List.length_nil] at this
        rw [show ((0 : Nat) : Int) = 0 from rfl] at this
        rw [this]
        by_cases h0 : (p.length : Int) = 0
        · rw [if_pos h0]
          have : segOK p = false := by rw [segOK, decide_eq_false (by omega)]
          simp [this]
        · rw [if_neg h0]
          have : segOK p = true := by rw [segOK, decide_eq_true ⟨h2, by omega, h3⟩]
          simp [this]
      · rw [show (6 - sg).toNat = 0 by omega, okS, Bool.false_and]
        split
        · rfl
        · have := ih [] (sg + 1) (by omega) (by simp) (by simp)
          rw [show (6 - (sg + 1)).toNat = 0 by omega, okS, Bool.false_and] at this
          exact this
    · rw [if_neg hc]
      -- a code whose part bears a letter that is none of the permitted ones, or too many of them
      have bad : ∀ q : List UInt8, (∀ c ∈ p, isCap c.toNat = true) → c.toNat ≠ 46 → (isCap c.toNat = false ∨ 8 ≤ p.length) → (okS (6 - sg).toNat (p ++ c :: q) && (hd (6 - sg).toNat (p ++ c :: q)).all segOK) = false := fun q _ hne hb => by
        rcases Nat.eq_zero_or_pos (6 - sg).toNat with h5 | h5
        · rw [h5, okS, Bool.false_and]
        · obtain ⟨n, hn⟩ : ∃ n, (6 - sg).toNat = n + 1 := ⟨(6 - sg).toNat - 1, by omega⟩
          rw [hn, okS, hd]
          have key : ∀ l : List UInt8, p ++ [c] <+: l → segOK l = false := fun l hl => by
            rw [segOK, decide_eq_false]
            intro ⟨g1, _, g3⟩
            obtain ⟨t, rfl⟩ := hl
            rcases hb with hb | hb
            · have := g1 c (by simp)
              rw [hb] at this; cases this
            · simp at g3; omega
          rcases idx1_cases (p ++ c :: q) 46 with ⟨g1, _⟩ | ⟨g1, g2, g3, g4⟩
          · have hp : ¬ (0 : Int) ≤ idx1 (p ++ c :: q) 46 := by omega
            rw [if_neg hp, if_neg hp]
            simp [key _ (show p ++ [c] <+: p ++ c :: q from ⟨q, by simp⟩)]
          · rw [if_pos g1, if_pos g1]
            have hlt : p.length < (idx1 (p ++ c :: q) 46).toNat := by
              rcases Nat.lt_trichotomy (idx1 (p ++ c :: q) 46).toNat p.length with h | h | h
              · rw [List.getElem?_append_left h] at g3
                exact absurd g3 (caps_no h2 _)
              · rw [h] at g3
                simp at g3
                exact absurd (by rw [g3]; rfl) hne
              · exact h
            have : p ++ [c] <+: (p ++ c :: q).take (idx1 (p ++ c :: q) 46).toNat := by
              rw [List.prefix_take_iff]
              exact ⟨⟨q, by simp⟩, by simp; omega⟩
            simp [key _ this]
      by_cases hcap : isCap c.toNat = true
      · rw [if_pos hcap]
        by_cases h8 : 8 < (p.length : Int) + 1
        · rw [if_pos h8, bad r h2 (by omega) (.inr (by omega))]
        · rw [if_neg h8]
          have := ih (p ++ [c]) sg h1 (fun x hx => by
            rcases List.mem_append.1 hx with hx | hx
            · exact h2 x hx
            · rw [List.mem_singleton.1 hx]; exact hcap) (by simp; omega)
          rw [List.append_assoc] at this
          simp only [List.length_append, List.length_cons, List.length_nil, Int.natCast_add, List.cons_append, List.nil_append] at this
          exact this
      · rw [if_neg hcap, bad r h2 (by omega) (.inl (by simpa using hcap))]
theorem vrun_start (l : List UInt8) : vrun 1 0 l = (okS 5 l && (hd 5 l).all segOK) := vrun_eq l [] 1 (by omega) (by simp) (by simp)

/-- the last place of a letter before n, or -1 -/
def lastN (l : List UInt8) (c : Int) : Nat → Int
  | 0 => -1
  | n + 1 => if chr l n = c then n else lastN l c n
def lastI (l : List UInt8) (c : Int) : Int := lastN l c l.length
theorem lastN_bound (l : List UInt8) (c : Int) (n : Nat) : -1 ≤ lastN l c n ∧ lastN l c n < n := by
  induction n with
  | zero => simp [lastN]
  | succ n ih => rw [lastN]; split <;> omega
/-- the code above -/
def parS (l : List UInt8) : List UInt8 := if lastI l 46 < 0 then [] else l.take (lastI l 46).toNat
def parOK (l : List UInt8) : Bool := decide (0 ≤ lastI l 46)
/-- whether a code lies at another one or below it -/
def underS (code top : List UInt8) : Bool := decide (top = [] ∨ code = top ∨ top ++ [46] <+: code)
end Go.Proofs.Ytglakdnhjpakkaa.K
