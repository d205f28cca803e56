/- Decimals: what the two parsers compute. Nothing of any program stands here. -/
import Derived.Test.YtffcpgebgoineaaDoorSz
import Derived.Lib.Bytealg
namespace Go.Proofs.YtffcpgebgoineaaDoor.K
open Go
set_option linter.unusedVariables false
set_option linter.unusedSimpArgs false

instance SzN.ten : SzN 10 1 := ⟨by omega, by simp⟩
/-- the number at a place of a string -/
def chr (l : List UInt8) (i : Int) : Int := ((ixb l i).toNat : Int)
theorem chr_bound (l : List UInt8) (i : Int) : 0 ≤ chr l i ∧ chr l i < 256 := by
  have := (ixb l i).toNat_lt
  unfold chr; omega
def digB (c : UInt8) : Bool := decide (48 ≤ (c.toNat : Int) ∧ (c.toNat : Int) ≤ 57)
def decV (l : List UInt8) : Int := l.foldl (fun a c => a * 10 + ((c.toNat : Int) - 48)) 0
def natE (l : List UInt8) : Int := if l = [] ∨ (1 < l.length ∧ chr l 0 = 48) then 2 else if l.all digB = true then (if 400 < l.length then 5 else 0) else 2
def natV (l : List UInt8) : Int := if natE l = 0 then decV l else 0

theorem chr_get {l : List UInt8} {i : Nat} (h : i < l.length) : chr l i = (l[i].toNat : Int) := by
  simp [chr, ixb, h]
theorem decV_snoc (l : List UInt8) (c : UInt8) : decV (l ++ [c]) = decV l * 10 + ((c.toNat : Int) - 48) := by simp [decV, List.foldl_append]
theorem decV_take {l : List UInt8} {i : Nat} (h : i < l.length) : decV (l.take (i + 1)) = decV (l.take i) * 10 + (chr l i - 48) := by
  rw [chr_get h, List.take_succ_eq_append_getElem h, decV_snoc]
theorem decV_bound {l : List UInt8} (h : ∀ c ∈ l, digB c = true) : 0 ≤ decV l ∧ decV l < 10 ^ l.length := by
  have key : ∀ (n : Nat), n ≤ l.length → 0 ≤ decV (l.take n) ∧ decV (l.take n) < 10 ^ n := by
    intro n
    induction n with
    | zero => intro _; simp [decV]
    | succ n ih =>
      intro hn
      obtain ⟨h1, h2⟩ := ih (by omega)
      rw [decV_take (by omega), chr_get (by omega), Int.pow_succ]
      have := of_decide_eq_true (h l[n] (List.getElem_mem _))
      omega
  have := key l.length (Nat.le_refl _)
  rwa [List.take_length] at this
theorem ten400 : (10 : Int) ^ 400 < 4294967296 ^ 42 := by
  rw [show (400 : Nat) = 200 + 200 from rfl, Int.pow_add]; decide
theorem SzN.dec {l : List UInt8} (h : ∀ c ∈ l, digB c = true) (hl : l.length ≤ 400) : SzN (decV l) 42 := by
  obtain ⟨h1, h2⟩ := decV_bound h
  refine ⟨h1, ?_⟩
  have h3 : (10 : Int) ^ l.length ≤ 10 ^ 400 := by
    obtain ⟨j, hj⟩ := Nat.exists_eq_add_of_le hl
    rw [hj, Int.pow_add]
    have a := Int.pow_pos (n := 10) (m := l.length) (by omega)
    have b := Int.pow_pos (n := 10) (m := j) (by omega)
    have : (10 : Int) ^ l.length * 1 ≤ 10 ^ l.length * 10 ^ j := Int.mul_le_mul_of_nonneg_left (by omega) (by omega)
    omega
  have := ten400
  omega
theorem all_digits {l : List UInt8} : l.all digB = true ↔ ∀ i : Nat, i < l.length → 48 ≤ chr l i ∧ chr l i ≤ 57 := by
  rw [List.all_eq_true]
  constructor
  · intro h i hi
    rw [chr_get hi]
    exact of_decide_eq_true (h _ (List.getElem_mem _))
  · intro h c hc
    obtain ⟨i, hi, rfl⟩ := List.mem_iff_getElem.1 hc
    have := h i hi
    rw [chr_get hi] at this
    exact decide_eq_true this
theorem natE_zero {l : List UInt8} (h : natE l = 0) : l ≠ [] ∧ ¬ (1 < l.length ∧ chr l 0 = 48) ∧ l.all digB = true ∧ l.length ≤ 400 := by
  unfold natE at h
  split at h
  · omega
  · rename_i h1
    split at h
    · split at h
      · omega
      · exact ⟨fun e => h1 (.inl e), fun e => h1 (.inr e), by assumption, by omega⟩
    · omega
instance SzN.natV (l : List UInt8) : SzN (natV l) 42 := by
  unfold K.natV
  split
  · rename_i h
    obtain ⟨_, _, h3, h4⟩ := natE_zero h
    exact SzN.dec (List.all_eq_true.1 h3) h4
  · exact ⟨by omega, Int.pow_pos (by omega)⟩
theorem natE_cases (l : List UInt8) : natE l = 0 ∨ natE l = 2 ∨ natE l = 5 := by
  unfold natE
  split
  · exact .inr (.inl rfl)
  · split
    · split
      · exact .inr (.inr rfl)
      · exact .inl rfl
    · exact .inr (.inl rfl)
/-- the number 0 is written in one way -/
theorem natV_zero {l : List UInt8} (h : natE l = 0) : natV l = 0 ↔ l = [48] := by
  obtain ⟨h1, h2, h3, h4⟩ := natE_zero h
  unfold natV
  rw [if_pos h]
  constructor
  · intro h0
    have hd := all_digits.1 h3
    match l, h1, h2, hd, h0 with
    | [c], _, _, _, h0 =>
      simp [decV] at h0
      have : c.toNat = 48 := by omega
      have : c = 48 := UInt8.toNat_inj.1 (by simpa using this)
      rw [this]
    | c :: d :: r, _, h2, hd, h0 =>
      exfalso
      have h5 := hd 0 (by simp)
      have h6 : chr (c :: d :: r) 0 ≠ 48 := fun e => h2 ⟨by simp, e⟩
      -- the first digit alone makes the number positive
      have key : ∀ (n : Nat), n < (c :: d :: r).length → 0 < decV ((c :: d :: r).take (n + 1)) := by
        intro n
        induction n with
        | zero =>
          intro hn
          rw [decV_take hn]
          have : ((0 : Nat) : Int) = 0 := rfl
          simp only [List.take_zero, decV, List.foldl_nil]
          rw [this]; simp only [this] at h5; omega
        | succ n ih =>
          intro hn
          rw [decV_take hn]
          have := ih (by omega)
          have := hd (n + 1) hn
          omega
      have := key ((c :: d :: r).length - 1) (by simp)
      rw [show (c :: d :: r).length - 1 + 1 = (c :: d :: r).length by simp, List.take_length] at this
      omega
  · intro e; subst e; rfl

theorem natE_bad {l : List UInt8} {i : Nat} (hi : i < l.length) (hb : ¬ (48 ≤ chr l i ∧ chr l i ≤ 57)) : natE l = 2 := by
  unfold natE
  split
  · rfl
  · rw [if_neg]
    intro h
    exact hb (all_digits.1 h i hi)
theorem natE_long {l : List UInt8} (h0 : l ≠ []) (h1 : ¬ (1 < l.length ∧ chr l 0 = 48)) (h : ∀ i : Nat, i < l.length → 48 ≤ chr l i ∧ chr l i ≤ 57) (hl : 400 < l.length) : natE l = 5 := by
  unfold natE
  rw [if_neg (fun h => h.elim h0 h1), if_pos (all_digits.2 h), if_pos hl]
theorem natE_ok {l : List UInt8} (h0 : l ≠ []) (h1 : ¬ (1 < l.length ∧ chr l 0 = 48)) (h : ∀ i : Nat, i < l.length → 48 ≤ chr l i ∧ chr l i ≤ 57) (hl : l.length ≤ 400) : natE l = 0 ∧ natV l = decV l := by
  have e : natE l = 0 := by
    unfold natE
    rw [if_neg (fun h => h.elim h0 h1), if_pos (all_digits.2 h), if_neg (by omega)]
  exact ⟨e, by rw [natV, if_pos e]⟩
theorem natV_bad {l : List UInt8} {e : Int} (h : natE l = e) (he : e ≠ 0) : limbs (natV l) = [] := by rw [natV, if_neg (by omega), limbs_zero]
theorem SzN.take {l : List UInt8} (h : ∀ i : Nat, i < l.length → 48 ≤ chr l i ∧ chr l i ≤ 57) (hl : l.length ≤ 400) (i : Nat) : SzN (decV (l.take i)) 42 :=
  SzN.dec (fun c hc => List.all_eq_true.1 (all_digits.2 h) c (List.mem_of_mem_take hc)) (by simp; omega)
instance (priority := high) NA.one (c : Int) : NA [c] c 1 := ⟨by simp [val], Nat.le_refl _⟩

/-- integers -/
def hasMinus (l : List UInt8) : Bool := decide (l ≠ [] ∧ chr l 0 = 45)
def body (l : List UInt8) : List UInt8 := if hasMinus l = true then l.drop 1 else l
def intE (l : List UInt8) : Int := if natE (body l) ≠ 0 then natE (body l) else if hasMinus l = true ∧ natV (body l) = 0 then 2 else 0
def intV (l : List UInt8) : Int := if intE l = 0 then (if hasMinus l = true then - natV (body l) else natV (body l)) else 0
instance SzI.intV (l : List UInt8) : SzI (intV l) 42 := by
  have h := (SzN.natV (body l))
  unfold K.intV
  split
  · split
    · exact ⟨by have := h.nn; have := h.lt; omega⟩
    · exact ⟨by have := h.nn; have := h.lt; omega⟩
  · exact ⟨by simp⟩
theorem intE_cases (l : List UInt8) : intE l = 0 ∨ intE l = 2 ∨ intE l = 5 := by
  have := natE_cases (body l)
  unfold intE
  split
  · omega
  · split
    · omega
    · omega

theorem natV_nonneg (l : List UInt8) : 0 ≤ natV l := (SzN.natV l).nn
theorem body_minus {l : List UInt8} (h : hasMinus l = true) : body l = l.drop 1 := by rw [body, if_pos h]
theorem body_plain {l : List UInt8} (h : hasMinus l = false) : body l = l := by rw [body, if_neg (by simp [h])]
theorem hasMinus_iff {l : List UInt8} : hasMinus l = true ↔ l ≠ [] ∧ chr l 0 = 45 := by simp [hasMinus]
theorem hasMinus_not {l : List UInt8} : hasMinus l = false ↔ ¬ (l ≠ [] ∧ chr l 0 = 45) := by simp [hasMinus]
theorem minus_zero {l : List UInt8} (h : hasMinus l = true) (hE : natE (body l) = 0) : natV (body l) = 0 ↔ l = [45, 48] := by
  rw [natV_zero hE, body_minus h]
  obtain ⟨h1, h2⟩ := hasMinus_iff.1 h
  match l, h1, h2 with
  | c :: r, _, h2 =>
    have : c = 45 := by
      apply UInt8.toNat_inj.1
      have h3 : (c.toNat : Int) = 45 := by simpa [chr, ixb] using h2
      simpa using (show c.toNat = 45 by omega)
    subst this
    simp
/-- what Parse hands back at a string -/
theorem intP_bad {l : List UInt8} (h : natE (body l) ≠ 0) : intE l = natE (body l) ∧ intV l = 0 := by
  have h1 : intE l = natE (body l) := by rw [intE, if_pos h]
  exact ⟨h1, by rw [intV, if_neg (by rwa [h1])]⟩
theorem intP_minus {l : List UInt8} (h : hasMinus l = true) (hE : natE (body l) = 0) (h0 : natV (body l) ≠ 0) : intE l = 0 ∧ intV l = - natV (body l) := by
  have h1 : intE l = 0 := by rw [intE, if_neg (by omega), if_neg (by simp [h0])]
  exact ⟨h1, by rw [intV, if_pos h1, if_pos h]⟩
theorem intP_zero {l : List UInt8} (h : hasMinus l = true) (hE : natE (body l) = 0) (h0 : natV (body l) = 0) : intE l = 2 ∧ intV l = 0 := by
  have h1 : intE l = 2 := by rw [intE, if_neg (by omega), if_pos ⟨h, h0⟩]
  exact ⟨h1, by rw [intV, if_neg (by omega)]⟩
theorem intP_plain {l : List UInt8} (h : hasMinus l = false) (hE : natE (body l) = 0) : intE l = 0 ∧ intV l = natV (body l) := by
  have h1 : intE l = 0 := by rw [intE, if_neg (by omega), if_neg (by simp [h])]
  exact ⟨h1, by rw [intV, if_pos h1, if_neg (by simp [h])]⟩
end Go.Proofs.YtffcpgebgoineaaDoor.K
