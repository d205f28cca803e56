/- Content outlines: the order of codes, parents, kids: plain laws. Nothing of any program stands here. -/
import Derived.Test.YtglakdnhjpakkaaCWalkD
namespace Go.Proofs.Ytglakdnhjpakkaa.K
open Go
set_option linter.unusedVariables false
set_option linter.unusedSimpArgs false

theorem under_iff {a b : List UInt8} : underS a b = true ↔ b = [] ∨ a = b ∨ b ++ [46] <+: a := by simp [underS]
theorem pre_len {a b : List UInt8} (h : b ++ [46] <+: a) : b.length + 1 ≤ a.length := by have := h.length_le; simpa using this
theorem under_refl (a : List UInt8) : underS a a = true := under_iff.2 (.inr (.inl rfl))
theorem under_anti {a b : List UInt8} (h1 : underS a b = true) (h2 : underS b a = true) : a = b := by
  rcases under_iff.1 h1 with h | h | h
  · subst h
    rcases under_iff.1 h2 with h | h | h
    · exact h
    · exact h.symm
    · have := pre_len h; simp at this
  · exact h
  · have g1 := pre_len h
    rcases under_iff.1 h2 with h' | h' | h'
    · subst h'; simp at g1
    · exact h'.symm
    · have := pre_len h'; omega
theorem under_trans {a b c : List UInt8} (h1 : underS a b = true) (h2 : underS b c = true) : underS a c = true := by
  rcases under_iff.1 h2 with h | h | h
  · exact under_iff.2 (.inl h)
  · subst h; exact h1
  · rcases under_iff.1 h1 with h' | h' | h'
    · subst h'; have := pre_len h; simp at this
    · subst h'; exact h2
    · exact under_iff.2 (.inr (.inr (h.trans ((List.prefix_append b [46]).trans h'))))

/-- the order of strings -/
theorem less_irrefl (a : List UInt8) : Op.bytesLess a a = false := by
  induction a with
  | nil => rfl
  | cons c a ih => simp [Op.bytesLess, ih]
theorem less_trans : ∀ {a b c : List UInt8}, Op.bytesLess a b = true → Op.bytesLess b c = true → Op.bytesLess a c = true
  | [], [], _, h, _ => by simp [Op.bytesLess] at h
  | _, [], _, h, _ => by simp [Op.bytesLess] at h
  | _, _ :: _, [], _, h => by simp [Op.bytesLess] at h
  | [], _ :: _, _ :: _, _, _ => rfl
  | x :: a, y :: b, z :: c, h1, h2 => by
    simp only [Op.bytesLess, Bool.or_eq_true, Bool.and_eq_true, decide_eq_true_eq, beq_iff_eq] at h1 h2 ⊢
    rcases h1 with h1 | ⟨h1, h1'⟩ <;> rcases h2 with h2 | ⟨h2, h2'⟩
    · exact .inl (UInt8.lt_trans h1 h2)
    · subst h2; exact .inl h1
    · subst h1; exact .inl h2
    · subst h1 h2; exact .inr ⟨rfl, less_trans h1' h2'⟩
theorem less_total : ∀ {a b : List UInt8}, Op.bytesLess a b = false → a ≠ b → Op.bytesLess b a = true
  | [], [], _, h => absurd rfl h
  | _ :: _, [], _, _ => rfl
  | [], _ :: _, h, _ => by simp [Op.bytesLess] at h
  | x :: a, y :: b, h, hne => by
    simp only [Op.bytesLess, Bool.or_eq_false_iff, Bool.and_eq_false_iff, decide_eq_false_iff_not, beq_eq_false_iff_ne, Bool.or_eq_true, Bool.and_eq_true, decide_eq_true_eq, beq_iff_eq] at h ⊢
    by_cases e : x = y
    · subst e
      refine .inr ⟨rfl, less_total (h.2.resolve_left (fun h => h rfl)) (fun e => hne (by rw [e]))⟩
    · refine .inl ?_
      have h1 := h.1
      rcases Nat.lt_trichotomy x.toNat y.toNat with h2 | h2 | h2
      · exact absurd (UInt8.lt_iff_toNat_lt.2 h2) h1
      · exact absurd (UInt8.toNat_inj.1 h2) e
      · exact UInt8.lt_iff_toNat_lt.2 h2

/-- the code above -/
theorem last_at {l : List UInt8} {c : Int} {n : Nat} (h : 0 ≤ lastN l c n) : chr l (lastN l c n) = c ∧ ∀ j : Nat, lastN l c n < j → j < n → chr l j ≠ c := by
  induction n with
  | zero => simp [lastN] at h
  | succ n ih =>
    rw [lastN] at h ⊢
    split
    · rename_i h1
      exact ⟨h1, fun j h2 h3 => by omega⟩
    · rename_i h1
      rw [if_neg h1] at h
      obtain ⟨i1, i2⟩ := ih h
      refine ⟨i1, fun j h2 h3 => ?_⟩
      by_cases e : j = n
      · subst e; exact h1
      · exact i2 j h2 (by omega)
theorem last_none {l : List UInt8} {c : Int} {n : Nat} (h : lastN l c n < 0) : ∀ j : Nat, j < n → chr l j ≠ c := by
  induction n with
  | zero => intro j hj; omega
  | succ n ih =>
    rw [lastN] at h
    split at h
    · omega
    · rename_i h1
      intro j hj
      by_cases e : j = n
      · subst e; exact h1
      · exact ih h j (by omega)
theorem chr_46 {l : List UInt8} {i : Nat} (hi : i < l.length) : chr l i = 46 ↔ l[i]? = some 46 := by
  rw [chr_get hi, List.getElem?_eq_getElem hi]
  constructor
  · intro h; rw [UInt8.toNat_inj.1 (show l[i].toNat = (46 : UInt8).toNat by show _ = 46; omega)]
  · intro h; rw [Option.some.inj h]; rfl
/-- a code that has a code above: what stands before the last point, and behind it -/
theorem par_split {l : List UInt8} (h : parOK l = true) : ∃ q, l = parS l ++ 46 :: q ∧ ∀ k : Nat, q[k]? ≠ some 46 := by
  have h0 : 0 ≤ lastI l 46 := of_decide_eq_true h
  have hb := lastN_bound l 46 l.length
  have hi : (lastI l 46).toNat < l.length := by
    have e : lastI l 46 = lastN l 46 l.length := rfl
    rw [e] at h0 ⊢
    omega
  obtain ⟨h1, h2⟩ := last_at (show 0 ≤ lastN l 46 l.length from h0)
  have hlt : ((lastI l 46).toNat : Int) = lastN l 46 l.length := by
    have e : lastI l 46 = lastN l 46 l.length := rfl
    rw [e] at h0 ⊢
    omega
  rw [← hlt] at h1 h2
  rw [chr_46 hi] at h1
  refine ⟨l.drop ((lastI l 46).toNat + 1), ?_, fun k hk => ?_⟩
  · rw [parS, if_neg (by omega)]
    have := List.getElem?_eq_some_iff.1 h1
    conv => lhs; rw [← List.take_append_drop (lastI l 46).toNat l, List.drop_eq_getElem_cons hi, this.2]
  · rw [List.getElem?_drop] at hk
    have h3 := (List.getElem?_eq_some_iff.1 hk).1
    exact h2 ((lastI l 46).toNat + 1 + k) (by omega) h3 ((chr_46 h3).2 hk)
theorem par_none {l : List UInt8} (h : parOK l = false) : parS l = [] ∧ ∀ k : Nat, l[k]? ≠ some 46 := by
  have h0 : ¬ 0 ≤ lastI l 46 := of_decide_eq_false h
  refine ⟨by rw [parS, if_pos (by omega)], fun k hk => ?_⟩
  have h3 := (List.getElem?_eq_some_iff.1 hk).1
  exact last_none (show lastN l 46 l.length < 0 by unfold lastI at h0; omega) k h3 ((chr_46 h3).2 hk)
theorem par_under {l : List UInt8} (h : parOK l = true) : underS l (parS l) = true := by
  obtain ⟨q, hq, _⟩ := par_split h
  refine under_iff.2 (.inr (.inr ⟨q, ?_⟩))
  conv => rhs; rw [hq]
  simp
theorem vrun_sg {sg sz : Int} {l : List UInt8} (h : vrun sg sz l = true) : sg ≤ 5 := by
  induction l generalizing sg sz with
  | nil => exact (of_decide_eq_true h).2
  | cons c r ih =>
    rw [vrun] at h
    split at h
    · split at h
      · cases h
      · have := ih h; omega
    · split at h
      · split at h
        · cases h
        · exact ih h
      · cases h
theorem vrun_pre {p q : List UInt8} {sg sz : Int} (h0 : 0 ≤ sz) (h : vrun sg sz (p ++ 46 :: q) = true) : vrun sg sz p = true := by
  induction p generalizing sg sz with
  | nil =>
    rw [List.nil_append, vrun, if_pos (show (((46 : UInt8).toNat : Nat) : Int) = 46 from rfl)] at h
    split at h
    · cases h
    · have := vrun_sg h
      exact decide_eq_true ⟨by omega, by omega⟩
  | cons c r ih =>
    rw [List.cons_append, vrun] at h
    rw [vrun]
    split at h
    · rename_i h1
      rw [if_pos h1]
      split at h
      · cases h
      · rename_i h2; rw [if_neg h2]; exact ih (by omega) h
    · rename_i h1
      rw [if_neg h1]
      split at h
      · rename_i h2
        rw [if_pos h2]
        split at h
        · cases h
        · rename_i h3; rw [if_neg h3]; exact ih (by omega) h
      · cases h
theorem valid_vrun {l : List UInt8} : validS l = true ↔ l.length ≤ 24 ∧ vrun 1 0 l = true := by
  rw [validS, vrun_start, Bool.and_eq_true, decide_eq_true_eq]
theorem valid_ne {l : List UInt8} (h : validS l = true) : l ≠ [] := fun e => by
  subst e
  have := (valid_vrun.1 h).2
  exact absurd this (by decide)
theorem par_valid {l : List UInt8} (h : parOK l = true) (hv : validS l = true) : validS (parS l) = true := by
  obtain ⟨q, hq, _⟩ := par_split h
  obtain ⟨h1, h2⟩ := valid_vrun.1 hv
  rw [hq] at h1 h2
  refine valid_vrun.2 ⟨by simp at h1; omega, vrun_pre (by omega) h2⟩

/-- an outline without errors -/
structure Fine (T : List (List UInt8 × List UInt8)) : Prop where
  len : T.length ≤ 200
  err : ∀ i : Nat, i < T.length → errAt T i = 0
theorem chk_fine {T : List (List UInt8 × List UInt8)} : ∀ (f i : Nat), i + f = T.length → (chk T i f).1 = 0 → ∀ j, i ≤ j → j < T.length → errAt T j = 0
  | 0, i, h, _, j, h1, h2 => by omega
  | f + 1, i, h, h0, j, h1, h2 => by
    rw [chk] at h0
    split at h0
    · rename_i he
      by_cases e : j = i
      · subst e; exact he
      · exact chk_fine f (i + 1) (by omega) h0 j (by omega) h2
    · rename_i he; exact absurd h0 he
theorem check_fine {T : List (List UInt8 × List UInt8)} (h : (checkS T).1 = 0) : Fine T := by
  unfold checkS at h
  split at h
  · cases h
  · exact ⟨by omega, fun i hi => chk_fine T.length 0 (by omega) h i (by omega) hi⟩
theorem Fine.at {T : List (List UInt8 × List UInt8)} (F : Fine T) {i : Nat} {c t : List UInt8} (h : T[i]? = some (c, t)) :
    validS c = true ∧ (∀ c' t', 0 < i → T[i - 1]? = some (c', t') → Op.bytesLess c' c = true) ∧ (parOK c = true → ∃ j p, j < i ∧ T[j]? = some p ∧ p.1 = parS c) := by
  have hi := (List.getElem?_eq_some_iff.1 h).1
  have he := F.err i hi
  rw [errAt_some h] at he
  cases h1 : validS c
  · rw [if_pos h1] at he; cases he
  rw [if_neg (by rw [h1]; simp)] at he
  cases h2 : titleS t
  · rw [if_pos h2] at he; cases he
  rw [if_neg (by rw [h2]; simp)] at he
  split at he
  · cases he
  rename_i h3
  split at he
  · cases he
  rename_i h4
  refine ⟨rfl, fun c' t' h0 h5 => ?_, fun h5 => ?_⟩
  · have e : T.getD (i - 1) ([], []) = (c', t') := by rw [List.getD_eq_getElem?_getD, h5]; rfl
    rw [e] at h3
    have h6 : cmpStr .leq c c' = false := by
      cases h7 : cmpStr .leq c c'
      · rfl
      · exact absurd ⟨h0, h7⟩ h3
    simp only [cmpStr, Bool.or_eq_false_iff, beq_eq_false_iff_ne] at h6
    exact less_total h6.1 h6.2
  · have h6 : ¬ ∀ q ∈ T.take i, q.1 ≠ parS c := fun h => h4 ⟨h5, h⟩
    rw [mem_take_iff (by omega)] at h6
    refine Classical.byContradiction fun h7 => h6 fun j hj p hp e => h7 ⟨j, p, hj, hp, e⟩
theorem Fine.less {T : List (List UInt8 × List UInt8)} (F : Fine T) : ∀ {j i : Nat} {p q : List UInt8 × List UInt8}, i < j → T[i]? = some p → T[j]? = some q → Op.bytesLess p.1 q.1 = true
  | 0, _, _, _, h, _, _ => by omega
  | j + 1, i, p, q, h, h1, h2 => by
    have hj := (List.getElem?_eq_some_iff.1 h2).1
    have h3 : T[j]? = some T[j] := by simp [show j < T.length by omega]
    have h4 := (F.at (c := q.1) (t := q.2) h2).2.1 T[j].1 T[j].2 (by omega) h3
    by_cases e : i = j
    · subst e
      rw [h1] at h3
      cases h3
      exact h4
    · exact less_trans (F.less (by omega) h1 h3) h4
theorem Fine.inj {T : List (List UInt8 × List UInt8)} (F : Fine T) {i j : Nat} {p q : List UInt8 × List UInt8} (h1 : T[i]? = some p) (h2 : T[j]? = some q) (e : p.1 = q.1) : i = j := by
  rcases Nat.lt_trichotomy i j with h | h | h
  · have := F.less h h1 h2
    rw [e, less_irrefl] at this; cases this
  · exact h
  · have := F.less h h2 h1
    rw [e, less_irrefl] at this; cases this
theorem Fine.nodup {T : List (List UInt8 × List UInt8)} (F : Fine T) : (T.map (·.1)).Nodup := by
  rw [List.nodup_iff_pairwise_ne, List.pairwise_iff_getElem]
  intro i j hi hj hij e
  simp only [List.length_map] at hi hj
  have h1 : T[i]? = some T[i] := by simp [hi]
  have h2 : T[j]? = some T[j] := by simp [hj]
  simp only [List.getElem_map] at e
  have := F.inj h1 h2 e
  omega
end Go.Proofs.Ytglakdnhjpakkaa.K
