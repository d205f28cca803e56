/- Raters: the rules of the chapter as plain functions, and what follows from them. Nothing of any program stands here. -/
import Derived.Test.YtmefecfkajjajaaDoorLnk
namespace Go.Proofs.YtmefecfkajjajaaDoor.K
open Go
set_option linter.unusedVariables false
set_option linter.unusedSimpArgs false

/-- the first of f 0, f 1, .. f (n - 1) that is not 0 -/
def firstN (f : Nat → Int) : Nat → Int
  | 0 => 0
  | n + 1 => if firstN f n ≠ 0 then firstN f n else f n
theorem firstN_zero {f : Nat → Int} {n : Nat} : firstN f n = 0 ↔ ∀ i, i < n → f i = 0 := by
  induction n with
  | zero => simp [firstN]
  | succ n ih =>
    rw [firstN]
    split
    · rename_i h
      refine ⟨fun h' => absurd h' h, fun h' => absurd (ih.2 fun i hi => h' i (by omega)) h⟩
    · rename_i h
      have h1 : firstN f n = 0 := by omega
      refine ⟨fun h2 i hi => ?_, fun h2 => h2 n (by omega)⟩
      by_cases e : i < n
      · exact ih.1 h1 i e
      · rw [show i = n by omega]; exact h2
theorem firstN_stop {f : Nat → Int} {i n : Nat} (h : ∀ j, j < i → f j = 0) (hf : f i ≠ 0) (hn : i < n) : firstN f n = f i := by
  induction n with
  | zero => omega
  | succ n ih =>
    rw [firstN]
    by_cases e : i < n
    · rw [ih e, if_pos hf]
    · have e2 : i = n := by omega
      subst e2
      rw [firstN_zero.2 h]; simp
/-- a rater: Id, Most, Avoid; an assignment: candidate, rater -/
abbrev Rt := Int × Int × List Int
abbrev As := Int × Int
abbrev rowRt (p : Rt) : List D := [.int .i64 p.1, .int .i64 p.2.1, .ints .i64 p.2.2]
abbrev rowAs (p : As) : List D := [.int .i64 p.1, .int .i64 p.2]
def atR (l : List Rt) (i : Nat) : Rt := l.getD i (0, 0, [])
def atA (l : List As) (i : Nat) : As := l.getD i (0, 0)
theorem atR_of {l : List Rt} {i : Nat} {p : Rt} (h : l[i]? = some p) : atR l i = p := by simp [atR, h]
theorem atA_of {l : List As} {i : Nat} {p : As} (h : l[i]? = some p) : atA l i = p := by simp [atA, h]
/-- the number before a place, 0 before the first -/
def prv (l : List Int) (i : Nat) : Int := if i = 0 then 0 else ix l ((i - 1 : Nat) : Int)
def risP (l : List Int) : Prop := ∀ i, i < l.length → prv l i < ix l i
instance (l : List Int) : Decidable (risP l) := inferInstanceAs (Decidable (∀ i, i < l.length → prv l i < ix l i))
def prvId (l : List Rt) (i : Nat) : Int := if i = 0 then 0 else (atR l (i - 1)).1
def idE (l : List Rt) (i : Nat) : Int := if prvId l i < (atR l i).1 ∧ (atR l i).1 ≤ 9999999 then 0 else 23
def rE (r : Rt) : Int := if r.2.1 < 0 ∨ 200 < r.2.1 then 3 else if 200 < r.2.2.length then 5 else if risP r.2.2 then 0 else 23
def validE (l : List Rt) : Int := if 20 < l.length then 5 else if firstN (idE l) l.length ≠ 0 then firstN (idE l) l.length else firstN (fun i => rE (atR l i)) l.length
def candE (l : List Int) : Int := if 200 < l.length then 5 else if risP l then 0 else 23
theorem idE_cases (l : List Rt) (i : Nat) : idE l i = 0 ∨ idE l i = 23 := by unfold idE; split <;> omega
theorem firstN_id (l : List Rt) (n : Nat) : firstN (idE l) n = 0 ∨ firstN (idE l) n = 23 := by
  induction n with
  | zero => exact .inl rfl
  | succ n ih => rw [firstN]; split <;> first | exact ih | exact idE_cases l n
/-- how many responses are assigned to a rater -/
def loadN (L : List As) (id : Int) : Int := (L.countP (fun a => a.2 == id) : Nat)
theorem loadN_nonneg (L : List As) (id : Int) : 0 ≤ loadN L id := by unfold loadN; omega
theorem loadN_le (L : List As) (id : Int) : loadN L id ≤ L.length := by
  unfold loadN; have := List.countP_le_length (p := fun a : As => a.2 == id) (l := L); omega
theorem loadN_append (L M : List As) (id : Int) : loadN (L ++ M) id = loadN L id + loadN M id := by
  unfold loadN; rw [List.countP_append]; omega
theorem loadN_one (p : As) (id : Int) : loadN [p] id = if p.2 = id then 1 else 0 := by
  unfold loadN
  by_cases h : p.2 = id <;> simp [h]
theorem loadN_take {L : List As} {i : Int} {p : As} (h : L[i.toNat]? = some p) (h0 : 0 ≤ i) (id : Int) : loadN (L.take (i + 1).toNat) id = loadN (L.take i.toNat) id + if p.2 = id then 1 else 0 := by
  rw [show (i + 1).toNat = i.toNat + 1 by omega, List.take_add_one, h]
  simp only [Option.toList_some]
  rw [loadN_append, loadN_one]
/-- the index with the smallest load among those that are open, the first one of several; -1 if there is none -/
def lightP (o : Int → Bool) (ld : Int → Int) : List Int → Int → Int
  | [], b => b
  | i :: r, b => lightP o ld r (if o i = true ∧ (b < 0 ∨ ld i < ld b) then i else b)
theorem lightP_append (o : Int → Bool) (ld : Int → Int) (a c : List Int) (b : Int) : lightP o ld (a ++ c) b = lightP o ld c (lightP o ld a b) := by
  induction a generalizing b with
  | nil => rfl
  | cons i a ih => rw [List.cons_append, lightP, lightP, ih]
theorem lightP_spec {o : Int → Bool} {ld : Int → Int} : ∀ (L : List Int) (b : Int), (∀ i ∈ L, 0 ≤ i) →
    let r := lightP o ld L b
    (r = b ∨ (r ∈ L ∧ o r = true)) ∧ (0 ≤ b → 0 ≤ r ∧ ld r ≤ ld b) ∧ ∀ i ∈ L, o i = true → 0 ≤ r ∧ ld r ≤ ld i := by
  intro L
  induction L with
  | nil => intro b _; exact ⟨.inl rfl, fun h => ⟨h, Int.le_refl _⟩, fun i hi => by cases hi⟩
  | cons j L ih =>
    intro b hL
    have hj := hL j (by simp)
    obtain ⟨h1, h2, h3⟩ := ih (if o j = true ∧ (b < 0 ∨ ld j < ld b) then j else b) fun i hi => hL i (by simp [hi])
    rw [lightP]
    by_cases hc : o j = true ∧ (b < 0 ∨ ld j < ld b)
    · rw [if_pos hc] at h1 h2 h3 ⊢
      obtain ⟨h4, h5⟩ := h2 hj
      refine ⟨?_, fun hb => ⟨h4, ?_⟩, fun i hi ho => ?_⟩
      · rcases h1 with h1 | ⟨h1, h6⟩
        · rw [h1]; exact .inr ⟨by simp, hc.1⟩
        · exact .inr ⟨by simp [h1], h6⟩
      · rcases hc.2 with h | h <;> omega
      · rcases List.mem_cons.1 hi with rfl | hi
        · exact ⟨h4, h5⟩
        · exact h3 i hi ho
    · rw [if_neg hc] at h1 h2 h3 ⊢
      refine ⟨?_, h2, fun i hi ho => ?_⟩
      · rcases h1 with h1 | ⟨h1, h6⟩
        · exact .inl h1
        · exact .inr ⟨by simp [h1], h6⟩
      · rcases List.mem_cons.1 hi with rfl | hi
        · have hb : 0 ≤ b ∧ ld b ≤ ld i := by
            have : ¬ (b < 0 ∨ ld i < ld b) := fun h => hc ⟨ho, h⟩
            omega
          have := h2 hb.1
          omega
        · exact h3 i hi ho
theorem lightP_congr {o o' : Int → Bool} {ld ld' : Int → Int} : ∀ (L : List Int) (b : Int), (∀ i ∈ L, o i = o' i ∧ ld i = ld' i) → (0 ≤ b → ld b = ld' b) → lightP o ld L b = lightP o' ld' L b := by
  intro L
  induction L with
  | nil => intro b _ _; rfl
  | cons j L ih =>
    intro b hL hb
    obtain ⟨h1, h2⟩ := hL j (by simp)
    rw [lightP, lightP, h1, h2]
    have e : (b < 0 ∨ ld' j < ld b) = (b < 0 ∨ ld' j < ld' b) := by
      by_cases h : b < 0
      · simp [h]
      · rw [hb (by omega)]
    simp only [e]
    refine ih _ (fun i hi => hL i (by simp [hi])) fun h => ?_
    split at h
    · rename_i hc; rw [if_pos hc, h2]
    · rename_i hc; rw [if_neg hc]; exact hb h
/-- the places 0, 1, .. n - 1 -/
def iota (n : Nat) : List Int := (List.range n).map fun i : Nat => (i : Int)
theorem iota_length (n : Nat) : (iota n).length = n := by simp [iota]
theorem iota_succ (n : Nat) : iota (n + 1) = iota n ++ [(n : Int)] := by simp [iota, List.range_succ]
theorem mem_iota {n : Nat} {i : Int} : i ∈ iota n ↔ 0 ≤ i ∧ i < n := by
  simp only [iota, List.mem_map, List.mem_range]
  refine ⟨fun ⟨j, h1, h2⟩ => by omega, fun h => ⟨i.toNat, by omega, by omega⟩⟩
theorem iota_at {n i : Nat} (h : i < n) : (iota n)[i]? = some (i : Int) := by simp [iota, h]
/-- one draw -/
def stepU (d : Int) : Int := (d * 6364136223846793005 + 1442695040888963407) % 18446744073709551616
def belowU (d n : Int) : Int := stepU d / 4294967296 * n / 4294967296
theorem stepU_bound (d : Int) : 0 ≤ stepU d ∧ stepU d < 18446744073709551616 := by unfold stepU; omega
theorem hi_bound (d : Int) : 0 ≤ stepU d / 4294967296 ∧ stepU d / 4294967296 < 4294967296 := by have := stepU_bound d; omega
theorem belowU_bound (d : Int) {n : Int} (h : 0 < n) : 0 ≤ belowU d n ∧ belowU d n < n := by
  obtain ⟨h1, h2⟩ := hi_bound d
  unfold belowU
  have h3 : stepU d / 4294967296 * n ≤ 4294967295 * n := Int.mul_le_mul_of_nonneg_right (by omega) (by omega)
  have h4 : 0 ≤ stepU d / 4294967296 * n := Int.mul_nonneg h1 (by omega)
  omega
def swp (l : List Int) (i j : Nat) : List Int := (l.set i (ix l (j : Int))).set j (ix l (i : Int))
theorem swp_length (l : List Int) (i j : Nat) : (swp l i j).length = l.length := by simp [swp]
theorem swp_perm {l : List Int} {i j : Nat} (hi : i < l.length) (hj : j < l.length) : (swp l i j).Perm l := by
  have e1 : ix l (j : Int) = l[j] := by simp [ix, hj]
  have e2 : ix l (i : Int) = l[i] := by simp [ix, hi]
  rw [swp, e1, e2]
  exact List.set_set_perm hi hj
/-- the shuffle from a place on -/
def shuf : Nat → List Int → Int → List Int × Int
  | 0, l, d => (l, d)
  | i + 1, l, d => shuf i (swp l (i + 1) (belowU d ((i + 2 : Nat) : Int)).toNat) (stepU d)
theorem shuf_perm : ∀ (i : Nat) (l : List Int) (d : Int), i < l.length → (shuf i l d).1.Perm l := by
  intro i
  induction i with
  | zero => intro l d _; exact List.Perm.refl _
  | succ i ih =>
    intro l d h
    rw [shuf]
    have hb := belowU_bound d (n := ((i + 2 : Nat) : Int)) (by omega)
    refine (ih _ _ (by rw [swp_length]; omega)).trans (swp_perm h (by omega))
def shuffle (n : Nat) (d : Int) : List Int × Int := shuf (n - 1) (iota n) d
theorem shuffle_perm (n : Nat) (d : Int) : (shuffle n d).1.Perm (iota n) := by
  unfold shuffle
  rcases n with _ | n
  · exact List.Perm.refl _
  · exact shuf_perm _ _ _ (by rw [iota_length]; omega)
theorem shuffle_mem {n : Nat} {d i : Int} : i ∈ (shuffle n d).1 ↔ 0 ≤ i ∧ i < n := by rw [(shuffle_perm n d).mem_iff, mem_iota]
/-- who may be taken -/
def openB (l : List Rt) (out : List As) (c tk i : Int) : Bool := decide (i ≠ tk) && (decide (c ∉ (atR l i.toNat).2.2) && decide (loadN out (atR l i.toNat).1 < (atR l i.toNat).2.1))
def pickP (l : List Rt) (order : List Int) (out : List As) (c tk : Int) : Int := lightP (openB l out c tk) (fun i => loadN out (atR l i.toNat).1) order (-1)
def both (l : List Rt) (c a b : Int) : List As := [(c, (atR l a.toNat).1), (c, (atR l b.toNat).1)]
def assignP (l : List Rt) (order : List Int) : List Int → List As → Option (List As)
  | [], out => some out
  | c :: cs, out => if pickP l order out c (-1) < 0 ∨ pickP l order out c (pickP l order out c (-1)) < 0 then none
    else assignP l order cs (out ++ both l c (pickP l order out c (-1)) (pickP l order out c (pickP l order out c (-1))))
end Go.Proofs.YtmefecfkajjajaaDoor.K
namespace Go.Proofs.YtmefecfkajjajaaDoor.K
open Go
set_option linter.unusedVariables false
set_option linter.unusedSimpArgs false

/-- the first place at which p holds, or -1 -/
def findN (p : Nat → Bool) : Nat → Int
  | 0 => -1
  | n + 1 => if 0 ≤ findN p n then findN p n else if p n = true then (n : Int) else -1
theorem findN_none {p : Nat → Bool} {n : Nat} (h : ∀ i, i < n → p i = false) : findN p n = -1 := by
  induction n with
  | zero => rfl
  | succ n ih => rw [findN, ih fun i hi => h i (by omega), if_neg (by omega), if_neg (by rw [h n (by omega)]; simp)]
theorem findN_at {p : Nat → Bool} {i n : Nat} (h : ∀ j, j < i → p j = false) (hp : p i = true) (hn : i < n) : findN p n = i := by
  induction n with
  | zero => omega
  | succ n ih =>
    rw [findN]
    by_cases e : i < n
    · rw [ih e, if_pos (by omega)]
    · have e2 : i = n := by omega
      subst e2
      rw [findN_none h, if_neg (by omega), if_pos hp]
theorem findN_cases (p : Nat → Bool) (n : Nat) : (findN p n = -1 ∧ ∀ i, i < n → p i = false) ∨ ∃ i, i < n ∧ findN p n = i ∧ p i = true ∧ ∀ j, j < i → p j = false := by
  induction n with
  | zero => exact .inl ⟨rfl, fun i hi => by omega⟩
  | succ n ih =>
    rcases ih with ⟨h1, h2⟩ | ⟨i, h1, h2, h3, h4⟩
    · by_cases hp : p n = true
      · exact .inr ⟨n, by omega, findN_at h2 hp (by omega), hp, h2⟩
      · refine .inl ⟨by rw [findN, h1, if_neg (by omega), if_neg hp], fun i hi => ?_⟩
        by_cases e : i < n
        · exact h2 i e
        · rw [show i = n by omega]; simpa using hp
    · exact .inr ⟨i, by omega, findN_at h4 h3 (by omega), h3, h4⟩
def isId (l : List Rt) (id : Int) (j : Nat) : Bool := decide ((atR l j).1 = id)
def chkE (l : List Rt) (L : List As) (i : Nat) : Int :=
  if findN (isId l (atA L i).2) l.length < 0 then 6 else if (atA L i).1 ∈ (atR l (findN (isId l (atA L i).2) l.length).toNat).2.2 then 10 else if i % 2 = 1 ∧ (atA L (i - 1)).2 = (atA L i).2 then 7 else 0
def pairedP (L : List As) (C : List Int) : Prop := L.length = 2 * C.length ∧ ∀ i, i < L.length → (atA L i).1 = ix C ((i / 2 : Nat) : Int)
instance (L : List As) (C : List Int) : Decidable (pairedP L C) := inferInstanceAs (Decidable (_ ∧ ∀ i, i < L.length → _))
def overE (l : List Rt) (L : List As) (i : Nat) : Int := if (atR l i).2.1 < loadN L (atR l i).1 then 3 else 0
def checkE (l : List Rt) (C : List Int) (L : List As) : Int :=
  if validE l ≠ 0 then validE l else if candE C ≠ 0 then candE C else if ¬ pairedP L C then 1 else if firstN (chkE l L) L.length ≠ 0 then firstN (chkE l L) L.length else firstN (overE l L) l.length
theorem valid_zero {l : List Rt} (h : validE l = 0) : l.length ≤ 20 ∧ (∀ i, i < l.length → prvId l i < (atR l i).1 ∧ (atR l i).1 ≤ 9999999) ∧ ∀ i, i < l.length → 0 ≤ (atR l i).2.1 ∧ (atR l i).2.1 ≤ 200 := by
  unfold validE at h
  split at h
  · omega
  split at h
  · rename_i h1 h2; exact absurd h h2
  rename_i h1 h2
  have h3 := firstN_zero.1 (show firstN (idE l) l.length = 0 by omega)
  have h4 := firstN_zero.1 h
  refine ⟨by omega, fun i hi => ?_, fun i hi => ?_⟩
  · have := h3 i hi
    unfold idE at this
    split at this
    · assumption
    · omega
  · have := h4 i hi
    unfold rE at this
    split at this <;> omega
theorem ids_lt {l : List Rt} (h : validE l = 0) {i j : Nat} (hij : i < j) (hj : j < l.length) : (atR l i).1 < (atR l j).1 := by
  obtain ⟨_, h1, _⟩ := valid_zero h
  induction j with
  | zero => omega
  | succ j ih =>
    have h2 := (h1 (j + 1) hj).1
    simp only [prvId, Nat.add_sub_cancel, if_neg (Nat.succ_ne_zero j)] at h2
    by_cases e : i = j
    · subst e; exact h2
    · have := ih (by omega) (by omega); omega
theorem ids_inj {l : List Rt} (h : validE l = 0) {i j : Nat} (hi : i < l.length) (hj : j < l.length) (e : (atR l i).1 = (atR l j).1) : i = j := by
  rcases Nat.lt_trichotomy i j with h1 | h1 | h1
  · have := ids_lt h h1 hj; omega
  · exact h1
  · have := ids_lt h h1 hi; omega
theorem find_id {l : List Rt} (h : validE l = 0) {i : Nat} (hi : i < l.length) : findN (isId l (atR l i).1) l.length = i :=
  findN_at (fun j hj => by
    have := ids_lt h hj hi
    simp only [isId, decide_eq_false_iff_not]; omega) (by simp [isId]) hi
/-- what assignments to the candidates C are like -/
structure AOK (l : List Rt) (C : List Int) (out : List As) : Prop where
  len : out.length = 2 * C.length
  at' : ∀ i, i < C.length → ∃ a b : Nat, a < l.length ∧ b < l.length ∧ a ≠ b ∧ atA out (2 * i) = (ix C i, (atR l a).1) ∧ atA out (2 * i + 1) = (ix C i, (atR l b).1) ∧ ix C i ∉ (atR l a).2.2 ∧ ix C i ∉ (atR l b).2.2
  load : ∀ i, i < l.length → loadN out (atR l i).1 ≤ (atR l i).2.1 ∧ loadN out (atR l i).1 ≤ C.length
theorem AOK.nil {l : List Rt} (h : validE l = 0) : AOK l [] [] :=
  ⟨rfl, fun i hi => by simp at hi, fun i hi => by have := (valid_zero h).2.2 i hi; simp [loadN]; omega⟩
theorem openB_iff {l : List Rt} {out : List As} {c tk i : Int} : openB l out c tk i = true ↔ i ≠ tk ∧ c ∉ (atR l i.toNat).2.2 ∧ loadN out (atR l i.toNat).1 < (atR l i.toNat).2.1 := by
  simp [openB]
theorem pick_spec {l : List Rt} {order : List Int} (ho : ∀ i, i ∈ order ↔ 0 ≤ i ∧ i < (l.length : Int)) {out : List As} {c tk : Int} (h : ¬ pickP l order out c tk < 0) :
    ∃ a : Nat, pickP l order out c tk = a ∧ a < l.length ∧ (a : Int) ≠ tk ∧ c ∉ (atR l a).2.2 ∧ loadN out (atR l a).1 < (atR l a).2.1 ∧ ∀ i : Nat, i < l.length → openB l out c tk i = true → loadN out (atR l a).1 ≤ loadN out (atR l i).1 := by
  have := lightP_spec (o := openB l out c tk) (ld := fun i => loadN out (atR l i.toNat).1) order (-1) fun i hi => ((ho i).1 hi).1
  obtain ⟨h1, h2, h3⟩ := this
  rw [← pickP] at h1 h3
  have h1 := h1.resolve_left (by omega)
  obtain ⟨h4, h5⟩ := (ho _).1 h1.1
  have h6 := openB_iff.1 h1.2
  refine ⟨(pickP l order out c tk).toNat, by omega, by omega, by omega, h6.2.1, h6.2.2, fun i hi hop => ?_⟩
  have := (h3 i ((ho _).2 ⟨by omega, by omega⟩) hop).2
  simpa using this
theorem load_both {l : List Rt} (h : validE l = 0) (out : List As) (c : Int) {a b i : Nat} (ha : a < l.length) (hb : b < l.length) (hi : i < l.length) :
    loadN (out ++ both l c a b) (atR l i).1 = loadN out (atR l i).1 + (if a = i then 1 else 0) + (if b = i then 1 else 0) := by
  have e : both l c a b = [(c, (atR l a).1)] ++ [(c, (atR l b).1)] := by simp [both]
  rw [e, ← List.append_assoc, loadN_append, loadN_append, loadN_one, loadN_one]
  have e1 : ((atR l a).1 = (atR l i).1) = (a = i) := propext ⟨ids_inj h ha hi, fun e => by rw [e]⟩
  have e2 : ((atR l b).1 = (atR l i).1) = (b = i) := propext ⟨ids_inj h hb hi, fun e => by rw [e]⟩
  simp only [e1, e2]
theorem AOK.step {l : List Rt} (h : validE l = 0) {C : List Int} {out : List As} (hA : AOK l C out) {c : Int} {a b : Nat} (ha : a < l.length) (hb : b < l.length) (hab : a ≠ b) (ha1 : c ∉ (atR l a).2.2) (hb1 : c ∉ (atR l b).2.2) (ha2 : loadN out (atR l a).1 < (atR l a).2.1) (hb2 : loadN out (atR l b).1 < (atR l b).2.1) :
    AOK l (C ++ [c]) (out ++ both l c a b) := by
  refine ⟨by simp [hA.len, both]; omega, fun i hi => ?_, fun i hi => ?_⟩
  · simp only [List.length_append, List.length_cons, List.length_nil] at hi
    by_cases e : i < C.length
    · obtain ⟨a', b', h1, h2, h3, h4, h5, h6, h7⟩ := hA.at' i e
      have e1 : ix (C ++ [c]) (i : Int) = ix C i := by simp only [ix, Int.toNat_natCast, List.getD_eq_getElem?_getD, List.getElem?_append_left e]
      have e2 : ∀ j, j < 2 * C.length → atA (out ++ both l c a b) j = atA out j := fun j hj => by
        simp [atA, List.getElem?_append_left, hA.len, hj]
      exact ⟨a', b', h1, h2, h3, by rw [e1, e2 _ (by omega), h4], by rw [e1, e2 _ (by omega), h5], by rwa [e1], by rwa [e1]⟩
    · have e1 : i = C.length := by omega
      subst e1
      have e2 : ix (C ++ [c]) (C.length : Int) = c := by simp [ix]
      refine ⟨a, b, ha, hb, hab, ?_, ?_, by rwa [e2], by rwa [e2]⟩
      · rw [e2]; simp [atA, hA.len, both]
      · rw [e2]; simp [atA, hA.len, both, List.getElem?_append_right]
  · rw [load_both h out c ha hb hi]
    have := hA.load i hi
    simp only [List.length_append, List.length_cons, List.length_nil]
    by_cases e1 : a = i <;> by_cases e2 : b = i
    · omega
    · subst e1; rw [if_pos rfl, if_neg e2]; omega
    · subst e2; rw [if_pos rfl, if_neg e1]; omega
    · rw [if_neg e1, if_neg e2]; omega
def Bal (l : List Rt) (out : List As) : Prop := ∀ i j, i < l.length → j < l.length → loadN out (atR l i).1 ≤ loadN out (atR l j).1 + 1
def easyP (l : List Rt) (n : Nat) : Prop := ∀ i, i < l.length → (atR l i).2.2 = [] ∧ (n : Int) ≤ (atR l i).2.1
theorem assign_ok {l : List Rt} (h : validE l = 0) {order : List Int} (ho : ∀ i, i ∈ order ↔ 0 ≤ i ∧ i < (l.length : Int)) : ∀ (cs : List Int) (C : List Int) (out out' : List As), AOK l C out → assignP l order cs out = some out' →
    AOK l (C ++ cs) out' ∧ (easyP l (C.length + cs.length) → Bal l out → Bal l out') := by
  intro cs
  induction cs with
  | nil => intro C out out' hA h1; rw [assignP] at h1; cases h1; simp only [List.append_nil]; exact ⟨hA, fun _ h => h⟩
  | cons c cs ih =>
    intro C out out' hA h1
    rw [assignP] at h1
    split at h1
    · cases h1
    rename_i hn
    have hn1 : ¬ pickP l order out c (-1) < 0 := fun h => hn (.inl h)
    have hn2 : ¬ pickP l order out c (pickP l order out c (-1)) < 0 := fun h => hn (.inr h)
    obtain ⟨a, a1, a2, a3, a4, a5, a6⟩ := pick_spec ho hn1
    obtain ⟨b, b1, b2, b3, b4, b5, b6⟩ := pick_spec ho hn2
    rw [b1, a1] at h1
    rw [a1] at b3 b6
    have hab : a ≠ b := fun e => b3 (by rw [e])
    have hst := hA.step h (c := c) a2 b2 hab a4 b4 a5 b5
    obtain ⟨g1, g2⟩ := ih _ _ _ hst h1
    rw [List.append_assoc, List.singleton_append] at g1
    refine ⟨g1, fun he hB => g2 (fun i hi => ?_) fun i j hi hj => ?_⟩
    · have := he i hi
      simp only [List.length_append, List.length_cons, List.length_nil] at this ⊢
      exact ⟨this.1, by omega⟩
    · rw [load_both h out c a2 b2 hi, load_both h out c a2 b2 hj]
      have hop : ∀ (tk : Int) (k : Nat), k < l.length → (k : Int) ≠ tk → openB l out c tk k = true := fun tk k hk hkt => by
        have h3 := he k hk
        have h4 := (hA.load k hk).2
        simp only [List.length_cons] at h3
        exact openB_iff.2 ⟨hkt, by simp [h3.1], by simp only [Int.toNat_natCast]; omega⟩
      have hia := a6 j hj (hop _ j hj (by omega))
      have hij := hB i j hi hj
      have hib : j ≠ a → loadN out (atR l b).1 ≤ loadN out (atR l j).1 := fun hja => b6 j hj (hop _ j hj (by omega))
      by_cases c1 : a = i <;> by_cases c2 : b = i <;> by_cases c3 : a = j <;> by_cases c4 : b = j <;> simp only [c1, c2, c3, c4, if_true, if_false] <;> first
        | omega
        | (subst c1; omega)
        | (have := hib (fun e => c3 e.symm); subst c2; omega)
/-- assignments pass Check -/
theorem check_ok {l : List Rt} {C : List Int} {out : List As} (h : validE l = 0) (hc : candE C = 0) (hA : AOK l C out) : checkE l C out = 0 := by
  have hat : ∀ i, i < out.length → ∃ a : Nat, a < l.length ∧ atA out i = (ix C ((i / 2 : Nat) : Int), (atR l a).1) ∧ ix C ((i / 2 : Nat) : Int) ∉ (atR l a).2.2 ∧ (i % 2 = 1 → (atA out (i - 1)).2 ≠ (atA out i).2) := fun i hi => by
    obtain ⟨a, b, h1, h2, h3, h4, h5, h6, h7⟩ := hA.at' (i / 2) (by have := hA.len; omega)
    rcases Nat.mod_two_eq_zero_or_one i with e | e
    · have e1 : 2 * (i / 2) = i := by omega
      rw [e1] at h4
      exact ⟨a, h1, h4, h6, fun e2 => by omega⟩
    · have e1 : 2 * (i / 2) + 1 = i := by omega
      have e2 : 2 * (i / 2) = i - 1 := by omega
      rw [e1] at h5
      rw [e2] at h4
      refine ⟨b, h2, h5, h7, fun _ e3 => h3 (ids_inj h h1 h2 ?_)⟩
      rw [h4, h5] at e3; exact e3
  have hp : pairedP out C := ⟨hA.len, fun i hi => by obtain ⟨a, h1, h2, h3, h4⟩ := hat i hi; rw [h2]⟩
  have hchk : firstN (chkE l out) out.length = 0 := firstN_zero.2 fun i hi => by
    obtain ⟨a, h1, h2, h3, h4⟩ := hat i hi
    unfold chkE
    rw [h2] at h4 ⊢
    simp only at h4 ⊢
    rw [find_id h h1, if_neg (by omega), if_neg (by simpa using h3), if_neg (fun e => h4 e.1 e.2)]
  have hov : firstN (overE l out) l.length = 0 := firstN_zero.2 fun i hi => by
    unfold overE; rw [if_neg (by have := (hA.load i hi).1; omega)]
  unfold checkE
  rw [if_neg (by omega), if_neg (by omega), if_neg (by simpa using hp), if_neg (by omega), hov]
/-- the third rater -/
def cntC (L : List As) (c : Int) : Int := (L.countP (fun a => a.1 == c) : Nat)
def asgL (L : List As) (c : Int) : List Int := (L.filter fun a => a.1 == c).map (·.2)
def thirdB (l : List Rt) (L : List As) (c i : Int) : Bool := decide (c ∉ (atR l i.toNat).2.2) && (decide ((atR l i.toNat).1 ∉ asgL L c) && decide (loadN L (atR l i.toNat).1 < (atR l i.toNat).2.1))
def thirdP (l : List Rt) (L : List As) (c : Int) : Int := lightP (thirdB l L c) (fun i => loadN L (atR l i.toNat).1) (iota l.length) (-1)
def thirdE (l : List Rt) (L : List As) (c : Int) : Int := if validE l ≠ 0 then validE l else if (asgL L c).length ≠ 2 then 6 else if thirdP l L c < 0 then 14 else 0
theorem mem_asgL {L : List As} {c id : Int} : id ∈ asgL L c ↔ (c, id) ∈ L := by
  simp only [asgL, List.mem_map, List.mem_filter, beq_iff_eq]
  refine ⟨fun ⟨a, ⟨h1, h2⟩, h3⟩ => ?_, fun h => ⟨_, ⟨h, rfl⟩, rfl⟩⟩
  subst h2 h3; exact h1
theorem third_spec {l : List Rt} {L : List As} {c : Int} (h : thirdE l L c = 0) : ∃ a : Nat, thirdP l L c = a ∧ a < l.length ∧ c ∉ (atR l a).2.2 ∧ (c, (atR l a).1) ∉ L ∧ loadN L (atR l a).1 < (atR l a).2.1 := by
  unfold thirdE at h
  split at h
  · rename_i h1; exact absurd h h1
  split at h
  · omega
  split at h
  · omega
  rename_i h1 h2 h3
  have := (lightP_spec (o := thirdB l L c) (ld := fun i => loadN L (atR l i.toNat).1) (iota l.length) (-1) fun i hi => (mem_iota.1 hi).1).1
  rw [← thirdP] at this
  have := this.resolve_left (by omega)
  obtain ⟨g1, g2⟩ := mem_iota.1 this.1
  have g3 := this.2
  simp only [thirdB, Bool.and_eq_true, decide_eq_true_eq] at g3
  exact ⟨(thirdP l L c).toNat, by omega, by omega, g3.1, fun hm => g3.2.1 (mem_asgL.2 hm), g3.2.2⟩
end Go.Proofs.YtmefecfkajjajaaDoor.K
namespace Go.Proofs.YtmefecfkajjajaaDoor.K
open Go
set_option linter.unusedVariables false
set_option linter.unusedSimpArgs false

theorem sumZ_congr {f g : Nat → Int} {n : Nat} (h : ∀ i, i < n → f i = g i) : sumZ f n = sumZ g n := by
  induction n with
  | zero => rfl
  | succ n ih => rw [sumZ, sumZ, ih fun i hi => h i (by omega), h n (by omega)]
theorem sumZ_zero (n : Nat) : sumZ (fun _ => 0) n = 0 := by
  induction n with
  | zero => rfl
  | succ n ih => rw [sumZ, ih]; rfl
theorem sumZ_add (f g : Nat → Int) (n : Nat) : sumZ (fun i => f i + g i) n = sumZ f n + sumZ g n := by
  induction n with
  | zero => rfl
  | succ n ih => simp only [sumZ, ih]; omega
theorem sumZ_swap (f : Nat → Nat → Int) (n m : Nat) : sumZ (fun i => sumZ (fun k => f i k) m) n = sumZ (fun k => sumZ (fun i => f i k) n) m := by
  induction n with
  | zero => simp only [sumZ]; rw [sumZ_zero]
  | succ n ih => simp only [sumZ]; rw [ih, ← sumZ_add]
theorem sumZ_le {f : Nat → Int} {c : Int} {n : Nat} (h : ∀ i, i < n → 0 ≤ f i ∧ f i ≤ c) : 0 ≤ sumZ f n ∧ sumZ f n ≤ c * n := by
  induction n with
  | zero => simp [sumZ]
  | succ n ih =>
    have := ih fun i hi => h i (by omega)
    have := h n (by omega)
    have e : c * ((n + 1 : Nat) : Int) = c * n + c := by rw [Int.natCast_succ, Int.mul_add, Int.mul_one]
    rw [e]; simp only [sumZ]; omega
theorem sumZ_full {f : Nat → Int} {n : Nat} (h : ∀ i, i < n → f i ≤ 1) : sumZ f n ≤ n ∧ (sumZ f n = n ↔ ∀ i, i < n → f i = 1) := by
  induction n with
  | zero => simp [sumZ]
  | succ n ih =>
    obtain ⟨h1, h2⟩ := ih fun i hi => h i (by omega)
    have h3 := h n (by omega)
    simp only [sumZ]
    refine ⟨by omega, fun h4 i hi => ?_, fun h4 => ?_⟩
    · by_cases e : i < n
      · exact h2.1 (by omega) i e
      · rw [show i = n by omega]; omega
    · have := h2.2 fun i hi => h4 i (by omega)
      have := h4 n (by omega)
      omega
theorem sumZ_none {f : Nat → Int} {n : Nat} (h : ∀ i, i < n → 0 ≤ f i) : 0 ≤ sumZ f n ∧ (sumZ f n = 0 ↔ ∀ i, i < n → f i = 0) := by
  induction n with
  | zero => simp [sumZ]
  | succ n ih =>
    obtain ⟨h1, h2⟩ := ih fun i hi => h i (by omega)
    have h3 := h n (by omega)
    simp only [sumZ]
    refine ⟨by omega, fun h4 i hi => ?_, fun h4 => ?_⟩
    · by_cases e : i < n
      · exact h2.1 (by omega) i e
      · rw [show i = n by omega]; omega
    · have := h2.2 fun i hi => h4 i (by omega)
      have := h4 n (by omega)
      omega
def eq1 (x y : Int) : Int := if x = y then 1 else 0
def sq1 (x y : Int) : Int := (x - y) * (x - y)
theorem eq1_bound (x y : Int) : 0 ≤ eq1 x y ∧ eq1 x y ≤ 1 := by unfold eq1; split <;> omega
theorem eq1_comm (x y : Int) : eq1 x y = eq1 y x := by unfold eq1; split <;> split <;> omega
theorem eq1_one {x y : Int} : eq1 x y = 1 ↔ x = y := by unfold eq1; split <;> omega
theorem eq1_turn (m x y : Int) : eq1 (m - x) (m - y) = eq1 x y := by unfold eq1; split <;> split <;> omega
theorem sq1_comm (x y : Int) : sq1 x y = sq1 y x := by
  unfold sq1
  have : y - x = -(x - y) := by omega
  rw [this, Int.neg_mul_neg]
theorem sq1_nonneg (x y : Int) : 0 ≤ sq1 x y := by
  unfold sq1
  rcases Int.le_total 0 (x - y) with h | h
  · exact Int.mul_nonneg h h
  · have := Int.mul_nonneg (show 0 ≤ -(x - y) by omega) (show 0 ≤ -(x - y) by omega)
    rwa [Int.neg_mul_neg] at this
theorem sq1_zero {x y : Int} : sq1 x y = 0 ↔ x = y := by
  unfold sq1
  rw [Int.mul_eq_zero, or_self]; omega
theorem sq1_turn (m x y : Int) : sq1 (m - x) (m - y) = sq1 x y := by
  rw [sq1_comm x y]
  unfold sq1
  have : m - x - (m - y) = y - x := by omega
  rw [this]
theorem sq1_le {x y : Int} (hx : 0 ≤ x ∧ x ≤ 50) (hy : 0 ≤ y ∧ y ≤ 50) : 0 ≤ sq1 x y ∧ sq1 x y ≤ 2500 := by
  refine ⟨sq1_nonneg x y, ?_⟩
  unfold sq1
  rcases Int.le_total 0 (x - y) with h | h
  · have := Int.mul_le_mul (show x - y ≤ 50 by omega) (show x - y ≤ 50 by omega) h (by omega); omega
  · have := Int.mul_le_mul (show -(x - y) ≤ 50 by omega) (show -(x - y) ≤ 50 by omega) (by omega) (by omega)
    rw [Int.neg_mul_neg] at this; omega
def eqS (a b : List Int) (n : Nat) : Int := sumZ (fun i => eq1 (ix a i) (ix b i)) n
def prS (a b : List Int) (m n : Nat) : Int := sumZ (fun i => sumZ (fun k => eq1 (ix a i) (ix b k)) m) n
def obS (a b : List Int) (n : Nat) : Int := sumZ (fun i => sq1 (ix a i) (ix b i)) n
def sqS (a b : List Int) (m n : Nat) : Int := sumZ (fun i => sumZ (fun k => sq1 (ix a i) (ix b k)) m) n
theorem eqS_comm (a b : List Int) (n : Nat) : eqS a b n = eqS b a n := sumZ_congr fun i _ => eq1_comm _ _
theorem obS_comm (a b : List Int) (n : Nat) : obS a b n = obS b a n := sumZ_congr fun i _ => sq1_comm _ _
theorem prS_comm (a b : List Int) (m n : Nat) : prS a b m n = prS b a n m := by
  unfold prS
  rw [sumZ_swap]
  exact sumZ_congr fun i _ => sumZ_congr fun k _ => eq1_comm _ _
theorem sqS_comm (a b : List Int) (m n : Nat) : sqS a b m n = sqS b a n m := by
  unfold sqS
  rw [sumZ_swap]
  exact sumZ_congr fun i _ => sumZ_congr fun k _ => sq1_comm _ _
theorem eqS_bound (a b : List Int) (n : Nat) : 0 ≤ eqS a b n ∧ eqS a b n ≤ n := by
  have := sumZ_le (f := fun i => eq1 (ix a i) (ix b i)) (c := 1) (n := n) fun i _ => eq1_bound _ _
  unfold eqS; omega
theorem eqS_full (a b : List Int) (n : Nat) : eqS a b n = n ↔ ∀ i : Nat, i < n → ix a i = ix b i :=
  (sumZ_full (f := fun i => eq1 (ix a i) (ix b i)) fun i _ => (eq1_bound _ _).2).2.trans ⟨fun h i hi => eq1_one.1 (h i hi), fun h i hi => eq1_one.2 (h i hi)⟩
theorem prS_bound (a b : List Int) (m n : Nat) : 0 ≤ prS a b m n ∧ prS a b m n ≤ (m : Int) * n :=
  sumZ_le (f := fun i => sumZ (fun k => eq1 (ix a i) (ix b k)) m) (c := m) fun i _ => by
    have := sumZ_le (f := fun k => eq1 (ix a i) (ix b k)) (c := 1) (n := m) fun k _ => eq1_bound _ _
    omega
def rtOK (l : List Int) (m : Int) : Prop := ∀ n ∈ l, 0 ≤ n ∧ n ≤ m
instance (l : List Int) (m : Int) : Decidable (rtOK l m) := inferInstanceAs (Decidable (∀ n ∈ l, _))
theorem rt_ix {l : List Int} {m : Int} (h : rtOK l m) (hm : 0 ≤ m) (i : Int) : 0 ≤ ix l i ∧ ix l i ≤ m := by
  unfold ix
  rw [List.getD_eq_getElem?_getD]
  cases e : l[i.toNat]? with
  | none => simp; omega
  | some n => exact h n (List.mem_of_getElem? e)
theorem obS_bound {a b : List Int} {m : Int} (ha : rtOK a m) (hb : rtOK b m) (hm : 0 ≤ m) (hm' : m ≤ 50) (n : Nat) : 0 ≤ obS a b n ∧ obS a b n ≤ 2500 * n :=
  sumZ_le (f := fun i => sq1 (ix a i) (ix b i)) fun i _ => by
    have := rt_ix ha hm i; have := rt_ix hb hm i; exact sq1_le (by omega) (by omega)
theorem sqrow_bound {b : List Int} {m x : Int} (hx : 0 ≤ x ∧ x ≤ m) (hb : rtOK b m) (hm : 0 ≤ m) (hm' : m ≤ 50) (k : Nat) : 0 ≤ sumZ (fun k => sq1 x (ix b k)) k ∧ sumZ (fun k => sq1 x (ix b k)) k ≤ 2500 * k :=
  sumZ_le fun k _ => by have := rt_ix hb hm k; exact sq1_le (by omega) (by omega)
theorem sqS_bound {a b : List Int} {m : Int} (ha : rtOK a m) (hb : rtOK b m) (hm : 0 ≤ m) (hm' : m ≤ 50) (k n : Nat) : 0 ≤ sqS a b k n ∧ sqS a b k n ≤ 2500 * k * n :=
  sumZ_le (f := fun i => sumZ (fun k => sq1 (ix a i) (ix b k)) k) fun i _ => sqrow_bound (rt_ix ha hm i) hb hm hm' k
theorem obS_zero (a b : List Int) (n : Nat) : 0 ≤ obS a b n ∧ (obS a b n = 0 ↔ ∀ i : Nat, i < n → ix a i = ix b i) := by
  obtain ⟨h1, h2⟩ := sumZ_none (f := fun i => sq1 (ix a i) (ix b i)) (n := n) fun i _ => sq1_nonneg _ _
  exact ⟨h1, h2.trans ⟨fun h i hi => sq1_zero.1 (h i hi), fun h i hi => sq1_zero.2 (h i hi)⟩⟩
/-- the contrary scale -/
def turnS (a : List Int) (m : Int) : List Int := a.map (m - ·)
theorem turn_ix {a : List Int} {m : Int} {i : Nat} (h : i < a.length) : ix (turnS a m) i = m - ix a i := by simp [ix, turnS, h]
theorem turn_len (a : List Int) (m : Int) : (turnS a m).length = a.length := by simp [turnS]
theorem turn_ok {a : List Int} {m : Int} (h : rtOK a m) : rtOK (turnS a m) m := fun x hx => by
  obtain ⟨y, hy, rfl⟩ := List.mem_map.1 hx
  have := h y hy; omega
theorem eqS_turn {a b : List Int} {m : Int} {n : Nat} (ha : n ≤ a.length) (hb : n ≤ b.length) : eqS (turnS a m) (turnS b m) n = eqS a b n :=
  sumZ_congr fun i hi => by rw [turn_ix (by omega), turn_ix (by omega), eq1_turn]
theorem obS_turn {a b : List Int} {m : Int} {n : Nat} (ha : n ≤ a.length) (hb : n ≤ b.length) : obS (turnS a m) (turnS b m) n = obS a b n :=
  sumZ_congr fun i hi => by rw [turn_ix (by omega), turn_ix (by omega), sq1_turn]
theorem prS_turn {a b : List Int} {m : Int} {k n : Nat} (ha : n ≤ a.length) (hb : k ≤ b.length) : prS (turnS a m) (turnS b m) k n = prS a b k n :=
  sumZ_congr fun i hi => sumZ_congr fun j hj => by rw [turn_ix (by omega), turn_ix (by omega), eq1_turn]
theorem sqS_turn {a b : List Int} {m : Int} {k n : Nat} (ha : n ≤ a.length) (hb : k ≤ b.length) : sqS (turnS a m) (turnS b m) k n = sqS a b k n :=
  sumZ_congr fun i hi => sumZ_congr fun j hj => by rw [turn_ix (by omega), turn_ix (by omega), sq1_turn]
def pairE (a b : List Int) : Int := if 200 < a.length ∨ 200 < b.length then 5 else if a.length ≠ b.length then 1 else if a.length = 0 then 20 else 0
def ratedE (a b : List Int) (m : Int) : Int := if pairE a b ≠ 0 then pairE a b else if 1 ≤ m ∧ m ≤ 50 ∧ rtOK a m ∧ rtOK b m then 0 else 3
theorem pairE_zero {a b : List Int} : pairE a b = 0 ↔ a.length ≤ 200 ∧ a.length = b.length ∧ 0 < a.length := by
  unfold pairE; split
  · omega
  split
  · omega
  split <;> omega
theorem pairE_cases (a b : List Int) : pairE a b = 0 ∨ pairE a b = 1 ∨ pairE a b = 5 ∨ pairE a b = 20 := by
  unfold pairE; (repeat' split) <;> omega
theorem pairE_comm (a b : List Int) : pairE a b = pairE b a := by
  unfold pairE
  by_cases h1 : 200 < a.length <;> by_cases h2 : 200 < b.length <;> by_cases h3 : a.length = b.length <;> simp [h1, h2, h3] <;> (try omega)
  all_goals
    (try rw [if_neg (show ¬ b.length = a.length by omega)])
theorem ratedE_comm (a b : List Int) (m : Int) : ratedE a b m = ratedE b a m := by
  unfold ratedE
  rw [pairE_comm a b]
  have e : (1 ≤ m ∧ m ≤ 50 ∧ rtOK a m ∧ rtOK b m) = (1 ≤ m ∧ m ≤ 50 ∧ rtOK b m ∧ rtOK a m) := by
    apply propext
    exact ⟨fun ⟨x1, x2, x3, x4⟩ => ⟨x1, x2, x4, x3⟩, fun ⟨x1, x2, x3, x4⟩ => ⟨x1, x2, x4, x3⟩⟩
  simp only [e]
theorem ratedE_zero {a b : List Int} {m : Int} (h : ratedE a b m = 0) : pairE a b = 0 ∧ 1 ≤ m ∧ m ≤ 50 ∧ rtOK a m ∧ rtOK b m := by
  unfold ratedE at h
  split at h
  · rename_i h1; exact absurd h h1
  split at h
  · rename_i h1 h2; exact ⟨by omega, h2⟩
  · omega
theorem ratedE_turn {a b : List Int} {m : Int} (h : ratedE a b m = 0) : ratedE (turnS a m) (turnS b m) m = 0 := by
  obtain ⟨h1, h2, h3, h4, h5⟩ := ratedE_zero h
  have : pairE (turnS a m) (turnS b m) = 0 := pairE_zero.2 (by rw [turn_len, turn_len]; exact pairE_zero.1 h1)
  unfold ratedE
  rw [if_neg (by omega), if_pos ⟨h2, h3, turn_ok h4, turn_ok h5⟩]
end Go.Proofs.YtmefecfkajjajaaDoor.K
