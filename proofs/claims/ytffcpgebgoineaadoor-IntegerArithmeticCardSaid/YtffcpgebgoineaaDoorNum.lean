
/- Natural numbers as lists of limbs of 32 bits, the least one first. -/
namespace Go.Proofs.YtffcpgebgoineaaDoor.K
set_option linter.unusedVariables false
set_option linter.unusedSimpArgs false
set_option linter.unusedSectionVars false

/-- the element at an index -/
def ix (l : List Int) (i : Int) : Int := l.getD i.toNat 0
theorem idx {l : List Int} {i : Int} (h0 : 0 ≤ i) (h : i < (l.length : Int)) : l[i.toNat]? = some (ix l i) := by
  have hl : i.toNat < l.length := by omega
  simp [ix, hl]
theorem idxN {l : List Int} {n : Nat} (h : n < l.length) : l[n]? = some (ix l n) := by simp [ix, h]

/-- the byte at an index, the row of cells at an index -/
def ixb (l : List UInt8) (i : Int) : UInt8 := l.getD i.toNat 0
theorem ixu {l : List UInt8} {i : Int} (h0 : 0 ≤ i) (h : i < (l.length : Int)) : l[i.toNat]? = some (ixb l i) := by
  have hl : i.toNat < l.length := by omega
  simp [ixb, hl]
def ixc {α : Type} (l : List (List α)) (i : Int) : List α := l.getD i.toNat []
theorem ixs {α : Type} {l : List (List α)} {i : Int} (h0 : 0 ≤ i) (h : i < (l.length : Int)) : l[i.toNat]? = some (ixc l i) := by
  have hl : i.toNat < l.length := by omega
  simp [ixc, hl]

def Lim (l : List Int) : Prop := ∀ x ∈ l, 0 ≤ x ∧ x < 4294967296
theorem Lim.nil : Lim [] := fun x h => by cases h
theorem Lim.cons {x : Int} {l : List Int} : Lim (x :: l) ↔ (0 ≤ x ∧ x < 4294967296) ∧ Lim l := by simp [Lim]
theorem Lim.ix {l : List Int} (h : Lim l) (i : Int) : 0 ≤ ix l i ∧ ix l i < 4294967296 := by
  unfold K.ix
  rw [List.getD_eq_getElem?_getD]
  cases hi : l[i.toNat]? with
  | none => simp
  | some x => exact h x (List.mem_of_getElem? hi)
theorem Lim.take {l : List Int} (h : Lim l) (n : Nat) : Lim (l.take n) := fun x hx => h x (List.mem_of_mem_take hx)
theorem Lim.drop {l : List Int} (h : Lim l) (n : Nat) : Lim (l.drop n) := fun x hx => h x (List.mem_of_mem_drop hx)
theorem Lim.set {l : List Int} (h : Lim l) {n : Nat} {v : Int} (hv : 0 ≤ v ∧ v < 4294967296) : Lim (l.set n v) := fun x hx => by
  rcases List.mem_or_eq_of_mem_set hx with h1 | h1
  · exact h x h1
  · rw [h1]; exact hv
theorem Lim.rep (n : Nat) : Lim (List.replicate n 0) := fun x hx => by rw [List.mem_replicate] at hx; omega

def val : List Int → Int
  | [] => 0
  | x :: l => x + 4294967296 * val l

theorem val_nonneg {l : List Int} (h : Lim l) : 0 ≤ val l := by
  induction l with
  | nil => simp [val]
  | cons x l ih => have := Lim.cons.1 h; have := ih this.2; simp only [val]; omega
theorem pow_pos' (n : Nat) : (0 : Int) < 4294967296 ^ n := Int.pow_pos (by omega)
theorem val_lt {l : List Int} (h : Lim l) : val l < 4294967296 ^ l.length := by
  induction l with
  | nil => simp [val]
  | cons x l ih =>
    have h1 := Lim.cons.1 h
    have := ih h1.2
    simp only [val, List.length_cons, Int.pow_succ]
    omega
theorem val_append (l m : List Int) : val (l ++ m) = val l + 4294967296 ^ l.length * val m := by
  induction l with
  | nil => simp [val]
  | cons x l ih => simp only [List.cons_append, val, ih, List.length_cons, Int.pow_succ]; grind
theorem val_rep (n : Nat) : val (List.replicate n 0) = 0 := by
  induction n with
  | zero => rfl
  | succ n ih => simp [List.replicate_succ, val, ih]
theorem val_take_succ (l : List Int) (n : Nat) : val (l.take (n + 1)) = val (l.take n) + 4294967296 ^ n * ix l n := by
  by_cases h : n < l.length
  · rw [List.take_add_one, List.getElem?_eq_getElem h, val_append]
    have e : (l.take n).length = n := by simp; omega
    simp [e, val, ix, h]
  · rw [List.take_of_length_le (by omega), List.take_of_length_le (by omega)]
    have : ix l n = 0 := by
      simp only [ix, Int.toNat_natCast, List.getD_eq_getElem?_getD]
      rw [List.getElem?_eq_none (by omega)]; rfl
    simp [this]
theorem val_split (l : List Int) (n : Nat) (h : n ≤ l.length) : val l = val (l.take n) + 4294967296 ^ n * val (l.drop n) := by
  have := val_append (l.take n) (l.drop n)
  rw [List.take_append_drop] at this
  have e : (l.take n).length = n := by simp; omega
  rwa [e] at this
theorem val_drop (l : List Int) (n : Nat) (h : n < l.length) : val (l.drop n) = ix l n + 4294967296 * val (l.drop (n + 1)) := by
  rw [List.drop_eq_getElem_cons h]
  simp [val, ix, h]
theorem take_set_same {l : List Int} {n : Nat} {v : Int} : (l.set n v).take n = l.take n := by
  rw [List.take_set_of_le (Nat.le_refl _)]
theorem ix_set_same {l : List Int} {n : Nat} {v : Int} (h : n < l.length) : ix (l.set n v) n = v := by simp [ix, h]
theorem ix_set_ne {l : List Int} {n m : Nat} {v : Int} (h : n ≠ m) : ix (l.set n v) m = ix l m := by simp [ix, List.getElem?_set, h]
theorem val_take_set {l : List Int} {n : Nat} {v : Int} (h : n < l.length) : val ((l.set n v).take (n + 1)) = val (l.take n) + 4294967296 ^ n * v := by
  rw [val_take_succ, take_set_same, ix_set_same h]

/-- the list without its zeros at the end -/
def trim : List Int → List Int
  | [] => []
  | x :: l => match trim l with
    | [] => if x = 0 then [] else [x]
    | y :: m => x :: y :: m

theorem trim_snoc (l : List Int) (x : Int) : trim (l ++ [x]) = if x = 0 then trim l else l ++ [x] := by
  induction l with
  | nil => simp [trim]
  | cons y l ih =>
    simp only [List.cons_append, trim, ih]
    by_cases h : x = 0
    · simp [h]
    · simp only [h, if_false]
      cases hl : l ++ [x] with
      | nil => simp at hl
      | cons z m => rfl
theorem take_snoc_last {l : List Int} (h : 0 < l.length) : l = l.take (l.length - 1) ++ [ix l ((l.length : Int) - 1)] := by
  have h1 : ix l ((l.length : Int) - 1) = l.getLast (by intro h2; simp [h2] at h) := by
    simp only [ix, List.getLast_eq_getElem]
    have : ((l.length : Int) - 1).toNat = l.length - 1 := by omega
    rw [this, List.getD_eq_getElem?_getD, List.getElem?_eq_getElem (by omega)]
    rfl
  rw [h1, ← List.dropLast_eq_take]
  exact (List.dropLast_concat_getLast _).symm
theorem trim_step {l : List Int} (h : 0 < l.length) : trim l = if ix l ((l.length : Int) - 1) = 0 then trim (l.take (l.length - 1)) else l := by
  have e := take_snoc_last h
  conv => lhs; rw [e]
  rw [trim_snoc]
  split
  · rfl
  · exact e.symm
theorem trim_length_le (l : List Int) : (trim l).length ≤ l.length := by
  induction l with
  | nil => simp [trim]
  | cons x l ih =>
    simp only [trim]
    split
    · split <;> simp
    · rename_i y m h; rw [h] at ih; simp at ih ⊢; omega

/-- the limbs of a number -/
def limbs (n : Int) : List Int :=
  if h : n ≤ 0 then [] else n % 4294967296 :: limbs (n / 4294967296)
termination_by n.toNat
decreasing_by omega

theorem limbs_le {n : Int} (h : n ≤ 0) : limbs n = [] := by rw [limbs]; simp [h]
theorem limbs_zero : limbs 0 = [] := limbs_le (Int.le_refl _)
theorem limbs_pos {n : Int} (h : 0 < n) : limbs n = n % 4294967296 :: limbs (n / 4294967296) := by
  rw [limbs]; have : ¬ n ≤ 0 := by omega
  simp [this]
theorem limbs_ind {p : Int → Prop} (h0 : ∀ n, n ≤ 0 → p n) (h1 : ∀ n, 0 < n → p (n / 4294967296) → p n) (n : Int) : p n := by
  suffices h : ∀ (k : Nat) (n : Int), n.toNat ≤ k → p n from h n.toNat n (Nat.le_refl _)
  intro k
  induction k with
  | zero => intro n hn; exact h0 n (by omega)
  | succ k ih =>
    intro n hn
    by_cases h : n ≤ 0
    · exact h0 n h
    · exact h1 n (by omega) (ih _ (by omega))
theorem Lim.limbs (n : Int) : Lim (limbs n) := by
  refine limbs_ind (p := fun n => Lim (K.limbs n)) (fun n h => by rw [limbs_le h]; exact Lim.nil) (fun n h ih => ?_) n
  rw [limbs_pos h]
  exact Lim.cons.2 ⟨by omega, ih⟩
theorem val_limbs {n : Int} (h : 0 ≤ n) : val (limbs n) = n := by
  refine limbs_ind (p := fun n => 0 ≤ n → val (limbs n) = n) (fun n h h' => ?_) (fun n h ih h' => ?_) n h
  · rw [limbs_le h]; simp [val]; omega
  · rw [limbs_pos h]; simp only [val]; rw [ih (by omega)]; omega
theorem trim_eq {l : List Int} (h : Lim l) : trim l = limbs (val l) := by
  induction l with
  | nil => simp [trim, val, limbs_zero]
  | cons x l ih =>
    have h1 := Lim.cons.1 h
    have h2 := val_nonneg h1.2
    have ih := ih h1.2
    simp only [trim, val, ih]
    by_cases hv : val l = 0
    · rw [hv, limbs_zero]
      by_cases hx : x = 0
      · simp [hx, limbs_zero]
      · rw [if_neg hx, limbs_pos (by omega)]
        rw [show (x + 4294967296 * 0) % 4294967296 = x by omega, show (x + 4294967296 * 0) / 4294967296 = 0 by omega, limbs_zero]
    · rw [limbs_pos (n := x + 4294967296 * val l) (by omega), show (x + 4294967296 * val l) % 4294967296 = x by omega, show (x + 4294967296 * val l) / 4294967296 = val l by omega, limbs_pos (n := val l) (by omega)]
theorem limbs_val {l : List Int} (h : Lim l) : limbs (val l) = trim l := (trim_eq h).symm
theorem limbs_inj {m n : Int} (hm : 0 ≤ m) (hn : 0 ≤ n) (h : limbs m = limbs n) : m = n := by
  rw [← val_limbs hm, ← val_limbs hn, h]
theorem limbs_length_le {n : Int} {k : Nat} (h : n < 4294967296 ^ k) : (limbs n).length ≤ k := by
  induction k generalizing n with
  | zero => rw [limbs_le (by simpa using Int.lt_add_one_iff.1 (by simpa using h))]; simp
  | succ k ih =>
    by_cases h0 : n ≤ 0
    · rw [limbs_le h0]; simp
    · rw [limbs_pos (by omega)]
      have := ih (n := n / 4294967296) (by rw [Int.pow_succ] at h; omega)
      simp; omega
theorem limbs_val_length (l : List Int) (h : Lim l) : (limbs (val l)).length ≤ l.length := limbs_length_le (val_lt h)
theorem limbs_mono {m n : Int} (h : m ≤ n) : (limbs m).length ≤ (limbs n).length := by
  by_cases h0 : m ≤ 0
  · rw [limbs_le h0]; simp
  · refine limbs_length_le ?_
    have := val_lt (Lim.limbs n)
    rw [val_limbs (by omega)] at this
    omega
theorem lt_of_length {m n : Int} (h : (limbs m).length < (limbs n).length) : m < n := by
  by_cases h0 : n ≤ m
  · have := limbs_mono h0; omega
  · omega

/-- -1, 0 or 1 -/
def cmpI (x y : Int) : Int := if x < y then -1 else if y < x then 1 else 0

theorem cmp_at {a b : List Int} (ha : Lim a) (hb : Lim b) {i : Nat} (hia : i < a.length) (hib : i < b.length) (he : a.drop (i + 1) = b.drop (i + 1)) (hlt : ix a i < ix b i) : val a < val b := by
  rw [val_split a i (by omega), val_split b i (by omega), val_drop a i hia, val_drop b i hib, he]
  have h1 := val_lt (ha.take i)
  have h2 := val_nonneg (hb.take i)
  have e : (a.take i).length = i := by simp; omega
  rw [e] at h1
  have h3 : 4294967296 ^ i * (ix a i + 4294967296 * val (b.drop (i + 1))) + 4294967296 ^ i ≤ 4294967296 ^ i * (ix b i + 4294967296 * val (b.drop (i + 1))) := by
    have h4 : ix a i + 4294967296 * val (b.drop (i + 1)) + 1 ≤ ix b i + 4294967296 * val (b.drop (i + 1)) := by omega
    have h5 := Int.mul_le_mul_of_nonneg_left h4 (Int.le_of_lt (pow_pos' i))
    rw [Int.mul_add, Int.mul_one] at h5
    exact h5
  omega
theorem drop_eq_step {a b : List Int} {i : Nat} (hia : i < a.length) (hib : i < b.length) (he : a.drop (i + 1) = b.drop (i + 1)) (h : ix a i = ix b i) : a.drop i = b.drop i := by
  rw [List.drop_eq_getElem_cons hia, List.drop_eq_getElem_cons hib, he]
  simp [ix, hia, hib] at h
  rw [h]

/- sums -/
theorem carry_step (p t q r : Int) (h1 : t = 4294967296 * q + r) : p * r + p * 4294967296 * q = p * t := by subst h1; grind
theorem add_step {A C l : List Int} {i c t : Int} (h0 : 0 ≤ i) (hi : i < (l.length : Int)) (heq : val (l.take i.toNat) + 4294967296 ^ i.toNat * c = val (A.take i.toNat) + val (C.take i.toNat)) (ht : t = ix A i + ix C i + c) :
    val ((l.set i.toNat (t % 4294967296)).take (i + 1).toNat) + 4294967296 ^ (i + 1).toNat * (t / 4294967296) = val (A.take (i + 1).toNat) + val (C.take (i + 1).toNat) := by
  have e : (i + 1).toNat = i.toNat + 1 := by omega
  have ei : ((i.toNat : Nat) : Int) = i := by omega
  rw [e, val_take_set (by omega), val_take_succ, val_take_succ, Int.pow_succ, ei]
  have := carry_step (4294967296 ^ i.toNat) t (t / 4294967296) (t % 4294967296) (by omega)
  generalize 4294967296 ^ i.toNat = p at *
  subst ht
  grind
theorem ix_beyond {l : List Int} {i : Int} (h : (l.length : Int) ≤ i) : ix l i = 0 := by
  unfold ix
  rw [List.getD_eq_getElem?_getD, List.getElem?_eq_none (by omega)]; rfl

theorem sub_step {A C l : List Int} {i c t : Int} (h0 : 0 ≤ i) (hi : i < (l.length : Int)) (hc : 0 ≤ c ∧ c ≤ 1) (hA : Lim A) (hC : Lim C) (heq : val (l.take i.toNat) + val (C.take i.toNat) = val (A.take i.toNat) + 4294967296 ^ i.toNat * c) (ht : t = (ix A i - c - ix C i) % 18446744073709551616) :
    val ((l.set i.toNat (t % 4294967296)).take (i + 1).toNat) + val (C.take (i + 1).toNat) = val (A.take (i + 1).toNat) + 4294967296 ^ (i + 1).toNat * (t / 9223372036854775808) := by
  have e : (i + 1).toNat = i.toNat + 1 := by omega
  have ei : ((i.toNat : Nat) : Int) = i := by omega
  have q1 := hA.ix i
  have q2 := hC.ix i
  rw [e, val_take_set (by omega), val_take_succ, val_take_succ, Int.pow_succ, ei]
  have : t % 4294967296 + ix C i + c = ix A i + 4294967296 * (t / 9223372036854775808) := by omega
  generalize 4294967296 ^ i.toNat = p at *
  generalize t % 4294967296 = u at *
  generalize t / 9223372036854775808 = v at *
  grind
theorem mul_bound {x y : Int} (hx : 0 ≤ x ∧ x < 4294967296) (hy : 0 ≤ y ∧ y < 4294967296) : 0 ≤ x * y ∧ x * y ≤ 18446744065119617025 := by
  refine ⟨Int.mul_nonneg hx.1 hy.1, ?_⟩
  have h1 : x * y ≤ 4294967295 * y := Int.mul_le_mul_of_nonneg_right (by omega) hy.1
  omega
theorem val_take_set_lt {l : List Int} {p n : Nat} {v : Int} (hp : p < n) (hl : p < l.length) : val ((l.set p v).take n) = val (l.take n) + 4294967296 ^ p * (v - ix l p) := by
  induction n with
  | zero => omega
  | succ n ih =>
    by_cases e : p = n
    · subst e
      rw [val_take_set hl, val_take_succ]; grind
    · rw [val_take_succ, ih (by omega), val_take_succ, ix_set_ne e]; grind
theorem mul_step {l C : List Int} {i j c x P0 : Int} {lb : Nat} (hi : 0 ≤ i) (hj : 0 ≤ j) (hjl : j < (lb : Int)) (hl : i + j < (l.length : Int))
    (heq : val (l.take (i.toNat + lb)) + 4294967296 ^ (i + j).toNat * c = P0 + 4294967296 ^ i.toNat * (x * val (C.take j.toNat))) {t : Int} (ht : t = x * ix C j + ix l (i + j) + c) :
    val ((l.set (i + j).toNat (t % 4294967296)).take (i.toNat + lb)) + 4294967296 ^ (i + (j + 1)).toNat * (t / 4294967296) = P0 + 4294967296 ^ i.toNat * (x * val (C.take (j + 1).toNat)) := by
  have e : (j + 1).toNat = j.toNat + 1 := by omega
  have e2 : (i + (j + 1)).toNat = (i + j).toNat + 1 := by omega
  have e3 : (i + j).toNat = i.toNat + j.toNat := by omega
  have ej : ((j.toNat : Nat) : Int) = j := by omega
  have eij : (((i + j).toNat : Nat) : Int) = i + j := by omega
  rw [val_take_set_lt (by omega) (by omega), e, val_take_succ, e2, Int.pow_succ, ej, eij]
  have h1 := carry_step (4294967296 ^ (i + j).toNat) t (t / 4294967296) (t % 4294967296) (by omega)
  have h2 : (4294967296 : Int) ^ (i + j).toNat = 4294967296 ^ i.toNat * 4294967296 ^ j.toNat := by rw [e3, Int.pow_add]
  generalize (4294967296 : Int) ^ (i + j).toNat = p at *
  generalize (4294967296 : Int) ^ i.toNat = pi at *
  generalize (4294967296 : Int) ^ j.toNat = pj at *
  generalize t % 4294967296 = u at *
  generalize t / 4294967296 = v at *
  subst ht
  subst h2
  grind

/- digits of a given number -/
def dig : Nat → Int → List Int
  | 0, _ => []
  | n + 1, v => v % 4294967296 :: dig n (v / 4294967296)
theorem dig_length : ∀ (n : Nat) (v : Int), (dig n v).length = n
  | 0, v => rfl
  | n + 1, v => by simp [dig, dig_length n]
theorem Lim.dig : ∀ (n : Nat) (v : Int), Lim (dig n v)
  | 0, v => Lim.nil
  | n + 1, v => Lim.cons.2 ⟨by omega, Lim.dig n _⟩
theorem val_dig : ∀ (n : Nat) (v : Int), 0 ≤ v → v < 4294967296 ^ n → val (dig n v) = v
  | 0, v, h0, h => by simp at h; simp [K.dig, val]; omega
  | n + 1, v, h0, h => by
    simp only [K.dig, val]
    rw [val_dig n (v / 4294967296) (by omega) (by rw [Int.pow_succ] at h; omega)]
    omega
theorem dig_of : ∀ {l : List Int}, Lim l → dig l.length (val l) = l
  | [], _ => rfl
  | x :: l, h => by
    have h1 := Lim.cons.1 h
    simp only [val, List.length_cons, dig]
    rw [show (x + 4294967296 * val l) % 4294967296 = x by omega, show (x + 4294967296 * val l) / 4294967296 = val l by omega, dig_of h1.2]
theorem dig_eq {l : List Int} {n : Nat} {v : Int} (h : Lim l) (hn : l.length = n) (hv : val l = v) : l = dig n v := by rw [← hn, ← hv, dig_of h]
theorem dig_snoc : ∀ (n : Nat) (v : Int), dig (n + 1) v = dig n v ++ [v / 4294967296 ^ n % 4294967296]
  | 0, v => by simp [dig]
  | n + 1, v => by
    rw [dig, dig_snoc n]
    simp only [dig, List.cons_append]
    congr 3
    rw [Int.pow_succ, Int.mul_comm, ← Int.ediv_ediv_of_nonneg (by omega)]
theorem val_drop_set {l : List Int} {n : Nat} {v : Int} (h : n < l.length) : val ((l.set n v).drop n) = v + 4294967296 * val (l.drop (n + 1)) := by
  rw [val_drop _ _ (by simpa using h), ix_set_same h, List.drop_set_of_lt (by omega)]

theorem limb_div {r x d : Int} (hr : 0 ≤ r) (hrd : r < d) (hx : 0 ≤ x ∧ x < 4294967296) : 0 ≤ (r * 4294967296 + x) / d ∧ (r * 4294967296 + x) / d < 4294967296 ∧ 0 ≤ (r * 4294967296 + x) % d ∧ (r * 4294967296 + x) % d < d := by
  have hd : 0 < d := by omega
  refine ⟨Int.ediv_nonneg (by omega) (by omega), ?_, Int.emod_nonneg _ (by omega), Int.emod_lt_of_pos _ hd⟩
  apply Int.ediv_lt_of_lt_mul hd
  have h1 : (r + 1) * 4294967296 ≤ d * 4294967296 := Int.mul_le_mul_of_nonneg_right (by omega) (by omega)
  have h2 : 4294967296 * d = d * 4294967296 := Int.mul_comm _ _
  omega
theorem divLimb_step {A l : List Int} {i r d : Int} (hi : 0 ≤ i) (hiA : i < (A.length : Int)) (hil : i < (l.length : Int)) (heq : val (A.drop (i + 1).toNat) = d * val (l.drop (i + 1).toNat) + r) :
    val (A.drop (i - 1 + 1).toNat) = d * val ((l.set i.toNat ((r * 4294967296 + ix A i) / d)).drop (i - 1 + 1).toNat) + (r * 4294967296 + ix A i) % d := by
  have e : (i - 1 + 1).toNat = i.toNat := by omega
  have e2 : (i + 1).toNat = i.toNat + 1 := by omega
  have e3 : ((i.toNat : Nat) : Int) = i := by omega
  rw [e, val_drop_set (by omega), val_drop A i.toNat (by omega), e3]
  rw [e2] at heq
  rw [heq]
  have := Int.mul_ediv_add_emod (r * 4294967296 + ix A i) d
  generalize (r * 4294967296 + ix A i) / d = q at *
  generalize (r * 4294967296 + ix A i) % d = m at *
  grind
theorem divmod_of {a d q r : Int} (h : a = d * q + r) (h0 : 0 ≤ r) (h1 : r < d) : a / d = q ∧ a % d = r :=
  (Int.ediv_emod_unique (by omega)).2 ⟨by omega, h0, h1⟩

/- the number of bits -/
def bitlen (x : Int) : Int := if x ≤ 0 then 0 else (Nat.log2 x.toNat : Int) + 1
theorem bitlen_nat (n : Nat) : bitlen n = if n = 0 then 0 else (Nat.log2 n : Int) + 1 := by
  unfold bitlen
  by_cases h : n = 0
  · simp [h]
  · rw [if_neg (by omega), if_neg h]; simp
theorem bitlen_shift {x : Int} {k : Nat} (h : 2 ^ k ≤ x) : bitlen x = bitlen (x / 2 ^ k) + k := by
  have hp : (0 : Int) < 2 ^ k := Int.pow_pos (by omega)
  obtain ⟨n, rfl⟩ := Int.eq_ofNat_of_zero_le (show 0 ≤ x by omega)
  have h1 : 2 ^ k ≤ n := by exact_mod_cast h
  have e : ((n : Int) / 2 ^ k) = ((n / 2 ^ k : Nat) : Int) := by rw [Int.natCast_ediv, Int.natCast_pow]; rfl
  have hk : 0 < 2 ^ k := Nat.two_pow_pos k
  have h2 : 0 < n / 2 ^ k := Nat.div_pos h1 hk
  rw [e, bitlen_nat, bitlen_nat, if_neg (by omega), if_neg (by omega)]
  have h3 : Nat.log2 n = Nat.log2 (n / 2 ^ k) + k := by
    have hn : n ≠ 0 := by omega
    apply Nat.le_antisymm
    · have := (Nat.log2_lt hn (k := Nat.log2 (n / 2 ^ k) + k + 1)).2 (by
        have h4 := Nat.lt_log2_self (n := n / 2 ^ k)
        rw [Nat.div_lt_iff_lt_mul hk, ← Nat.pow_add] at h4
        rwa [show Nat.log2 (n / 2 ^ k) + 1 + k = Nat.log2 (n / 2 ^ k) + k + 1 by omega] at h4)
      omega
    · rw [Nat.le_log2 hn, Nat.pow_add]
      have h4 := Nat.log2_self_le (n := n / 2 ^ k) (by omega)
      exact Nat.le_trans (Nat.mul_le_mul_right _ h4) (Nat.div_mul_le_self n _)
  omega
theorem bitlen_bounds {x : Int} (h : 0 < x) : 0 < bitlen x ∧ 2 ^ (bitlen x - 1).toNat ≤ x ∧ x < 2 ^ (bitlen x).toNat := by
  obtain ⟨n, rfl⟩ := Int.eq_ofNat_of_zero_le (show 0 ≤ x by omega)
  have hn : n ≠ 0 := by omega
  rw [bitlen_nat, if_neg hn]
  have h1 := Nat.log2_self_le hn
  have h2 := Nat.lt_log2_self (n := n)
  refine ⟨by omega, ?_, ?_⟩
  · rw [show ((n.log2 : Int) + 1 - 1).toNat = n.log2 by omega]; exact_mod_cast h1
  · rw [show ((n.log2 : Int) + 1).toNat = n.log2 + 1 by omega]; exact_mod_cast h2
theorem bitlen_le {x : Int} {k : Nat} (h : x < 2 ^ k) : bitlen x ≤ k := by
  by_cases h0 : x ≤ 0
  · unfold bitlen; rw [if_pos h0]; omega
  · obtain ⟨n, rfl⟩ := Int.eq_ofNat_of_zero_le (show 0 ≤ x by omega)
    have hn : n ≠ 0 := by omega
    rw [bitlen_nat, if_neg hn]
    have h1 : n < 2 ^ k := by exact_mod_cast h
    have := (Nat.log2_lt hn).2 h1
    omega
theorem bitlen_nonneg (x : Int) : 0 ≤ bitlen x := by unfold bitlen; split <;> omega

/- the estimate of a quotient's limb -/
def estI (u v1 v2 u0 : Int) : Int := min 4294967295 ((u * 4294967296 + u0) / (v1 * 4294967296 + v2))
section
variable {u v1 v2 u0 q r : Int} (hv1 : 2147483648 ≤ v1 ∧ v1 < 4294967296) (hv2 : 0 ≤ v2 ∧ v2 < 4294967296) (hu0 : 0 ≤ u0 ∧ u0 < 4294967296)
include hv1 hv2 hu0
theorem est_le_iff {m : Int} : m ≤ (u * 4294967296 + u0) / (v1 * 4294967296 + v2) ↔ m * (v1 * 4294967296 + v2) ≤ u * 4294967296 + u0 := Int.le_ediv_iff_mul_le (by omega)
theorem est_init (hu : 0 ≤ u) (hut : u ≤ v1 * 4294967296 + 4294967295) : estI u v1 v2 u0 ≤ u / v1 ∧ u / v1 ≤ 4294967297 ∧ 0 ≤ u / v1 ∧ 0 ≤ u % v1 ∧ u % v1 < v1 ∧ u / v1 * v1 + u % v1 = u := by
  have h1 := Int.mul_ediv_add_emod u v1
  have h2 := Int.emod_nonneg u (show v1 ≠ 0 by omega)
  have h3 := Int.emod_lt_of_pos u (show 0 < v1 by omega)
  have hq : 0 ≤ u / v1 := Int.ediv_nonneg hu (by omega)
  refine ⟨?_, ?_, hq, h2, h3, by rw [Int.mul_comm]; exact h1⟩
  · unfold estI
    have hm := (est_le_iff hv1 hv2 hu0 (u := u) (m := (u * 4294967296 + u0) / (v1 * 4294967296 + v2))).1 (Int.le_refl _)
    generalize hmm : (u * 4294967296 + u0) / (v1 * 4294967296 + v2) = m at *
    by_cases h0 : m ≤ 0
    · omega
    · have h4 : m * v2 ≥ 0 := Int.mul_nonneg (by omega) hv2.1
      have h5 : m * (v1 * 4294967296 + v2) = m * v1 * 4294967296 + m * v2 := by grind
      have h6 : m * v1 ≤ u := by omega
      have : m ≤ u / v1 := (Int.le_ediv_iff_mul_le (by omega)).2 h6
      omega
  · have : u / v1 < 4294967298 := Int.ediv_lt_of_lt_mul (by omega) (by omega)
    omega
theorem est_done (hq0 : 0 ≤ q) (hqr : q * v1 + r = u) (he : estI u v1 v2 u0 ≤ q) (hq : q < 4294967296) (hle : q * v2 ≤ r * 4294967296 + u0) : q = estI u v1 v2 u0 := by
  have h1 : q * (v1 * 4294967296 + v2) ≤ u * 4294967296 + u0 := by
    have : q * (v1 * 4294967296 + v2) = q * v1 * 4294967296 + q * v2 := by grind
    rw [this, ← hqr]; omega
  have h2 := (est_le_iff hv1 hv2 hu0 (u := u) (m := q)).2 h1
  unfold estI at *
  omega
theorem est_down (hqr : q * v1 + r = u) (he : estI u v1 v2 u0 ≤ q) (hgt : 4294967296 ≤ q ∨ r * 4294967296 + u0 < q * v2) : estI u v1 v2 u0 ≤ q - 1 := by
  rcases hgt with h | h
  · unfold estI at *; omega
  · have h1 : ¬ q * (v1 * 4294967296 + v2) ≤ u * 4294967296 + u0 := by
      have : q * (v1 * 4294967296 + v2) = q * v1 * 4294967296 + q * v2 := by grind
      rw [this, ← hqr]; omega
    rw [← est_le_iff hv1 hv2 hu0] at h1
    unfold estI at *
    omega
theorem est_break (hu : 0 ≤ u) (hut : u ≤ v1 * 4294967296 + 4294967295) (hq0 : 1 ≤ q) (hqm : q ≤ 4294967297) (hr : 0 ≤ r) (hqr : q * v1 + r = u) (he : estI u v1 v2 u0 ≤ q - 1) (hb : 4294967296 ≤ r + v1) : q - 1 = estI u v1 v2 u0 := by
  have hq : q ≤ 4294967296 := by
    rcases Int.lt_or_le 4294967296 q with h | h
    · have : q = 4294967297 := by omega
      subst this
      omega
    · exact h
  refine est_done hv1 hv2 hu0 (r := r + v1) (by omega) (by rw [← hqr]; grind) he (by omega) ?_
  have h2 := mul_bound (x := q - 1) (y := v2) (by omega) hv2
  omega
end
end Go.Proofs.YtffcpgebgoineaaDoor.K
