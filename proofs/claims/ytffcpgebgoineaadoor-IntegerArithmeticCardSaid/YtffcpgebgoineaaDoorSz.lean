/- The contracts of the packages nat and integer once more, over numbers in any form: the value and the size of an argument are found by instance. -/
import Derived.Test.YtffcpgebgoineaaDoorWalkF
namespace Go.Proofs.YtffcpgebgoineaaDoor.K
open Go
set_option linter.unusedVariables false
set_option linter.unusedSimpArgs false

/-- a natural number below a power of the base -/
class SzN (x : Int) (k : outParam Nat) : Prop where
  nn : 0 ≤ x
  lt : x < 4294967296 ^ k
class SzI (x : Int) (k : outParam Nat) : Prop where
  lt : (x.natAbs : Int) < 4294967296 ^ k
/-- a natural number in any form -/
class NA (l : List Int) (x : outParam Int) (k : outParam Nat) : Prop where
  v : val l = x
  hl : l.length ≤ k
/-- an integer in any form -/
class IA (n : Bool) (l : List Int) (x : outParam Int) (k : outParam Nat) : Prop where
  v : sI n l = x
  hl : l.length ≤ k
instance (priority := low) NA.raw (l : List Int) : NA l (val l) l.length := ⟨rfl, Nat.le_refl _⟩
instance (priority := low) IA.raw (n : Bool) (l : List Int) : IA n l (sI n l) l.length := ⟨rfl, Nat.le_refl _⟩
instance NA.limbs (x : Int) (k : Nat) [h : SzN x k] : NA (limbs x) x k := ⟨val_limbs h.nn, limbs_length_le h.lt⟩
instance IA.intD (x : Int) (k : Nat) [h : SzI x k] : IA (decide (x < 0)) (Go.Proofs.YtffcpgebgoineaaDoor.K.limbs x.natAbs) x k := ⟨sI_norm x, limbs_length_le h.lt⟩
/-- the integer that a sign and a natural number name -/
def sN (n : Bool) (x : Int) : Int := if n then -x else x
instance (priority := 900) IA.limbs (n : Bool) (x : Int) (k : Nat) [h : SzN x k] : IA n (limbs x) (sN n x) k := ⟨by simp only [sI, sN, val_limbs h.nn], limbs_length_le h.lt⟩
instance SzI.sN (n : Bool) (x : Int) (k : Nat) [h : SzI x k] : SzI (sN n x) k := ⟨by
  have := h.lt
  unfold K.sN
  split <;> omega⟩
instance SzN.natAbs (x : Int) (k : Nat) [h : SzI x k] : SzN (x.natAbs : Int) k := ⟨by omega, h.lt⟩
theorem SzN.val {l : List Int} (h : Lim l) : SzN (val l) l.length := ⟨val_nonneg h, val_lt h⟩
theorem SzI.sI {n : Bool} {l : List Int} (h : Lim l) : SzI (sI n l) l.length := ⟨by rw [sI_natAbs h]; exact val_lt h⟩

theorem pow_mono {k m : Nat} (h : k ≤ m) : (4294967296 : Int) ^ k ≤ 4294967296 ^ m := by
  obtain ⟨j, rfl⟩ := Nat.exists_eq_add_of_le h
  rw [Int.pow_add]
  have h1 := pow_pos' k
  have h2 := pow_pos' j
  have : (4294967296 : Int) ^ k * 1 ≤ 4294967296 ^ k * 4294967296 ^ j := Int.mul_le_mul_of_nonneg_left (by omega) (by omega)
  omega
theorem natAbs_mul' (x y : Int) : ((x * y).natAbs : Int) = x.natAbs * y.natAbs := by rw [Int.natAbs_mul]; simp
theorem mul_pow_lt {x y : Int} {k m : Nat} (hx : 0 ≤ x) (hy : 0 ≤ y) (h1 : x < 4294967296 ^ k) (h2 : y < 4294967296 ^ m) : x * y < 4294967296 ^ (k + m) := by
  rw [Int.pow_add]
  have h3 := pow_pos' m
  have h4 : x * y ≤ x * 4294967296 ^ m := Int.mul_le_mul_of_nonneg_left (by omega) hx
  have h5 := Int.mul_lt_mul_of_pos_right h1 h3
  omega
theorem add_pow_lt {x y : Int} {k m : Nat} (h1 : x < 4294967296 ^ k) (h2 : y < 4294967296 ^ m) : x + y < 4294967296 ^ (k + m + 1) := by
  have := pow_pos' (k + m)
  have h3 := pow_mono (show k ≤ k + m by omega)
  have h4 := pow_mono (show m ≤ k + m by omega)
  rw [Int.pow_succ]; omega

instance SzN.add (x y : Int) (k m : Nat) [h : SzN x k] [g : SzN y m] : SzN (x + y) (k + m + 1) := ⟨Int.add_nonneg h.nn g.nn, add_pow_lt h.lt g.lt⟩
instance SzN.mul (x y : Int) (k m : Nat) [h : SzN x k] [g : SzN y m] : SzN (x * y) (k + m) := ⟨Int.mul_nonneg h.nn g.nn, mul_pow_lt h.nn g.nn h.lt g.lt⟩
instance SzN.div (x y : Int) (k m : Nat) [h : SzN x k] [g : SzN y m] : SzN (x / y) k := ⟨Int.ediv_nonneg h.nn g.nn, Int.lt_of_le_of_lt (Int.ediv_le_self _ h.nn) h.lt⟩
instance SzN.mod (x y : Int) (k m : Nat) [h : SzN x k] [g : SzN y m] : SzN (x % y) k := ⟨by
    rcases Int.lt_or_eq_of_le g.nn with h1 | h1
    · exact Int.emod_nonneg _ (by omega)
    · rw [← h1, Int.emod_zero]; exact h.nn, by
    have h0 := Int.mul_ediv_add_emod x y
    have h1 := Int.mul_nonneg g.nn (Int.ediv_nonneg h.nn g.nn)
    have := h.lt
    omega⟩
theorem gcd_le_add {x y : Int} (hx : 0 ≤ x) (hy : 0 ≤ y) : (Int.gcd x y : Int) ≤ x + y := by
  rcases Int.lt_or_eq_of_le hx with h | h
  · have := Int.le_of_dvd h (Int.gcd_dvd_left x y); omega
  · rw [← h, Int.zero_gcd]; omega
instance SzN.gcd (x y : Int) (k m : Nat) [h : SzN x k] [g : SzN y m] : SzN (Int.gcd x y : Nat) (k + m + 1) := ⟨by omega, Int.lt_of_le_of_lt (gcd_le_add h.nn g.nn) (add_pow_lt h.lt g.lt)⟩
instance SzN.zero : SzN 0 0 := ⟨by omega, by simp⟩
instance SzN.one : SzN 1 1 := ⟨by omega, by simp⟩
theorem SzN.u64 {x : Int} (h : 0 ≤ x ∧ x < 18446744073709551616) : SzN x 2 := ⟨h.1, by omega⟩

instance (priority := low) SzI.nat (x : Int) (k : Nat) [h : SzN x k] : SzI x k := ⟨by have := h.nn; have := h.lt; omega⟩
instance SzI.add (x y : Int) (k m : Nat) [h : SzI x k] [g : SzI y m] : SzI (x + y) (k + m + 1) := ⟨by have := add_pow_lt h.lt g.lt; omega⟩
instance SzI.mul (x y : Int) (k m : Nat) [h : SzI x k] [g : SzI y m] : SzI (x * y) (k + m) := ⟨by rw [natAbs_mul']; exact mul_pow_lt (by omega) (by omega) h.lt g.lt⟩
instance SzI.neg (x : Int) (k : Nat) [h : SzI x k] : SzI (-x) k := ⟨by rw [Int.natAbs_neg]; exact h.lt⟩
instance SzI.sub (x y : Int) (k m : Nat) [h : SzI x k] [g : SzI y m] : SzI (x - y) (k + m + 1) := ⟨by have := add_pow_lt h.lt g.lt; omega⟩
instance SzI.fdiv (x y : Int) (k m : Nat) [h : SzI x k] [g : SzI y m] : SzI (Int.fdiv x y) k := ⟨by have := Int.natAbs_fdiv_le_natAbs x y; have := h.lt; omega⟩
instance SzI.zero : SzI 0 0 := ⟨by simp⟩
instance SzI.one : SzI 1 1 := ⟨by simp⟩
theorem SzI.i64 {x : Int} (h : -9223372036854775808 ≤ x ∧ x ≤ 9223372036854775807) : SzI x 2 := ⟨by omega⟩
theorem fmod_bound (x y : Int) : (Int.fmod x y).natAbs ≤ x.natAbs + y.natAbs := by
  by_cases h : y = 0
  · subst h; rw [Int.fmod_zero]; omega
  · rcases Int.lt_or_gt_of_ne h with h1 | h1
    · have h2 := Int.fmod_lt_of_pos (-x) (b := -y) (by omega)
      have h3 := Int.fmod_nonneg_of_pos (-x) (b := -y) (by omega)
      have e : Int.fmod (-x) (-y) = - Int.fmod x y := by rw [Int.fmod_def, Int.fmod_def, Int.neg_fdiv_neg, Int.neg_mul]; omega
      rw [e] at h2 h3
      omega
    · have h2 := Int.fmod_lt_of_pos x (b := y) h1
      have h3 := Int.fmod_nonneg_of_pos x (b := y) h1
      omega
instance SzI.fmod (x y : Int) (k m : Nat) [h : SzI x k] [g : SzI y m] : SzI (Int.fmod x y) (k + m + 1) := ⟨by have := add_pow_lt h.lt g.lt; have := fmod_bound x y; omega⟩
instance SzI.ite (p : Prop) [Decidable p] (x y : Int) (k m : Nat) [h : SzI x k] [g : SzI y m] : SzI (if p then x else y) (k + m) := ⟨by
  have h1 := pow_mono (show k ≤ k + m by omega)
  have h2 := pow_mono (show m ≤ k + m by omega)
  have := h.lt
  have := g.lt
  split <;> omega⟩

section
variable {a b : List Int} {x y : Int} {k m : Nat}
theorem cnorm [h : NA a x k] (hk : k ≤ 70368744177663 := by first | omega | (simp only [List.length_cons, List.length_nil, List.length_set, List.length_replicate, List.length_append, List.length_take, List.length_drop]; omega)) : Evals Tryd.prog 42 [.ints .u32 a] (.ints .u32 (limbs x)) := by
  have := h.hl; have := norm_ev a (by omega); rwa [h.v] at this
theorem ctrim [h : NA a x k] : Evals Tryd.prog 40 [.ints .u32 a] (.ints .u32 (limbs x)) := by
  have := trim_ev a; rwa [h.v] at this
theorem ccmp [h : NA a x k] [g : NA b y m] : Evals Tryd.prog 17 [.ints .u32 a, .ints .u32 b] (.int .i64 (cmpI x y)) := by
  have := cmp_ev a b; rwa [h.v, g.v] at this
theorem cadd [h : NA a x k] [g : NA b y m] (hk : k + m ≤ 70368744177663 := by first | omega | (simp only [List.length_cons, List.length_nil, List.length_set, List.length_replicate, List.length_append, List.length_take, List.length_drop]; omega)) : Evals Tryd.prog 21 [.ints .u32 a, .ints .u32 b] (.ints .u32 (limbs (x + y))) := by
  have := h.hl; have := g.hl; have := add_ev a b (by omega) (by omega); rwa [h.v, g.v] at this
theorem csub [h : NA a x k] [g : NA b y m] (hk : k ≤ 70368744177663 := by first | omega | (simp only [List.length_cons, List.length_nil, List.length_set, List.length_replicate, List.length_append, List.length_take, List.length_drop]; omega)) : Evals Tryd.prog 22 [.ints .u32 a, .ints .u32 b] (.tup [.ints .u32 (limbs (x - y)), .bool (decide (y ≤ x))]) := by
  have := h.hl; have := g.hl; have := sub_ev a b (by omega); rwa [h.v, g.v] at this
theorem cmul [h : NA a x k] [g : NA b y m] (hk : k + m ≤ 70368744177663 := by first | omega | (simp only [List.length_cons, List.length_nil, List.length_set, List.length_replicate, List.length_append, List.length_take, List.length_drop]; omega)) : Evals Tryd.prog 28 [.ints .u32 a, .ints .u32 b] (.ints .u32 (limbs (x * y))) := by
  have := h.hl; have := g.hl; have := mul_ev a b (by omega); rwa [h.v, g.v] at this
theorem cdiv [h : NA a x k] [g : NA b y m] (hy : 0 < y := by first | assumption | omega) (hk : k ≤ 70368744177663 := by first | omega | (simp only [List.length_cons, List.length_nil, List.length_set, List.length_replicate, List.length_append, List.length_take, List.length_drop]; omega)) : Evals Tryd.prog 30 [.ints .u32 a, .ints .u32 b] (.tup [.ints .u32 (limbs (x / y)), .ints .u32 (limbs (x % y)), .bool true]) := by
  have := h.hl; have := g.hl; have := divMod_ev a b (by omega); rw [h.v, g.v, if_neg (by omega)] at this
  rwa [show decide (y ≠ 0) = true from decide_eq_true (by omega)] at this
theorem cdiv0 [h : NA a x k] [g : NA b y m] (hk : k ≤ 70368744177663 := by first | omega | (simp only [List.length_cons, List.length_nil, List.length_set, List.length_replicate, List.length_append, List.length_take, List.length_drop]; omega)) : Evals Tryd.prog 30 [.ints .u32 a, .ints .u32 b] (.tup [.ints .u32 (limbs (x / y)), .ints .u32 (if y = 0 then [] else limbs (x % y)), .bool (decide (y ≠ 0))]) := by
  have := h.hl; have := g.hl; have := divMod_ev a b (by omega); rwa [h.v, g.v] at this
variable {p q : Bool}
theorem cmake [h : IA p a x k] (hk : k ≤ 70368744177663 := by first | omega | (simp only [List.length_cons, List.length_nil, List.length_set, List.length_replicate, List.length_append, List.length_take, List.length_drop]; omega)) : Evals Tryd.prog 20 [.bool p, .ints .u32 a] (intD x) := by
  have := h.hl; exact make_ev _ _ _ h.v (by omega)
theorem cineg [h : IA p a x k] (hk : k ≤ 70368744177663 := by first | omega | (simp only [List.length_cons, List.length_nil, List.length_set, List.length_replicate, List.length_append, List.length_take, List.length_drop]; omega)) : Evals Tryd.prog 26 [.agg [.bool p, .ints .u32 a]] (intD (-x)) := by
  have := h.hl; exact ineg_ev _ _ _ h.v (by omega)
theorem cisign [h : IA p a x k] : Evals Tryd.prog 16 [.agg [.bool p, .ints .u32 a]] (.int .i64 (cmpI x 0)) := isign_ev _ _ _ h.v
theorem cicmp [h : IA p a x k] [g : IA q b y m] : Evals Tryd.prog 4 [.agg [.bool p, .ints .u32 a], .agg [.bool q, .ints .u32 b]] (.int .i64 (cmpI x y)) := icmp_ev _ _ _ _ _ _ h.v g.v
theorem ciadd [h : IA p a x k] [g : IA q b y m] (hk : k ≤ 70368744177660 ∧ m ≤ 70368744177660 := by first | omega | (simp only [List.length_cons, List.length_nil, List.length_set, List.length_replicate, List.length_append, List.length_take, List.length_drop]; omega)) : Evals Tryd.prog 7 [.agg [.bool p, .ints .u32 a], .agg [.bool q, .ints .u32 b]] (intD (x + y)) := by
  have := h.hl; have := g.hl; exact iadd_ev _ _ _ _ _ _ h.v g.v (by omega)
theorem cimul [h : IA p a x k] [g : IA q b y m] (hk : k + m ≤ 70368744177660 := by first | omega | (simp only [List.length_cons, List.length_nil, List.length_set, List.length_replicate, List.length_append, List.length_take, List.length_drop]; omega)) : Evals Tryd.prog 11 [.agg [.bool p, .ints .u32 a], .agg [.bool q, .ints .u32 b]] (intD (x * y)) := by
  have := h.hl; have := g.hl; exact imul_ev _ _ _ _ _ _ h.v g.v (by omega)
theorem cidiv0 [h : IA p a x k] [g : IA q b y m] (hk : k + m ≤ 70368744177660 := by first | omega | (simp only [List.length_cons, List.length_nil, List.length_set, List.length_replicate, List.length_append, List.length_take, List.length_drop]; omega)) : Evals Tryd.prog 13 [.agg [.bool p, .ints .u32 a], .agg [.bool q, .ints .u32 b]] (.tup [intD (Int.fdiv x y), intD (if y = 0 then 0 else Int.fmod x y), .bool (decide (y ≠ 0))]) := by
  have := h.hl; have := g.hl; exact idivMod_ev _ _ _ _ _ _ h.v g.v (by omega)
theorem cidiv [h : IA p a x k] [g : IA q b y m] (hy : y ≠ 0 := by first | assumption | omega) (hk : k + m ≤ 70368744177660 := by first | omega | (simp only [List.length_cons, List.length_nil, List.length_set, List.length_replicate, List.length_append, List.length_take, List.length_drop]; omega)) : Evals Tryd.prog 13 [.agg [.bool p, .ints .u32 a], .agg [.bool q, .ints .u32 b]] (.tup [intD (Int.fdiv x y), intD (Int.fmod x y), .bool true]) := by
  have := h.hl; have := g.hl; have := idivMod_ev _ _ _ _ _ _ h.v g.v (by omega)
  rwa [if_neg hy, show decide (y ≠ 0) = true from decide_eq_true hy] at this
end
end Go.Proofs.YtffcpgebgoineaaDoor.K
