/- Sums of rational numbers, means and losses: plain laws. Nothing of any program stands here. -/
import Derived.Test.YtmefecfkajjajaaDoorRat
namespace Go.Proofs.YtmefecfkajjajaaDoor.K
open Go
set_option linter.unusedVariables false
set_option linter.unusedSimpArgs false

/-- f 0 + .. + f (n - 1) -/
def sumF (f : Nat → Rat) : Nat → Rat
  | 0 => 0
  | n + 1 => sumF f n + f n
theorem sumF_congr {f g : Nat → Rat} {n : Nat} (h : ∀ i, i < n → f i = g i) : sumF f n = sumF g n := by
  induction n with
  | zero => rfl
  | succ n ih => rw [sumF, sumF, ih (fun i hi => h i (by omega)), h n (by omega)]
theorem sumF_add (f g : Nat → Rat) (n : Nat) : sumF (fun i => f i + g i) n = sumF f n + sumF g n := by
  induction n with
  | zero => simp [sumF]; grind
  | succ n ih => simp only [sumF, ih]; grind
theorem sumF_mul (c : Rat) (f : Nat → Rat) (n : Nat) : sumF (fun i => c * f i) n = c * sumF f n := by
  induction n with
  | zero => simp only [sumF]; grind
  | succ n ih => simp only [sumF, ih]; grind
theorem sumF_const (c : Rat) (n : Nat) : sumF (fun _ => c) n = ((n : Int) : Rat) * c := by
  induction n with
  | zero => simp only [sumF]; show (0 : Rat) = ((0 : Int) : Rat) * c; grind
  | succ n ih => simp only [sumF, ih]; rw [Int.natCast_succ, Rat.intCast_add]; grind
theorem sumF_nonneg {f : Nat → Rat} {n : Nat} (h : ∀ i, i < n → 0 ≤ f i) : 0 ≤ sumF f n := by
  induction n with
  | zero => simp [sumF]
  | succ n ih => have := ih (fun i hi => h i (by omega)); have := h n (by omega); simp only [sumF]; grind
theorem sz_sumF (f : Nat → Rat) (K : Nat) (hf : ∀ i, SzR (f i) K) (n : Nat) : SzR (sumF f n) (n * (K + 1) + 1) := by
  induction n with
  | zero => simpa [sumF] using SzR.zero
  | succ n ih =>
    have := SzR.add (sumF f n) (f n) _ _ (h := ih) (g := hf n)
    refine this.mono ?_
    rw [Nat.succ_mul]; omega
/-- the sum of whole numbers -/
def sumZ (f : Nat → Int) : Nat → Int
  | 0 => 0
  | n + 1 => sumZ f n + f n
theorem sumZ_bound {f : Nat → Int} {c : Int} (h : ∀ i, -c ≤ f i ∧ f i ≤ c) (n : Nat) : -(c * n) ≤ sumZ f n ∧ sumZ f n ≤ c * n := by
  induction n with
  | zero => simp [sumZ]
  | succ n ih =>
    have := h n
    have e : c * ((n + 1 : Nat) : Int) = c * n + c := by rw [Int.natCast_succ, Int.mul_add, Int.mul_one]
    rw [e]; simp only [sumZ]; omega
theorem sumZ_cast (f : Nat → Int) (n : Nat) : ((sumZ f n : Int) : Rat) = sumF (fun i => (f i : Rat)) n := by
  induction n with
  | zero => rfl
  | succ n ih => rw [sumZ, sumF, Rat.intCast_add, ih]
def absQ (x : Rat) : Rat := if x < 0 then -x else x
theorem absQ_nonneg (x : Rat) : 0 ≤ absQ x := by unfold absQ; split <;> grind
theorem absQ_zero {x : Rat} (h : absQ x = 0) : x = 0 := by unfold absQ at h; split at h <;> grind
/-- the mean of whole numbers, the sum of their deviations from it -/
def meanQ (f : Nat → Int) (n : Nat) : Rat := Rat.divInt (sumZ f n) n
def devQ (f : Nat → Int) (n : Nat) : Rat := sumF (fun i => absQ ((f i : Rat) - meanQ f n)) n
/-- the squared differences of anchors behind a link -/
def resQ (A B : Rat) (f g : Nat → Int) (i : Nat) : Rat := A * (f i : Rat) + B - (g i : Rat)
def lossQ (A B : Rat) (f g : Nat → Int) (n : Nat) : Rat := sumF (fun i => resQ A B f g i * resQ A B f g i) n
theorem mean_mul (f : Nat → Int) {n : Nat} (h : 0 < n) : ((n : Int) : Rat) * meanQ f n = sumF (fun i => (f i : Rat)) n := by
  rw [← sumZ_cast, meanQ, Rat.divInt_eq_div]
  have h0 : ((n : Int) : Rat) ≠ 0 := fun e => by
    have : ((n : Int) : Rat) = ((0 : Int) : Rat) := e
    rw [Rat.intCast_inj] at this
    omega
  rw [Rat.mul_comm, Rat.div_mul_cancel h0]
/-- residuals of the link of the means add up to 0 -/
theorem res_sum (f g : Nat → Int) {n : Nat} (h : 0 < n) : sumF (resQ 1 (meanQ g n - meanQ f n) f g) n = 0 := by
  have e : sumF (resQ 1 (meanQ g n - meanQ f n) f g) n = sumF (fun i => (f i : Rat)) n + (sumF (fun _ => meanQ g n - meanQ f n) n + -1 * sumF (fun i => (g i : Rat)) n) := by
    rw [← sumF_mul, ← sumF_add, ← sumF_add]
    refine sumF_congr fun i _ => ?_
    simp only [resQ]; grind
  rw [e, sumF_const, ← mean_mul f h, ← mean_mul g h]
  grind
theorem loss_shift (A B s : Rat) (f g : Nat → Int) (n : Nat) : lossQ A (B + s) f g n = lossQ A B f g n + (2 * s * sumF (resQ A B f g) n + ((n : Int) : Rat) * (s * s)) := by
  have e : lossQ A (B + s) f g n = lossQ A B f g n + (sumF (fun i => 2 * s * resQ A B f g i) n + sumF (fun _ => s * s) n) := by
    unfold lossQ
    rw [← sumF_add, ← sumF_add]
    refine sumF_congr fun i _ => ?_
    simp only [resQ]; grind
  rw [e, sumF_mul, sumF_const]
theorem sq_nonneg (s : Rat) : 0 ≤ s * s := by
  rcases Rat.le_total (a := 0) (b := s) with h | h
  · exact Rat.mul_nonneg h h
  · have := Rat.mul_nonneg (show 0 ≤ -s by grind) (show 0 ≤ -s by grind)
    grind
theorem sq_zero {s : Rat} (h : s * s = 0) : s = 0 := by
  rcases Rat.mul_eq_zero.1 h with h | h <;> exact h
theorem nat_pos_q {n : Nat} (h : 0 < n) : (0 : Rat) < ((n : Int) : Rat) := by
  have : ((0 : Int) : Rat) < ((n : Int) : Rat) := Rat.intCast_lt_intCast.2 (by omega)
  exact this
theorem loss_least (f g : Nat → Int) {n : Nat} (h : 0 < n) (s : Rat) :
    lossQ 1 (meanQ g n - meanQ f n) f g n ≤ lossQ 1 (meanQ g n - meanQ f n + s) f g n ∧ (lossQ 1 (meanQ g n - meanQ f n) f g n = lossQ 1 (meanQ g n - meanQ f n + s) f g n ↔ s = 0) := by
  rw [loss_shift, res_sum f g h]
  have h1 := sq_nonneg s
  have h2 := nat_pos_q h
  have h3 : 0 ≤ ((n : Int) : Rat) * (s * s) := Rat.mul_nonneg (by grind) h1
  refine ⟨by grind, fun e => ?_, fun e => by subst e; grind⟩
  have h4 : ((n : Int) : Rat) * (s * s) = 0 := by grind
  rcases Rat.mul_eq_zero.1 h4 with h5 | h5
  · grind
  · exact sq_zero h5
theorem dev_nonneg (f : Nat → Int) (n : Nat) : 0 ≤ devQ f n := sumF_nonneg fun i _ => absQ_nonneg _
end Go.Proofs.YtmefecfkajjajaaDoor.K
namespace Go.Proofs.YtmefecfkajjajaaDoor.K
open Go
set_option linter.unusedVariables false
set_option linter.unusedSimpArgs false

/-- a number in any form, and its value -/
abbrev RF := Bool × List Int × List Int
def qR (p : RF) : Rat := Rat.divInt (sI p.1 p.2.1) (val p.2.2)
abbrev Lk := RF × RF
abbrev rowL (p : Lk) : List D := [.bool p.1.1, .ints .u32 p.1.2.1, .ints .u32 p.1.2.2, .bool p.2.1, .ints .u32 p.2.2.1, .ints .u32 p.2.2.2]
def lA (p : Lk) : Rat := qR p.1
def lB (p : Lk) : Rat := qR p.2
/-- first p, then q -/
def comp (p q : Rat × Rat) : Rat × Rat := (q.1 * p.1, q.1 * p.2 + q.2)
def chQ (M : List Lk) : Rat × Rat := M.foldl (fun c p => comp c (lA p, lB p)) (1, 0)
theorem comp_assoc (a b c : Rat × Rat) : comp (comp a b) c = comp a (comp b c) := by
  simp only [comp, Prod.mk.injEq]
  exact ⟨by grind, by grind⟩
theorem comp_left (p : Rat × Rat) : comp (1, 0) p = p := by
  simp only [comp]
  exact Prod.ext (by simp only; grind) (by simp only; grind)
theorem comp_right (p : Rat × Rat) : comp p (1, 0) = p := by
  simp only [comp]
  exact Prod.ext (by simp only; grind) (by simp only; grind)
theorem fold_comp (M : List Lk) (c : Rat × Rat) : M.foldl (fun c p => comp c (lA p, lB p)) c = comp c (chQ M) := by
  induction M generalizing c with
  | nil => exact (comp_right c).symm
  | cons p M ih =>
    rw [chQ, List.foldl_cons, List.foldl_cons, ih, ih (comp (1, 0) _), comp_left, comp_assoc]
theorem chQ_append (a b : List Lk) : chQ (a ++ b) = comp (chQ a) (chQ b) := by
  rw [chQ, List.foldl_append, fold_comp]; rfl
theorem chQ_snoc (a : List Lk) (p : Lk) : chQ (a ++ [p]) = comp (chQ a) (lA p, lB p) := by
  rw [chQ_append]; congr 1
  rw [chQ, List.foldl_cons, List.foldl_nil, comp_left]
theorem chQ_pos : ∀ (M : List Lk), (∀ p ∈ M, 0 < lA p) → 0 < (chQ M).1 := by
  intro M
  suffices h : ∀ (M : List Lk) (c : Rat × Rat), 0 < c.1 → (∀ p ∈ M, 0 < lA p) → 0 < (M.foldl (fun c p => comp c (lA p, lB p)) c).1 from fun hM => h M (1, 0) (by decide +kernel) hM
  intro M
  induction M with
  | nil => intro c hc _; exact hc
  | cons p M ih => intro c hc h; exact ih _ (Rat.mul_pos (h p (by simp)) hc) fun q hq => h q (by simp [hq])
/-- sizes of the members of a chain -/
theorem chQ_size {M : List Lk} {K : Nat} (h : ∀ p ∈ M, SzR (lA p) K ∧ SzR (lB p) K) : ∀ n, n ≤ M.length → SzR (chQ (M.take n)).1 (n * K + 1) ∧ SzR (chQ (M.take n)).2 (n * (2 * K + 1) + 1) := by
  intro n
  induction n with
  | zero => intro _; exact ⟨by simpa [chQ] using SzR.one, by simpa [chQ] using SzR.zero⟩
  | succ n ih =>
    intro hn
    obtain ⟨i1, i2⟩ := ih (by omega)
    have hp : M[n]? = some M[n] := by simp [show n < M.length by omega]
    obtain ⟨g1, g2⟩ := h M[n] (List.getElem_mem _)
    rw [List.take_add_one, hp]
    show SzR (chQ (M.take n ++ [M[n]])).1 _ ∧ SzR (chQ (M.take n ++ [M[n]])).2 _
    rw [chQ_snoc]
    simp only [comp]
    have a1 := SzR.mul (lA M[n]) (chQ (M.take n)).1 K _ (h := g1) (g := i1)
    have a2 := SzR.mul (lA M[n]) (chQ (M.take n)).2 K _ (h := g1) (g := i2)
    have a3 := SzR.add _ (lB M[n]) _ K (h := a2) (g := g2)
    refine ⟨a1.mono (by rw [Nat.succ_mul n K]; omega), a3.mono (by rw [Nat.succ_mul n (2 * K + 1)]; omega)⟩
/-- the first place with the smallest number -/
def best (f : Nat → Rat) : Nat → Nat × Rat
  | 0 => (0, f 0)
  | n + 1 => if f (n + 1) < (best f n).2 then (n + 1, f (n + 1)) else best f n
theorem best_le (f : Nat → Rat) (n : Nat) : (best f n).1 ≤ n := by
  induction n with
  | zero => exact Nat.le_refl _
  | succ n ih =>
    rw [best]
    split
    · exact Nat.le_refl _
    · omega
theorem best_val (f : Nat → Rat) (n : Nat) : (best f n).2 = f (best f n).1 := by
  induction n with
  | zero => rfl
  | succ n ih => rw [best]; split
                 · rfl
                 · exact ih
/-- anchors -/
def coefOK (l : List Int) : Prop := ∀ n ∈ l, -1000000 ≤ n ∧ n ≤ 1000000
instance (l : List Int) : Decidable (coefOK l) := inferInstanceAs (Decidable (∀ n ∈ l, _))
def anchE (x y : List Int) : Int := if 60 < x.length ∨ 60 < y.length then 5 else if x.length ≠ y.length then 1 else if x.length = 0 then 20 else if coefOK x ∧ coefOK y then 0 else 3
theorem anchE_zero {x y : List Int} (h : anchE x y = 0) : x.length ≤ 60 ∧ x.length = y.length ∧ 0 < x.length ∧ coefOK x ∧ coefOK y := by
  unfold anchE at h
  split at h
  · omega
  split at h
  · omega
  split at h
  · omega
  split at h
  · rename_i h1 h2 h3 h4; exact ⟨by omega, by omega, by omega, h4⟩
  · omega
theorem anchE_swap (x y : List Int) : anchE x y = anchE y x := by
  unfold anchE
  by_cases h1 : 60 < x.length ∨ 60 < y.length
  · have h1' : 60 < y.length ∨ 60 < x.length := h1.symm
    simp only [if_pos h1, if_pos h1']
  · have h1' : ¬ (60 < y.length ∨ 60 < x.length) := fun h => h1 h.symm
    simp only [if_neg h1, if_neg h1']
    by_cases h2 : x.length ≠ y.length
    · have h2' : y.length ≠ x.length := fun h => h2 h.symm
      simp only [if_pos h2, if_pos h2']
    · have h2' : ¬ y.length ≠ x.length := fun h => h (by omega)
      simp only [if_neg h2, if_neg h2']
      by_cases h3 : x.length = 0
      · have h3' : y.length = 0 := by omega
        simp only [if_pos h3, if_pos h3']
      · have h3' : ¬ y.length = 0 := by omega
        simp only [if_neg h3, if_neg h3']
        by_cases h4 : coefOK x ∧ coefOK y
        · simp only [if_pos h4, if_pos h4.symm]
        · have h4' : ¬ (coefOK y ∧ coefOK x) := fun h => h4 h.symm
          simp only [if_neg h4, if_neg h4']
theorem anchE_cases (x y : List Int) : anchE x y = 0 ∨ anchE x y = 1 ∨ anchE x y = 3 ∨ anchE x y = 5 ∨ anchE x y = 20 := by
  unfold anchE
  (repeat' split) <;> omega
/-- the spread link and its inverse -/
theorem spread_inv {p q mx my : Rat} (hp : p ≠ 0) (hq : q ≠ 0) : 1 / (q / p) = p / q ∧ -(my - q / p * mx) / (q / p) = mx - p / q * my := by
  have f1 : q / p * p = q := Rat.div_mul_cancel hp
  have e1 : q / p ≠ 0 := fun h => hq (by rw [← f1, h]; grind)
  have f2 : p / q * q = p := Rat.div_mul_cancel hq
  have f3 : p / q * (q / p) = 1 := by
    rw [Rat.div_def, Rat.div_def]
    have g1 := Rat.mul_inv_cancel _ hp
    have g2 := Rat.mul_inv_cancel _ hq
    grind
  constructor
  · have := Rat.div_mul_cancel (a := 1) e1
    have h2 : (1 / (q / p)) * (q / p) * (p / q) = p / q := by rw [this]; grind
    grind
  · have h1 := Rat.div_mul_cancel (a := -(my - q / p * mx)) e1
    have h2 : -(my - q / p * mx) / (q / p) * (q / p) * (p / q) = -(my - q / p * mx) * (p / q) := by rw [h1]
    grind
end Go.Proofs.YtmefecfkajjajaaDoor.K
