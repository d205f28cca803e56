/- Sums of rational numbers, means and losses: plain laws. Nothing of any program stands here. -/
import Derived.Test.YtgdejiajiljipaaGreatDoorRat
namespace Go.Proofs.YtgdejiajiljipaaGreatDoor.K
open Go
set_option linter.unusedVariables false
set_option linter.unusedSimpArgs false

/-- f 0 + .. + f (n - 1) -/
def sumF (f : Nat → Rat) : Nat → Rat
  | 0 => 0
  | n + 1 => sumF f n + f n
theorem sumF_congr {f g : Nat → Rat} {n : Nat} (h : ∀ i, i < n → f i = g i) : sumF f n = sumF g n := by
  induction n with
  | zero => rfl
  | succ n ih => rw [sumF, sumF, ih (fun i hi => h i (by omega)), h n (by omega)]
theorem sumF_add (f g : Nat → Rat) (n : Nat) : sumF (fun i => f i + g i) n = sumF f n + sumF g n := by
  induction n with
  | zero => simp [sumF]; grind
  | succ n ih => simp only [sumF, ih]; grind
theorem sumF_mul (c : Rat) (f : Nat → Rat) (n : Nat) : sumF (fun i => c * f i) n = c * sumF f n := by
  induction n with
  | zero => simp only [sumF]; grind
  | succ n ih => simp only [sumF, ih]; grind
theorem sumF_const (c : Rat) (n : Nat) : sumF (fun _ => c) n = ((n : Int) : Rat) * c := by
  induction n with
  | zero => simp only [sumF]; show (0 : Rat) = ((0 : Int) : Rat) * c; grind
  | succ n ih => simp only [sumF, ih]; rw [Int.natCast_succ, Rat.intCast_add]; grind
theorem sumF_nonneg {f : Nat → Rat} {n : Nat} (h : ∀ i, i < n → 0 ≤ f i) : 0 ≤ sumF f n := by
  induction n with
  | zero => simp [sumF]
  | succ n ih => have := ih (fun i hi => h i (by omega)); have := h n (by omega); simp only [sumF]; grind
theorem sz_sumF (f : Nat → Rat) (K : Nat) (hf : ∀ i, SzR (f i) K) (n : Nat) : SzR (sumF f n) (n * (K + 1) + 1) := by
  induction n with
  | zero => simpa [sumF] using SzR.zero
  | succ n ih =>
    have := SzR.add (sumF f n) (f n) _ _ (h := ih) (g := hf n)
    refine this.mono ?_
    rw [Nat.succ_mul]; omega
/-- the sum of whole numbers -/
def sumZ (f : Nat → Int) : Nat → Int
  | 0 => 0
  | n + 1 => sumZ f n + f n
theorem sumZ_bound {f : Nat → Int} {c : Int} (h : ∀ i, -c ≤ f i ∧ f i ≤ c) (n : Nat) : -(c * n) ≤ sumZ f n ∧ sumZ f n ≤ c * n := by
  induction n with
  | zero => simp [sumZ]
  | succ n ih =>
    have := h n
    have e : c * ((n + 1 : Nat) : Int) = c * n + c := by rw [Int.natCast_succ, Int.mul_add, Int.mul_one]
    rw [e]; simp only [sumZ]; omega
theorem sumZ_cast (f : Nat → Int) (n : Nat) : ((sumZ f n : Int) : Rat) = sumF (fun i => (f i : Rat)) n := by
  induction n with
  | zero => rfl
  | succ n ih => rw [sumZ, sumF, Rat.intCast_add, ih]
def absQ (x : Rat) : Rat := if x < 0 then -x else x
theorem absQ_nonneg (x : Rat) : 0 ≤ absQ x := by unfold absQ; split <;> grind
theorem absQ_zero {x : Rat} (h : absQ x = 0) : x = 0 := by unfold absQ at h; split at h <;> grind
/-- the mean of whole numbers, the sum of their deviations from it -/
def meanQ (f : Nat → Int) (n : Nat) : Rat := Rat.divInt (sumZ f n) n
def devQ (f : Nat → Int) (n : Nat) : Rat := sumF (fun i => absQ ((f i : Rat) - meanQ f n)) n
/-- the squared differences of anchors behind a link -/
def resQ (A B : Rat) (f g : Nat → Int) (i : Nat) : Rat := A * (f i : Rat) + B - (g i : Rat)
def lossQ (A B : Rat) (f g : Nat → Int) (n : Nat) : Rat := sumF (fun i => resQ A B f g i * resQ A B f g i) n
theorem mean_mul (f : Nat → Int) {n : Nat} (h : 0 < n) : ((n : Int) : Rat) * meanQ f n = sumF (fun i => (f i : Rat)) n := by
  rw [← sumZ_cast, meanQ, Rat.divInt_eq_div]
  have h0 : ((n : Int) : Rat) ≠ 0 := fun e => by
    have : ((n : Int) : Rat) = ((0 : Int) : Rat) := e
    rw [Rat.intCast_inj] at this
    omega
  rw [Rat.mul_comm, Rat.div_mul_cancel h0]
/-- residuals of the link of the means add up to 0 -/
theorem res_sum (f g : Nat → Int) {n : Nat} (h : 0 < n) : sumF (resQ 1 (meanQ g n - meanQ f n) f g) n = 0 := by
  have e : sumF (resQ 1 (meanQ g n - meanQ f n) f g) n = sumF (fun i => (f i : Rat)) n + (sumF (fun _ => meanQ g n - meanQ f n) n + -1 * sumF (fun i => (g i : Rat)) n) := by
    rw [← sumF_mul, ← sumF_add, ← sumF_add]
    refine sumF_congr fun i _ => ?_
    simp only [resQ]; grind
  rw [e, sumF_const, ← mean_mul f h, ← mean_mul g h]
  grind
theorem loss_shift (A B s : Rat) (f g : Nat → Int) (n : Nat) : lossQ A (B + s) f g n = lossQ A B f g n + (2 * s * sumF (resQ A B f g) n + ((n : Int) : Rat) * (s * s)) := by
  have e : lossQ A (B + s) f g n = lossQ A B f g n + (sumF (fun i => 2 * s * resQ A B f g i) n + sumF (fun _ => s * s) n) := by
    unfold lossQ
    rw [← sumF_add, ← sumF_add]
    refine sumF_congr fun i _ => ?_
    simp only [resQ]; grind
  rw [e, sumF_mul, sumF_const]
theorem sq_nonneg (s : Rat) : 0 ≤ s * s := by
  rcases Rat.le_total (a := 0) (b := s) with h | h
  · exact Rat.mul_nonneg h h
  · have := Rat.mul_nonneg (show 0 ≤ -s by grind) (show 0 ≤ -s by grind)
    grind
theorem sq_zero {s : Rat} (h : s * s = 0) : s = 0 := by
  rcases Rat.mul_eq_zero.1 h with h | h <;> exact h
theorem nat_pos_q {n : Nat} (h : 0 < n) : (0 : Rat) < ((n : Int) : Rat) := by
  have : ((0 : Int) : Rat) < ((n : Int) : Rat) := Rat.intCast_lt_intCast.2 (by omega)
  exact this
theorem loss_least (f g : Nat → Int) {n : Nat} (h : 0 < n) (s : Rat) :
    lossQ 1 (meanQ g n - meanQ f n) f g n ≤ lossQ 1 (meanQ g n - meanQ f n + s) f g n ∧ (lossQ 1 (meanQ g n - meanQ f n) f g n = lossQ 1 (meanQ g n - meanQ f n + s) f g n ↔ s = 0) := by
  rw [loss_shift, res_sum f g h]
  have h1 := sq_nonneg s
  have h2 := nat_pos_q h
  have h3 : 0 ≤ ((n : Int) : Rat) * (s * s) := Rat.mul_nonneg (by grind) h1
  refine ⟨by grind, fun e => ?_, fun e => by subst e; grind⟩
  have h4 : ((n : Int) : Rat) * (s * s) = 0 := by grind
  rcases Rat.mul_eq_zero.1 h4 with h5 | h5
  · grind
  · exact sq_zero h5
theorem dev_nonneg (f : Nat → Int) (n : Nat) : 0 ≤ devQ f n := sumF_nonneg fun i _ => absQ_nonneg _
end Go.Proofs.YtgdejiajiljipaaGreatDoor.K
