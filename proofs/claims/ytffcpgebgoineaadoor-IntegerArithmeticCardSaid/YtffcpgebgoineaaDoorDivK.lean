/- Plain arithmetic of the long division, limb by limb. -/
import Derived.Test.YtffcpgebgoineaaDoorWalkD
namespace Go.Proofs.YtffcpgebgoineaaDoor.K
open Go
set_option linter.unusedVariables false
set_option linter.unusedSimpArgs false

theorem val_take_le {l : List Int} (h : Lim l) (n : Nat) : val (l.take n) ≤ val l := by
  by_cases hn : n ≤ l.length
  · rw [val_split l n hn]
    have h1 := val_nonneg (h.drop n)
    have h2 := Int.mul_nonneg (Int.le_of_lt (pow_pos' n)) h1
    omega
  · rw [List.take_of_length_le (by omega)]; exact Int.le_refl _
theorem val_take_lt {l : List Int} (h : Lim l) {n : Nat} (hn : val l < 4294967296 ^ n) : val (l.take n) = val l ∧ val (l.drop n) = 0 := by
  by_cases hnl : n ≤ l.length
  · have h0 := val_split l n hnl
    have h1 := val_nonneg (h.drop n)
    have h2 := val_nonneg (h.take n)
    have h3 := pow_pos' n
    have h4 : val (l.drop n) = 0 := by
      rcases Int.lt_or_eq_of_le h1 with h5 | h5
      · exfalso
        have : 4294967296 ^ n * 1 ≤ 4294967296 ^ n * val (l.drop n) := Int.mul_le_mul_of_nonneg_left (by omega) (by omega)
        omega
      · exact h5.symm
    rw [h4, Int.mul_zero] at h0
    exact ⟨by omega, h4⟩
  · rw [List.take_of_length_le (by omega), List.drop_eq_nil_of_le (by omega)]
    exact ⟨rfl, rfl⟩

/-- the upper limbs of a number and the rest below -/
theorem val_top2 {l : List Int} (h : Lim l) {n : Nat} (hl : l.length = n + 2) : ∃ r, val l = (ix l (n + 1 : Nat) * 4294967296 + ix l n) * 4294967296 ^ n + r ∧ 0 ≤ r ∧ r < 4294967296 ^ n := by
  refine ⟨val (l.take n), ?_, val_nonneg (h.take n), ?_⟩
  · have h1 : val (l.take (n + 1 + 1)) = _ := val_take_succ l (n + 1)
    rw [List.take_of_length_le (by omega), val_take_succ] at h1
    rw [h1, Int.pow_succ]
    grind
  · have := val_lt (h.take n)
    rwa [show (l.take n).length = n by simp; omega] at this
theorem val_top3 {l : List Int} (h : Lim l) {n : Nat} (hl : l.length = n + 3) : ∃ r, val l = ((ix l (n + 2 : Nat) * 4294967296 + ix l (n + 1 : Nat)) * 4294967296 + ix l n) * 4294967296 ^ n + r ∧ 0 ≤ r ∧ r < 4294967296 ^ n := by
  refine ⟨val (l.take n), ?_, val_nonneg (h.take n), ?_⟩
  · have h1 : val (l.take (n + 2 + 1)) = _ := val_take_succ l (n + 2)
    rw [List.take_of_length_le (by omega), val_take_succ, val_take_succ] at h1
    rw [h1, Int.pow_succ, Int.pow_succ]
    grind
  · have := val_lt (h.take n)
    rwa [show (l.take n).length = n by simp; omega] at this

theorem est_div {T W P m' v' e : Int} (hP : 0 < P) (hm : 0 ≤ m' ∧ m' < P) (hv : 0 ≤ v' ∧ v' < P) (hW : 9223372036854775808 ≤ W) (hT : 0 ≤ T) (hlt : T * P + m' < 4294967296 * (W * P + v')) (he : e = min 4294967295 (T / W)) :
    0 ≤ e ∧ e < 4294967296 ∧ (e = (T * P + m') / (W * P + v') ∨ e = (T * P + m') / (W * P + v') + 1) := by
  have hWP : 0 < W * P := Int.mul_pos (by omega) hP
  have hV : 0 < W * P + v' := by omega
  have hq : 0 ≤ (T * P + m') / (W * P + v') := Int.ediv_nonneg (by have := Int.mul_nonneg hT (Int.le_of_lt hP); omega) (by omega)
  have hq1 : (T * P + m') / (W * P + v') < 4294967296 := Int.ediv_lt_of_lt_mul hV hlt
  have hq2 : (T * P + m') / (W * P + v') * (W * P + v') ≤ T * P + m' := (Int.le_ediv_iff_mul_le hV).1 (Int.le_refl _)
  have hq3 : T * P + m' < ((T * P + m') / (W * P + v') + 1) * (W * P + v') := Int.lt_mul_of_ediv_lt hV (by omega)
  generalize (T * P + m') / (W * P + v') = q at *
  have hT0 : 0 ≤ T / W := Int.ediv_nonneg hT (by omega)
  -- q ≤ T / W
  have h1 : q ≤ T / W := by
    rw [Int.le_ediv_iff_mul_le (by omega)]
    have h2 : q * W * P < (T + 1) * P := by
      have h3 : 0 ≤ q * v' := Int.mul_nonneg hq hv.1
      have h4 : q * (W * P + v') = q * W * P + q * v' := by grind
      have h5 : (T + 1) * P = T * P + P := by grind
      omega
    have := Int.lt_of_mul_lt_mul_right h2 (Int.le_of_lt hP)
    omega
  have h2 : e ≤ q + 1 := by
    rcases Int.lt_or_le (q + 1) e with h | h
    · exfalso
      have h3 : e * W ≤ T := (Int.le_ediv_iff_mul_le (by omega)).1 (show e ≤ T / W by omega)
      have h4 : (q + 1) * (W * P + v') ≤ (e - 1) * (W * P + v') := Int.mul_le_mul_of_nonneg_right (by omega) (by omega)
      have h5 : (e - 1) * v' ≤ (e - 1) * P := Int.mul_le_mul_of_nonneg_left (by omega) (by omega)
      have h6 : e * W * P ≤ T * P := Int.mul_le_mul_of_nonneg_right h3 (by omega)
      have h7 : (e - 1) * (W * P + v') = e * W * P - W * P + (e - 1) * v' := by grind
      have h8 : (e - 1) * P ≤ W * P := Int.mul_le_mul_of_nonneg_right (by omega) (by omega)
      omega
    · exact h
  omega

theorem div_estimate {m V : List Int} (hm : Lim m) (hV : Lim V) {n : Nat} (hn : 2 ≤ n) (hml : m.length = n + 1) (hVl : V.length = n) (hv : 2147483648 ≤ ix V (n - 1)) (hlt : val m < 4294967296 * val V) :
    let e := estI (ix m n * 4294967296 + ix m (n - 1)) (ix V (n - 1)) (ix V (n - 2)) (ix m (n - 2))
    ix m n * 4294967296 + ix m (n - 1) ≤ ix V (n - 1) * 4294967296 + 4294967295 ∧ 0 ≤ e ∧ e < 4294967296 ∧ (e = val m / val V ∨ e = val m / val V + 1) := by
  obtain ⟨p, rfl⟩ : ∃ p, n = p + 2 := ⟨n - 2, by omega⟩
  obtain ⟨m', hm1, hm2⟩ := val_top3 hm (n := p) (by omega)
  obtain ⟨v', hv1, hv2⟩ := val_top2 hV (n := p) (by omega)
  have e1 : ((p + 2 : Nat) : Int) - 1 = (p + 1 : Nat) := by omega
  have e2 : ((p + 2 : Nat) : Int) - 2 = (p : Nat) := by omega
  rw [e1] at hv
  rw [e1, e2]
  have a1 := hm.ix (p + 2 : Nat)
  have a2 := hm.ix (p + 1 : Nat)
  have a3 := hm.ix p
  have a4 := hV.ix (p + 1 : Nat)
  have a5 := hV.ix p
  have hP := pow_pos' p
  dsimp only
  rw [hm1, hv1] at hlt
  rw [hm1, hv1]
  refine ⟨?_, est_div hP hm2 hv2 (by omega) (by omega) hlt rfl⟩
  have key : (ix m (p + 2 : Nat) * 4294967296 + ix m (p + 1 : Nat)) * 4294967296 + ix m p < 4294967296 * (ix V (p + 1 : Nat) * 4294967296 + ix V p + 1) := by
    refine Int.lt_of_mul_lt_mul_right (a := 4294967296 ^ p) ?_ (Int.le_of_lt hP)
    have : 4294967296 * (ix V (p + 1 : Nat) * 4294967296 + ix V p + 1) * 4294967296 ^ p = 4294967296 * ((ix V (p + 1 : Nat) * 4294967296 + ix V p) * 4294967296 ^ p) + 4294967296 * 4294967296 ^ p := by grind
    rw [this]
    omega
  omega

theorem div_step {l Q : List Int} {j n : Nat} {V A : Int} (hl : Lim l) (hn : j + (n + 1) ≤ l.length) (hj : j < Q.length) (hV : 0 < V) (hVn : V < 4294967296 ^ n) (hr : val (l.drop (j + 1)) < V) (heq : val l + V * (4294967296 ^ (j + 1) * val (Q.drop (j + 1))) = A) :
    let M := val ((l.drop j).take (n + 1))
    let l' := l.take j ++ dig (n + 1) (M % V) ++ l.drop (j + (n + 1))
    M < 4294967296 * V ∧ l'.length = l.length ∧ Lim l' ∧ val (l'.drop j) < V ∧ val l' + V * (4294967296 ^ j * val ((Q.set j (M / V)).drop j)) = A := by
  have q1 := hl.ix j
  have hd := val_drop l j (by omega)
  have hr0 := val_nonneg (hl.drop (j + 1))
  have hM1 : val (l.drop j) < 4294967296 * V := by omega
  have hM2 : val (l.drop j) < 4294967296 ^ (n + 1) := by rw [Int.pow_succ]; omega
  have hM := val_take_lt (hl.drop j) hM2
  dsimp only
  rw [hM.1]
  have hsp := val_split l j (by omega)
  have hM0 := val_nonneg (hl.drop j)
  have hpost : val (l.drop (j + (n + 1))) = 0 := by rw [← List.drop_drop]; exact hM.2
  have hm1 := Int.emod_nonneg (val (l.drop j)) (show V ≠ 0 by omega)
  have hm2 := Int.emod_lt_of_pos (val (l.drop j)) hV
  have hm3 := Int.mul_ediv_add_emod (val (l.drop j)) V
  have hmn : val (l.drop j) % V < 4294967296 ^ (n + 1) := by
    have := pow_pos' n
    rw [Int.pow_succ]; omega
  have hvd := val_dig (n + 1) (val (l.drop j) % V) hm1 hmn
  have hlen : (l.take j).length = j := by simp; omega
  have hseg : val (dig (n + 1) (val (l.drop j) % V) ++ l.drop (j + (n + 1))) = val (l.drop j) % V := by
    rw [val_append, hpost, Int.mul_zero, hvd, Int.add_zero]
  have hdrop : (l.take j ++ dig (n + 1) (val (l.drop j) % V) ++ l.drop (j + (n + 1))).drop j = dig (n + 1) (val (l.drop j) % V) ++ l.drop (j + (n + 1)) := by
    rw [List.append_assoc]
    conv => lhs; arg 1; rw [← hlen]
    exact List.drop_left
  refine ⟨hM1, by simp [dig_length]; omega, ?_, by rw [hdrop, hseg]; exact hm2, ?_⟩
  · intro y hy
    rcases List.mem_append.1 hy with hy | hy
    · rcases List.mem_append.1 hy with hy | hy
      · exact hl.take j y hy
      · exact Lim.dig _ _ y hy
    · exact hl.drop _ y hy
  · rw [List.append_assoc, val_append, hlen, hseg, val_drop_set hj]
    rw [← heq, hsp]
    rw [Int.pow_succ]
    generalize (4294967296 : Int) ^ j = p at *
    generalize val (l.drop j) / V = q at *
    generalize val (l.drop j) % V = r at *
    generalize val (Q.drop (j + 1)) = w at *
    rw [← hm3]
    grind
end Go.Proofs.YtffcpgebgoineaaDoor.K
