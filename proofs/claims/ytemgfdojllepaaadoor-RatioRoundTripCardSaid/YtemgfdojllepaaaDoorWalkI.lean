/- Walks: integer.DivMod. -/
import Derived.Test.YtemgfdojllepaaaDoorWalkH
namespace Go.Proofs.YtemgfdojllepaaaDoor.K
open Go
set_option linter.unusedVariables false
set_option linter.unusedSimpArgs false

theorem fdiv_unique {x v q r : Int} (h : x = v * q + r) (h0 : 0 ≤ r) (h1 : r < v) : x.fdiv v = q ∧ x.fmod v = r ∧ (-x).fdiv (-v) = q ∧ (-x).fmod (-v) = -r := by
  have h2 := divmod_of h h0 h1
  have e1 : x.fdiv v = q := by rw [Int.fdiv_eq_ediv_of_nonneg _ (by omega)]; exact h2.1
  have e2 : (-x).fdiv (-v) = q := by rw [Int.neg_fdiv_neg]; exact e1
  refine ⟨e1, ?_, e2, ?_⟩
  · rw [Int.fmod_def, e1]; omega
  · rw [Int.fmod_def, e2, Int.neg_mul]; omega
theorem fdiv_eq {u v : Int} (hu : 0 ≤ u) (hv : 0 < v) {n m : Bool} (h : n = m ∨ u % v = 0) :
    Int.fdiv (if n then -u else u) (if m then -v else v) = (if (n != m) then -(u / v) else u / v) ∧ Int.fmod (if n then -u else u) (if m then -v else v) = (if n then -(u % v) else u % v) := by
  have h1 := Int.mul_ediv_add_emod u v
  have h2 := Int.emod_nonneg u (show v ≠ 0 by omega)
  have h3 := Int.emod_lt_of_pos u hv
  have k1 := fdiv_unique h1.symm h2 h3
  cases n <;> cases m <;> simp at h ⊢
  · exact ⟨k1.1, k1.2.1⟩
  · have k2 := fdiv_unique (x := -u) (v := v) (q := -(u / v)) (r := 0) (by rw [Int.mul_neg]; omega) (by omega) hv
    rw [Int.neg_neg] at k2
    exact ⟨k2.2.2.1, by rw [k2.2.2.2, h]; rfl⟩
  · have k2 := fdiv_unique (x := -u) (v := v) (q := -(u / v)) (r := 0) (by rw [Int.mul_neg]; omega) (by omega) hv
    exact ⟨k2.1, by rw [k2.2.1, h]; rfl⟩
  · exact ⟨k1.1, k1.2.1⟩
theorem fdiv_ne {u v : Int} (hu : 0 ≤ u) (hv : 0 < v) {n m : Bool} (h : n ≠ m) (hr : u % v ≠ 0) :
    Int.fdiv (if n then -u else u) (if m then -v else v) = -(u / v + 1) ∧ Int.fmod (if n then -u else u) (if m then -v else v) = (if m then -(v - u % v) else v - u % v) := by
  have h1 := Int.mul_ediv_add_emod u v
  have h2 := Int.emod_nonneg u (show v ≠ 0 by omega)
  have h3 := Int.emod_lt_of_pos u hv
  have k2 := fdiv_unique (x := -u) (v := v) (q := -(u / v + 1)) (r := v - u % v) (by rw [Int.mul_neg, Int.mul_add]; omega) (by omega) (by omega)
  cases n <;> cases m <;> simp at h ⊢
  · rw [Int.neg_neg] at k2
    exact ⟨by rw [k2.2.2.1], by rw [k2.2.2.2]⟩
  · exact ⟨by rw [k2.1], k2.2.1⟩

theorem intD_zero : intD 0 = .agg [.bool false, .ints .u32 []] := by simp [intD, limbs_zero]

theorem idivMod_ev (n : Bool) (l : List Int) (m : Bool) (k : List Int) (x y : Int) (hx : sI n l = x) (hy : sI m k = y) (hlen : l.length + k.length ≤ 1000000000000) : Evals Tryd.prog 31 [.agg [.bool n, .ints .u32 l], .agg [.bool m, .ints .u32 k]] (.tup [intD (Int.fdiv x y), intD (if y = 0 then 0 else Int.fmod x y), .bool (decide (y ≠ 0))]) := by
  subst hx hy
  refine evals_of_awp Tryd.func31 rfl (CallOK.of Tryd.func31 (by kernel_rfl) rfl) (Nat.le_of_ble_eq_true rfl) ?_
  rintro w R hR ⟨vs, hv⟩
  obtain ⟨hl, hl'⟩ := hv.sint 0 rfl
  obtain ⟨hk, hk'⟩ := hv.sint 1 rfl
  have vl := val_nonneg hl'
  have vk := val_nonneg hk'
  have hy : sI m k = 0 ↔ val k = 0 := by unfold sI; split <;> omega
  have g1 := limbs_mono (show val l / val k ≤ val l from Int.ediv_le_self _ vl)
  have g2 := limbs_val_length l hl'
  have g3 := limbs_val_length k hk'
  rcases Int.lt_or_eq_of_le vk with h0 | h0
  · have hne : val k ≠ 0 := by omega
    have r1 := Int.emod_nonneg (val l) hne
    have r2 := Int.emod_lt_of_pos (val l) h0
    have g4 := limbs_mono (show val l % val k ≤ val k by omega)
    have g5 := limbs_nil r1
    have hdm := divMod_ev l k (by omega)
    rw [if_neg hne, show decide (val k ≠ 0) = true by simp [hne]] at hdm
    have hyn : sI m k ≠ 0 := fun h => hne (hy.1 h)
    have g6 : val k - val (limbs (val l % val k)) = val k - val l % val k := by rw [val_limbs r1]
    have g7 := limbs_mono (show val k - val l % val k ≤ val k by omega)
    rw [← g6] at g7
    have g8 : val (limbs (val l / val k)) + val (limbs 1) = val l / val k + 1 := by rw [val_limbs (Int.ediv_nonneg vl vk), val_limbs (by omega)]
    have g9 := limbs_add_length (Lim.limbs (val l / val k)) (Lim.limbs 1)
    have g10 := limbs_length_le (n := 1) (k := 1) (by omega)
    have vq := Int.ediv_nonneg vl vk
    repeat' (first
      | (apply RunL.step; exact rfl; first
        | fail)
      | (apply RunL.step; exact rfl; apply op_ev (τ := τ); exact rfl; (first | exact hdm | exact of_ev _ | exact add_ev _ _ (by omega) (by first | omega | exact len_u64 (by omega)) | exact sub_ev _ _ (by omega) | (apply make_ev; (first | exact sI_norm _ | exact rfl); (first | omega | exact len_u64 (by omega)))); exact rfl)
      | (apply RunL.step; exact rfl; exact opA)
      | (apply RunL.hand; exact rfl; exact rfl; exact lenA; exact rfl)
      | (apply AWP.seq)
      | (apply AWP.region; exact rfl)
      | (apply AWP.block)
      | (apply AWP.skip)
      | (apply AWP.exit)
      | (apply AWP.retF; exact rfl; exact rfl; exact rfl; exact rfl; exact lenA; exact rfl)
      | (apply AWP.ret)
      | (apply RunL.nil)
      | (apply RunL.on; exact rfl; exact rfl; exact rfl; exact rfl; (first | exact rfl | assumption))
      | (apply RunL.noU; exact rfl; exact rfl; exact rfl; exact rfl; exact rfl; exact rfl)
      | (apply RunL.no; exact rfl; exact rfl; exact rfl; exact rfl; (first | exact rfl | assumption); exact rfl; exact rfl)
      | (refine AWP.cond _ (Rd.of rfl) (fun hc => ?_) (fun hc => ?_) <;> first | (exfalso; cases hc; done) | (have hc' := hc; (try simp only [decide_eq_true_eq, decide_eq_false_iff_not, Bool.not_true, Bool.not_false, bne_self_eq_false, beq_self_eq_true, ne_self_iff_false, Bool.true_bne, Bool.false_bne, Bool.true_beq, Bool.false_beq, Bool.false_eq_true, Bool.true_eq_false, reduceCtorEq, Bool.not_eq_true', Bool.not_eq_false', beq_iff_eq, bne_iff_ne, beq_eq_false_iff_ne, bne_eq_false_iff_eq, cmpOf] at hc'); try (exfalso; omega)))
      | (
        apply AWP.drawA
        repeat' (first
          | (apply DL.cons; (try (apply OpLoc.on; exact rfl; exact rfl; exact rfl; exact rfl; (first | exact rfl | assumption))); apply ol_ev (τ := τ); exact rfl; (first | exact hdm | exact of_ev _ | exact add_ev _ _ (by omega) (by first | omega | exact len_u64 (by omega)) | exact sub_ev _ _ (by omega) | (apply make_ev; (first | exact sI_norm _ | exact rfl); (first | omega | exact len_u64 (by omega)))); exact rfl; exact rfl)
          | (apply DL.cons; exact olA; exact rfl)
          | (apply DL.nil; kernel_rfl)
          | (refine DL.split rfl rfl rfl rfl (fun hb => ?_) (fun hb => ?_) <;> have hb' := hb <;> (try simp only [decide_eq_true_eq, decide_eq_false_iff_not, Bool.not_true, Bool.not_false, bne_self_eq_false, beq_self_eq_true, ne_self_iff_false, Bool.true_bne, Bool.false_bne, Bool.true_beq, Bool.false_beq, Bool.false_eq_true, Bool.true_eq_false, reduceCtorEq, Bool.not_eq_true', Bool.not_eq_false', beq_iff_eq, bne_iff_ne, beq_eq_false_iff_ne, bne_eq_false_iff_eq, cmpOf] at hb') <;> try (exfalso; omega)))
        all_goals (fail_if_success apply DL.id))
      | (refine RunL.split rfl rfl rfl rfl (fun hb => ?_) (fun hb => ?_) <;> have hb' := hb <;> (try simp only [decide_eq_true_eq, decide_eq_false_iff_not, Bool.not_true, Bool.not_false, bne_self_eq_false, beq_self_eq_true, ne_self_iff_false, Bool.true_bne, Bool.false_bne, Bool.true_beq, Bool.false_beq, Bool.false_eq_true, Bool.true_eq_false, reduceCtorEq, Bool.not_eq_true', Bool.not_eq_false', beq_iff_eq, bne_iff_ne, beq_eq_false_iff_ne, bne_eq_false_iff_eq, cmpOf] at hb') <;> try (exfalso; omega))
      )
    · apply Ends.mk (.cons (.cellA (τ := τ) rfl rfl rfl rfl rfl) (.cons (.cellA (τ := τ) rfl rfl rfl rfl rfl) (.cons (.tmp rfl) .nil)))
      show D.tup [intD (sI (n != m) (limbs (val l / val k))), intD (sI n (limbs (val l % val k))), D.bool true] = _
      have h1 := fdiv_eq vl h0 (n := n) (m := m) (.inr (by omega))
      rw [if_neg hyn]
      simp only [sI] at h1 hyn ⊢
      rw [h1.1, h1.2, val_limbs vq, val_limbs r1]
      simp [hyn]
    · apply Ends.mk (.cons (.cellA (τ := τ) rfl rfl rfl rfl rfl) (.cons (.cellA (τ := τ) rfl rfl rfl rfl rfl) (.cons (.tmp rfl) .nil)))
      show D.tup [intD (sI true (limbs (val (limbs (val l / val k)) + val (limbs 1)))), intD (sI m (limbs (val k - val (limbs (val l % val k))))), D.bool true] = _
      have h1 := fdiv_ne vl h0 (n := n) (m := m) hb' (by omega)
      rw [if_neg hyn, g6, g8]
      simp only [sI] at h1 hyn ⊢
      rw [h1.1, h1.2, val_limbs (by omega), val_limbs (by omega)]
      simp [hyn]
    · apply Ends.mk (.cons (.cellA (τ := τ) rfl rfl rfl rfl rfl) (.cons (.cellA (τ := τ) rfl rfl rfl rfl rfl) (.cons (.tmp rfl) .nil)))
      show D.tup [intD (sI (n != m) (limbs (val l / val k))), intD (sI n (limbs (val l % val k))), D.bool true] = _
      have h1 := fdiv_eq vl h0 (n := n) (m := m) (.inl hb')
      rw [if_neg hyn]
      simp only [sI] at h1 hyn ⊢
      rw [h1.1, h1.2, val_limbs vq, val_limbs r1]
      simp [hyn]
  · have hke : val k = 0 := h0.symm
    have hdm := divMod_ev l k (by omega)
    rw [if_pos hke, show decide (val k ≠ 0) = false by simp [hke], hke, Int.ediv_zero, limbs_zero] at hdm
    have hy0 := hy.2 hke
    repeat' (first
      | (apply RunL.step; exact rfl; first
        | fail)
      | (apply RunL.step; exact rfl; apply op_ev (τ := τ); exact rfl; (first | exact hdm | exact of_ev _ | exact add_ev _ _ (by omega) (by first | omega | exact len_u64 (by omega)) | exact sub_ev _ _ (by omega) | (apply make_ev; (first | exact sI_norm _ | exact rfl); (first | omega | exact len_u64 (by omega)))); exact rfl)
      | (apply RunL.step; exact rfl; exact opA)
      | (apply RunL.hand; exact rfl; exact rfl; exact lenA; exact rfl)
      | (apply AWP.seq)
      | (apply AWP.region; exact rfl)
      | (apply AWP.block)
      | (apply AWP.skip)
      | (apply AWP.exit)
      | (apply AWP.retF; exact rfl; exact rfl; exact rfl; exact rfl; exact lenA; exact rfl)
      | (apply AWP.ret)
      | (apply RunL.nil)
      | (apply RunL.on; exact rfl; exact rfl; exact rfl; exact rfl; (first | exact rfl | assumption))
      | (apply RunL.noU; exact rfl; exact rfl; exact rfl; exact rfl; exact rfl; exact rfl)
      | (apply RunL.no; exact rfl; exact rfl; exact rfl; exact rfl; (first | exact rfl | assumption); exact rfl; exact rfl)
      | (refine AWP.cond _ (Rd.of rfl) (fun hc => ?_) (fun hc => ?_) <;> first | (exfalso; cases hc; done) | (have hc' := hc; (try simp only [decide_eq_true_eq, decide_eq_false_iff_not, Bool.not_true, Bool.not_false, bne_self_eq_false, beq_self_eq_true, ne_self_iff_false, Bool.true_bne, Bool.false_bne, Bool.true_beq, Bool.false_beq, Bool.false_eq_true, Bool.true_eq_false, reduceCtorEq, Bool.not_eq_true', Bool.not_eq_false', beq_iff_eq, bne_iff_ne, beq_eq_false_iff_ne, bne_eq_false_iff_eq, cmpOf] at hc'); try (exfalso; omega)))
      | (
        apply AWP.drawA
        repeat' (first
          | (apply DL.cons; (try (apply OpLoc.on; exact rfl; exact rfl; exact rfl; exact rfl; (first | exact rfl | assumption))); apply ol_ev (τ := τ); exact rfl; (first | exact hdm | exact of_ev _ | exact add_ev _ _ (by omega) (by first | omega | exact len_u64 (by omega)) | exact sub_ev _ _ (by omega) | (apply make_ev; (first | exact sI_norm _ | exact rfl); (first | omega | exact len_u64 (by omega)))); exact rfl; exact rfl)
          | (apply DL.cons; exact olA; exact rfl)
          | (apply DL.nil; kernel_rfl)
          | (refine DL.split rfl rfl rfl rfl (fun hb => ?_) (fun hb => ?_) <;> have hb' := hb <;> (try simp only [decide_eq_true_eq, decide_eq_false_iff_not, Bool.not_true, Bool.not_false, bne_self_eq_false, beq_self_eq_true, ne_self_iff_false, Bool.true_bne, Bool.false_bne, Bool.true_beq, Bool.false_beq, Bool.false_eq_true, Bool.true_eq_false, reduceCtorEq, Bool.not_eq_true', Bool.not_eq_false', beq_iff_eq, bne_iff_ne, beq_eq_false_iff_ne, bne_eq_false_iff_eq, cmpOf] at hb') <;> try (exfalso; omega)))
        all_goals (fail_if_success apply DL.id))
      | (refine RunL.split rfl rfl rfl rfl (fun hb => ?_) (fun hb => ?_) <;> have hb' := hb <;> (try simp only [decide_eq_true_eq, decide_eq_false_iff_not, Bool.not_true, Bool.not_false, bne_self_eq_false, beq_self_eq_true, ne_self_iff_false, Bool.true_bne, Bool.false_bne, Bool.true_beq, Bool.false_beq, Bool.false_eq_true, Bool.true_eq_false, reduceCtorEq, Bool.not_eq_true', Bool.not_eq_false', beq_iff_eq, bne_iff_ne, beq_eq_false_iff_ne, bne_eq_false_iff_eq, cmpOf] at hb') <;> try (exfalso; omega))
      )
    apply Ends.mk (.cons (.cellA (τ := τ) rfl rfl rfl rfl rfl) (.cons (.cellA (τ := τ) rfl rfl rfl rfl rfl) (.cons (.tmp rfl) .nil)))
    rw [hy0]
    simp only [pack, Int.fdiv_zero, if_true, ne_eq, not_true, decide_false]
    rw [intD_zero]; rfl
end Go.Proofs.YtemgfdojllepaaaDoor.K
