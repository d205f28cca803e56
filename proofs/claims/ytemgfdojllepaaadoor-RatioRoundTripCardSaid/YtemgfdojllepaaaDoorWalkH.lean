/- Walks: package integer, the arithmetic. -/
import Derived.Test.YtemgfdojllepaaaDoorWalkG
namespace Go.Proofs.YtemgfdojllepaaaDoor.K
open Go
set_option linter.unusedVariables false
set_option linter.unusedSimpArgs false

theorem HoldsAll.agg {R : Nat → Prop} {w : World} {ds : List D} {vs : Array Value} (i : Nat) {es : List D} (h : HoldsAll R w ds vs) (hi : ds[i]? = some (.agg es)) : ∃ us, HoldsAll R w es us := by
  have h1 : i < vs.size := by have := (List.getElem?_eq_some_iff.1 hi).1; have := h.1; omega
  have h2 := h.2 i _ vs[i] hi (by simp [h1])
  generalize vs[i] = v at h2
  cases h2 with
  | agg _ cs hs hh => exact ⟨cs, hs, hh⟩
theorem HoldsAll.sint {R : Nat → Prop} {w : World} {ds : List D} {vs : Array Value} (i : Nat) {n : Bool} {l : List Int} (h : HoldsAll R w ds vs) (hi : ds[i]? = some (.agg [.bool n, .ints .u32 l])) : l.length ≤ 9223372036854775807 ∧ Lim l := by
  obtain ⟨us, hu⟩ := h.agg i hi
  exact hu.nat 1 rfl

theorem cmpI_cases (x y : Int) : (x < y ∧ cmpI x y = -1) ∨ (x = y ∧ cmpI x y = 0) ∨ (y < x ∧ cmpI x y = 1) := by unfold cmpI; split <;> (try split) <;> omega
theorem icmp_eq {n m : Bool} {v u : Int} (hv : 0 ≤ v) (hu : 0 ≤ u) (h1 : cmpI (if n then -v else v) 0 = cmpI (if m then -u else u) 0) :
    cmpI (if n then -v else v) 0 * cmpI v u = cmpI (if n then -v else v) (if m then -u else u) := by
  rcases cmpI_cases (if n then -v else v) 0 with ⟨a1, a2⟩ | ⟨a1, a2⟩ | ⟨a1, a2⟩ <;>
  rcases cmpI_cases (if m then -u else u) 0 with ⟨b1, b2⟩ | ⟨b1, b2⟩ | ⟨b1, b2⟩ <;>
  rcases cmpI_cases v u with ⟨c1, c2⟩ | ⟨c1, c2⟩ | ⟨c1, c2⟩ <;>
  rcases cmpI_cases (if n then -v else v) (if m then -u else u) with ⟨d1, d2⟩ | ⟨d1, d2⟩ | ⟨d1, d2⟩ <;>
  (rw [a2, c2, d2]) <;> (first | rfl | (exfalso; rw [a2, b2] at h1; cases n <;> cases m <;> simp at * <;> omega))
theorem icmp_ev (n : Bool) (l : List Int) (m : Bool) (k : List Int) (x y : Int) (hx : sI n l = x) (hy : sI m k = y) : Evals Tryd.prog 34 [.agg [.bool n, .ints .u32 l], .agg [.bool m, .ints .u32 k]] (.int .i64 (cmpI x y)) := by
  subst hx hy
  refine evals_of_awp Tryd.func34 rfl (CallOK.of Tryd.func34 (by kernel_rfl) rfl) (Nat.le_of_ble_eq_true rfl) ?_
  rintro w R hR ⟨vs, hv⟩
  obtain ⟨hl, hl'⟩ := hv.sint 0 rfl
  obtain ⟨hk, hk'⟩ := hv.sint 1 rfl
  have vl := val_nonneg hl'
  have vk := val_nonneg hk'
  have b1 := cmpI_bound (sI n l) 0
  have b2 := cmpI_bound (sI m k) 0
  have b3 := cmpI_bound (val l) (val k)
  have b4 : -1 ≤ cmpI (sI n l) 0 * cmpI (val l) (val k) ∧ cmpI (sI n l) 0 * cmpI (val l) (val k) ≤ 1 := by
    rcases cmpI_cases (sI n l) 0 with ⟨_, h⟩ | ⟨_, h⟩ | ⟨_, h⟩ <;> rw [h] <;> omega
  have c1 := cmpI_cases (sI n l) 0
  have c2 := cmpI_cases (sI m k) 0
  have c3 := cmpI_cases (sI n l) (sI m k)
  repeat' (first
    | (apply RunL.step; exact rfl; first
      | fail)
    | (apply RunL.step; exact rfl; apply op_ev (τ := τ); exact rfl; (first | exact cmp_ev _ _ | exact add_ev _ _ (by omega) (by omega) | exact sub_ev _ _ (by omega) | exact mul_ev _ _ (by omega) | (apply isign_ev; first | exact sI_norm _ | exact rfl) | (apply make_ev; (first | exact sI_norm _ | exact rfl); (first | omega | exact len_u64 (by omega))) | (apply ineg_ev; (first | exact sI_norm _ | exact rfl); omega)); exact rfl)
    | (apply RunL.step; exact rfl; exact opA)
    | (apply RunL.hand; exact rfl; exact rfl; exact lenA; exact rfl)
    | (apply AWP.seq)
    | (apply AWP.region; exact rfl)
    | (apply AWP.block)
    | (apply AWP.skip)
    | (apply AWP.exit)
    | (apply AWP.retF; exact rfl; exact rfl; exact rfl; exact rfl; exact lenA; exact rfl)
    | (apply AWP.ret)
    | (apply RunL.nil)
    | (apply RunL.on; exact rfl; exact rfl; exact rfl; exact rfl; (first | exact rfl | assumption))
    | (apply RunL.noU; exact rfl; exact rfl; exact rfl; exact rfl; exact rfl; exact rfl)
    | (apply RunL.no; exact rfl; exact rfl; exact rfl; exact rfl; (first | exact rfl | assumption); exact rfl; exact rfl)
    | (refine AWP.cond _ (Rd.of rfl) (fun hc => ?_) (fun hc => ?_) <;> first | (exfalso; cases hc; done) | (have hc' := hc; (try simp only [decide_eq_true_eq, decide_eq_false_iff_not, Bool.not_true, Bool.not_false, bne_self_eq_false, beq_self_eq_true, ne_self_iff_false, Bool.true_bne, Bool.false_bne, Bool.true_beq, Bool.false_beq, Bool.false_eq_true, Bool.true_eq_false, reduceCtorEq, Bool.not_eq_true', Bool.not_eq_false', beq_iff_eq, bne_iff_ne, beq_eq_false_iff_ne, bne_eq_false_iff_eq, cmpOf] at hc'); try (exfalso; omega)))
    | (
      apply AWP.drawA
      repeat' (first
        | (apply DL.cons; (try (apply OpLoc.on; exact rfl; exact rfl; exact rfl; exact rfl; (first | exact rfl | assumption))); apply ol_ev (τ := τ); exact rfl; (first | exact cmp_ev _ _ | exact add_ev _ _ (by omega) (by omega) | exact sub_ev _ _ (by omega) | exact mul_ev _ _ (by omega) | (apply isign_ev; first | exact sI_norm _ | exact rfl) | (apply make_ev; (first | exact sI_norm _ | exact rfl); (first | omega | exact len_u64 (by omega))) | (apply ineg_ev; (first | exact sI_norm _ | exact rfl); omega)); exact rfl; exact rfl)
        | (apply DL.cons; exact olA; exact rfl)
        | (apply DL.nil; kernel_rfl)
        | (refine DL.split rfl rfl rfl rfl (fun hb => ?_) (fun hb => ?_) <;> have hb' := hb <;> (try simp only [decide_eq_true_eq, decide_eq_false_iff_not, Bool.not_true, Bool.not_false, bne_self_eq_false, beq_self_eq_true, ne_self_iff_false, Bool.true_bne, Bool.false_bne, Bool.true_beq, Bool.false_beq, Bool.false_eq_true, Bool.true_eq_false, reduceCtorEq, Bool.not_eq_true', Bool.not_eq_false', beq_iff_eq, bne_iff_ne, beq_eq_false_iff_ne, bne_eq_false_iff_eq, cmpOf] at hb') <;> try (exfalso; omega)))
      all_goals (fail_if_success apply DL.id))
    | (refine RunL.split rfl rfl rfl rfl (fun hb => ?_) (fun hb => ?_) <;> have hb' := hb <;> (try simp only [decide_eq_true_eq, decide_eq_false_iff_not, Bool.not_true, Bool.not_false, bne_self_eq_false, beq_self_eq_true, ne_self_iff_false, Bool.true_bne, Bool.false_bne, Bool.true_beq, Bool.false_beq, Bool.false_eq_true, Bool.true_eq_false, reduceCtorEq, Bool.not_eq_true', Bool.not_eq_false', beq_iff_eq, bne_iff_ne, beq_eq_false_iff_ne, bne_eq_false_iff_eq, cmpOf] at hb') <;> try (exfalso; omega))
    )
  · apply Ends.mk (.cons (.tmp rfl) .nil)
    simp only [pack]; congr 1; omega
  · apply Ends.mk (.cons (.tmp rfl) .nil)
    simp only [pack]; congr 1; omega
  · apply Ends.mk (.cons (.tmp rfl) .nil)
    simp only [pack]; congr 1
    exact icmp_eq vl vk (show cmpI (sI n l) 0 = cmpI (sI m k) 0 by omega)

theorem limbs_add_length {l k : List Int} (hl : Lim l) (hk : Lim k) : (limbs (val l + val k)).length ≤ l.length + k.length + 1 := by
  refine limbs_length_le ?_
  have h1 := val_lt hl
  have h2 := val_lt hk
  have h3 := pow_pos' l.length
  have h4 := pow_pos' k.length
  have h5 : (4294967296 : Int) ^ l.length * 1 ≤ 4294967296 ^ l.length * 4294967296 ^ k.length := Int.mul_le_mul_of_nonneg_left (by omega) (by omega)
  have h6 : 1 * (4294967296 : Int) ^ k.length ≤ 4294967296 ^ l.length * 4294967296 ^ k.length := Int.mul_le_mul_of_nonneg_right (by omega) (by omega)
  rw [Int.pow_succ, Int.pow_add]
  omega
theorem limbs_mul_length {l k : List Int} (hl : Lim l) (hk : Lim k) : (limbs (val l * val k)).length ≤ l.length + k.length := by
  refine limbs_length_le ?_
  rw [Int.pow_add]
  have h1 := val_lt hl
  have h2 := val_lt hk
  have h3 := val_nonneg hl
  have h4 := val_nonneg hk
  have h5 := pow_pos' k.length
  have h6 : val l * val k ≤ val l * 4294967296 ^ k.length := Int.mul_le_mul_of_nonneg_left (by omega) h3
  have h7 := Int.mul_lt_mul_of_pos_right h1 h5
  omega
theorem limbs_sub_length {l k : List Int} (hl : Lim l) (hk : Lim k) : (limbs (val l - val k)).length ≤ l.length := by
  have h1 := limbs_mono (show val l - val k ≤ val l by have := val_nonneg hk; omega)
  have h2 := limbs_val_length l hl
  omega

theorem iadd_ev (n : Bool) (l : List Int) (m : Bool) (k : List Int) (x y : Int) (hx : sI n l = x) (hy : sI m k = y) (hlen : l.length + k.length ≤ 1000000000000) : Evals Tryd.prog 32 [.agg [.bool n, .ints .u32 l], .agg [.bool m, .ints .u32 k]] (intD (x + y)) := by
  subst hx hy
  refine evals_of_awp Tryd.func32 rfl (CallOK.of Tryd.func32 (by kernel_rfl) rfl) (Nat.le_of_ble_eq_true rfl) ?_
  rintro w R hR ⟨vs, hv⟩
  obtain ⟨hl, hl'⟩ := hv.sint 0 rfl
  obtain ⟨hk, hk'⟩ := hv.sint 1 rfl
  have vl := val_nonneg hl'
  have vk := val_nonneg hk'
  have g1 := limbs_add_length hl' hk'
  have g2 := limbs_sub_length hl' hk'
  have g3 := limbs_sub_length hk' hl'
  repeat' (first
    | (apply RunL.step; exact rfl; first
      | fail)
    | (apply RunL.step; exact rfl; apply op_ev (τ := τ); exact rfl; (first | exact cmp_ev _ _ | exact add_ev _ _ (by omega) (by omega) | exact sub_ev _ _ (by omega) | exact mul_ev _ _ (by omega) | (apply isign_ev; first | exact sI_norm _ | exact rfl) | (apply make_ev; (first | exact sI_norm _ | exact rfl); (first | omega | exact len_u64 (by omega))) | (apply ineg_ev; (first | exact sI_norm _ | exact rfl); omega)); exact rfl)
    | (apply RunL.step; exact rfl; exact opA)
    | (apply RunL.hand; exact rfl; exact rfl; exact lenA; exact rfl)
    | (apply AWP.seq)
    | (apply AWP.region; exact rfl)
    | (apply AWP.block)
    | (apply AWP.skip)
    | (apply AWP.exit)
    | (apply AWP.retF; exact rfl; exact rfl; exact rfl; exact rfl; exact lenA; exact rfl)
    | (apply AWP.ret)
    | (apply RunL.nil)
    | (apply RunL.on; exact rfl; exact rfl; exact rfl; exact rfl; (first | exact rfl | assumption))
    | (apply RunL.noU; exact rfl; exact rfl; exact rfl; exact rfl; exact rfl; exact rfl)
    | (apply RunL.no; exact rfl; exact rfl; exact rfl; exact rfl; (first | exact rfl | assumption); exact rfl; exact rfl)
    | (refine AWP.cond _ (Rd.of rfl) (fun hc => ?_) (fun hc => ?_) <;> first | (exfalso; cases hc; done) | (have hc' := hc; (try simp only [decide_eq_true_eq, decide_eq_false_iff_not, Bool.not_true, Bool.not_false, bne_self_eq_false, beq_self_eq_true, ne_self_iff_false, Bool.true_bne, Bool.false_bne, Bool.true_beq, Bool.false_beq, Bool.false_eq_true, Bool.true_eq_false, reduceCtorEq, Bool.not_eq_true', Bool.not_eq_false', beq_iff_eq, bne_iff_ne, beq_eq_false_iff_ne, bne_eq_false_iff_eq, cmpOf] at hc'); try (exfalso; omega)))
    | (
      apply AWP.drawA
      repeat' (first
        | (apply DL.cons; (try (apply OpLoc.on; exact rfl; exact rfl; exact rfl; exact rfl; (first | exact rfl | assumption))); apply ol_ev (τ := τ); exact rfl; (first | exact cmp_ev _ _ | exact add_ev _ _ (by omega) (by omega) | exact sub_ev _ _ (by omega) | exact mul_ev _ _ (by omega) | (apply isign_ev; first | exact sI_norm _ | exact rfl) | (apply make_ev; (first | exact sI_norm _ | exact rfl); (first | omega | exact len_u64 (by omega))) | (apply ineg_ev; (first | exact sI_norm _ | exact rfl); omega)); exact rfl; exact rfl)
        | (apply DL.cons; exact olA; exact rfl)
        | (apply DL.nil; kernel_rfl)
        | (refine DL.split rfl rfl rfl rfl (fun hb => ?_) (fun hb => ?_) <;> have hb' := hb <;> (try simp only [decide_eq_true_eq, decide_eq_false_iff_not, Bool.not_true, Bool.not_false, bne_self_eq_false, beq_self_eq_true, ne_self_iff_false, Bool.true_bne, Bool.false_bne, Bool.true_beq, Bool.false_beq, Bool.false_eq_true, Bool.true_eq_false, reduceCtorEq, Bool.not_eq_true', Bool.not_eq_false', beq_iff_eq, bne_iff_ne, beq_eq_false_iff_ne, bne_eq_false_iff_eq, cmpOf] at hb') <;> try (exfalso; omega)))
      all_goals (fail_if_success apply DL.id))
    | (refine RunL.split rfl rfl rfl rfl (fun hb => ?_) (fun hb => ?_) <;> have hb' := hb <;> (try simp only [decide_eq_true_eq, decide_eq_false_iff_not, Bool.not_true, Bool.not_false, bne_self_eq_false, beq_self_eq_true, ne_self_iff_false, Bool.true_bne, Bool.false_bne, Bool.true_beq, Bool.false_beq, Bool.false_eq_true, Bool.true_eq_false, reduceCtorEq, Bool.not_eq_true', Bool.not_eq_false', beq_iff_eq, bne_iff_ne, beq_eq_false_iff_ne, bne_eq_false_iff_eq, cmpOf] at hb') <;> try (exfalso; omega))
    )
  · apply Ends.mk (.cons (.cellA (τ := τ) rfl rfl rfl rfl rfl) .nil)
    show intD (sI n (limbs (val l + val k))) = _
    subst hc'
    congr 1
    cases n <;> simp only [sI, val_limbs (show 0 ≤ val l + val k by omega)] <;> simp <;> omega
  · apply Ends.mk (.cons (.cellA (τ := τ) rfl rfl rfl rfl rfl) .nil)
    show intD (sI n (limbs (val l - val k))) = _
    congr 1
    cases n <;> cases m <;> simp at * <;> simp only [sI, val_limbs (show 0 ≤ val l - val k by omega)] <;> simp <;> omega
  · apply Ends.mk (.cons (.cellA (τ := τ) rfl rfl rfl rfl rfl) .nil)
    show intD (sI m (limbs (val k - val l))) = _
    congr 1
    cases n <;> cases m <;> simp at * <;> simp only [sI, val_limbs (show 0 ≤ val k - val l by omega)] <;> simp <;> omega
theorem imul_ev (n : Bool) (l : List Int) (m : Bool) (k : List Int) (x y : Int) (hx : sI n l = x) (hy : sI m k = y) (hlen : l.length + k.length ≤ 1000000000000) : Evals Tryd.prog 33 [.agg [.bool n, .ints .u32 l], .agg [.bool m, .ints .u32 k]] (intD (x * y)) := by
  subst hx hy
  refine evals_of_awp Tryd.func33 rfl (CallOK.of Tryd.func33 (by kernel_rfl) rfl) (Nat.le_of_ble_eq_true rfl) ?_
  rintro w R hR ⟨vs, hv⟩
  obtain ⟨hl, hl'⟩ := hv.sint 0 rfl
  obtain ⟨hk, hk'⟩ := hv.sint 1 rfl
  have vl := val_nonneg hl'
  have vk := val_nonneg hk'
  have g1 := limbs_mul_length hl' hk'
  repeat' (first
    | (apply RunL.step; exact rfl; first
      | fail)
    | (apply RunL.step; exact rfl; apply op_ev (τ := τ); exact rfl; (first | exact cmp_ev _ _ | exact add_ev _ _ (by omega) (by omega) | exact sub_ev _ _ (by omega) | exact mul_ev _ _ (by omega) | (apply isign_ev; first | exact sI_norm _ | exact rfl) | (apply make_ev; (first | exact sI_norm _ | exact rfl); (first | omega | exact len_u64 (by omega))) | (apply ineg_ev; (first | exact sI_norm _ | exact rfl); omega)); exact rfl)
    | (apply RunL.step; exact rfl; exact opA)
    | (apply RunL.hand; exact rfl; exact rfl; exact lenA; exact rfl)
    | (apply AWP.seq)
    | (apply AWP.region; exact rfl)
    | (apply AWP.block)
    | (apply AWP.skip)
    | (apply AWP.exit)
    | (apply AWP.retF; exact rfl; exact rfl; exact rfl; exact rfl; exact lenA; exact rfl)
    | (apply AWP.ret)
    | (apply RunL.nil)
    | (apply RunL.on; exact rfl; exact rfl; exact rfl; exact rfl; (first | exact rfl | assumption))
    | (apply RunL.noU; exact rfl; exact rfl; exact rfl; exact rfl; exact rfl; exact rfl)
    | (apply RunL.no; exact rfl; exact rfl; exact rfl; exact rfl; (first | exact rfl | assumption); exact rfl; exact rfl)
    | (refine AWP.cond _ (Rd.of rfl) (fun hc => ?_) (fun hc => ?_) <;> first | (exfalso; cases hc; done) | (have hc' := hc; (try simp only [decide_eq_true_eq, decide_eq_false_iff_not, Bool.not_true, Bool.not_false, bne_self_eq_false, beq_self_eq_true, ne_self_iff_false, Bool.true_bne, Bool.false_bne, Bool.true_beq, Bool.false_beq, Bool.false_eq_true, Bool.true_eq_false, reduceCtorEq, Bool.not_eq_true', Bool.not_eq_false', beq_iff_eq, bne_iff_ne, beq_eq_false_iff_ne, bne_eq_false_iff_eq, cmpOf] at hc'); try (exfalso; omega)))
    | (
      apply AWP.drawA
      repeat' (first
        | (apply DL.cons; (try (apply OpLoc.on; exact rfl; exact rfl; exact rfl; exact rfl; (first | exact rfl | assumption))); apply ol_ev (τ := τ); exact rfl; (first | exact cmp_ev _ _ | exact add_ev _ _ (by omega) (by omega) | exact sub_ev _ _ (by omega) | exact mul_ev _ _ (by omega) | (apply isign_ev; first | exact sI_norm _ | exact rfl) | (apply make_ev; (first | exact sI_norm _ | exact rfl); (first | omega | exact len_u64 (by omega))) | (apply ineg_ev; (first | exact sI_norm _ | exact rfl); omega)); exact rfl; exact rfl)
        | (apply DL.cons; exact olA; exact rfl)
        | (apply DL.nil; kernel_rfl)
        | (refine DL.split rfl rfl rfl rfl (fun hb => ?_) (fun hb => ?_) <;> have hb' := hb <;> (try simp only [decide_eq_true_eq, decide_eq_false_iff_not, Bool.not_true, Bool.not_false, bne_self_eq_false, beq_self_eq_true, ne_self_iff_false, Bool.true_bne, Bool.false_bne, Bool.true_beq, Bool.false_beq, Bool.false_eq_true, Bool.true_eq_false, reduceCtorEq, Bool.not_eq_true', Bool.not_eq_false', beq_iff_eq, bne_iff_ne, beq_eq_false_iff_ne, bne_eq_false_iff_eq, cmpOf] at hb') <;> try (exfalso; omega)))
      all_goals (fail_if_success apply DL.id))
    | (refine RunL.split rfl rfl rfl rfl (fun hb => ?_) (fun hb => ?_) <;> have hb' := hb <;> (try simp only [decide_eq_true_eq, decide_eq_false_iff_not, Bool.not_true, Bool.not_false, bne_self_eq_false, beq_self_eq_true, ne_self_iff_false, Bool.true_bne, Bool.false_bne, Bool.true_beq, Bool.false_beq, Bool.false_eq_true, Bool.true_eq_false, reduceCtorEq, Bool.not_eq_true', Bool.not_eq_false', beq_iff_eq, bne_iff_ne, beq_eq_false_iff_ne, bne_eq_false_iff_eq, cmpOf] at hb') <;> try (exfalso; omega))
    )
  apply Ends.mk (.cons (.cellA (τ := τ) rfl rfl rfl rfl rfl) .nil)
  show intD (sI (n != m) (limbs (val l * val k))) = _
  congr 1
  have := Int.mul_nonneg vl vk
  cases n <;> cases m <;> simp [sI, val_limbs this, Int.neg_mul_neg, Int.neg_mul, Int.mul_neg]

end Go.Proofs.YtemgfdojllepaaaDoor.K
