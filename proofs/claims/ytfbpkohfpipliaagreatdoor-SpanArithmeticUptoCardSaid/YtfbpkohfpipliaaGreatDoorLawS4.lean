/- Walks: the reference of layer 5; the law SpanArithmetic. -/
import Derived.Test.YtfbpkohfpipliaaGreatDoorLawS
namespace Go.Proofs.YtfbpkohfpipliaaGreatDoor.K
open Go
set_option linter.unusedVariables false
set_option linter.unusedSimpArgs false

section
variable {s s' t t' : Bool} {l d l' d' u e u' e' : List Int} {x y z v : Rat} {k m i j : Nat}
theorem r5lesser [h : RA s l d x k] [h' : RA s' l' d' y m] (hk : k + m ≤ 1000000000 := by first | omega | (simp only [List.length_cons, List.length_nil, List.length_set, List.length_replicate, List.length_append, List.length_take, List.length_drop]; omega)) : Evals Tryz.prog 19 [.agg [.bool s, .ints .u32 l, .ints .u32 d], .agg [.bool s', .ints .u32 l', .ints .u32 d']] (ratD (loQ x y)) := by
  refine evals_of_awp Tryz.func19 rfl (CallOK.of Tryz.func19 (by kernel_rfl) rfl) (Nat.le_of_ble_eq_true rfl) ?_
  rintro w R hR ⟨vs, hv⟩
  have hp := cmpQ_pos x y
  by_cases hh : y < x
  · have h1 := hp.2 hh
    rw [loQ, if_pos hh]
    repeat' (first
      | (apply RunL.step; exact rfl; first
        | fail)
      | (apply RunL.step; exact rfl; apply op_ev (τ := τ); exact rfl; (first | exact r3zero | exact r3top | exact r3low | exact r3reduce | exact r3norm | exact r3neg | exact r3sign | exact r3cmp | exact r3add | exact r3sub | exact r3mul | exact r3make | exact r3div | exact r3abs | exact r3floor | exact r3of _ _); exact rfl)
      | (apply RunL.step; exact rfl; exact opA)
      | (apply RunL.hand; exact rfl; exact rfl; exact lenA; exact rfl)
      | (apply AWP.seq)
      | (apply AWP.region; exact rfl)
      | (apply AWP.block)
      | (apply AWP.skip)
      | (apply AWP.exit)
      | (apply AWP.retF; exact rfl; exact rfl; exact rfl; exact rfl; exact lenA; exact rfl)
      | (apply AWP.ret)
      | (apply RunL.nil)
      | (apply RunL.on; exact rfl; exact rfl; exact rfl; exact rfl; (first | exact rfl | assumption))
      | (apply RunL.noU; exact rfl; exact rfl; exact rfl; exact rfl; exact rfl; exact rfl)
      | (apply RunL.no; exact rfl; exact rfl; exact rfl; exact rfl; (first | exact rfl | assumption); exact rfl; exact rfl)
      | (refine AWP.cond _ (Rd.of rfl) (fun hc => ?_) (fun hc => ?_) <;> first | (exfalso; cases hc; done) | (have hc' := hc; (try simp only [decide_eq_true_eq, decide_eq_false_iff_not, Bool.not_true, Bool.not_false, bne_self_eq_false, beq_self_eq_true, ne_self_iff_false, Bool.true_bne, Bool.false_bne, Bool.true_beq, Bool.false_beq, Bool.false_eq_true, Bool.true_eq_false, reduceCtorEq, Bool.not_eq_true', Bool.not_eq_false', beq_iff_eq, bne_iff_ne, beq_eq_false_iff_ne, bne_eq_false_iff_eq, cmpOf] at hc'); try (exfalso; omega)))
      | (
        apply AWP.drawA
        repeat' (first
          | (apply DL.cons; (try (apply OpLoc.on; exact rfl; exact rfl; exact rfl; exact rfl; (first | exact rfl | assumption))); apply ol_ev (τ := τ); exact rfl; (first | exact r3zero | exact r3top | exact r3low | exact r3reduce | exact r3norm | exact r3neg | exact r3sign | exact r3cmp | exact r3add | exact r3sub | exact r3mul | exact r3make | exact r3div | exact r3abs | exact r3floor | exact r3of _ _); exact rfl; exact rfl)
          | (apply DL.cons; exact olA; exact rfl)
          | (apply DL.nil; kernel_rfl)
          | (refine DL.split rfl rfl rfl rfl (fun hb => ?_) (fun hb => ?_) <;> have hb' := hb <;> (try simp only [decide_eq_true_eq, decide_eq_false_iff_not, Bool.not_true, Bool.not_false, bne_self_eq_false, beq_self_eq_true, ne_self_iff_false, Bool.true_bne, Bool.false_bne, Bool.true_beq, Bool.false_beq, Bool.false_eq_true, Bool.true_eq_false, reduceCtorEq, Bool.not_eq_true', Bool.not_eq_false', beq_iff_eq, bne_iff_ne, beq_eq_false_iff_ne, bne_eq_false_iff_eq, cmpOf] at hb') <;> try (exfalso; omega)))
        all_goals (fail_if_success apply DL.id))
      | (refine RunL.split rfl rfl rfl rfl (fun hb => ?_) (fun hb => ?_) <;> have hb' := hb <;> (try simp only [decide_eq_true_eq, decide_eq_false_iff_not, Bool.not_true, Bool.not_false, bne_self_eq_false, beq_self_eq_true, ne_self_iff_false, Bool.true_bne, Bool.false_bne, Bool.true_beq, Bool.false_beq, Bool.false_eq_true, Bool.true_eq_false, reduceCtorEq, Bool.not_eq_true', Bool.not_eq_false', beq_iff_eq, bne_iff_ne, beq_eq_false_iff_ne, bne_eq_false_iff_eq, cmpOf] at hb') <;> try (exfalso; omega))
      )
    apply Ends.mk (.cons (.cellA (τ := τ) rfl rfl rfl rfl rfl) .nil)
    rfl
  · have h1 : ¬ 0 < cmpQ x y := fun h => hh (hp.1 h)
    rw [loQ, if_neg hh]
    repeat' (first
      | (apply RunL.step; exact rfl; first
        | fail)
      | (apply RunL.step; exact rfl; apply op_ev (τ := τ); exact rfl; (first | exact r3zero | exact r3top | exact r3low | exact r3reduce | exact r3norm | exact r3neg | exact r3sign | exact r3cmp | exact r3add | exact r3sub | exact r3mul | exact r3make | exact r3div | exact r3abs | exact r3floor | exact r3of _ _); exact rfl)
      | (apply RunL.step; exact rfl; exact opA)
      | (apply RunL.hand; exact rfl; exact rfl; exact lenA; exact rfl)
      | (apply AWP.seq)
      | (apply AWP.region; exact rfl)
      | (apply AWP.block)
      | (apply AWP.skip)
      | (apply AWP.exit)
      | (apply AWP.retF; exact rfl; exact rfl; exact rfl; exact rfl; exact lenA; exact rfl)
      | (apply AWP.ret)
      | (apply RunL.nil)
      | (apply RunL.on; exact rfl; exact rfl; exact rfl; exact rfl; (first | exact rfl | assumption))
      | (apply RunL.noU; exact rfl; exact rfl; exact rfl; exact rfl; exact rfl; exact rfl)
      | (apply RunL.no; exact rfl; exact rfl; exact rfl; exact rfl; (first | exact rfl | assumption); exact rfl; exact rfl)
      | (refine AWP.cond _ (Rd.of rfl) (fun hc => ?_) (fun hc => ?_) <;> first | (exfalso; cases hc; done) | (have hc' := hc; (try simp only [decide_eq_true_eq, decide_eq_false_iff_not, Bool.not_true, Bool.not_false, bne_self_eq_false, beq_self_eq_true, ne_self_iff_false, Bool.true_bne, Bool.false_bne, Bool.true_beq, Bool.false_beq, Bool.false_eq_true, Bool.true_eq_false, reduceCtorEq, Bool.not_eq_true', Bool.not_eq_false', beq_iff_eq, bne_iff_ne, beq_eq_false_iff_ne, bne_eq_false_iff_eq, cmpOf] at hc'); try (exfalso; omega)))
      | (
        apply AWP.drawA
        repeat' (first
          | (apply DL.cons; (try (apply OpLoc.on; exact rfl; exact rfl; exact rfl; exact rfl; (first | exact rfl | assumption))); apply ol_ev (τ := τ); exact rfl; (first | exact r3zero | exact r3top | exact r3low | exact r3reduce | exact r3norm | exact r3neg | exact r3sign | exact r3cmp | exact r3add | exact r3sub | exact r3mul | exact r3make | exact r3div | exact r3abs | exact r3floor | exact r3of _ _); exact rfl; exact rfl)
          | (apply DL.cons; exact olA; exact rfl)
          | (apply DL.nil; kernel_rfl)
          | (refine DL.split rfl rfl rfl rfl (fun hb => ?_) (fun hb => ?_) <;> have hb' := hb <;> (try simp only [decide_eq_true_eq, decide_eq_false_iff_not, Bool.not_true, Bool.not_false, bne_self_eq_false, beq_self_eq_true, ne_self_iff_false, Bool.true_bne, Bool.false_bne, Bool.true_beq, Bool.false_beq, Bool.false_eq_true, Bool.true_eq_false, reduceCtorEq, Bool.not_eq_true', Bool.not_eq_false', beq_iff_eq, bne_iff_ne, beq_eq_false_iff_ne, bne_eq_false_iff_eq, cmpOf] at hb') <;> try (exfalso; omega)))
        all_goals (fail_if_success apply DL.id))
      | (refine RunL.split rfl rfl rfl rfl (fun hb => ?_) (fun hb => ?_) <;> have hb' := hb <;> (try simp only [decide_eq_true_eq, decide_eq_false_iff_not, Bool.not_true, Bool.not_false, bne_self_eq_false, beq_self_eq_true, ne_self_iff_false, Bool.true_bne, Bool.false_bne, Bool.true_beq, Bool.false_beq, Bool.false_eq_true, Bool.true_eq_false, reduceCtorEq, Bool.not_eq_true', Bool.not_eq_false', beq_iff_eq, bne_iff_ne, beq_eq_false_iff_ne, bne_eq_false_iff_eq, cmpOf] at hb') <;> try (exfalso; omega))
      )
    apply Ends.mk (.cons (.cellA (τ := τ) rfl rfl rfl rfl rfl) .nil)
    rfl
theorem r5greater [h : RA s l d x k] [h' : RA s' l' d' y m] (hk : k + m ≤ 1000000000 := by first | omega | (simp only [List.length_cons, List.length_nil, List.length_set, List.length_replicate, List.length_append, List.length_take, List.length_drop]; omega)) : Evals Tryz.prog 20 [.agg [.bool s, .ints .u32 l, .ints .u32 d], .agg [.bool s', .ints .u32 l', .ints .u32 d']] (ratD (hiQ x y)) := by
  refine evals_of_awp Tryz.func20 rfl (CallOK.of Tryz.func20 (by kernel_rfl) rfl) (Nat.le_of_ble_eq_true rfl) ?_
  rintro w R hR ⟨vs, hv⟩
  have hp := cmpQ_lt x y
  by_cases hh : x < y
  · have h1 := hp.2 hh
    rw [hiQ, if_neg (show ¬ y < x by grind)]
    repeat' (first
      | (apply RunL.step; exact rfl; first
        | fail)
      | (apply RunL.step; exact rfl; apply op_ev (τ := τ); exact rfl; (first | exact r3zero | exact r3top | exact r3low | exact r3reduce | exact r3norm | exact r3neg | exact r3sign | exact r3cmp | exact r3add | exact r3sub | exact r3mul | exact r3make | exact r3div | exact r3abs | exact r3floor | exact r3of _ _); exact rfl)
      | (apply RunL.step; exact rfl; exact opA)
      | (apply RunL.hand; exact rfl; exact rfl; exact lenA; exact rfl)
      | (apply AWP.seq)
      | (apply AWP.region; exact rfl)
      | (apply AWP.block)
      | (apply AWP.skip)
      | (apply AWP.exit)
      | (apply AWP.retF; exact rfl; exact rfl; exact rfl; exact rfl; exact lenA; exact rfl)
      | (apply AWP.ret)
      | (apply RunL.nil)
      | (apply RunL.on; exact rfl; exact rfl; exact rfl; exact rfl; (first | exact rfl | assumption))
      | (apply RunL.noU; exact rfl; exact rfl; exact rfl; exact rfl; exact rfl; exact rfl)
      | (apply RunL.no; exact rfl; exact rfl; exact rfl; exact rfl; (first | exact rfl | assumption); exact rfl; exact rfl)
      | (refine AWP.cond _ (Rd.of rfl) (fun hc => ?_) (fun hc => ?_) <;> first | (exfalso; cases hc; done) | (have hc' := hc; (try simp only [decide_eq_true_eq, decide_eq_false_iff_not, Bool.not_true, Bool.not_false, bne_self_eq_false, beq_self_eq_true, ne_self_iff_false, Bool.true_bne, Bool.false_bne, Bool.true_beq, Bool.false_beq, Bool.false_eq_true, Bool.true_eq_false, reduceCtorEq, Bool.not_eq_true', Bool.not_eq_false', beq_iff_eq, bne_iff_ne, beq_eq_false_iff_ne, bne_eq_false_iff_eq, cmpOf] at hc'); try (exfalso; omega)))
      | (
        apply AWP.drawA
        repeat' (first
          | (apply DL.cons; (try (apply OpLoc.on; exact rfl; exact rfl; exact rfl; exact rfl; (first | exact rfl | assumption))); apply ol_ev (τ := τ); exact rfl; (first | exact r3zero | exact r3top | exact r3low | exact r3reduce | exact r3norm | exact r3neg | exact r3sign | exact r3cmp | exact r3add | exact r3sub | exact r3mul | exact r3make | exact r3div | exact r3abs | exact r3floor | exact r3of _ _); exact rfl; exact rfl)
          | (apply DL.cons; exact olA; exact rfl)
          | (apply DL.nil; kernel_rfl)
          | (refine DL.split rfl rfl rfl rfl (fun hb => ?_) (fun hb => ?_) <;> have hb' := hb <;> (try simp only [decide_eq_true_eq, decide_eq_false_iff_not, Bool.not_true, Bool.not_false, bne_self_eq_false, beq_self_eq_true, ne_self_iff_false, Bool.true_bne, Bool.false_bne, Bool.true_beq, Bool.false_beq, Bool.false_eq_true, Bool.true_eq_false, reduceCtorEq, Bool.not_eq_true', Bool.not_eq_false', beq_iff_eq, bne_iff_ne, beq_eq_false_iff_ne, bne_eq_false_iff_eq, cmpOf] at hb') <;> try (exfalso; omega)))
        all_goals (fail_if_success apply DL.id))
      | (refine RunL.split rfl rfl rfl rfl (fun hb => ?_) (fun hb => ?_) <;> have hb' := hb <;> (try simp only [decide_eq_true_eq, decide_eq_false_iff_not, Bool.not_true, Bool.not_false, bne_self_eq_false, beq_self_eq_true, ne_self_iff_false, Bool.true_bne, Bool.false_bne, Bool.true_beq, Bool.false_beq, Bool.false_eq_true, Bool.true_eq_false, reduceCtorEq, Bool.not_eq_true', Bool.not_eq_false', beq_iff_eq, bne_iff_ne, beq_eq_false_iff_ne, bne_eq_false_iff_eq, cmpOf] at hb') <;> try (exfalso; omega))
      )
    apply Ends.mk (.cons (.cellA (τ := τ) rfl rfl rfl rfl rfl) .nil)
    rfl
  · have h1 : ¬ cmpQ x y < 0 := fun h => hh (hp.1 h)
    have h2 : hiQ x y = x := by unfold hiQ; split <;> grind
    rw [h2]
    repeat' (first
      | (apply RunL.step; exact rfl; first
        | fail)
      | (apply RunL.step; exact rfl; apply op_ev (τ := τ); exact rfl; (first | exact r3zero | exact r3top | exact r3low | exact r3reduce | exact r3norm | exact r3neg | exact r3sign | exact r3cmp | exact r3add | exact r3sub | exact r3mul | exact r3make | exact r3div | exact r3abs | exact r3floor | exact r3of _ _); exact rfl)
      | (apply RunL.step; exact rfl; exact opA)
      | (apply RunL.hand; exact rfl; exact rfl; exact lenA; exact rfl)
      | (apply AWP.seq)
      | (apply AWP.region; exact rfl)
      | (apply AWP.block)
      | (apply AWP.skip)
      | (apply AWP.exit)
      | (apply AWP.retF; exact rfl; exact rfl; exact rfl; exact rfl; exact lenA; exact rfl)
      | (apply AWP.ret)
      | (apply RunL.nil)
      | (apply RunL.on; exact rfl; exact rfl; exact rfl; exact rfl; (first | exact rfl | assumption))
      | (apply RunL.noU; exact rfl; exact rfl; exact rfl; exact rfl; exact rfl; exact rfl)
      | (apply RunL.no; exact rfl; exact rfl; exact rfl; exact rfl; (first | exact rfl | assumption); exact rfl; exact rfl)
      | (refine AWP.cond _ (Rd.of rfl) (fun hc => ?_) (fun hc => ?_) <;> first | (exfalso; cases hc; done) | (have hc' := hc; (try simp only [decide_eq_true_eq, decide_eq_false_iff_not, Bool.not_true, Bool.not_false, bne_self_eq_false, beq_self_eq_true, ne_self_iff_false, Bool.true_bne, Bool.false_bne, Bool.true_beq, Bool.false_beq, Bool.false_eq_true, Bool.true_eq_false, reduceCtorEq, Bool.not_eq_true', Bool.not_eq_false', beq_iff_eq, bne_iff_ne, beq_eq_false_iff_ne, bne_eq_false_iff_eq, cmpOf] at hc'); try (exfalso; omega)))
      | (
        apply AWP.drawA
        repeat' (first
          | (apply DL.cons; (try (apply OpLoc.on; exact rfl; exact rfl; exact rfl; exact rfl; (first | exact rfl | assumption))); apply ol_ev (τ := τ); exact rfl; (first | exact r3zero | exact r3top | exact r3low | exact r3reduce | exact r3norm | exact r3neg | exact r3sign | exact r3cmp | exact r3add | exact r3sub | exact r3mul | exact r3make | exact r3div | exact r3abs | exact r3floor | exact r3of _ _); exact rfl; exact rfl)
          | (apply DL.cons; exact olA; exact rfl)
          | (apply DL.nil; kernel_rfl)
          | (refine DL.split rfl rfl rfl rfl (fun hb => ?_) (fun hb => ?_) <;> have hb' := hb <;> (try simp only [decide_eq_true_eq, decide_eq_false_iff_not, Bool.not_true, Bool.not_false, bne_self_eq_false, beq_self_eq_true, ne_self_iff_false, Bool.true_bne, Bool.false_bne, Bool.true_beq, Bool.false_beq, Bool.false_eq_true, Bool.true_eq_false, reduceCtorEq, Bool.not_eq_true', Bool.not_eq_false', beq_iff_eq, bne_iff_ne, beq_eq_false_iff_ne, bne_eq_false_iff_eq, cmpOf] at hb') <;> try (exfalso; omega)))
        all_goals (fail_if_success apply DL.id))
      | (refine RunL.split rfl rfl rfl rfl (fun hb => ?_) (fun hb => ?_) <;> have hb' := hb <;> (try simp only [decide_eq_true_eq, decide_eq_false_iff_not, Bool.not_true, Bool.not_false, bne_self_eq_false, beq_self_eq_true, ne_self_iff_false, Bool.true_bne, Bool.false_bne, Bool.true_beq, Bool.false_beq, Bool.false_eq_true, Bool.true_eq_false, reduceCtorEq, Bool.not_eq_true', Bool.not_eq_false', beq_iff_eq, bne_iff_ne, beq_eq_false_iff_ne, bne_eq_false_iff_eq, cmpOf] at hb') <;> try (exfalso; omega))
      )
    apply Ends.mk (.cons (.cellA (τ := τ) rfl rfl rfl rfl rfl) .nil)
    rfl
theorem r5of [h : RA s l d x k] [h' : RA s' l' d' y m] (hk : k + m ≤ 1000000000 := by first | omega | (simp only [List.length_cons, List.length_nil, List.length_set, List.length_replicate, List.length_append, List.length_take, List.length_drop]; omega)) : Evals Tryz.prog 6 [.agg [.bool s, .ints .u32 l, .ints .u32 d], .agg [.bool s', .ints .u32 l', .ints .u32 d']] (spanD (loQ x y) (hiQ x y)) := by
  refine evals_of_awp Tryz.func6 rfl (CallOK.of Tryz.func6 (by kernel_rfl) rfl) (Nat.le_of_ble_eq_true rfl) ?_
  rintro w R hR ⟨vs, hv⟩
  repeat' (first
    | (apply RunL.step; exact rfl; first
      | fail)
    | (apply RunL.step; exact rfl; apply op_ev (τ := τ); exact rfl; (first | exact r5lesser | exact r5greater); exact rfl)
    | (apply RunL.step; exact rfl; exact opA)
    | (apply RunL.hand; exact rfl; exact rfl; exact lenA; exact rfl)
    | (apply AWP.seq)
    | (apply AWP.region; exact rfl)
    | (apply AWP.block)
    | (apply AWP.skip)
    | (apply AWP.exit)
    | (apply AWP.retF; exact rfl; exact rfl; exact rfl; exact rfl; exact lenA; exact rfl)
    | (apply AWP.ret)
    | (apply RunL.nil)
    | (apply RunL.on; exact rfl; exact rfl; exact rfl; exact rfl; (first | exact rfl | assumption))
    | (apply RunL.noU; exact rfl; exact rfl; exact rfl; exact rfl; exact rfl; exact rfl)
    | (apply RunL.no; exact rfl; exact rfl; exact rfl; exact rfl; (first | exact rfl | assumption); exact rfl; exact rfl)
    | (refine AWP.cond _ (Rd.of rfl) (fun hc => ?_) (fun hc => ?_) <;> first | (exfalso; cases hc; done) | (have hc' := hc; (try simp only [decide_eq_true_eq, decide_eq_false_iff_not, Bool.not_true, Bool.not_false, bne_self_eq_false, beq_self_eq_true, ne_self_iff_false, Bool.true_bne, Bool.false_bne, Bool.true_beq, Bool.false_beq, Bool.false_eq_true, Bool.true_eq_false, reduceCtorEq, Bool.not_eq_true', Bool.not_eq_false', beq_iff_eq, bne_iff_ne, beq_eq_false_iff_ne, bne_eq_false_iff_eq, cmpOf] at hc'); try (exfalso; omega)))
    | (
      apply AWP.drawA
      repeat' (first
        | (apply DL.cons; (try (apply OpLoc.on; exact rfl; exact rfl; exact rfl; exact rfl; (first | exact rfl | assumption))); apply ol_ev (τ := τ); exact rfl; (first | exact r5lesser | exact r5greater); exact rfl; exact rfl)
        | (apply DL.cons; exact olA; exact rfl)
        | (apply DL.nil; kernel_rfl)
        | (refine DL.split rfl rfl rfl rfl (fun hb => ?_) (fun hb => ?_) <;> have hb' := hb <;> (try simp only [decide_eq_true_eq, decide_eq_false_iff_not, Bool.not_true, Bool.not_false, bne_self_eq_false, beq_self_eq_true, ne_self_iff_false, Bool.true_bne, Bool.false_bne, Bool.true_beq, Bool.false_beq, Bool.false_eq_true, Bool.true_eq_false, reduceCtorEq, Bool.not_eq_true', Bool.not_eq_false', beq_iff_eq, bne_iff_ne, beq_eq_false_iff_ne, bne_eq_false_iff_eq, cmpOf] at hb') <;> try (exfalso; omega)))
      all_goals (fail_if_success apply DL.id))
    | (refine RunL.split rfl rfl rfl rfl (fun hb => ?_) (fun hb => ?_) <;> have hb' := hb <;> (try simp only [decide_eq_true_eq, decide_eq_false_iff_not, Bool.not_true, Bool.not_false, bne_self_eq_false, beq_self_eq_true, ne_self_iff_false, Bool.true_bne, Bool.false_bne, Bool.true_beq, Bool.false_beq, Bool.false_eq_true, Bool.true_eq_false, reduceCtorEq, Bool.not_eq_true', Bool.not_eq_false', beq_iff_eq, bne_iff_ne, beq_eq_false_iff_ne, bne_eq_false_iff_eq, cmpOf] at hb') <;> try (exfalso; omega))
    )
  apply Ends.mk (.cons (.cellA (τ := τ) rfl rfl rfl rfl rfl) .nil)
  rfl
theorem r5norm [h : RA s l d x k] [h' : RA s' l' d' y m] (hk : k + m ≤ 1000000000 := by first | omega | (simp only [List.length_cons, List.length_nil, List.length_set, List.length_replicate, List.length_append, List.length_take, List.length_drop]; omega)) : Evals Tryz.prog 22 [.agg [.bool s, .ints .u32 l, .ints .u32 d, .bool s', .ints .u32 l', .ints .u32 d']] (spanD (loQ x y) (hiQ x y)) := by
  refine evals_of_awp Tryz.func22 rfl (CallOK.of Tryz.func22 (by kernel_rfl) rfl) (Nat.le_of_ble_eq_true rfl) ?_
  rintro w R hR ⟨vs, hv⟩
  repeat' (first
    | (apply RunL.step; exact rfl; first
      | fail)
    | (apply RunL.step; exact rfl; apply op_ev (τ := τ); exact rfl; (first | exact r5of); exact rfl)
    | (apply RunL.step; exact rfl; exact opA)
    | (apply RunL.hand; exact rfl; exact rfl; exact lenA; exact rfl)
    | (apply AWP.seq)
    | (apply AWP.region; exact rfl)
    | (apply AWP.block)
    | (apply AWP.skip)
    | (apply AWP.exit)
    | (apply AWP.retF; exact rfl; exact rfl; exact rfl; exact rfl; exact lenA; exact rfl)
    | (apply AWP.ret)
    | (apply RunL.nil)
    | (apply RunL.on; exact rfl; exact rfl; exact rfl; exact rfl; (first | exact rfl | assumption))
    | (apply RunL.noU; exact rfl; exact rfl; exact rfl; exact rfl; exact rfl; exact rfl)
    | (apply RunL.no; exact rfl; exact rfl; exact rfl; exact rfl; (first | exact rfl | assumption); exact rfl; exact rfl)
    | (refine AWP.cond _ (Rd.of rfl) (fun hc => ?_) (fun hc => ?_) <;> first | (exfalso; cases hc; done) | (have hc' := hc; (try simp only [decide_eq_true_eq, decide_eq_false_iff_not, Bool.not_true, Bool.not_false, bne_self_eq_false, beq_self_eq_true, ne_self_iff_false, Bool.true_bne, Bool.false_bne, Bool.true_beq, Bool.false_beq, Bool.false_eq_true, Bool.true_eq_false, reduceCtorEq, Bool.not_eq_true', Bool.not_eq_false', beq_iff_eq, bne_iff_ne, beq_eq_false_iff_ne, bne_eq_false_iff_eq, cmpOf] at hc'); try (exfalso; omega)))
    | (
      apply AWP.drawA
      repeat' (first
        | (apply DL.cons; (try (apply OpLoc.on; exact rfl; exact rfl; exact rfl; exact rfl; (first | exact rfl | assumption))); apply ol_ev (τ := τ); exact rfl; (first | exact r5of); exact rfl; exact rfl)
        | (apply DL.cons; exact olA; exact rfl)
        | (apply DL.nil; kernel_rfl)
        | (refine DL.split rfl rfl rfl rfl (fun hb => ?_) (fun hb => ?_) <;> have hb' := hb <;> (try simp only [decide_eq_true_eq, decide_eq_false_iff_not, Bool.not_true, Bool.not_false, bne_self_eq_false, beq_self_eq_true, ne_self_iff_false, Bool.true_bne, Bool.false_bne, Bool.true_beq, Bool.false_beq, Bool.false_eq_true, Bool.true_eq_false, reduceCtorEq, Bool.not_eq_true', Bool.not_eq_false', beq_iff_eq, bne_iff_ne, beq_eq_false_iff_ne, bne_eq_false_iff_eq, cmpOf] at hb') <;> try (exfalso; omega)))
      all_goals (fail_if_success apply DL.id))
    | (refine RunL.split rfl rfl rfl rfl (fun hb => ?_) (fun hb => ?_) <;> have hb' := hb <;> (try simp only [decide_eq_true_eq, decide_eq_false_iff_not, Bool.not_true, Bool.not_false, bne_self_eq_false, beq_self_eq_true, ne_self_iff_false, Bool.true_bne, Bool.false_bne, Bool.true_beq, Bool.false_beq, Bool.false_eq_true, Bool.true_eq_false, reduceCtorEq, Bool.not_eq_true', Bool.not_eq_false', beq_iff_eq, bne_iff_ne, beq_eq_false_iff_ne, bne_eq_false_iff_eq, cmpOf] at hb') <;> try (exfalso; omega))
    )
  apply Ends.mk (.cons (.cellA (τ := τ) rfl rfl rfl rfl rfl) .nil)
  rfl
theorem r5add [h : RA s l d x k] [h' : RA s' l' d' y m] [g : RA t u e z i] [g' : RA t' u' e' v j] (hk : k + m + i + j ≤ 100000000 := by first | omega | (simp only [List.length_cons, List.length_nil, List.length_set, List.length_replicate, List.length_append, List.length_take, List.length_drop]; omega)) : Evals Tryz.prog 8 [.agg [.bool s, .ints .u32 l, .ints .u32 d, .bool s', .ints .u32 l', .ints .u32 d'], .agg [.bool t, .ints .u32 u, .ints .u32 e, .bool t', .ints .u32 u', .ints .u32 e']]
    (spanD (loQ (loQ x y + loQ z v) (hiQ x y + hiQ z v)) (hiQ (loQ x y + loQ z v) (hiQ x y + hiQ z v))) := by
  refine evals_of_awp Tryz.func8 rfl (CallOK.of Tryz.func8 (by kernel_rfl) rfl) (Nat.le_of_ble_eq_true rfl) ?_
  rintro w R hR ⟨vs, hv⟩
  obtain ⟨a1, a2, a3, a4⟩ := hv.span 0 rfl
  obtain ⟨b1, b2, b3, b4⟩ := hv.span 1 rfl
  have z1 := h.sz a1 a2
  have z2 := h'.sz a3 a4
  have z3 := g.sz b1 b2
  have z4 := g'.sz b3 b4
  repeat' (first
    | (apply RunL.step; exact rfl; first
      | fail)
    | (apply RunL.step; exact rfl; apply op_ev (τ := τ); exact rfl; (first | exact r5norm | exact r5of | exact r5lesser | exact r5greater | exact r3zero | exact r3top | exact r3low | exact r3reduce | exact r3norm | exact r3neg | exact r3sign | exact r3cmp | exact r3add | exact r3sub | exact r3mul | exact r3make | exact r3div | exact r3abs | exact r3floor | exact r3of _ _); exact rfl)
    | (apply RunL.step; exact rfl; exact opA)
    | (apply RunL.hand; exact rfl; exact rfl; exact lenA; exact rfl)
    | (apply AWP.seq)
    | (apply AWP.region; exact rfl)
    | (apply AWP.block)
    | (apply AWP.skip)
    | (apply AWP.exit)
    | (apply AWP.retF; exact rfl; exact rfl; exact rfl; exact rfl; exact lenA; exact rfl)
    | (apply AWP.ret)
    | (apply RunL.nil)
    | (apply RunL.on; exact rfl; exact rfl; exact rfl; exact rfl; (first | exact rfl | assumption))
    | (apply RunL.noU; exact rfl; exact rfl; exact rfl; exact rfl; exact rfl; exact rfl)
    | (apply RunL.no; exact rfl; exact rfl; exact rfl; exact rfl; (first | exact rfl | assumption); exact rfl; exact rfl)
    | (refine AWP.cond _ (Rd.of rfl) (fun hc => ?_) (fun hc => ?_) <;> first | (exfalso; cases hc; done) | (have hc' := hc; (try simp only [decide_eq_true_eq, decide_eq_false_iff_not, Bool.not_true, Bool.not_false, bne_self_eq_false, beq_self_eq_true, ne_self_iff_false, Bool.true_bne, Bool.false_bne, Bool.true_beq, Bool.false_beq, Bool.false_eq_true, Bool.true_eq_false, reduceCtorEq, Bool.not_eq_true', Bool.not_eq_false', beq_iff_eq, bne_iff_ne, beq_eq_false_iff_ne, bne_eq_false_iff_eq, cmpOf] at hc'); try (exfalso; omega)))
    | (
      apply AWP.drawA
      repeat' (first
        | (apply DL.cons; (try (apply OpLoc.on; exact rfl; exact rfl; exact rfl; exact rfl; (first | exact rfl | assumption))); apply ol_ev (τ := τ); exact rfl; (first | exact r5norm | exact r5of | exact r5lesser | exact r5greater | exact r3zero | exact r3top | exact r3low | exact r3reduce | exact r3norm | exact r3neg | exact r3sign | exact r3cmp | exact r3add | exact r3sub | exact r3mul | exact r3make | exact r3div | exact r3abs | exact r3floor | exact r3of _ _); exact rfl; exact rfl)
        | (apply DL.cons; exact olA; exact rfl)
        | (apply DL.nil; kernel_rfl)
        | (refine DL.split rfl rfl rfl rfl (fun hb => ?_) (fun hb => ?_) <;> have hb' := hb <;> (try simp only [decide_eq_true_eq, decide_eq_false_iff_not, Bool.not_true, Bool.not_false, bne_self_eq_false, beq_self_eq_true, ne_self_iff_false, Bool.true_bne, Bool.false_bne, Bool.true_beq, Bool.false_beq, Bool.false_eq_true, Bool.true_eq_false, reduceCtorEq, Bool.not_eq_true', Bool.not_eq_false', beq_iff_eq, bne_iff_ne, beq_eq_false_iff_ne, bne_eq_false_iff_eq, cmpOf] at hb') <;> try (exfalso; omega)))
      all_goals (fail_if_success apply DL.id))
    | (refine RunL.split rfl rfl rfl rfl (fun hb => ?_) (fun hb => ?_) <;> have hb' := hb <;> (try simp only [decide_eq_true_eq, decide_eq_false_iff_not, Bool.not_true, Bool.not_false, bne_self_eq_false, beq_self_eq_true, ne_self_iff_false, Bool.true_bne, Bool.false_bne, Bool.true_beq, Bool.false_beq, Bool.false_eq_true, Bool.true_eq_false, reduceCtorEq, Bool.not_eq_true', Bool.not_eq_false', beq_iff_eq, bne_iff_ne, beq_eq_false_iff_ne, bne_eq_false_iff_eq, cmpOf] at hb') <;> try (exfalso; omega))
    )
  apply Ends.mk (.cons (.cellA (τ := τ) rfl rfl rfl rfl rfl) .nil)
  rfl
theorem r5sub [h : RA s l d x k] [h' : RA s' l' d' y m] [g : RA t u e z i] [g' : RA t' u' e' v j] (hk : k + m + i + j ≤ 100000000 := by first | omega | (simp only [List.length_cons, List.length_nil, List.length_set, List.length_replicate, List.length_append, List.length_take, List.length_drop]; omega)) : Evals Tryz.prog 10 [.agg [.bool s, .ints .u32 l, .ints .u32 d, .bool s', .ints .u32 l', .ints .u32 d'], .agg [.bool t, .ints .u32 u, .ints .u32 e, .bool t', .ints .u32 u', .ints .u32 e']]
    (spanD (loQ (loQ x y - hiQ z v) (hiQ x y - loQ z v)) (hiQ (loQ x y - hiQ z v) (hiQ x y - loQ z v))) := by
  refine evals_of_awp Tryz.func10 rfl (CallOK.of Tryz.func10 (by kernel_rfl) rfl) (Nat.le_of_ble_eq_true rfl) ?_
  rintro w R hR ⟨vs, hv⟩
  obtain ⟨a1, a2, a3, a4⟩ := hv.span 0 rfl
  obtain ⟨b1, b2, b3, b4⟩ := hv.span 1 rfl
  have z1 := h.sz a1 a2
  have z2 := h'.sz a3 a4
  have z3 := g.sz b1 b2
  have z4 := g'.sz b3 b4
  repeat' (first
    | (apply RunL.step; exact rfl; first
      | fail)
    | (apply RunL.step; exact rfl; apply op_ev (τ := τ); exact rfl; (first | exact r5norm | exact r5of | exact r5lesser | exact r5greater | exact r3zero | exact r3top | exact r3low | exact r3reduce | exact r3norm | exact r3neg | exact r3sign | exact r3cmp | exact r3add | exact r3sub | exact r3mul | exact r3make | exact r3div | exact r3abs | exact r3floor | exact r3of _ _); exact rfl)
    | (apply RunL.step; exact rfl; exact opA)
    | (apply RunL.hand; exact rfl; exact rfl; exact lenA; exact rfl)
    | (apply AWP.seq)
    | (apply AWP.region; exact rfl)
    | (apply AWP.block)
    | (apply AWP.skip)
    | (apply AWP.exit)
    | (apply AWP.retF; exact rfl; exact rfl; exact rfl; exact rfl; exact lenA; exact rfl)
    | (apply AWP.ret)
    | (apply RunL.nil)
    | (apply RunL.on; exact rfl; exact rfl; exact rfl; exact rfl; (first | exact rfl | assumption))
    | (apply RunL.noU; exact rfl; exact rfl; exact rfl; exact rfl; exact rfl; exact rfl)
    | (apply RunL.no; exact rfl; exact rfl; exact rfl; exact rfl; (first | exact rfl | assumption); exact rfl; exact rfl)
    | (refine AWP.cond _ (Rd.of rfl) (fun hc => ?_) (fun hc => ?_) <;> first | (exfalso; cases hc; done) | (have hc' := hc; (try simp only [decide_eq_true_eq, decide_eq_false_iff_not, Bool.not_true, Bool.not_false, bne_self_eq_false, beq_self_eq_true, ne_self_iff_false, Bool.true_bne, Bool.false_bne, Bool.true_beq, Bool.false_beq, Bool.false_eq_true, Bool.true_eq_false, reduceCtorEq, Bool.not_eq_true', Bool.not_eq_false', beq_iff_eq, bne_iff_ne, beq_eq_false_iff_ne, bne_eq_false_iff_eq, cmpOf] at hc'); try (exfalso; omega)))
    | (
      apply AWP.drawA
      repeat' (first
        | (apply DL.cons; (try (apply OpLoc.on; exact rfl; exact rfl; exact rfl; exact rfl; (first | exact rfl | assumption))); apply ol_ev (τ := τ); exact rfl; (first | exact r5norm | exact r5of | exact r5lesser | exact r5greater | exact r3zero | exact r3top | exact r3low | exact r3reduce | exact r3norm | exact r3neg | exact r3sign | exact r3cmp | exact r3add | exact r3sub | exact r3mul | exact r3make | exact r3div | exact r3abs | exact r3floor | exact r3of _ _); exact rfl; exact rfl)
        | (apply DL.cons; exact olA; exact rfl)
        | (apply DL.nil; kernel_rfl)
        | (refine DL.split rfl rfl rfl rfl (fun hb => ?_) (fun hb => ?_) <;> have hb' := hb <;> (try simp only [decide_eq_true_eq, decide_eq_false_iff_not, Bool.not_true, Bool.not_false, bne_self_eq_false, beq_self_eq_true, ne_self_iff_false, Bool.true_bne, Bool.false_bne, Bool.true_beq, Bool.false_beq, Bool.false_eq_true, Bool.true_eq_false, reduceCtorEq, Bool.not_eq_true', Bool.not_eq_false', beq_iff_eq, bne_iff_ne, beq_eq_false_iff_ne, bne_eq_false_iff_eq, cmpOf] at hb') <;> try (exfalso; omega)))
      all_goals (fail_if_success apply DL.id))
    | (refine RunL.split rfl rfl rfl rfl (fun hb => ?_) (fun hb => ?_) <;> have hb' := hb <;> (try simp only [decide_eq_true_eq, decide_eq_false_iff_not, Bool.not_true, Bool.not_false, bne_self_eq_false, beq_self_eq_true, ne_self_iff_false, Bool.true_bne, Bool.false_bne, Bool.true_beq, Bool.false_beq, Bool.false_eq_true, Bool.true_eq_false, reduceCtorEq, Bool.not_eq_true', Bool.not_eq_false', beq_iff_eq, bne_iff_ne, beq_eq_false_iff_ne, bne_eq_false_iff_eq, cmpOf] at hb') <;> try (exfalso; omega))
    )
  apply Ends.mk (.cons (.cellA (τ := τ) rfl rfl rfl rfl rfl) .nil)
  rfl
theorem r5mul [h : RA s l d x k] [h' : RA s' l' d' y m] [g : RA t u e z i] [g' : RA t' u' e' v j] (hk : k + m + i + j ≤ 100000000 := by first | omega | (simp only [List.length_cons, List.length_nil, List.length_set, List.length_replicate, List.length_append, List.length_take, List.length_drop]; omega)) : Evals Tryz.prog 12 [.agg [.bool s, .ints .u32 l, .ints .u32 d, .bool s', .ints .u32 l', .ints .u32 d'], .agg [.bool t, .ints .u32 u, .ints .u32 e, .bool t', .ints .u32 u', .ints .u32 e']]
    (spanD (mulLo x y z v) (mulHi x y z v)) := by
  refine evals_of_awp Tryz.func12 rfl (CallOK.of Tryz.func12 (by kernel_rfl) rfl) (Nat.le_of_ble_eq_true rfl) ?_
  rintro w R hR ⟨vs, hv⟩
  obtain ⟨a1, a2, a3, a4⟩ := hv.span 0 rfl
  obtain ⟨b1, b2, b3, b4⟩ := hv.span 1 rfl
  have z1 := h.sz a1 a2
  have z2 := h'.sz a3 a4
  have z3 := g.sz b1 b2
  have z4 := g'.sz b3 b4
  repeat' (first
    | (apply RunL.step; exact rfl; first
      | fail)
    | (apply RunL.step; exact rfl; apply op_ev (τ := τ); exact rfl; (first | exact r5norm | exact r5of | exact r5lesser | exact r5greater | exact r3zero | exact r3top | exact r3low | exact r3reduce | exact r3norm | exact r3neg | exact r3sign | exact r3cmp | exact r3add | exact r3sub | exact r3mul | exact r3make | exact r3div | exact r3abs | exact r3floor | exact r3of _ _); exact rfl)
    | (apply RunL.step; exact rfl; exact opA)
    | (apply RunL.hand; exact rfl; exact rfl; exact lenA; exact rfl)
    | (apply AWP.seq)
    | (apply AWP.region; exact rfl)
    | (apply AWP.block)
    | (apply AWP.skip)
    | (apply AWP.exit)
    | (apply AWP.retF; exact rfl; exact rfl; exact rfl; exact rfl; exact lenA; exact rfl)
    | (apply AWP.ret)
    | (apply RunL.nil)
    | (apply RunL.on; exact rfl; exact rfl; exact rfl; exact rfl; (first | exact rfl | assumption))
    | (apply RunL.noU; exact rfl; exact rfl; exact rfl; exact rfl; exact rfl; exact rfl)
    | (apply RunL.no; exact rfl; exact rfl; exact rfl; exact rfl; (first | exact rfl | assumption); exact rfl; exact rfl)
    | (refine AWP.cond _ (Rd.of rfl) (fun hc => ?_) (fun hc => ?_) <;> first | (exfalso; cases hc; done) | (have hc' := hc; (try simp only [decide_eq_true_eq, decide_eq_false_iff_not, Bool.not_true, Bool.not_false, bne_self_eq_false, beq_self_eq_true, ne_self_iff_false, Bool.true_bne, Bool.false_bne, Bool.true_beq, Bool.false_beq, Bool.false_eq_true, Bool.true_eq_false, reduceCtorEq, Bool.not_eq_true', Bool.not_eq_false', beq_iff_eq, bne_iff_ne, beq_eq_false_iff_ne, bne_eq_false_iff_eq, cmpOf] at hc'); try (exfalso; omega)))
    | (
      apply AWP.drawA
      repeat' (first
        | (apply DL.cons; (try (apply OpLoc.on; exact rfl; exact rfl; exact rfl; exact rfl; (first | exact rfl | assumption))); apply ol_ev (τ := τ); exact rfl; (first | exact r5norm | exact r5of | exact r5lesser | exact r5greater | exact r3zero | exact r3top | exact r3low | exact r3reduce | exact r3norm | exact r3neg | exact r3sign | exact r3cmp | exact r3add | exact r3sub | exact r3mul | exact r3make | exact r3div | exact r3abs | exact r3floor | exact r3of _ _); exact rfl; exact rfl)
        | (apply DL.cons; exact olA; exact rfl)
        | (apply DL.nil; kernel_rfl)
        | (refine DL.split rfl rfl rfl rfl (fun hb => ?_) (fun hb => ?_) <;> have hb' := hb <;> (try simp only [decide_eq_true_eq, decide_eq_false_iff_not, Bool.not_true, Bool.not_false, bne_self_eq_false, beq_self_eq_true, ne_self_iff_false, Bool.true_bne, Bool.false_bne, Bool.true_beq, Bool.false_beq, Bool.false_eq_true, Bool.true_eq_false, reduceCtorEq, Bool.not_eq_true', Bool.not_eq_false', beq_iff_eq, bne_iff_ne, beq_eq_false_iff_ne, bne_eq_false_iff_eq, cmpOf] at hb') <;> try (exfalso; omega)))
      all_goals (fail_if_success apply DL.id))
    | (refine RunL.split rfl rfl rfl rfl (fun hb => ?_) (fun hb => ?_) <;> have hb' := hb <;> (try simp only [decide_eq_true_eq, decide_eq_false_iff_not, Bool.not_true, Bool.not_false, bne_self_eq_false, beq_self_eq_true, ne_self_iff_false, Bool.true_bne, Bool.false_bne, Bool.true_beq, Bool.false_beq, Bool.false_eq_true, Bool.true_eq_false, reduceCtorEq, Bool.not_eq_true', Bool.not_eq_false', beq_iff_eq, bne_iff_ne, beq_eq_false_iff_ne, bne_eq_false_iff_eq, cmpOf] at hb') <;> try (exfalso; omega))
    )
  apply Ends.mk (.cons (.cellA (τ := τ) rfl rfl rfl rfl rfl) .nil)
  rfl
theorem r5scale [h : RA s l d x k] [h' : RA s' l' d' y m] [g : RA t u e z i] (hk : k + m + i ≤ 100000000 := by first | omega | (simp only [List.length_cons, List.length_nil, List.length_set, List.length_replicate, List.length_append, List.length_take, List.length_drop]; omega)) : Evals Tryz.prog 14 [.agg [.bool s, .ints .u32 l, .ints .u32 d, .bool s', .ints .u32 l', .ints .u32 d'], .agg [.bool t, .ints .u32 u, .ints .u32 e]]
    (spanD (loQ (x * z) (y * z)) (hiQ (x * z) (y * z))) := by
  refine evals_of_awp Tryz.func14 rfl (CallOK.of Tryz.func14 (by kernel_rfl) rfl) (Nat.le_of_ble_eq_true rfl) ?_
  rintro w R hR ⟨vs, hv⟩
  obtain ⟨a1, a2, a3, a4⟩ := hv.span 0 rfl
  obtain ⟨⟨_, b1⟩, _, b2⟩ := hv.rat 1 rfl
  have z1 := h.sz a1 a2
  have z2 := h'.sz a3 a4
  have z3 := g.sz b1 b2
  repeat' (first
    | (apply RunL.step; exact rfl; first
      | fail)
    | (apply RunL.step; exact rfl; apply op_ev (τ := τ); exact rfl; (first | exact r5norm | exact r5of | exact r5lesser | exact r5greater | exact r3zero | exact r3top | exact r3low | exact r3reduce | exact r3norm | exact r3neg | exact r3sign | exact r3cmp | exact r3add | exact r3sub | exact r3mul | exact r3make | exact r3div | exact r3abs | exact r3floor | exact r3of _ _); exact rfl)
    | (apply RunL.step; exact rfl; exact opA)
    | (apply RunL.hand; exact rfl; exact rfl; exact lenA; exact rfl)
    | (apply AWP.seq)
    | (apply AWP.region; exact rfl)
    | (apply AWP.block)
    | (apply AWP.skip)
    | (apply AWP.exit)
    | (apply AWP.retF; exact rfl; exact rfl; exact rfl; exact rfl; exact lenA; exact rfl)
    | (apply AWP.ret)
    | (apply RunL.nil)
    | (apply RunL.on; exact rfl; exact rfl; exact rfl; exact rfl; (first | exact rfl | assumption))
    | (apply RunL.noU; exact rfl; exact rfl; exact rfl; exact rfl; exact rfl; exact rfl)
    | (apply RunL.no; exact rfl; exact rfl; exact rfl; exact rfl; (first | exact rfl | assumption); exact rfl; exact rfl)
    | (refine AWP.cond _ (Rd.of rfl) (fun hc => ?_) (fun hc => ?_) <;> first | (exfalso; cases hc; done) | (have hc' := hc; (try simp only [decide_eq_true_eq, decide_eq_false_iff_not, Bool.not_true, Bool.not_false, bne_self_eq_false, beq_self_eq_true, ne_self_iff_false, Bool.true_bne, Bool.false_bne, Bool.true_beq, Bool.false_beq, Bool.false_eq_true, Bool.true_eq_false, reduceCtorEq, Bool.not_eq_true', Bool.not_eq_false', beq_iff_eq, bne_iff_ne, beq_eq_false_iff_ne, bne_eq_false_iff_eq, cmpOf] at hc'); try (exfalso; omega)))
    | (
      apply AWP.drawA
      repeat' (first
        | (apply DL.cons; (try (apply OpLoc.on; exact rfl; exact rfl; exact rfl; exact rfl; (first | exact rfl | assumption))); apply ol_ev (τ := τ); exact rfl; (first | exact r5norm | exact r5of | exact r5lesser | exact r5greater | exact r3zero | exact r3top | exact r3low | exact r3reduce | exact r3norm | exact r3neg | exact r3sign | exact r3cmp | exact r3add | exact r3sub | exact r3mul | exact r3make | exact r3div | exact r3abs | exact r3floor | exact r3of _ _); exact rfl; exact rfl)
        | (apply DL.cons; exact olA; exact rfl)
        | (apply DL.nil; kernel_rfl)
        | (refine DL.split rfl rfl rfl rfl (fun hb => ?_) (fun hb => ?_) <;> have hb' := hb <;> (try simp only [decide_eq_true_eq, decide_eq_false_iff_not, Bool.not_true, Bool.not_false, bne_self_eq_false, beq_self_eq_true, ne_self_iff_false, Bool.true_bne, Bool.false_bne, Bool.true_beq, Bool.false_beq, Bool.false_eq_true, Bool.true_eq_false, reduceCtorEq, Bool.not_eq_true', Bool.not_eq_false', beq_iff_eq, bne_iff_ne, beq_eq_false_iff_ne, bne_eq_false_iff_eq, cmpOf] at hb') <;> try (exfalso; omega)))
      all_goals (fail_if_success apply DL.id))
    | (refine RunL.split rfl rfl rfl rfl (fun hb => ?_) (fun hb => ?_) <;> have hb' := hb <;> (try simp only [decide_eq_true_eq, decide_eq_false_iff_not, Bool.not_true, Bool.not_false, bne_self_eq_false, beq_self_eq_true, ne_self_iff_false, Bool.true_bne, Bool.false_bne, Bool.true_beq, Bool.false_beq, Bool.false_eq_true, Bool.true_eq_false, reduceCtorEq, Bool.not_eq_true', Bool.not_eq_false', beq_iff_eq, bne_iff_ne, beq_eq_false_iff_ne, bne_eq_false_iff_eq, cmpOf] at hb') <;> try (exfalso; omega))
    )
  apply Ends.mk (.cons (.cellA (τ := τ) rfl rfl rfl rfl rfl) .nil)
  rfl
end
set_option maxHeartbeats 4000000 in
theorem law_SpanArithmetic (s1 : Bool) (l1 d1 : List Int) (s2 : Bool) (l2 d2 : List Int) (s3 : Bool) (l3 d3 : List Int) (s4 : Bool) (l4 d4 : List Int) (s5 : Bool) (l5 d5 : List Int)
    (hb : bulkA [.agg [.bool s1, .ints .u32 l1, .ints .u32 d1, .bool s2, .ints .u32 l2, .ints .u32 d2], .agg [.bool s3, .ints .u32 l3, .ints .u32 d3, .bool s4, .ints .u32 l4, .ints .u32 d4], .agg [.bool s5, .ints .u32 l5, .ints .u32 d5]] ≤ 1048576) :
    Evals Tryz.prog 3 [.agg [.bool s1, .ints .u32 l1, .ints .u32 d1, .bool s2, .ints .u32 l2, .ints .u32 d2], .agg [.bool s3, .ints .u32 l3, .ints .u32 d3, .bool s4, .ints .u32 l4, .ints .u32 d4], .agg [.bool s5, .ints .u32 l5, .ints .u32 d5]] (.bool true) := by
  refine evals_of_awp Tryz.func3 rfl (CallOK.of Tryz.func3 (by kernel_rfl) rfl) (Nat.le_of_ble_eq_true rfl) ?_
  rintro w R hR ⟨vs, hv⟩
  have hl1 : l1.length ≤ 1048576 := by simp [bulkA, D.parts, bulkL, D.bulk] at hb; omega
  have hl2 : l2.length ≤ 1048576 := by simp [bulkA, D.parts, bulkL, D.bulk] at hb; omega
  have hd1 : d1.length ≤ 1048576 := by simp [bulkA, D.parts, bulkL, D.bulk] at hb; omega
  have hd2 : d2.length ≤ 1048576 := by simp [bulkA, D.parts, bulkL, D.bulk] at hb; omega
  have hl3 : l3.length ≤ 1048576 := by simp [bulkA, D.parts, bulkL, D.bulk] at hb; omega
  have hl4 : l4.length ≤ 1048576 := by simp [bulkA, D.parts, bulkL, D.bulk] at hb; omega
  have hd3 : d3.length ≤ 1048576 := by simp [bulkA, D.parts, bulkL, D.bulk] at hb; omega
  have hd4 : d4.length ≤ 1048576 := by simp [bulkA, D.parts, bulkL, D.bulk] at hb; omega
  have hl5 : l5.length ≤ 1048576 := by simp [bulkA, D.parts, bulkL, D.bulk] at hb; omega
  have hd5 : d5.length ≤ 1048576 := by simp [bulkA, D.parts, bulkL, D.bulk] at hb; omega
  obtain ⟨x, i1⟩ : ∃ x, RA s1 l1 d1 x 1048576 := ⟨_, rfl, hl1, hd1⟩
  obtain ⟨y, i2⟩ : ∃ x, RA s2 l2 d2 x 1048576 := ⟨_, rfl, hl2, hd2⟩
  obtain ⟨w1, w2, w3, w4⟩ := hv.span 0 rfl
  have z1 := i1.sz w1 w2
  have z2 := i2.sz w3 w4
  obtain ⟨z, i3⟩ : ∃ x, RA s3 l3 d3 x 1048576 := ⟨_, rfl, hl3, hd3⟩
  obtain ⟨v, i4⟩ : ∃ x, RA s4 l4 d4 x 1048576 := ⟨_, rfl, hl4, hd4⟩
  obtain ⟨w5, w6, w7, w8⟩ := hv.span 1 rfl
  have z3 := i3.sz w5 w6
  have z4 := i4.sz w7 w8
  obtain ⟨r, i5⟩ : ∃ x, RA s5 l5 d5 x 1048576 := ⟨_, rfl, hl5, hd5⟩
  obtain ⟨⟨_, w9⟩, _, w10⟩ := hv.rat 2 rfl
  have z5 := i5.sz w9 w10
  repeat' (first
    | (apply RunL.step; exact rfl; first
      | fail)
    | (apply RunL.step; exact rfl; apply op_ev (τ := τ); exact rfl; (first | exact ssame_as | exact sof | exact r5of | exact sadd | exact r5add | exact ssub | exact r5sub | exact smul | exact r5mul | exact sscale | exact r5scale | exact sawake); exact rfl)
    | (apply RunL.step; exact rfl; exact opA)
    | (apply RunL.hand; exact rfl; exact rfl; exact lenA; exact rfl)
    | (apply AWP.seq)
    | (apply AWP.region; exact rfl)
    | (apply AWP.block)
    | (apply AWP.skip)
    | (apply AWP.exit)
    | (apply AWP.retF; exact rfl; exact rfl; exact rfl; exact rfl; exact lenA; exact rfl)
    | (apply AWP.ret)
    | (apply RunL.nil)
    | (apply RunL.on; exact rfl; exact rfl; exact rfl; exact rfl; (first | exact rfl | assumption))
    | (apply RunL.noU; exact rfl; exact rfl; exact rfl; exact rfl; exact rfl; exact rfl)
    | (apply RunL.no; exact rfl; exact rfl; exact rfl; exact rfl; (first | exact rfl | assumption); exact rfl; exact rfl)
    | (refine AWP.cond _ (Rd.of rfl) (fun hc => ?_) (fun hc => ?_) <;> first | (exfalso; cases hc; done) | (have hc' := hc; (try simp only [decide_eq_true_eq, decide_eq_false_iff_not, Bool.not_true, Bool.not_false, bne_self_eq_false, beq_self_eq_true, ne_self_iff_false, Bool.true_bne, Bool.false_bne, Bool.true_beq, Bool.false_beq, Bool.false_eq_true, Bool.true_eq_false, reduceCtorEq, Bool.not_eq_true', Bool.not_eq_false', beq_iff_eq, bne_iff_ne, beq_eq_false_iff_ne, bne_eq_false_iff_eq, cmpOf] at hc'); try (exfalso; omega)))
    | (
      apply AWP.drawA
      repeat' (first
        | (apply DL.cons; (try (apply OpLoc.on; exact rfl; exact rfl; exact rfl; exact rfl; (first | exact rfl | assumption))); apply ol_ev (τ := τ); exact rfl; (first | exact ssame_as | exact sof | exact r5of | exact sadd | exact r5add | exact ssub | exact r5sub | exact smul | exact r5mul | exact sscale | exact r5scale | exact sawake); exact rfl; exact rfl)
        | (apply DL.cons; exact olA; exact rfl)
        | (apply DL.nil; kernel_rfl)
        | (refine DL.split rfl rfl rfl rfl (fun hb => ?_) (fun hb => ?_) <;> have hb' := hb <;> (try simp only [decide_eq_true_eq, decide_eq_false_iff_not, Bool.not_true, Bool.not_false, bne_self_eq_false, beq_self_eq_true, ne_self_iff_false, Bool.true_bne, Bool.false_bne, Bool.true_beq, Bool.false_beq, Bool.false_eq_true, Bool.true_eq_false, reduceCtorEq, Bool.not_eq_true', Bool.not_eq_false', beq_iff_eq, bne_iff_ne, beq_eq_false_iff_ne, bne_eq_false_iff_eq, cmpOf] at hb') <;> try (exfalso; omega)))
      all_goals (fail_if_success apply DL.id))
    | (refine RunL.split rfl rfl rfl rfl (fun hb => ?_) (fun hb => ?_) <;> have hb' := hb <;> (try simp only [decide_eq_true_eq, decide_eq_false_iff_not, Bool.not_true, Bool.not_false, bne_self_eq_false, beq_self_eq_true, ne_self_iff_false, Bool.true_bne, Bool.false_bne, Bool.true_beq, Bool.false_beq, Bool.false_eq_true, Bool.true_eq_false, reduceCtorEq, Bool.not_eq_true', Bool.not_eq_false', beq_iff_eq, bne_iff_ne, beq_eq_false_iff_ne, bne_eq_false_iff_eq, cmpOf] at hb') <;> try (exfalso; omega))
    )
  all_goals
    (apply Ends.mk (.cons (.tmp rfl) .nil); first | rfl | (simp only [pack]; congr 1; simp only [cmpOf, decide_eq_true_eq, beq_iff_eq, bne_iff_ne]; omega))
end Go.Proofs.YtfbpkohfpipliaaGreatDoor.K
