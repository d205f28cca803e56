/- Walks: package linking: Mean, Spread, Loss, allValid, Choose, Chain. -/
import Derived.Test.YtgdejiajiljipaaGreatDoorWalkY3
namespace Go.Proofs.YtgdejiajiljipaaGreatDoor.K
open Go
set_option linter.unusedVariables false
set_option linter.unusedSimpArgs false

theorem kMean0 (x y : List Int) (he : anchE x y ≠ 0) : Evals Tryz.prog 17 [.ints .i64 x, .ints .i64 y] (.tup [link0, .int .i64 (anchE x y)]) := by
  have hck := kcheck x y
  generalize anchE x y = e at *
  refine evals_of_awp Tryz.func17 rfl (CallOK.of Tryz.func17 (by kernel_rfl) rfl) (Nat.le_of_ble_eq_true rfl) ?_
  rintro w R hR ⟨vs, hv⟩
  repeat' (first
    | (apply RunL.step; exact rfl; first
      | fail)
    | (apply RunL.step; exact rfl; apply op_ev (τ := τ); exact rfl; (first | exact hck | exact hmx | exact hmy | exact kwhole _ | exact rsub); exact rfl)
    | (apply RunL.step; exact rfl; exact opA)
    | (apply RunL.hand; exact rfl; exact rfl; exact lenA; exact rfl)
    | (apply AWP.seq)
    | (apply AWP.region; exact rfl)
    | (apply AWP.block)
    | (apply AWP.skip)
    | (apply AWP.exit)
    | (apply AWP.retF; exact rfl; exact rfl; exact rfl; exact rfl; exact lenA; exact rfl)
    | (apply AWP.ret)
    | (apply RunL.nil)
    | (apply RunL.on; exact rfl; exact rfl; exact rfl; exact rfl; (first | exact rfl | assumption))
    | (apply RunL.noU; exact rfl; exact rfl; exact rfl; exact rfl; exact rfl; exact rfl)
    | (apply RunL.no; exact rfl; exact rfl; exact rfl; exact rfl; (first | exact rfl | assumption); exact rfl; exact rfl)
    | (refine AWP.cond _ (Rd.of rfl) (fun hc => ?_) (fun hc => ?_) <;> first | (exfalso; cases hc; done) | (have hc' := hc; (try simp only [decide_eq_true_eq, decide_eq_false_iff_not, Bool.not_true, Bool.not_false, bne_self_eq_false, beq_self_eq_true, ne_self_iff_false, Bool.true_bne, Bool.false_bne, Bool.true_beq, Bool.false_beq, Bool.false_eq_true, Bool.true_eq_false, reduceCtorEq, Bool.not_eq_true', Bool.not_eq_false', beq_iff_eq, bne_iff_ne, beq_eq_false_iff_ne, bne_eq_false_iff_eq, cmpOf] at hc'); try (exfalso; omega)))
    | (
      apply AWP.drawA
      repeat' (first
        | (apply DL.cons; (try (apply OpLoc.on; exact rfl; exact rfl; exact rfl; exact rfl; (first | exact rfl | assumption))); apply ol_ev (τ := τ); exact rfl; (first | exact hck | exact hmx | exact hmy | exact kwhole _ | exact rsub); exact rfl; exact rfl)
        | (apply DL.cons; exact olA; exact rfl)
        | (apply DL.nil; kernel_rfl)
        | (refine DL.split rfl rfl rfl rfl (fun hb => ?_) (fun hb => ?_) <;> have hb' := hb <;> (try simp only [decide_eq_true_eq, decide_eq_false_iff_not, Bool.not_true, Bool.not_false, bne_self_eq_false, beq_self_eq_true, ne_self_iff_false, Bool.true_bne, Bool.false_bne, Bool.true_beq, Bool.false_beq, Bool.false_eq_true, Bool.true_eq_false, reduceCtorEq, Bool.not_eq_true', Bool.not_eq_false', beq_iff_eq, bne_iff_ne, beq_eq_false_iff_ne, bne_eq_false_iff_eq, cmpOf] at hb') <;> try (exfalso; omega)))
      all_goals (fail_if_success apply DL.id))
    | (refine RunL.split rfl rfl rfl rfl (fun hb => ?_) (fun hb => ?_) <;> have hb' := hb <;> (try simp only [decide_eq_true_eq, decide_eq_false_iff_not, Bool.not_true, Bool.not_false, bne_self_eq_false, beq_self_eq_true, ne_self_iff_false, Bool.true_bne, Bool.false_bne, Bool.true_beq, Bool.false_beq, Bool.false_eq_true, Bool.true_eq_false, reduceCtorEq, Bool.not_eq_true', Bool.not_eq_false', beq_iff_eq, bne_iff_ne, beq_eq_false_iff_ne, bne_eq_false_iff_eq, cmpOf] at hb') <;> try (exfalso; omega))
    )
  apply Ends.mk (.cons (.cellA (τ := τ) rfl rfl rfl rfl rfl) (.cons (.tmp rfl) .nil))
  rfl
theorem kMean1 (x y : List Int) (he : anchE x y = 0) : Evals Tryz.prog 17 [.ints .i64 x, .ints .i64 y] (.tup [linkD ((1 : Int) : Rat) (meanQ (fn y) y.length - meanQ (fn x) x.length), .int .i64 0]) := by
  have hck := kcheck x y
  rw [he] at hck
  obtain ⟨e1, e2, e3, e4, e5⟩ := anchE_zero he
  have hmx := kmean x e4 e3 e1
  have hmy := kmean y e5 (by omega) (by omega)
  have zx := mean_sz e4 e1
  have zy := mean_sz e5 (by omega)
  generalize meanQ (fn x) x.length = mx at *
  generalize meanQ (fn y) y.length = my at *
  refine evals_of_awp Tryz.func17 rfl (CallOK.of Tryz.func17 (by kernel_rfl) rfl) (Nat.le_of_ble_eq_true rfl) ?_
  rintro w R hR ⟨vs, hv⟩
  repeat' (first
    | (apply RunL.step; exact rfl; first
      | fail)
    | (apply RunL.step; exact rfl; apply op_ev (τ := τ); exact rfl; (first | exact hck | exact hmx | exact hmy | exact kwhole _ | exact rsub); exact rfl)
    | (apply RunL.step; exact rfl; exact opA)
    | (apply RunL.hand; exact rfl; exact rfl; exact lenA; exact rfl)
    | (apply AWP.seq)
    | (apply AWP.region; exact rfl)
    | (apply AWP.block)
    | (apply AWP.skip)
    | (apply AWP.exit)
    | (apply AWP.retF; exact rfl; exact rfl; exact rfl; exact rfl; exact lenA; exact rfl)
    | (apply AWP.ret)
    | (apply RunL.nil)
    | (apply RunL.on; exact rfl; exact rfl; exact rfl; exact rfl; (first | exact rfl | assumption))
    | (apply RunL.noU; exact rfl; exact rfl; exact rfl; exact rfl; exact rfl; exact rfl)
    | (apply RunL.no; exact rfl; exact rfl; exact rfl; exact rfl; (first | exact rfl | assumption); exact rfl; exact rfl)
    | (refine AWP.cond _ (Rd.of rfl) (fun hc => ?_) (fun hc => ?_) <;> first | (exfalso; cases hc; done) | (have hc' := hc; (try simp only [decide_eq_true_eq, decide_eq_false_iff_not, Bool.not_true, Bool.not_false, bne_self_eq_false, beq_self_eq_true, ne_self_iff_false, Bool.true_bne, Bool.false_bne, Bool.true_beq, Bool.false_beq, Bool.false_eq_true, Bool.true_eq_false, reduceCtorEq, Bool.not_eq_true', Bool.not_eq_false', beq_iff_eq, bne_iff_ne, beq_eq_false_iff_ne, bne_eq_false_iff_eq, cmpOf] at hc'); try (exfalso; omega)))
    | (
      apply AWP.drawA
      repeat' (first
        | (apply DL.cons; (try (apply OpLoc.on; exact rfl; exact rfl; exact rfl; exact rfl; (first | exact rfl | assumption))); apply ol_ev (τ := τ); exact rfl; (first | exact hck | exact hmx | exact hmy | exact kwhole _ | exact rsub); exact rfl; exact rfl)
        | (apply DL.cons; exact olA; exact rfl)
        | (apply DL.nil; kernel_rfl)
        | (refine DL.split rfl rfl rfl rfl (fun hb => ?_) (fun hb => ?_) <;> have hb' := hb <;> (try simp only [decide_eq_true_eq, decide_eq_false_iff_not, Bool.not_true, Bool.not_false, bne_self_eq_false, beq_self_eq_true, ne_self_iff_false, Bool.true_bne, Bool.false_bne, Bool.true_beq, Bool.false_beq, Bool.false_eq_true, Bool.true_eq_false, reduceCtorEq, Bool.not_eq_true', Bool.not_eq_false', beq_iff_eq, bne_iff_ne, beq_eq_false_iff_ne, bne_eq_false_iff_eq, cmpOf] at hb') <;> try (exfalso; omega)))
      all_goals (fail_if_success apply DL.id))
    | (refine RunL.split rfl rfl rfl rfl (fun hb => ?_) (fun hb => ?_) <;> have hb' := hb <;> (try simp only [decide_eq_true_eq, decide_eq_false_iff_not, Bool.not_true, Bool.not_false, bne_self_eq_false, beq_self_eq_true, ne_self_iff_false, Bool.true_bne, Bool.false_bne, Bool.true_beq, Bool.false_beq, Bool.false_eq_true, Bool.true_eq_false, reduceCtorEq, Bool.not_eq_true', Bool.not_eq_false', beq_iff_eq, bne_iff_ne, beq_eq_false_iff_ne, bne_eq_false_iff_eq, cmpOf] at hb') <;> try (exfalso; omega))
    )
  apply Ends.mk (.cons (.cellA (τ := τ) rfl rfl rfl rfl rfl) (.cons (.tmp rfl) .nil))
  rfl
theorem kSpread0 (x y : List Int) (he : anchE x y ≠ 0) : Evals Tryz.prog 19 [.ints .i64 x, .ints .i64 y] (.tup [link0, .int .i64 (anchE x y)]) := by
  have hck := kcheck x y
  generalize anchE x y = e at *
  refine evals_of_awp Tryz.func19 rfl (CallOK.of Tryz.func19 (by kernel_rfl) rfl) (Nat.le_of_ble_eq_true rfl) ?_
  rintro w R hR ⟨vs, hv⟩
  repeat' (first
    | (apply RunL.step; exact rfl; first
      | fail)
    | (apply RunL.step; exact rfl; apply op_ev (τ := τ); exact rfl; (first | exact hck | exact hmx | exact hmy | exact hdx | exact hdy | exact rdivN | exact rsign | exact rsub | exact rmul); exact rfl)
    | (apply RunL.step; exact rfl; exact opA)
    | (apply RunL.hand; exact rfl; exact rfl; exact lenA; exact rfl)
    | (apply AWP.seq)
    | (apply AWP.region; exact rfl)
    | (apply AWP.block)
    | (apply AWP.skip)
    | (apply AWP.exit)
    | (apply AWP.retF; exact rfl; exact rfl; exact rfl; exact rfl; exact lenA; exact rfl)
    | (apply AWP.ret)
    | (apply RunL.nil)
    | (apply RunL.on; exact rfl; exact rfl; exact rfl; exact rfl; (first | exact rfl | assumption))
    | (apply RunL.noU; exact rfl; exact rfl; exact rfl; exact rfl; exact rfl; exact rfl)
    | (apply RunL.no; exact rfl; exact rfl; exact rfl; exact rfl; (first | exact rfl | assumption); exact rfl; exact rfl)
    | (refine AWP.cond _ (Rd.of rfl) (fun hc => ?_) (fun hc => ?_) <;> first | (exfalso; cases hc; done) | (have hc' := hc; (try simp only [decide_eq_true_eq, decide_eq_false_iff_not, Bool.not_true, Bool.not_false, bne_self_eq_false, beq_self_eq_true, ne_self_iff_false, Bool.true_bne, Bool.false_bne, Bool.true_beq, Bool.false_beq, Bool.false_eq_true, Bool.true_eq_false, reduceCtorEq, Bool.not_eq_true', Bool.not_eq_false', beq_iff_eq, bne_iff_ne, beq_eq_false_iff_ne, bne_eq_false_iff_eq, cmpOf] at hc'); try (exfalso; omega)))
    | (
      apply AWP.drawA
      repeat' (first
        | (apply DL.cons; (try (apply OpLoc.on; exact rfl; exact rfl; exact rfl; exact rfl; (first | exact rfl | assumption))); apply ol_ev (τ := τ); exact rfl; (first | exact hck | exact hmx | exact hmy | exact hdx | exact hdy | exact rdivN | exact rsign | exact rsub | exact rmul); exact rfl; exact rfl)
        | (apply DL.cons; exact olA; exact rfl)
        | (apply DL.nil; kernel_rfl)
        | (refine DL.split rfl rfl rfl rfl (fun hb => ?_) (fun hb => ?_) <;> have hb' := hb <;> (try simp only [decide_eq_true_eq, decide_eq_false_iff_not, Bool.not_true, Bool.not_false, bne_self_eq_false, beq_self_eq_true, ne_self_iff_false, Bool.true_bne, Bool.false_bne, Bool.true_beq, Bool.false_beq, Bool.false_eq_true, Bool.true_eq_false, reduceCtorEq, Bool.not_eq_true', Bool.not_eq_false', beq_iff_eq, bne_iff_ne, beq_eq_false_iff_ne, bne_eq_false_iff_eq, cmpOf] at hb') <;> try (exfalso; omega)))
      all_goals (fail_if_success apply DL.id))
    | (refine RunL.split rfl rfl rfl rfl (fun hb => ?_) (fun hb => ?_) <;> have hb' := hb <;> (try simp only [decide_eq_true_eq, decide_eq_false_iff_not, Bool.not_true, Bool.not_false, bne_self_eq_false, beq_self_eq_true, ne_self_iff_false, Bool.true_bne, Bool.false_bne, Bool.true_beq, Bool.false_beq, Bool.false_eq_true, Bool.true_eq_false, reduceCtorEq, Bool.not_eq_true', Bool.not_eq_false', beq_iff_eq, bne_iff_ne, beq_eq_false_iff_ne, bne_eq_false_iff_eq, cmpOf] at hb') <;> try (exfalso; omega))
    )
  apply Ends.mk (.cons (.cellA (τ := τ) rfl rfl rfl rfl rfl) (.cons (.tmp rfl) .nil))
  rfl
theorem kSpread8 (x y : List Int) (he : anchE x y = 0) (h0 : devQ (fn x) x.length = 0 ∨ devQ (fn y) y.length = 0) : Evals Tryz.prog 19 [.ints .i64 x, .ints .i64 y] (.tup [link0, .int .i64 8]) := by
  have hck := kcheck x y
  rw [he] at hck
  obtain ⟨e1, e2, e3, e4, e5⟩ := anchE_zero he
  have hmx := kmean x e4 e3 e1
  have hmy := kmean y e5 (by omega) (by omega)
  have hdx := kdev x e4 e3 e1
  have hdy := kdev y e5 (by omega) (by omega)
  have zx := mean_sz e4 e1
  have zy := mean_sz e5 (by omega)
  have wx := dev_sz e4 e1
  have wy := dev_sz e5 (by omega)
  generalize meanQ (fn x) x.length = mx at *
  generalize meanQ (fn y) y.length = my at *
  generalize devQ (fn x) x.length = dx at *
  generalize devQ (fn y) y.length = dy at *
  have cx := cmpQ_zero dx 0
  have cy := cmpQ_zero dy 0
  refine evals_of_awp Tryz.func19 rfl (CallOK.of Tryz.func19 (by kernel_rfl) rfl) (Nat.le_of_ble_eq_true rfl) ?_
  rintro w R hR ⟨vs, hv⟩
  by_cases hd1 : dx = 0
  · have g1 := cx.2 hd1
    repeat' (first
      | (apply RunL.step; exact rfl; first
        | fail)
      | (apply RunL.step; exact rfl; apply op_ev (τ := τ); exact rfl; (first | exact hck | exact hmx | exact hmy | exact hdx | exact hdy | exact rdivN | exact rsign | exact rsub | exact rmul); exact rfl)
      | (apply RunL.step; exact rfl; exact opA)
      | (apply RunL.hand; exact rfl; exact rfl; exact lenA; exact rfl)
      | (apply AWP.seq)
      | (apply AWP.region; exact rfl)
      | (apply AWP.block)
      | (apply AWP.skip)
      | (apply AWP.exit)
      | (apply AWP.retF; exact rfl; exact rfl; exact rfl; exact rfl; exact lenA; exact rfl)
      | (apply AWP.ret)
      | (apply RunL.nil)
      | (apply RunL.on; exact rfl; exact rfl; exact rfl; exact rfl; (first | exact rfl | assumption))
      | (apply RunL.noU; exact rfl; exact rfl; exact rfl; exact rfl; exact rfl; exact rfl)
      | (apply RunL.no; exact rfl; exact rfl; exact rfl; exact rfl; (first | exact rfl | assumption); exact rfl; exact rfl)
      | (refine AWP.cond _ (Rd.of rfl) (fun hc => ?_) (fun hc => ?_) <;> first | (exfalso; cases hc; done) | (have hc' := hc; (try simp only [decide_eq_true_eq, decide_eq_false_iff_not, Bool.not_true, Bool.not_false, bne_self_eq_false, beq_self_eq_true, ne_self_iff_false, Bool.true_bne, Bool.false_bne, Bool.true_beq, Bool.false_beq, Bool.false_eq_true, Bool.true_eq_false, reduceCtorEq, Bool.not_eq_true', Bool.not_eq_false', beq_iff_eq, bne_iff_ne, beq_eq_false_iff_ne, bne_eq_false_iff_eq, cmpOf] at hc'); try (exfalso; omega)))
      | (
        apply AWP.drawA
        repeat' (first
          | (apply DL.cons; (try (apply OpLoc.on; exact rfl; exact rfl; exact rfl; exact rfl; (first | exact rfl | assumption))); apply ol_ev (τ := τ); exact rfl; (first | exact hck | exact hmx | exact hmy | exact hdx | exact hdy | exact rdivN | exact rsign | exact rsub | exact rmul); exact rfl; exact rfl)
          | (apply DL.cons; exact olA; exact rfl)
          | (apply DL.nil; kernel_rfl)
          | (refine DL.split rfl rfl rfl rfl (fun hb => ?_) (fun hb => ?_) <;> have hb' := hb <;> (try simp only [decide_eq_true_eq, decide_eq_false_iff_not, Bool.not_true, Bool.not_false, bne_self_eq_false, beq_self_eq_true, ne_self_iff_false, Bool.true_bne, Bool.false_bne, Bool.true_beq, Bool.false_beq, Bool.false_eq_true, Bool.true_eq_false, reduceCtorEq, Bool.not_eq_true', Bool.not_eq_false', beq_iff_eq, bne_iff_ne, beq_eq_false_iff_ne, bne_eq_false_iff_eq, cmpOf] at hb') <;> try (exfalso; omega)))
        all_goals (fail_if_success apply DL.id))
      | (refine RunL.split rfl rfl rfl rfl (fun hb => ?_) (fun hb => ?_) <;> have hb' := hb <;> (try simp only [decide_eq_true_eq, decide_eq_false_iff_not, Bool.not_true, Bool.not_false, bne_self_eq_false, beq_self_eq_true, ne_self_iff_false, Bool.true_bne, Bool.false_bne, Bool.true_beq, Bool.false_beq, Bool.false_eq_true, Bool.true_eq_false, reduceCtorEq, Bool.not_eq_true', Bool.not_eq_false', beq_iff_eq, bne_iff_ne, beq_eq_false_iff_ne, bne_eq_false_iff_eq, cmpOf] at hb') <;> try (exfalso; omega))
      )
    all_goals
      apply Ends.mk (.cons (.cellA (τ := τ) rfl rfl rfl rfl rfl) (.cons (.tmp rfl) .nil))
      rfl
  · have g1 : cmpQ dx 0 ≠ 0 := fun h => hd1 (cx.1 h)
    have g2 := cy.2 (h0.resolve_left hd1)
    repeat' (first
      | (apply RunL.step; exact rfl; first
        | fail)
      | (apply RunL.step; exact rfl; apply op_ev (τ := τ); exact rfl; (first | exact hck | exact hmx | exact hmy | exact hdx | exact hdy | exact rdivN | exact rsign | exact rsub | exact rmul); exact rfl)
      | (apply RunL.step; exact rfl; exact opA)
      | (apply RunL.hand; exact rfl; exact rfl; exact lenA; exact rfl)
      | (apply AWP.seq)
      | (apply AWP.region; exact rfl)
      | (apply AWP.block)
      | (apply AWP.skip)
      | (apply AWP.exit)
      | (apply AWP.retF; exact rfl; exact rfl; exact rfl; exact rfl; exact lenA; exact rfl)
      | (apply AWP.ret)
      | (apply RunL.nil)
      | (apply RunL.on; exact rfl; exact rfl; exact rfl; exact rfl; (first | exact rfl | assumption))
      | (apply RunL.noU; exact rfl; exact rfl; exact rfl; exact rfl; exact rfl; exact rfl)
      | (apply RunL.no; exact rfl; exact rfl; exact rfl; exact rfl; (first | exact rfl | assumption); exact rfl; exact rfl)
      | (refine AWP.cond _ (Rd.of rfl) (fun hc => ?_) (fun hc => ?_) <;> first | (exfalso; cases hc; done) | (have hc' := hc; (try simp only [decide_eq_true_eq, decide_eq_false_iff_not, Bool.not_true, Bool.not_false, bne_self_eq_false, beq_self_eq_true, ne_self_iff_false, Bool.true_bne, Bool.false_bne, Bool.true_beq, Bool.false_beq, Bool.false_eq_true, Bool.true_eq_false, reduceCtorEq, Bool.not_eq_true', Bool.not_eq_false', beq_iff_eq, bne_iff_ne, beq_eq_false_iff_ne, bne_eq_false_iff_eq, cmpOf] at hc'); try (exfalso; omega)))
      | (
        apply AWP.drawA
        repeat' (first
          | (apply DL.cons; (try (apply OpLoc.on; exact rfl; exact rfl; exact rfl; exact rfl; (first | exact rfl | assumption))); apply ol_ev (τ := τ); exact rfl; (first | exact hck | exact hmx | exact hmy | exact hdx | exact hdy | exact rdivN | exact rsign | exact rsub | exact rmul); exact rfl; exact rfl)
          | (apply DL.cons; exact olA; exact rfl)
          | (apply DL.nil; kernel_rfl)
          | (refine DL.split rfl rfl rfl rfl (fun hb => ?_) (fun hb => ?_) <;> have hb' := hb <;> (try simp only [decide_eq_true_eq, decide_eq_false_iff_not, Bool.not_true, Bool.not_false, bne_self_eq_false, beq_self_eq_true, ne_self_iff_false, Bool.true_bne, Bool.false_bne, Bool.true_beq, Bool.false_beq, Bool.false_eq_true, Bool.true_eq_false, reduceCtorEq, Bool.not_eq_true', Bool.not_eq_false', beq_iff_eq, bne_iff_ne, beq_eq_false_iff_ne, bne_eq_false_iff_eq, cmpOf] at hb') <;> try (exfalso; omega)))
        all_goals (fail_if_success apply DL.id))
      | (refine RunL.split rfl rfl rfl rfl (fun hb => ?_) (fun hb => ?_) <;> have hb' := hb <;> (try simp only [decide_eq_true_eq, decide_eq_false_iff_not, Bool.not_true, Bool.not_false, bne_self_eq_false, beq_self_eq_true, ne_self_iff_false, Bool.true_bne, Bool.false_bne, Bool.true_beq, Bool.false_beq, Bool.false_eq_true, Bool.true_eq_false, reduceCtorEq, Bool.not_eq_true', Bool.not_eq_false', beq_iff_eq, bne_iff_ne, beq_eq_false_iff_ne, bne_eq_false_iff_eq, cmpOf] at hb') <;> try (exfalso; omega))
      )
    all_goals
      apply Ends.mk (.cons (.cellA (τ := τ) rfl rfl rfl rfl rfl) (.cons (.tmp rfl) .nil))
      rfl
theorem kSpread1 (x y : List Int) (he : anchE x y = 0) (hd1 : devQ (fn x) x.length ≠ 0) (hd2 : devQ (fn y) y.length ≠ 0) : Evals Tryz.prog 19 [.ints .i64 x, .ints .i64 y]
    (.tup [linkD (devQ (fn y) y.length / devQ (fn x) x.length) (meanQ (fn y) y.length - devQ (fn y) y.length / devQ (fn x) x.length * meanQ (fn x) x.length), .int .i64 0]) := by
  have hck := kcheck x y
  rw [he] at hck
  obtain ⟨e1, e2, e3, e4, e5⟩ := anchE_zero he
  have hmx := kmean x e4 e3 e1
  have hmy := kmean y e5 (by omega) (by omega)
  have hdx := kdev x e4 e3 e1
  have hdy := kdev y e5 (by omega) (by omega)
  have zx := mean_sz e4 e1
  have zy := mean_sz e5 (by omega)
  have wx := dev_sz e4 e1
  have wy := dev_sz e5 (by omega)
  generalize meanQ (fn x) x.length = mx at *
  generalize meanQ (fn y) y.length = my at *
  generalize devQ (fn x) x.length = dx at *
  generalize devQ (fn y) y.length = dy at *
  have cx := cmpQ_zero dx 0
  have cy := cmpQ_zero dy 0
  refine evals_of_awp Tryz.func19 rfl (CallOK.of Tryz.func19 (by kernel_rfl) rfl) (Nat.le_of_ble_eq_true rfl) ?_
  rintro w R hR ⟨vs, hv⟩
  have g1 : cmpQ dx 0 ≠ 0 := fun h => hd1 (cx.1 h)
  have g2 : cmpQ dy 0 ≠ 0 := fun h => hd2 (cy.1 h)
  repeat' (first
    | (apply RunL.step; exact rfl; first
      | fail)
    | (apply RunL.step; exact rfl; apply op_ev (τ := τ); exact rfl; (first | exact hck | exact hmx | exact hmy | exact hdx | exact hdy | exact rdivN | exact rsign | exact rsub | exact rmul); exact rfl)
    | (apply RunL.step; exact rfl; exact opA)
    | (apply RunL.hand; exact rfl; exact rfl; exact lenA; exact rfl)
    | (apply AWP.seq)
    | (apply AWP.region; exact rfl)
    | (apply AWP.block)
    | (apply AWP.skip)
    | (apply AWP.exit)
    | (apply AWP.retF; exact rfl; exact rfl; exact rfl; exact rfl; exact lenA; exact rfl)
    | (apply AWP.ret)
    | (apply RunL.nil)
    | (apply RunL.on; exact rfl; exact rfl; exact rfl; exact rfl; (first | exact rfl | assumption))
    | (apply RunL.noU; exact rfl; exact rfl; exact rfl; exact rfl; exact rfl; exact rfl)
    | (apply RunL.no; exact rfl; exact rfl; exact rfl; exact rfl; (first | exact rfl | assumption); exact rfl; exact rfl)
    | (refine AWP.cond _ (Rd.of rfl) (fun hc => ?_) (fun hc => ?_) <;> first | (exfalso; cases hc; done) | (have hc' := hc; (try simp only [decide_eq_true_eq, decide_eq_false_iff_not, Bool.not_true, Bool.not_false, bne_self_eq_false, beq_self_eq_true, ne_self_iff_false, Bool.true_bne, Bool.false_bne, Bool.true_beq, Bool.false_beq, Bool.false_eq_true, Bool.true_eq_false, reduceCtorEq, Bool.not_eq_true', Bool.not_eq_false', beq_iff_eq, bne_iff_ne, beq_eq_false_iff_ne, bne_eq_false_iff_eq, cmpOf] at hc'); try (exfalso; omega)))
    | (
      apply AWP.drawA
      repeat' (first
        | (apply DL.cons; (try (apply OpLoc.on; exact rfl; exact rfl; exact rfl; exact rfl; (first | exact rfl | assumption))); apply ol_ev (τ := τ); exact rfl; (first | exact hck | exact hmx | exact hmy | exact hdx | exact hdy | exact rdivN | exact rsign | exact rsub | exact rmul); exact rfl; exact rfl)
        | (apply DL.cons; exact olA; exact rfl)
        | (apply DL.nil; kernel_rfl)
        | (refine DL.split rfl rfl rfl rfl (fun hb => ?_) (fun hb => ?_) <;> have hb' := hb <;> (try simp only [decide_eq_true_eq, decide_eq_false_iff_not, Bool.not_true, Bool.not_false, bne_self_eq_false, beq_self_eq_true, ne_self_iff_false, Bool.true_bne, Bool.false_bne, Bool.true_beq, Bool.false_beq, Bool.false_eq_true, Bool.true_eq_false, reduceCtorEq, Bool.not_eq_true', Bool.not_eq_false', beq_iff_eq, bne_iff_ne, beq_eq_false_iff_ne, bne_eq_false_iff_eq, cmpOf] at hb') <;> try (exfalso; omega)))
      all_goals (fail_if_success apply DL.id))
    | (refine RunL.split rfl rfl rfl rfl (fun hb => ?_) (fun hb => ?_) <;> have hb' := hb <;> (try simp only [decide_eq_true_eq, decide_eq_false_iff_not, Bool.not_true, Bool.not_false, bne_self_eq_false, beq_self_eq_true, ne_self_iff_false, Bool.true_bne, Bool.false_bne, Bool.true_beq, Bool.false_beq, Bool.false_eq_true, Bool.true_eq_false, reduceCtorEq, Bool.not_eq_true', Bool.not_eq_false', beq_iff_eq, bne_iff_ne, beq_eq_false_iff_ne, bne_eq_false_iff_eq, cmpOf] at hb') <;> try (exfalso; omega))
    )
  all_goals
    apply Ends.mk (.cons (.cellA (τ := τ) rfl rfl rfl rfl rfl) (.cons (.tmp rfl) .nil))
    rfl
section
variable {s s' : Bool} {l d l' d' : List Int} {A B : Rat} {k m : Nat}
theorem kLoss0 (x y : List Int) (he : anchE x y ≠ 0) : Evals Tryz.prog 21 [.agg [.bool s, .ints .u32 l, .ints .u32 d, .bool s', .ints .u32 l', .ints .u32 d'], .ints .i64 x, .ints .i64 y] (.tup [.agg ratC0, .int .i64 (anchE x y)]) := by
  have hck := kcheck x y
  generalize anchE x y = e at *
  refine evals_of_awp Tryz.func21 rfl (CallOK.of Tryz.func21 (by kernel_rfl) rfl) (Nat.le_of_ble_eq_true rfl) ?_
  rintro w R hR ⟨vs, hv⟩
  repeat' (first
    | (apply RunL.step; exact rfl; first
      | fail)
    | (apply RunL.step; exact rfl; apply op_ev (τ := τ); exact rfl; (first | exact hck | exact hlo); exact rfl)
    | (apply RunL.step; exact rfl; exact opA)
    | (apply RunL.hand; exact rfl; exact rfl; exact lenA; exact rfl)
    | (apply AWP.seq)
    | (apply AWP.region; exact rfl)
    | (apply AWP.block)
    | (apply AWP.skip)
    | (apply AWP.exit)
    | (apply AWP.retF; exact rfl; exact rfl; exact rfl; exact rfl; exact lenA; exact rfl)
    | (apply AWP.ret)
    | (apply RunL.nil)
    | (apply RunL.on; exact rfl; exact rfl; exact rfl; exact rfl; (first | exact rfl | assumption))
    | (apply RunL.noU; exact rfl; exact rfl; exact rfl; exact rfl; exact rfl; exact rfl)
    | (apply RunL.no; exact rfl; exact rfl; exact rfl; exact rfl; (first | exact rfl | assumption); exact rfl; exact rfl)
    | (refine AWP.cond _ (Rd.of rfl) (fun hc => ?_) (fun hc => ?_) <;> first | (exfalso; cases hc; done) | (have hc' := hc; (try simp only [decide_eq_true_eq, decide_eq_false_iff_not, Bool.not_true, Bool.not_false, bne_self_eq_false, beq_self_eq_true, ne_self_iff_false, Bool.true_bne, Bool.false_bne, Bool.true_beq, Bool.false_beq, Bool.false_eq_true, Bool.true_eq_false, reduceCtorEq, Bool.not_eq_true', Bool.not_eq_false', beq_iff_eq, bne_iff_ne, beq_eq_false_iff_ne, bne_eq_false_iff_eq, cmpOf] at hc'); try (exfalso; omega)))
    | (
      apply AWP.drawA
      repeat' (first
        | (apply DL.cons; (try (apply OpLoc.on; exact rfl; exact rfl; exact rfl; exact rfl; (first | exact rfl | assumption))); apply ol_ev (τ := τ); exact rfl; (first | exact hck | exact hlo); exact rfl; exact rfl)
        | (apply DL.cons; exact olA; exact rfl)
        | (apply DL.nil; kernel_rfl)
        | (refine DL.split rfl rfl rfl rfl (fun hb => ?_) (fun hb => ?_) <;> have hb' := hb <;> (try simp only [decide_eq_true_eq, decide_eq_false_iff_not, Bool.not_true, Bool.not_false, bne_self_eq_false, beq_self_eq_true, ne_self_iff_false, Bool.true_bne, Bool.false_bne, Bool.true_beq, Bool.false_beq, Bool.false_eq_true, Bool.true_eq_false, reduceCtorEq, Bool.not_eq_true', Bool.not_eq_false', beq_iff_eq, bne_iff_ne, beq_eq_false_iff_ne, bne_eq_false_iff_eq, cmpOf] at hb') <;> try (exfalso; omega)))
      all_goals (fail_if_success apply DL.id))
    | (refine RunL.split rfl rfl rfl rfl (fun hb => ?_) (fun hb => ?_) <;> have hb' := hb <;> (try simp only [decide_eq_true_eq, decide_eq_false_iff_not, Bool.not_true, Bool.not_false, bne_self_eq_false, beq_self_eq_true, ne_self_iff_false, Bool.true_bne, Bool.false_bne, Bool.true_beq, Bool.false_beq, Bool.false_eq_true, Bool.true_eq_false, reduceCtorEq, Bool.not_eq_true', Bool.not_eq_false', beq_iff_eq, bne_iff_ne, beq_eq_false_iff_ne, bne_eq_false_iff_eq, cmpOf] at hb') <;> try (exfalso; omega))
    )
  apply Ends.mk (.cons (.cellA (τ := τ) rfl rfl rfl rfl rfl) (.cons (.tmp rfl) .nil))
  rfl
theorem kLoss1 [h : RA s l d A k] [h' : RA s' l' d' B m] (x y : List Int) (he : anchE x y = 0) (hk : k + m ≤ 10000000 := by first | omega | (simp only [List.length_cons, List.length_nil, List.length_set, List.length_replicate, List.length_append, List.length_take, List.length_drop]; omega)) : Evals Tryz.prog 21 [.agg [.bool s, .ints .u32 l, .ints .u32 d, .bool s', .ints .u32 l', .ints .u32 d'], .ints .i64 x, .ints .i64 y] (.tup [ratD (lossQ A B (fn x) (fn y) x.length), .int .i64 0]) := by
  have hck := kcheck x y
  rw [he] at hck
  obtain ⟨e1, e2, e3, e4, e5⟩ := anchE_zero he
  have hlo := kloss0 (h := h) (h' := h') x y e2 e1
  generalize lossQ A B (fn x) (fn y) x.length = q at *
  refine evals_of_awp Tryz.func21 rfl (CallOK.of Tryz.func21 (by kernel_rfl) rfl) (Nat.le_of_ble_eq_true rfl) ?_
  rintro w R hR ⟨vs, hv⟩
  repeat' (first
    | (apply RunL.step; exact rfl; first
      | fail)
    | (apply RunL.step; exact rfl; apply op_ev (τ := τ); exact rfl; (first | exact hck | exact hlo); exact rfl)
    | (apply RunL.step; exact rfl; exact opA)
    | (apply RunL.hand; exact rfl; exact rfl; exact lenA; exact rfl)
    | (apply AWP.seq)
    | (apply AWP.region; exact rfl)
    | (apply AWP.block)
    | (apply AWP.skip)
    | (apply AWP.exit)
    | (apply AWP.retF; exact rfl; exact rfl; exact rfl; exact rfl; exact lenA; exact rfl)
    | (apply AWP.ret)
    | (apply RunL.nil)
    | (apply RunL.on; exact rfl; exact rfl; exact rfl; exact rfl; (first | exact rfl | assumption))
    | (apply RunL.noU; exact rfl; exact rfl; exact rfl; exact rfl; exact rfl; exact rfl)
    | (apply RunL.no; exact rfl; exact rfl; exact rfl; exact rfl; (first | exact rfl | assumption); exact rfl; exact rfl)
    | (refine AWP.cond _ (Rd.of rfl) (fun hc => ?_) (fun hc => ?_) <;> first | (exfalso; cases hc; done) | (have hc' := hc; (try simp only [decide_eq_true_eq, decide_eq_false_iff_not, Bool.not_true, Bool.not_false, bne_self_eq_false, beq_self_eq_true, ne_self_iff_false, Bool.true_bne, Bool.false_bne, Bool.true_beq, Bool.false_beq, Bool.false_eq_true, Bool.true_eq_false, reduceCtorEq, Bool.not_eq_true', Bool.not_eq_false', beq_iff_eq, bne_iff_ne, beq_eq_false_iff_ne, bne_eq_false_iff_eq, cmpOf] at hc'); try (exfalso; omega)))
    | (
      apply AWP.drawA
      repeat' (first
        | (apply DL.cons; (try (apply OpLoc.on; exact rfl; exact rfl; exact rfl; exact rfl; (first | exact rfl | assumption))); apply ol_ev (τ := τ); exact rfl; (first | exact hck | exact hlo); exact rfl; exact rfl)
        | (apply DL.cons; exact olA; exact rfl)
        | (apply DL.nil; kernel_rfl)
        | (refine DL.split rfl rfl rfl rfl (fun hb => ?_) (fun hb => ?_) <;> have hb' := hb <;> (try simp only [decide_eq_true_eq, decide_eq_false_iff_not, Bool.not_true, Bool.not_false, bne_self_eq_false, beq_self_eq_true, ne_self_iff_false, Bool.true_bne, Bool.false_bne, Bool.true_beq, Bool.false_beq, Bool.false_eq_true, Bool.true_eq_false, reduceCtorEq, Bool.not_eq_true', Bool.not_eq_false', beq_iff_eq, bne_iff_ne, beq_eq_false_iff_ne, bne_eq_false_iff_eq, cmpOf] at hb') <;> try (exfalso; omega)))
      all_goals (fail_if_success apply DL.id))
    | (refine RunL.split rfl rfl rfl rfl (fun hb => ?_) (fun hb => ?_) <;> have hb' := hb <;> (try simp only [decide_eq_true_eq, decide_eq_false_iff_not, Bool.not_true, Bool.not_false, bne_self_eq_false, beq_self_eq_true, ne_self_iff_false, Bool.true_bne, Bool.false_bne, Bool.true_beq, Bool.false_beq, Bool.false_eq_true, Bool.true_eq_false, reduceCtorEq, Bool.not_eq_true', Bool.not_eq_false', beq_iff_eq, bne_iff_ne, beq_eq_false_iff_ne, bne_eq_false_iff_eq, cmpOf] at hb') <;> try (exfalso; omega))
    )
  apply Ends.mk (.cons (.cellA (τ := τ) rfl rfl rfl rfl rfl) (.cons (.tmp rfl) .nil))
  rfl
end
/-- links of limited size -/
structure LkOK (M : List Lk) (K : Nat) : Prop where
  len : ∀ p ∈ M, (p.1.2.1.length ≤ K ∧ p.1.2.2.length ≤ K) ∧ p.2.2.1.length ≤ K ∧ p.2.2.2.length ≤ K
  lim : ∀ p ∈ M, (Lim p.1.2.1 ∧ Lim p.1.2.2) ∧ Lim p.2.2.1 ∧ Lim p.2.2.2
theorem LkOK.A {M : List Lk} {K : Nat} (h : LkOK M K) {p : Lk} (hp : p ∈ M) : RA p.1.1 p.1.2.1 p.1.2.2 (lA p) K := ⟨rfl, (h.len p hp).1.1, (h.len p hp).1.2⟩
theorem LkOK.B {M : List Lk} {K : Nat} (h : LkOK M K) {p : Lk} (hp : p ∈ M) : RA p.2.1 p.2.2.1 p.2.2.2 (lB p) K := ⟨rfl, (h.len p hp).2.1, (h.len p hp).2.2⟩
theorem LkOK.szA {M : List Lk} {K : Nat} (h : LkOK M K) {p : Lk} (hp : p ∈ M) : SzR (lA p) (K + 1) := (h.A hp).sz (h.lim p hp).1.1 (h.lim p hp).1.2
theorem LkOK.szB {M : List Lk} {K : Nat} (h : LkOK M K) {p : Lk} (hp : p ∈ M) : SzR (lB p) (K + 1) := (h.B hp).sz (h.lim p hp).2.1 (h.lim p hp).2.2
theorem at_some {α : Type} {l : List α} {i : Int} (h0 : 0 ≤ i) (h : i < l.length) : ∃ x, l[i.toNat]? = some x := ⟨l[i.toNat]'(by omega), by simp⟩
def allV (M : List Lk) : Prop := ∀ p ∈ M, 0 < lA p
theorem posQ (x : Rat) : decide (0 < cmpQ x 0) = decide (0 < x) := by
  have : 0 < cmpQ x 0 ↔ 0 < x := by rcases cmpQ_cases x 0 with ⟨g1, g2⟩ | ⟨g1, g2⟩ | ⟨g1, g2⟩ <;> constructor <;> intro h <;> first | omega | grind
  exact decide_eq_decide.2 this
theorem kallT (M : List Lk) {K : Nat} (hM : LkOK M K) (hl : M.length ≤ 1048576) (hk : K ≤ 1048576) (hV : allV M) : Evals Tryz.prog 54 [.sl 6 (M.map rowL)] (.bool true) := by
  refine evals_of_awp Tryz.func54 rfl (CallOK.of Tryz.func54 (by kernel_rfl) rfl) (Nat.le_of_ble_eq_true rfl) ?_
  rintro w R hR ⟨vs, hv⟩
  have hml : (M.map rowL).length = M.length := by simp
  repeat' (first
    | (apply RunL.step; exact rfl; first
      | fail)
    | (apply RunL.step; exact rfl; apply op_ev (τ := τ); exact rfl; (first | exact hva); exact rfl)
    | (apply RunL.step; exact rfl; exact opA)
    | (apply RunL.hand; exact rfl; exact rfl; exact lenA; exact rfl)
    | (apply AWP.seq)
    | (apply AWP.region; exact rfl)
    | (apply AWP.block)
    | (apply AWP.skip)
    | (apply AWP.exit)
    | (apply AWP.retF; exact rfl; exact rfl; exact rfl; exact rfl; exact lenA; exact rfl)
    | (apply AWP.ret)
    | (apply RunL.nil)
    | (apply RunL.on; exact rfl; exact rfl; exact rfl; exact rfl; (first | exact rfl | assumption))
    | (apply RunL.noU; exact rfl; exact rfl; exact rfl; exact rfl; exact rfl; exact rfl)
    | (apply RunL.no; exact rfl; exact rfl; exact rfl; exact rfl; (first | exact rfl | assumption); exact rfl; exact rfl)
    | (refine AWP.cond _ (Rd.of rfl) (fun hc => ?_) (fun hc => ?_) <;> first | (exfalso; cases hc; done) | (have hc' := hc; (try simp only [decide_eq_true_eq, decide_eq_false_iff_not, Bool.not_true, Bool.not_false, bne_self_eq_false, beq_self_eq_true, ne_self_iff_false, Bool.true_bne, Bool.false_bne, Bool.true_beq, Bool.false_beq, Bool.false_eq_true, Bool.true_eq_false, reduceCtorEq, Bool.not_eq_true', Bool.not_eq_false', beq_iff_eq, bne_iff_ne, beq_eq_false_iff_ne, bne_eq_false_iff_eq, cmpOf] at hc'); try (exfalso; omega)))
    | (
      apply AWP.drawA
      repeat' (first
        | (apply DL.cons; (try (apply OpLoc.on; exact rfl; exact rfl; exact rfl; exact rfl; (first | exact rfl | assumption))); apply ol_ev (τ := τ); exact rfl; (first | exact hva); exact rfl; exact rfl)
        | (apply DL.cons; exact olA; exact rfl)
        | (apply DL.nil; kernel_rfl)
        | (refine DL.split rfl rfl rfl rfl (fun hb => ?_) (fun hb => ?_) <;> have hb' := hb <;> (try simp only [decide_eq_true_eq, decide_eq_false_iff_not, Bool.not_true, Bool.not_false, bne_self_eq_false, beq_self_eq_true, ne_self_iff_false, Bool.true_bne, Bool.false_bne, Bool.true_beq, Bool.false_beq, Bool.false_eq_true, Bool.true_eq_false, reduceCtorEq, Bool.not_eq_true', Bool.not_eq_false', beq_iff_eq, bne_iff_ne, beq_eq_false_iff_ne, bne_eq_false_iff_eq, cmpOf] at hb') <;> try (exfalso; omega)))
      all_goals (fail_if_success apply DL.id))
    | (refine RunL.split rfl rfl rfl rfl (fun hb => ?_) (fun hb => ?_) <;> have hb' := hb <;> (try simp only [decide_eq_true_eq, decide_eq_false_iff_not, Bool.not_true, Bool.not_false, bne_self_eq_false, beq_self_eq_true, ne_self_iff_false, Bool.true_bne, Bool.false_bne, Bool.true_beq, Bool.false_beq, Bool.false_eq_true, Bool.true_eq_false, reduceCtorEq, Bool.not_eq_true', Bool.not_eq_false', beq_iff_eq, bne_iff_ne, beq_eq_false_iff_ne, bne_eq_false_iff_eq, cmpOf] at hb') <;> try (exfalso; omega))
    )
  refine AWP.loop (ι := Int) (fun i => ⟨[(5, .val (.sl 6 (M.map rowL))), (6, .val (.int .i64 (M.map rowL).length)), (7, .val (.int .i64 i))], []⟩) (fun i => 0 ≤ i ∧ i ≤ M.length) (fun i => (M.length - i).toNat) 0 ⟨by omega, by omega⟩ (St.Le.of (by repeat' (first | exact all_nil | refine all_cons rfl ?_)) (by repeat' (first | exact all_nil | refine all_cons rfl ?_))) ?_
  rintro i ⟨k1, k2⟩
  by_cases hi : i < M.length
  · obtain ⟨p, hp⟩ := at_some k1 hi
    have hrow : (M.map rowL)[i.toNat]? = some [.bool p.1.1, .ints .u32 p.1.2.1, .ints .u32 p.1.2.2, .bool p.2.1, .ints .u32 p.2.2.1, .ints .u32 p.2.2.2] := by simp [hp]
    have hm := List.mem_of_getElem? hp
    have hva := kvalid (h := hM.A hm) (h' := hM.B hm)
    rw [posQ, decide_eq_true (hV p hm)] at hva
    repeat' (first
      | (apply RunL.step; exact rfl; first
        | fail)
      | (apply RunL.step; exact rfl; apply op_ev (τ := τ); exact rfl; (first | exact hva); exact rfl)
      | (apply RunL.step; exact rfl; exact opA)
      | (apply RunL.hand; exact rfl; exact rfl; exact lenA; exact rfl)
      | (apply AWP.seq)
      | (apply AWP.region; exact rfl)
      | (apply AWP.block)
      | (apply AWP.skip)
      | (apply AWP.exit)
      | (apply AWP.retF; exact rfl; exact rfl; exact rfl; exact rfl; exact lenA; exact rfl)
      | (apply AWP.ret)
      | (apply RunL.nil)
      | (apply RunL.on; exact rfl; exact rfl; exact rfl; exact rfl; (first | exact rfl | assumption))
      | (apply RunL.noU; exact rfl; exact rfl; exact rfl; exact rfl; exact rfl; exact rfl)
      | (apply RunL.no; exact rfl; exact rfl; exact rfl; exact rfl; (first | exact rfl | assumption); exact rfl; exact rfl)
      | (refine AWP.cond _ (Rd.of rfl) (fun hc => ?_) (fun hc => ?_) <;> first | (exfalso; cases hc; done) | (have hc' := hc; (try simp only [decide_eq_true_eq, decide_eq_false_iff_not, Bool.not_true, Bool.not_false, bne_self_eq_false, beq_self_eq_true, ne_self_iff_false, Bool.true_bne, Bool.false_bne, Bool.true_beq, Bool.false_beq, Bool.false_eq_true, Bool.true_eq_false, reduceCtorEq, Bool.not_eq_true', Bool.not_eq_false', beq_iff_eq, bne_iff_ne, beq_eq_false_iff_ne, bne_eq_false_iff_eq, cmpOf] at hc'); try (exfalso; omega)))
      | (
        apply AWP.drawA
        repeat' (first
          | (apply DL.cons; (try (apply OpLoc.on; exact rfl; exact rfl; exact rfl; exact rfl; (first | exact rfl | assumption))); apply ol_ev (τ := τ); exact rfl; (first | exact hva); exact rfl; exact rfl)
          | (apply DL.cons; exact olA; exact rfl)
          | (apply DL.nil; kernel_rfl)
          | (refine DL.split rfl rfl rfl rfl (fun hb => ?_) (fun hb => ?_) <;> have hb' := hb <;> (try simp only [decide_eq_true_eq, decide_eq_false_iff_not, Bool.not_true, Bool.not_false, bne_self_eq_false, beq_self_eq_true, ne_self_iff_false, Bool.true_bne, Bool.false_bne, Bool.true_beq, Bool.false_beq, Bool.false_eq_true, Bool.true_eq_false, reduceCtorEq, Bool.not_eq_true', Bool.not_eq_false', beq_iff_eq, bne_iff_ne, beq_eq_false_iff_ne, bne_eq_false_iff_eq, cmpOf] at hb') <;> try (exfalso; omega)))
        all_goals (fail_if_success apply DL.id))
      | (refine RunL.split rfl rfl rfl rfl (fun hb => ?_) (fun hb => ?_) <;> have hb' := hb <;> (try simp only [decide_eq_true_eq, decide_eq_false_iff_not, Bool.not_true, Bool.not_false, bne_self_eq_false, beq_self_eq_true, ne_self_iff_false, Bool.true_bne, Bool.false_bne, Bool.true_beq, Bool.false_beq, Bool.false_eq_true, Bool.true_eq_false, reduceCtorEq, Bool.not_eq_true', Bool.not_eq_false', beq_iff_eq, bne_iff_ne, beq_eq_false_iff_ne, bne_eq_false_iff_eq, cmpOf] at hb') <;> try (exfalso; omega))
      )
    all_goals
      exact ⟨_, St.Le.of (by repeat' (first | exact all_nil | refine all_cons rfl ?_)) (by repeat' (first | exact all_nil | refine all_cons rfl ?_)), ⟨by omega, by omega⟩, by omega⟩
  · repeat' (first
      | (apply RunL.step; exact rfl; first
        | fail)
      | (apply RunL.step; exact rfl; apply op_ev (τ := τ); exact rfl; (first | exact hva); exact rfl)
      | (apply RunL.step; exact rfl; exact opA)
      | (apply RunL.hand; exact rfl; exact rfl; exact lenA; exact rfl)
      | (apply AWP.seq)
      | (apply AWP.region; exact rfl)
      | (apply AWP.block)
      | (apply AWP.skip)
      | (apply AWP.exit)
      | (apply AWP.retF; exact rfl; exact rfl; exact rfl; exact rfl; exact lenA; exact rfl)
      | (apply AWP.ret)
      | (apply RunL.nil)
      | (apply RunL.on; exact rfl; exact rfl; exact rfl; exact rfl; (first | exact rfl | assumption))
      | (apply RunL.noU; exact rfl; exact rfl; exact rfl; exact rfl; exact rfl; exact rfl)
      | (apply RunL.no; exact rfl; exact rfl; exact rfl; exact rfl; (first | exact rfl | assumption); exact rfl; exact rfl)
      | (refine AWP.cond _ (Rd.of rfl) (fun hc => ?_) (fun hc => ?_) <;> first | (exfalso; cases hc; done) | (have hc' := hc; (try simp only [decide_eq_true_eq, decide_eq_false_iff_not, Bool.not_true, Bool.not_false, bne_self_eq_false, beq_self_eq_true, ne_self_iff_false, Bool.true_bne, Bool.false_bne, Bool.true_beq, Bool.false_beq, Bool.false_eq_true, Bool.true_eq_false, reduceCtorEq, Bool.not_eq_true', Bool.not_eq_false', beq_iff_eq, bne_iff_ne, beq_eq_false_iff_ne, bne_eq_false_iff_eq, cmpOf] at hc'); try (exfalso; omega)))
      | (
        apply AWP.drawA
        repeat' (first
          | (apply DL.cons; (try (apply OpLoc.on; exact rfl; exact rfl; exact rfl; exact rfl; (first | exact rfl | assumption))); apply ol_ev (τ := τ); exact rfl; (first | exact hva); exact rfl; exact rfl)
          | (apply DL.cons; exact olA; exact rfl)
          | (apply DL.nil; kernel_rfl)
          | (refine DL.split rfl rfl rfl rfl (fun hb => ?_) (fun hb => ?_) <;> have hb' := hb <;> (try simp only [decide_eq_true_eq, decide_eq_false_iff_not, Bool.not_true, Bool.not_false, bne_self_eq_false, beq_self_eq_true, ne_self_iff_false, Bool.true_bne, Bool.false_bne, Bool.true_beq, Bool.false_beq, Bool.false_eq_true, Bool.true_eq_false, reduceCtorEq, Bool.not_eq_true', Bool.not_eq_false', beq_iff_eq, bne_iff_ne, beq_eq_false_iff_ne, bne_eq_false_iff_eq, cmpOf] at hb') <;> try (exfalso; omega)))
        all_goals (fail_if_success apply DL.id))
      | (refine RunL.split rfl rfl rfl rfl (fun hb => ?_) (fun hb => ?_) <;> have hb' := hb <;> (try simp only [decide_eq_true_eq, decide_eq_false_iff_not, Bool.not_true, Bool.not_false, bne_self_eq_false, beq_self_eq_true, ne_self_iff_false, Bool.true_bne, Bool.false_bne, Bool.true_beq, Bool.false_beq, Bool.false_eq_true, Bool.true_eq_false, reduceCtorEq, Bool.not_eq_true', Bool.not_eq_false', beq_iff_eq, bne_iff_ne, beq_eq_false_iff_ne, bne_eq_false_iff_eq, cmpOf] at hb') <;> try (exfalso; omega))
      )
    all_goals
      (apply Ends.mk (.cons (.tmp rfl) .nil); first | rfl | (simp only [pack]; congr 1; simp only [cmpOf, decide_eq_true_eq, beq_iff_eq, bne_iff_ne]; omega))
theorem kallF (M : List Lk) {K : Nat} (hM : LkOK M K) (hl : M.length ≤ 1048576) (hk : K ≤ 1048576) (hV : ¬ allV M) : Evals Tryz.prog 54 [.sl 6 (M.map rowL)] (.bool false) := by
  refine evals_of_awp Tryz.func54 rfl (CallOK.of Tryz.func54 (by kernel_rfl) rfl) (Nat.le_of_ble_eq_true rfl) ?_
  rintro w R hR ⟨vs, hv⟩
  have hml : (M.map rowL).length = M.length := by simp
  repeat' (first
    | (apply RunL.step; exact rfl; first
      | fail)
    | (apply RunL.step; exact rfl; apply op_ev (τ := τ); exact rfl; (first | exact hva); exact rfl)
    | (apply RunL.step; exact rfl; exact opA)
    | (apply RunL.hand; exact rfl; exact rfl; exact lenA; exact rfl)
    | (apply AWP.seq)
    | (apply AWP.region; exact rfl)
    | (apply AWP.block)
    | (apply AWP.skip)
    | (apply AWP.exit)
    | (apply AWP.retF; exact rfl; exact rfl; exact rfl; exact rfl; exact lenA; exact rfl)
    | (apply AWP.ret)
    | (apply RunL.nil)
    | (apply RunL.on; exact rfl; exact rfl; exact rfl; exact rfl; (first | exact rfl | assumption))
    | (apply RunL.noU; exact rfl; exact rfl; exact rfl; exact rfl; exact rfl; exact rfl)
    | (apply RunL.no; exact rfl; exact rfl; exact rfl; exact rfl; (first | exact rfl | assumption); exact rfl; exact rfl)
    | (refine AWP.cond _ (Rd.of rfl) (fun hc => ?_) (fun hc => ?_) <;> first | (exfalso; cases hc; done) | (have hc' := hc; (try simp only [decide_eq_true_eq, decide_eq_false_iff_not, Bool.not_true, Bool.not_false, bne_self_eq_false, beq_self_eq_true, ne_self_iff_false, Bool.true_bne, Bool.false_bne, Bool.true_beq, Bool.false_beq, Bool.false_eq_true, Bool.true_eq_false, reduceCtorEq, Bool.not_eq_true', Bool.not_eq_false', beq_iff_eq, bne_iff_ne, beq_eq_false_iff_ne, bne_eq_false_iff_eq, cmpOf] at hc'); try (exfalso; omega)))
    | (
      apply AWP.drawA
      repeat' (first
        | (apply DL.cons; (try (apply OpLoc.on; exact rfl; exact rfl; exact rfl; exact rfl; (first | exact rfl | assumption))); apply ol_ev (τ := τ); exact rfl; (first | exact hva); exact rfl; exact rfl)
        | (apply DL.cons; exact olA; exact rfl)
        | (apply DL.nil; kernel_rfl)
        | (refine DL.split rfl rfl rfl rfl (fun hb => ?_) (fun hb => ?_) <;> have hb' := hb <;> (try simp only [decide_eq_true_eq, decide_eq_false_iff_not, Bool.not_true, Bool.not_false, bne_self_eq_false, beq_self_eq_true, ne_self_iff_false, Bool.true_bne, Bool.false_bne, Bool.true_beq, Bool.false_beq, Bool.false_eq_true, Bool.true_eq_false, reduceCtorEq, Bool.not_eq_true', Bool.not_eq_false', beq_iff_eq, bne_iff_ne, beq_eq_false_iff_ne, bne_eq_false_iff_eq, cmpOf] at hb') <;> try (exfalso; omega)))
      all_goals (fail_if_success apply DL.id))
    | (refine RunL.split rfl rfl rfl rfl (fun hb => ?_) (fun hb => ?_) <;> have hb' := hb <;> (try simp only [decide_eq_true_eq, decide_eq_false_iff_not, Bool.not_true, Bool.not_false, bne_self_eq_false, beq_self_eq_true, ne_self_iff_false, Bool.true_bne, Bool.false_bne, Bool.true_beq, Bool.false_beq, Bool.false_eq_true, Bool.true_eq_false, reduceCtorEq, Bool.not_eq_true', Bool.not_eq_false', beq_iff_eq, bne_iff_ne, beq_eq_false_iff_ne, bne_eq_false_iff_eq, cmpOf] at hb') <;> try (exfalso; omega))
    )
  refine AWP.loop (ι := Int) (fun i => ⟨[(5, .val (.sl 6 (M.map rowL))), (6, .val (.int .i64 (M.map rowL).length)), (7, .val (.int .i64 i))], []⟩) (fun i => 0 ≤ i ∧ i ≤ M.length ∧ ∀ j : Nat, (j : Int) < i → ∀ p, M[j]? = some p → 0 < lA p) (fun i => (M.length - i).toNat) 0 ⟨by omega, by omega, fun j hj => by omega⟩ (St.Le.of (by repeat' (first | exact all_nil | refine all_cons rfl ?_)) (by repeat' (first | exact all_nil | refine all_cons rfl ?_))) ?_
  rintro i ⟨k1, k2, k3⟩
  by_cases hi : i < M.length
  · obtain ⟨p, hp⟩ := at_some k1 hi
    have hrow : (M.map rowL)[i.toNat]? = some [.bool p.1.1, .ints .u32 p.1.2.1, .ints .u32 p.1.2.2, .bool p.2.1, .ints .u32 p.2.2.1, .ints .u32 p.2.2.2] := by simp [hp]
    have hm := List.mem_of_getElem? hp
    have hva := kvalid (h := hM.A hm) (h' := hM.B hm)
    rw [posQ] at hva
    by_cases hpos : 0 < lA p
    · rw [decide_eq_true hpos] at hva
      repeat' (first
        | (apply RunL.step; exact rfl; first
          | fail)
        | (apply RunL.step; exact rfl; apply op_ev (τ := τ); exact rfl; (first | exact hva); exact rfl)
        | (apply RunL.step; exact rfl; exact opA)
        | (apply RunL.hand; exact rfl; exact rfl; exact lenA; exact rfl)
        | (apply AWP.seq)
        | (apply AWP.region; exact rfl)
        | (apply AWP.block)
        | (apply AWP.skip)
        | (apply AWP.exit)
        | (apply AWP.retF; exact rfl; exact rfl; exact rfl; exact rfl; exact lenA; exact rfl)
        | (apply AWP.ret)
        | (apply RunL.nil)
        | (apply RunL.on; exact rfl; exact rfl; exact rfl; exact rfl; (first | exact rfl | assumption))
        | (apply RunL.noU; exact rfl; exact rfl; exact rfl; exact rfl; exact rfl; exact rfl)
        | (apply RunL.no; exact rfl; exact rfl; exact rfl; exact rfl; (first | exact rfl | assumption); exact rfl; exact rfl)
        | (refine AWP.cond _ (Rd.of rfl) (fun hc => ?_) (fun hc => ?_) <;> first | (exfalso; cases hc; done) | (have hc' := hc; (try simp only [decide_eq_true_eq, decide_eq_false_iff_not, Bool.not_true, Bool.not_false, bne_self_eq_false, beq_self_eq_true, ne_self_iff_false, Bool.true_bne, Bool.false_bne, Bool.true_beq, Bool.false_beq, Bool.false_eq_true, Bool.true_eq_false, reduceCtorEq, Bool.not_eq_true', Bool.not_eq_false', beq_iff_eq, bne_iff_ne, beq_eq_false_iff_ne, bne_eq_false_iff_eq, cmpOf] at hc'); try (exfalso; omega)))
        | (
          apply AWP.drawA
          repeat' (first
            | (apply DL.cons; (try (apply OpLoc.on; exact rfl; exact rfl; exact rfl; exact rfl; (first | exact rfl | assumption))); apply ol_ev (τ := τ); exact rfl; (first | exact hva); exact rfl; exact rfl)
            | (apply DL.cons; exact olA; exact rfl)
            | (apply DL.nil; kernel_rfl)
            | (refine DL.split rfl rfl rfl rfl (fun hb => ?_) (fun hb => ?_) <;> have hb' := hb <;> (try simp only [decide_eq_true_eq, decide_eq_false_iff_not, Bool.not_true, Bool.not_false, bne_self_eq_false, beq_self_eq_true, ne_self_iff_false, Bool.true_bne, Bool.false_bne, Bool.true_beq, Bool.false_beq, Bool.false_eq_true, Bool.true_eq_false, reduceCtorEq, Bool.not_eq_true', Bool.not_eq_false', beq_iff_eq, bne_iff_ne, beq_eq_false_iff_ne, bne_eq_false_iff_eq, cmpOf] at hb') <;> try (exfalso; omega)))
          all_goals (fail_if_success apply DL.id))
        | (refine RunL.split rfl rfl rfl rfl (fun hb => ?_) (fun hb => ?_) <;> have hb' := hb <;> (try simp only [decide_eq_true_eq, decide_eq_false_iff_not, Bool.not_true, Bool.not_false, bne_self_eq_false, beq_self_eq_true, ne_self_iff_false, Bool.true_bne, Bool.false_bne, Bool.true_beq, Bool.false_beq, Bool.false_eq_true, Bool.true_eq_false, reduceCtorEq, Bool.not_eq_true', Bool.not_eq_false', beq_iff_eq, bne_iff_ne, beq_eq_false_iff_ne, bne_eq_false_iff_eq, cmpOf] at hb') <;> try (exfalso; omega))
        )
      all_goals
        refine ⟨_, St.Le.of (by repeat' (first | exact all_nil | refine all_cons rfl ?_)) (by repeat' (first | exact all_nil | refine all_cons rfl ?_)), ⟨by omega, by omega, fun j hj q hq => ?_⟩, by omega⟩
        by_cases e : (j : Int) < i
        · exact k3 j e q hq
        · rw [show j = i.toNat by omega, hp] at hq
          cases hq
          exact hpos
    · rw [decide_eq_false hpos] at hva
      repeat' (first
        | (apply RunL.step; exact rfl; first
          | fail)
        | (apply RunL.step; exact rfl; apply op_ev (τ := τ); exact rfl; (first | exact hva); exact rfl)
        | (apply RunL.step; exact rfl; exact opA)
        | (apply RunL.hand; exact rfl; exact rfl; exact lenA; exact rfl)
        | (apply AWP.seq)
        | (apply AWP.region; exact rfl)
        | (apply AWP.block)
        | (apply AWP.skip)
        | (apply AWP.exit)
        | (apply AWP.retF; exact rfl; exact rfl; exact rfl; exact rfl; exact lenA; exact rfl)
        | (apply AWP.ret)
        | (apply RunL.nil)
        | (apply RunL.on; exact rfl; exact rfl; exact rfl; exact rfl; (first | exact rfl | assumption))
        | (apply RunL.noU; exact rfl; exact rfl; exact rfl; exact rfl; exact rfl; exact rfl)
        | (apply RunL.no; exact rfl; exact rfl; exact rfl; exact rfl; (first | exact rfl | assumption); exact rfl; exact rfl)
        | (refine AWP.cond _ (Rd.of rfl) (fun hc => ?_) (fun hc => ?_) <;> first | (exfalso; cases hc; done) | (have hc' := hc; (try simp only [decide_eq_true_eq, decide_eq_false_iff_not, Bool.not_true, Bool.not_false, bne_self_eq_false, beq_self_eq_true, ne_self_iff_false, Bool.true_bne, Bool.false_bne, Bool.true_beq, Bool.false_beq, Bool.false_eq_true, Bool.true_eq_false, reduceCtorEq, Bool.not_eq_true', Bool.not_eq_false', beq_iff_eq, bne_iff_ne, beq_eq_false_iff_ne, bne_eq_false_iff_eq, cmpOf] at hc'); try (exfalso; omega)))
        | (
          apply AWP.drawA
          repeat' (first
            | (apply DL.cons; (try (apply OpLoc.on; exact rfl; exact rfl; exact rfl; exact rfl; (first | exact rfl | assumption))); apply ol_ev (τ := τ); exact rfl; (first | exact hva); exact rfl; exact rfl)
            | (apply DL.cons; exact olA; exact rfl)
            | (apply DL.nil; kernel_rfl)
            | (refine DL.split rfl rfl rfl rfl (fun hb => ?_) (fun hb => ?_) <;> have hb' := hb <;> (try simp only [decide_eq_true_eq, decide_eq_false_iff_not, Bool.not_true, Bool.not_false, bne_self_eq_false, beq_self_eq_true, ne_self_iff_false, Bool.true_bne, Bool.false_bne, Bool.true_beq, Bool.false_beq, Bool.false_eq_true, Bool.true_eq_false, reduceCtorEq, Bool.not_eq_true', Bool.not_eq_false', beq_iff_eq, bne_iff_ne, beq_eq_false_iff_ne, bne_eq_false_iff_eq, cmpOf] at hb') <;> try (exfalso; omega)))
          all_goals (fail_if_success apply DL.id))
        | (refine RunL.split rfl rfl rfl rfl (fun hb => ?_) (fun hb => ?_) <;> have hb' := hb <;> (try simp only [decide_eq_true_eq, decide_eq_false_iff_not, Bool.not_true, Bool.not_false, bne_self_eq_false, beq_self_eq_true, ne_self_iff_false, Bool.true_bne, Bool.false_bne, Bool.true_beq, Bool.false_beq, Bool.false_eq_true, Bool.true_eq_false, reduceCtorEq, Bool.not_eq_true', Bool.not_eq_false', beq_iff_eq, bne_iff_ne, beq_eq_false_iff_ne, bne_eq_false_iff_eq, cmpOf] at hb') <;> try (exfalso; omega))
        )
      all_goals
        (apply Ends.mk (.cons (.tmp rfl) .nil); first | rfl | (simp only [pack]; congr 1; simp only [cmpOf, decide_eq_true_eq, beq_iff_eq, bne_iff_ne]; omega))
  · exfalso
    apply hV
    intro p hp
    obtain ⟨j, hj⟩ := List.mem_iff_getElem?.1 hp
    have := (List.getElem?_eq_some_iff.1 hj).1
    exact k3 j (by omega) p hj
set_option maxHeartbeats 1000000 in
theorem kChain1 (M : List Lk) {K : Nat} (hM : LkOK M K) (hk : K ≤ 1048576) (hl : M.length ≤ 60) (hV : allV M) : Evals Tryz.prog 25 [.sl 6 (M.map rowL)] (.tup [linkD (chQ M).1 (chQ M).2, .int .i64 0]) := by
  have hall := kallT M hM (by omega) hk hV
  refine evals_of_awp Tryz.func25 rfl (CallOK.of Tryz.func25 (by kernel_rfl) rfl) (Nat.le_of_ble_eq_true rfl) ?_
  rintro w R hR ⟨vs, hv⟩
  have hml : (M.map rowL).length = M.length := by simp
  have hsz := chQ_size (M := M) (K := K + 1) fun p hp => ⟨hM.szA hp, hM.szB hp⟩
  have one : ((1 : Int) : Rat) = 1 := rfl
  have zero : ((0 : Int) : Rat) = 0 := rfl
  repeat' (first
    | (apply RunL.step; exact rfl; first
      | fail)
    | (apply RunL.step; exact rfl; apply op_ev (τ := τ); exact rfl; (first | exact hall | exact kwhole _ | exact hcm); exact rfl)
    | (apply RunL.step; exact rfl; exact opA)
    | (apply RunL.hand; exact rfl; exact rfl; exact lenA; exact rfl)
    | (apply AWP.seq)
    | (apply AWP.region; exact rfl)
    | (apply AWP.block)
    | (apply AWP.skip)
    | (apply AWP.exit)
    | (apply AWP.retF; exact rfl; exact rfl; exact rfl; exact rfl; exact lenA; exact rfl)
    | (apply AWP.ret)
    | (apply RunL.nil)
    | (apply RunL.on; exact rfl; exact rfl; exact rfl; exact rfl; (first | exact rfl | assumption))
    | (apply RunL.noU; exact rfl; exact rfl; exact rfl; exact rfl; exact rfl; exact rfl)
    | (apply RunL.no; exact rfl; exact rfl; exact rfl; exact rfl; (first | exact rfl | assumption); exact rfl; exact rfl)
    | (refine AWP.cond _ (Rd.of rfl) (fun hc => ?_) (fun hc => ?_) <;> first | (exfalso; cases hc; done) | (have hc' := hc; (try simp only [decide_eq_true_eq, decide_eq_false_iff_not, Bool.not_true, Bool.not_false, bne_self_eq_false, beq_self_eq_true, ne_self_iff_false, Bool.true_bne, Bool.false_bne, Bool.true_beq, Bool.false_beq, Bool.false_eq_true, Bool.true_eq_false, reduceCtorEq, Bool.not_eq_true', Bool.not_eq_false', beq_iff_eq, bne_iff_ne, beq_eq_false_iff_ne, bne_eq_false_iff_eq, cmpOf] at hc'); try (exfalso; omega)))
    | (
      apply AWP.drawA
      repeat' (first
        | (apply DL.cons; (try (apply OpLoc.on; exact rfl; exact rfl; exact rfl; exact rfl; (first | exact rfl | assumption))); apply ol_ev (τ := τ); exact rfl; (first | exact hall | exact kwhole _ | exact hcm); exact rfl; exact rfl)
        | (apply DL.cons; exact olA; exact rfl)
        | (apply DL.nil; kernel_rfl)
        | (refine DL.split rfl rfl rfl rfl (fun hb => ?_) (fun hb => ?_) <;> have hb' := hb <;> (try simp only [decide_eq_true_eq, decide_eq_false_iff_not, Bool.not_true, Bool.not_false, bne_self_eq_false, beq_self_eq_true, ne_self_iff_false, Bool.true_bne, Bool.false_bne, Bool.true_beq, Bool.false_beq, Bool.false_eq_true, Bool.true_eq_false, reduceCtorEq, Bool.not_eq_true', Bool.not_eq_false', beq_iff_eq, bne_iff_ne, beq_eq_false_iff_ne, bne_eq_false_iff_eq, cmpOf] at hb') <;> try (exfalso; omega)))
      all_goals (fail_if_success apply DL.id))
    | (refine RunL.split rfl rfl rfl rfl (fun hb => ?_) (fun hb => ?_) <;> have hb' := hb <;> (try simp only [decide_eq_true_eq, decide_eq_false_iff_not, Bool.not_true, Bool.not_false, bne_self_eq_false, beq_self_eq_true, ne_self_iff_false, Bool.true_bne, Bool.false_bne, Bool.true_beq, Bool.false_beq, Bool.false_eq_true, Bool.true_eq_false, reduceCtorEq, Bool.not_eq_true', Bool.not_eq_false', beq_iff_eq, bne_iff_ne, beq_eq_false_iff_ne, bne_eq_false_iff_eq, cmpOf] at hb') <;> try (exfalso; omega))
    )
  refine AWP.loop3 (fun (i : Int) (a b : Rat) => ⟨[(2, .pb 2 0), (4, .pb 4 0), (18, .val (.sl 6 (M.map rowL))), (19, .val (.int .i64 (M.map rowL).length)), (20, .val (.int .i64 i))], [(2, .cells 29 [.bool false, .ints .u32 [], .ints .u32 [], .bool false, .ints .u32 [], .ints .u32 []]), (4, .cells 29 (ratCl a ++ ratCl b))]⟩)
    (fun i a b => 0 ≤ i ∧ i ≤ M.length ∧ a = (chQ (M.take i.toNat)).1 ∧ b = (chQ (M.take i.toNat)).2) (fun i _ _ => (M.length - i).toNat) 0 ((1 : Int) : Rat) ((0 : Int) : Rat) ⟨by omega, by omega, rfl, rfl⟩ (St.Le.of (by repeat' (first | exact all_nil | refine all_cons rfl ?_)) (by repeat' (first | exact all_nil | refine all_cons rfl ?_))) ?_
  rintro i a b ⟨k1, k2, k3, k4⟩
  obtain ⟨w1, w2⟩ := hsz i.toNat (by omega)
  rw [← k3] at w1
  rw [← k4] at w2
  have m1 : i.toNat * (K + 1) ≤ 60 * (K + 1) := Nat.mul_le_mul_right _ (by omega)
  have m2 : i.toNat * (2 * (K + 1) + 1) ≤ 60 * (2 * (K + 1) + 1) := Nat.mul_le_mul_right _ (by omega)
  by_cases hi : i < M.length
  · obtain ⟨p, hp⟩ := at_some k1 hi
    have hrow : (M.map rowL)[i.toNat]? = some [.bool p.1.1, .ints .u32 p.1.2.1, .ints .u32 p.1.2.2, .bool p.2.1, .ints .u32 p.2.2.1, .ints .u32 p.2.2.2] := by simp [hp]
    have hm := List.mem_of_getElem? hp
    have hcm := kcompose (x := a) (y := b) (h := RA.ratD a _ (h := w1)) (h' := RA.ratD b _ (h := w2)) (g := hM.A hm) (g' := hM.B hm) (by omega)
    have hst : chQ (M.take (i + 1).toNat) = comp (chQ (M.take i.toNat)) (lA p, lB p) := by
      rw [show (i + 1).toNat = i.toNat + 1 by omega, List.take_add_one, hp]; exact chQ_snoc _ _
    repeat' (first
      | (apply RunL.step; exact rfl; first
        | fail)
      | (apply RunL.step; exact rfl; apply op_ev (τ := τ); exact rfl; (first | exact hall | exact kwhole _ | exact hcm); exact rfl)
      | (apply RunL.step; exact rfl; exact opA)
      | (apply RunL.hand; exact rfl; exact rfl; exact lenA; exact rfl)
      | (apply AWP.seq)
      | (apply AWP.region; exact rfl)
      | (apply AWP.block)
      | (apply AWP.skip)
      | (apply AWP.exit)
      | (apply AWP.retF; exact rfl; exact rfl; exact rfl; exact rfl; exact lenA; exact rfl)
      | (apply AWP.ret)
      | (apply RunL.nil)
      | (apply RunL.on; exact rfl; exact rfl; exact rfl; exact rfl; (first | exact rfl | assumption))
      | (apply RunL.noU; exact rfl; exact rfl; exact rfl; exact rfl; exact rfl; exact rfl)
      | (apply RunL.no; exact rfl; exact rfl; exact rfl; exact rfl; (first | exact rfl | assumption); exact rfl; exact rfl)
      | (refine AWP.cond _ (Rd.of rfl) (fun hc => ?_) (fun hc => ?_) <;> first | (exfalso; cases hc; done) | (have hc' := hc; (try simp only [decide_eq_true_eq, decide_eq_false_iff_not, Bool.not_true, Bool.not_false, bne_self_eq_false, beq_self_eq_true, ne_self_iff_false, Bool.true_bne, Bool.false_bne, Bool.true_beq, Bool.false_beq, Bool.false_eq_true, Bool.true_eq_false, reduceCtorEq, Bool.not_eq_true', Bool.not_eq_false', beq_iff_eq, bne_iff_ne, beq_eq_false_iff_ne, bne_eq_false_iff_eq, cmpOf] at hc'); try (exfalso; omega)))
      | (
        apply AWP.drawA
        repeat' (first
          | (apply DL.cons; (try (apply OpLoc.on; exact rfl; exact rfl; exact rfl; exact rfl; (first | exact rfl | assumption))); apply ol_ev (τ := τ); exact rfl; (first | exact hall | exact kwhole _ | exact hcm); exact rfl; exact rfl)
          | (apply DL.cons; exact olA; exact rfl)
          | (apply DL.nil; kernel_rfl)
          | (refine DL.split rfl rfl rfl rfl (fun hb => ?_) (fun hb => ?_) <;> have hb' := hb <;> (try simp only [decide_eq_true_eq, decide_eq_false_iff_not, Bool.not_true, Bool.not_false, bne_self_eq_false, beq_self_eq_true, ne_self_iff_false, Bool.true_bne, Bool.false_bne, Bool.true_beq, Bool.false_beq, Bool.false_eq_true, Bool.true_eq_false, reduceCtorEq, Bool.not_eq_true', Bool.not_eq_false', beq_iff_eq, bne_iff_ne, beq_eq_false_iff_ne, bne_eq_false_iff_eq, cmpOf] at hb') <;> try (exfalso; omega)))
        all_goals (fail_if_success apply DL.id))
      | (refine RunL.split rfl rfl rfl rfl (fun hb => ?_) (fun hb => ?_) <;> have hb' := hb <;> (try simp only [decide_eq_true_eq, decide_eq_false_iff_not, Bool.not_true, Bool.not_false, bne_self_eq_false, beq_self_eq_true, ne_self_iff_false, Bool.true_bne, Bool.false_bne, Bool.true_beq, Bool.false_beq, Bool.false_eq_true, Bool.true_eq_false, reduceCtorEq, Bool.not_eq_true', Bool.not_eq_false', beq_iff_eq, bne_iff_ne, beq_eq_false_iff_ne, bne_eq_false_iff_eq, cmpOf] at hb') <;> try (exfalso; omega))
      )
    refine ⟨i + 1, _, _, St.Le.of (by repeat' (first | exact all_nil | refine all_cons rfl ?_)) (by repeat' (first | exact all_nil | refine all_cons rfl ?_)), ⟨by omega, by omega, ?_, ?_⟩, by omega⟩
    · rw [hst, k3]; rfl
    · rw [hst, k4]; rfl
  · rw [List.take_of_length_le (by omega)] at k3 k4
    repeat' (first
      | (apply RunL.step; exact rfl; first
        | fail)
      | (apply RunL.step; exact rfl; apply op_ev (τ := τ); exact rfl; (first | exact hall | exact kwhole _ | exact hcm); exact rfl)
      | (apply RunL.step; exact rfl; exact opA)
      | (apply RunL.hand; exact rfl; exact rfl; exact lenA; exact rfl)
      | (apply AWP.seq)
      | (apply AWP.region; exact rfl)
      | (apply AWP.block)
      | (apply AWP.skip)
      | (apply AWP.exit)
      | (apply AWP.retF; exact rfl; exact rfl; exact rfl; exact rfl; exact lenA; exact rfl)
      | (apply AWP.ret)
      | (apply RunL.nil)
      | (apply RunL.on; exact rfl; exact rfl; exact rfl; exact rfl; (first | exact rfl | assumption))
      | (apply RunL.noU; exact rfl; exact rfl; exact rfl; exact rfl; exact rfl; exact rfl)
      | (apply RunL.no; exact rfl; exact rfl; exact rfl; exact rfl; (first | exact rfl | assumption); exact rfl; exact rfl)
      | (refine AWP.cond _ (Rd.of rfl) (fun hc => ?_) (fun hc => ?_) <;> first | (exfalso; cases hc; done) | (have hc' := hc; (try simp only [decide_eq_true_eq, decide_eq_false_iff_not, Bool.not_true, Bool.not_false, bne_self_eq_false, beq_self_eq_true, ne_self_iff_false, Bool.true_bne, Bool.false_bne, Bool.true_beq, Bool.false_beq, Bool.false_eq_true, Bool.true_eq_false, reduceCtorEq, Bool.not_eq_true', Bool.not_eq_false', beq_iff_eq, bne_iff_ne, beq_eq_false_iff_ne, bne_eq_false_iff_eq, cmpOf] at hc'); try (exfalso; omega)))
      | (
        apply AWP.drawA
        repeat' (first
          | (apply DL.cons; (try (apply OpLoc.on; exact rfl; exact rfl; exact rfl; exact rfl; (first | exact rfl | assumption))); apply ol_ev (τ := τ); exact rfl; (first | exact hall | exact kwhole _ | exact hcm); exact rfl; exact rfl)
          | (apply DL.cons; exact olA; exact rfl)
          | (apply DL.nil; kernel_rfl)
          | (refine DL.split rfl rfl rfl rfl (fun hb => ?_) (fun hb => ?_) <;> have hb' := hb <;> (try simp only [decide_eq_true_eq, decide_eq_false_iff_not, Bool.not_true, Bool.not_false, bne_self_eq_false, beq_self_eq_true, ne_self_iff_false, Bool.true_bne, Bool.false_bne, Bool.true_beq, Bool.false_beq, Bool.false_eq_true, Bool.true_eq_false, reduceCtorEq, Bool.not_eq_true', Bool.not_eq_false', beq_iff_eq, bne_iff_ne, beq_eq_false_iff_ne, bne_eq_false_iff_eq, cmpOf] at hb') <;> try (exfalso; omega)))
        all_goals (fail_if_success apply DL.id))
      | (refine RunL.split rfl rfl rfl rfl (fun hb => ?_) (fun hb => ?_) <;> have hb' := hb <;> (try simp only [decide_eq_true_eq, decide_eq_false_iff_not, Bool.not_true, Bool.not_false, bne_self_eq_false, beq_self_eq_true, ne_self_iff_false, Bool.true_bne, Bool.false_bne, Bool.true_beq, Bool.false_beq, Bool.false_eq_true, Bool.true_eq_false, reduceCtorEq, Bool.not_eq_true', Bool.not_eq_false', beq_iff_eq, bne_iff_ne, beq_eq_false_iff_ne, bne_eq_false_iff_eq, cmpOf] at hb') <;> try (exfalso; omega))
      )
    apply Ends.mk (.cons (.cellA (τ := τ) rfl rfl rfl rfl rfl) (.cons (.tmp rfl) .nil))
    rw [k3, k4]; rfl
theorem kChain5 (M : List Lk) (hl : 60 < M.length) : Evals Tryz.prog 25 [.sl 6 (M.map rowL)] (.tup [link0, .int .i64 5]) := by
  refine evals_of_awp Tryz.func25 rfl (CallOK.of Tryz.func25 (by kernel_rfl) rfl) (Nat.le_of_ble_eq_true rfl) ?_
  rintro w R hR ⟨vs, hv⟩
  have hml : (M.map rowL).length = M.length := by simp
  repeat' (first
    | (apply RunL.step; exact rfl; first
      | fail)
    | (apply RunL.step; exact rfl; apply op_ev (τ := τ); exact rfl; (first | exact hall | exact kwhole _ | exact hcm); exact rfl)
    | (apply RunL.step; exact rfl; exact opA)
    | (apply RunL.hand; exact rfl; exact rfl; exact lenA; exact rfl)
    | (apply AWP.seq)
    | (apply AWP.region; exact rfl)
    | (apply AWP.block)
    | (apply AWP.skip)
    | (apply AWP.exit)
    | (apply AWP.retF; exact rfl; exact rfl; exact rfl; exact rfl; exact lenA; exact rfl)
    | (apply AWP.ret)
    | (apply RunL.nil)
    | (apply RunL.on; exact rfl; exact rfl; exact rfl; exact rfl; (first | exact rfl | assumption))
    | (apply RunL.noU; exact rfl; exact rfl; exact rfl; exact rfl; exact rfl; exact rfl)
    | (apply RunL.no; exact rfl; exact rfl; exact rfl; exact rfl; (first | exact rfl | assumption); exact rfl; exact rfl)
    | (refine AWP.cond _ (Rd.of rfl) (fun hc => ?_) (fun hc => ?_) <;> first | (exfalso; cases hc; done) | (have hc' := hc; (try simp only [decide_eq_true_eq, decide_eq_false_iff_not, Bool.not_true, Bool.not_false, bne_self_eq_false, beq_self_eq_true, ne_self_iff_false, Bool.true_bne, Bool.false_bne, Bool.true_beq, Bool.false_beq, Bool.false_eq_true, Bool.true_eq_false, reduceCtorEq, Bool.not_eq_true', Bool.not_eq_false', beq_iff_eq, bne_iff_ne, beq_eq_false_iff_ne, bne_eq_false_iff_eq, cmpOf] at hc'); try (exfalso; omega)))
    | (
      apply AWP.drawA
      repeat' (first
        | (apply DL.cons; (try (apply OpLoc.on; exact rfl; exact rfl; exact rfl; exact rfl; (first | exact rfl | assumption))); apply ol_ev (τ := τ); exact rfl; (first | exact hall | exact kwhole _ | exact hcm); exact rfl; exact rfl)
        | (apply DL.cons; exact olA; exact rfl)
        | (apply DL.nil; kernel_rfl)
        | (refine DL.split rfl rfl rfl rfl (fun hb => ?_) (fun hb => ?_) <;> have hb' := hb <;> (try simp only [decide_eq_true_eq, decide_eq_false_iff_not, Bool.not_true, Bool.not_false, bne_self_eq_false, beq_self_eq_true, ne_self_iff_false, Bool.true_bne, Bool.false_bne, Bool.true_beq, Bool.false_beq, Bool.false_eq_true, Bool.true_eq_false, reduceCtorEq, Bool.not_eq_true', Bool.not_eq_false', beq_iff_eq, bne_iff_ne, beq_eq_false_iff_ne, bne_eq_false_iff_eq, cmpOf] at hb') <;> try (exfalso; omega)))
      all_goals (fail_if_success apply DL.id))
    | (refine RunL.split rfl rfl rfl rfl (fun hb => ?_) (fun hb => ?_) <;> have hb' := hb <;> (try simp only [decide_eq_true_eq, decide_eq_false_iff_not, Bool.not_true, Bool.not_false, bne_self_eq_false, beq_self_eq_true, ne_self_iff_false, Bool.true_bne, Bool.false_bne, Bool.true_beq, Bool.false_beq, Bool.false_eq_true, Bool.true_eq_false, reduceCtorEq, Bool.not_eq_true', Bool.not_eq_false', beq_iff_eq, bne_iff_ne, beq_eq_false_iff_ne, bne_eq_false_iff_eq, cmpOf] at hb') <;> try (exfalso; omega))
    )
  apply Ends.mk (.cons (.cellA (τ := τ) rfl rfl rfl rfl rfl) (.cons (.tmp rfl) .nil))
  rfl
theorem kChain2 (M : List Lk) {K : Nat} (hM : LkOK M K) (hk : K ≤ 1048576) (hl : M.length ≤ 60) (hV : ¬ allV M) : Evals Tryz.prog 25 [.sl 6 (M.map rowL)] (.tup [link0, .int .i64 1]) := by
  have hall := kallF M hM (by omega) hk hV
  refine evals_of_awp Tryz.func25 rfl (CallOK.of Tryz.func25 (by kernel_rfl) rfl) (Nat.le_of_ble_eq_true rfl) ?_
  rintro w R hR ⟨vs, hv⟩
  have hml : (M.map rowL).length = M.length := by simp
  repeat' (first
    | (apply RunL.step; exact rfl; first
      | fail)
    | (apply RunL.step; exact rfl; apply op_ev (τ := τ); exact rfl; (first | exact hall | exact kwhole _ | exact hcm); exact rfl)
    | (apply RunL.step; exact rfl; exact opA)
    | (apply RunL.hand; exact rfl; exact rfl; exact lenA; exact rfl)
    | (apply AWP.seq)
    | (apply AWP.region; exact rfl)
    | (apply AWP.block)
    | (apply AWP.skip)
    | (apply AWP.exit)
    | (apply AWP.retF; exact rfl; exact rfl; exact rfl; exact rfl; exact lenA; exact rfl)
    | (apply AWP.ret)
    | (apply RunL.nil)
    | (apply RunL.on; exact rfl; exact rfl; exact rfl; exact rfl; (first | exact rfl | assumption))
    | (apply RunL.noU; exact rfl; exact rfl; exact rfl; exact rfl; exact rfl; exact rfl)
    | (apply RunL.no; exact rfl; exact rfl; exact rfl; exact rfl; (first | exact rfl | assumption); exact rfl; exact rfl)
    | (refine AWP.cond _ (Rd.of rfl) (fun hc => ?_) (fun hc => ?_) <;> first | (exfalso; cases hc; done) | (have hc' := hc; (try simp only [decide_eq_true_eq, decide_eq_false_iff_not, Bool.not_true, Bool.not_false, bne_self_eq_false, beq_self_eq_true, ne_self_iff_false, Bool.true_bne, Bool.false_bne, Bool.true_beq, Bool.false_beq, Bool.false_eq_true, Bool.true_eq_false, reduceCtorEq, Bool.not_eq_true', Bool.not_eq_false', beq_iff_eq, bne_iff_ne, beq_eq_false_iff_ne, bne_eq_false_iff_eq, cmpOf] at hc'); try (exfalso; omega)))
    | (
      apply AWP.drawA
      repeat' (first
        | (apply DL.cons; (try (apply OpLoc.on; exact rfl; exact rfl; exact rfl; exact rfl; (first | exact rfl | assumption))); apply ol_ev (τ := τ); exact rfl; (first | exact hall | exact kwhole _ | exact hcm); exact rfl; exact rfl)
        | (apply DL.cons; exact olA; exact rfl)
        | (apply DL.nil; kernel_rfl)
        | (refine DL.split rfl rfl rfl rfl (fun hb => ?_) (fun hb => ?_) <;> have hb' := hb <;> (try simp only [decide_eq_true_eq, decide_eq_false_iff_not, Bool.not_true, Bool.not_false, bne_self_eq_false, beq_self_eq_true, ne_self_iff_false, Bool.true_bne, Bool.false_bne, Bool.true_beq, Bool.false_beq, Bool.false_eq_true, Bool.true_eq_false, reduceCtorEq, Bool.not_eq_true', Bool.not_eq_false', beq_iff_eq, bne_iff_ne, beq_eq_false_iff_ne, bne_eq_false_iff_eq, cmpOf] at hb') <;> try (exfalso; omega)))
      all_goals (fail_if_success apply DL.id))
    | (refine RunL.split rfl rfl rfl rfl (fun hb => ?_) (fun hb => ?_) <;> have hb' := hb <;> (try simp only [decide_eq_true_eq, decide_eq_false_iff_not, Bool.not_true, Bool.not_false, bne_self_eq_false, beq_self_eq_true, ne_self_iff_false, Bool.true_bne, Bool.false_bne, Bool.true_beq, Bool.false_beq, Bool.false_eq_true, Bool.true_eq_false, reduceCtorEq, Bool.not_eq_true', Bool.not_eq_false', beq_iff_eq, bne_iff_ne, beq_eq_false_iff_ne, bne_eq_false_iff_eq, cmpOf] at hb') <;> try (exfalso; omega))
    )
  apply Ends.mk (.cons (.cellA (τ := τ) rfl rfl rfl rfl rfl) (.cons (.tmp rfl) .nil))
  rfl
end Go.Proofs.YtgdejiajiljipaaGreatDoor.K
