/- The laws of layer 5 (examboardlaw05). -/
import Derived.Test.YtfbpkohfpipliaaDoorWalkX
import Derived.Test.YtfbpkohfpipliaaDoorVecG
import Derived.Test.YtfbpkohfpipliaaDoorLawI
namespace Go.Proofs.YtfbpkohfpipliaaDoor.K
open Go
set_option linter.unusedVariables false
set_option linter.unusedSimpArgs false

theorem slimbs (a b : List Int) : Evals Tryd.prog 44 [.ints .u32 a, .ints .u32 b] (.bool (decide (a = b))) := by
  refine evals_of_awp Tryd.func44 rfl (CallOK.of Tryd.func44 (by kernel_rfl) rfl) (Nat.le_of_ble_eq_true rfl) ?_
  rintro w R hR ⟨vs, hv⟩
  obtain ⟨hla, ha⟩ := hv.nat 0 rfl
  obtain ⟨hlb, hb⟩ := hv.nat 1 rfl
  repeat' (first
    | (apply RunL.step; exact rfl; first
      | fail)
    | (apply RunL.step; exact rfl; apply op_ev (τ := τ); exact rfl; (fail); exact rfl)
    | (apply RunL.step; exact rfl; exact opA)
    | (apply RunL.hand; exact rfl; exact rfl; exact lenA; exact rfl)
    | (apply AWP.seq)
    | (apply AWP.region; exact rfl)
    | (apply AWP.block)
    | (apply AWP.skip)
    | (apply AWP.exit)
    | (apply AWP.retF; exact rfl; exact rfl; exact rfl; exact rfl; exact lenA; exact rfl)
    | (apply AWP.ret)
    | (apply RunL.nil)
    | (apply RunL.on; exact rfl; exact rfl; exact rfl; exact rfl; (first | exact rfl | assumption))
    | (apply RunL.noU; exact rfl; exact rfl; exact rfl; exact rfl; exact rfl; exact rfl)
    | (apply RunL.no; exact rfl; exact rfl; exact rfl; exact rfl; (first | exact rfl | assumption); exact rfl; exact rfl)
    | (refine AWP.cond _ (Rd.of rfl) (fun hc => ?_) (fun hc => ?_) <;> first | (exfalso; cases hc; done) | (have hc' := hc; (try simp only [decide_eq_true_eq, decide_eq_false_iff_not, Bool.not_true, Bool.not_false, bne_self_eq_false, beq_self_eq_true, ne_self_iff_false, Bool.true_bne, Bool.false_bne, Bool.true_beq, Bool.false_beq, Bool.false_eq_true, Bool.true_eq_false, reduceCtorEq, Bool.not_eq_true', Bool.not_eq_false', beq_iff_eq, bne_iff_ne, beq_eq_false_iff_ne, bne_eq_false_iff_eq, cmpOf] at hc'); try (exfalso; omega)))
    | (
      apply AWP.drawA
      repeat' (first
        | (apply DL.cons; (try (apply OpLoc.on; exact rfl; exact rfl; exact rfl; exact rfl; (first | exact rfl | assumption))); apply ol_ev (τ := τ); exact rfl; (fail); exact rfl; exact rfl)
        | (apply DL.cons; exact olA; exact rfl)
        | (apply DL.nil; kernel_rfl)
        | (refine DL.split rfl rfl rfl rfl (fun hb => ?_) (fun hb => ?_) <;> have hb' := hb <;> (try simp only [decide_eq_true_eq, decide_eq_false_iff_not, Bool.not_true, Bool.not_false, bne_self_eq_false, beq_self_eq_true, ne_self_iff_false, Bool.true_bne, Bool.false_bne, Bool.true_beq, Bool.false_beq, Bool.false_eq_true, Bool.true_eq_false, reduceCtorEq, Bool.not_eq_true', Bool.not_eq_false', beq_iff_eq, bne_iff_ne, beq_eq_false_iff_ne, bne_eq_false_iff_eq, cmpOf] at hb') <;> try (exfalso; omega)))
      all_goals (fail_if_success apply DL.id))
    | (refine RunL.split rfl rfl rfl rfl (fun hb => ?_) (fun hb => ?_) <;> have hb' := hb <;> (try simp only [decide_eq_true_eq, decide_eq_false_iff_not, Bool.not_true, Bool.not_false, bne_self_eq_false, beq_self_eq_true, ne_self_iff_false, Bool.true_bne, Bool.false_bne, Bool.true_beq, Bool.false_beq, Bool.false_eq_true, Bool.true_eq_false, reduceCtorEq, Bool.not_eq_true', Bool.not_eq_false', beq_iff_eq, bne_iff_ne, beq_eq_false_iff_ne, bne_eq_false_iff_eq, cmpOf] at hb') <;> try (exfalso; omega))
    )
  · apply Ends.mk (.cons (.tmp rfl) .nil)
    rw [decide_eq_false (fun h => by subst h; omega)]; rfl
  refine AWP.loop (ι := Int) (fun i => ⟨[(0, .val (.ints .u32 a)), (1, .val (.ints .u32 b)), (12, .val (.int .i64 a.length)), (13, .val (.int .i64 i))], []⟩) (fun i => 0 ≤ i ∧ i ≤ a.length ∧ ∀ j : Nat, j < i.toNat → ix a j = ix b j) (fun i => a.length - i.toNat) 0 ⟨by omega, by omega, fun j h => by omega⟩ (St.Le.of (by repeat' (first | exact all_nil | refine all_cons rfl ?_)) (by repeat' (first | exact all_nil | refine all_cons rfl ?_))) ?_
  rintro i ⟨k1, k2, k3⟩
  have q1 := ha.ix i
  have q2 := hb.ix i
  repeat' (first
    | (apply RunL.step; exact rfl; first
      | fail)
    | (apply RunL.step; exact rfl; apply op_ev (τ := τ); exact rfl; (fail); exact rfl)
    | (apply RunL.step; exact rfl; exact opA)
    | (apply RunL.hand; exact rfl; exact rfl; exact lenA; exact rfl)
    | (apply AWP.seq)
    | (apply AWP.region; exact rfl)
    | (apply AWP.block)
    | (apply AWP.skip)
    | (apply AWP.exit)
    | (apply AWP.retF; exact rfl; exact rfl; exact rfl; exact rfl; exact lenA; exact rfl)
    | (apply AWP.ret)
    | (apply RunL.nil)
    | (apply RunL.on; exact rfl; exact rfl; exact rfl; exact rfl; (first | exact rfl | assumption))
    | (apply RunL.noU; exact rfl; exact rfl; exact rfl; exact rfl; exact rfl; exact rfl)
    | (apply RunL.no; exact rfl; exact rfl; exact rfl; exact rfl; (first | exact rfl | assumption); exact rfl; exact rfl)
    | (refine AWP.cond _ (Rd.of rfl) (fun hc => ?_) (fun hc => ?_) <;> first | (exfalso; cases hc; done) | (have hc' := hc; (try simp only [decide_eq_true_eq, decide_eq_false_iff_not, Bool.not_true, Bool.not_false, bne_self_eq_false, beq_self_eq_true, ne_self_iff_false, Bool.true_bne, Bool.false_bne, Bool.true_beq, Bool.false_beq, Bool.false_eq_true, Bool.true_eq_false, reduceCtorEq, Bool.not_eq_true', Bool.not_eq_false', beq_iff_eq, bne_iff_ne, beq_eq_false_iff_ne, bne_eq_false_iff_eq, cmpOf] at hc'); try (exfalso; omega)))
    | (
      apply AWP.drawA
      repeat' (first
        | (apply DL.cons; (try (apply OpLoc.on; exact rfl; exact rfl; exact rfl; exact rfl; (first | exact rfl | assumption))); apply ol_ev (τ := τ); exact rfl; (fail); exact rfl; exact rfl)
        | (apply DL.cons; exact olA; exact rfl)
        | (apply DL.nil; kernel_rfl)
        | (refine DL.split rfl rfl rfl rfl (fun hb => ?_) (fun hb => ?_) <;> have hb' := hb <;> (try simp only [decide_eq_true_eq, decide_eq_false_iff_not, Bool.not_true, Bool.not_false, bne_self_eq_false, beq_self_eq_true, ne_self_iff_false, Bool.true_bne, Bool.false_bne, Bool.true_beq, Bool.false_beq, Bool.false_eq_true, Bool.true_eq_false, reduceCtorEq, Bool.not_eq_true', Bool.not_eq_false', beq_iff_eq, bne_iff_ne, beq_eq_false_iff_ne, bne_eq_false_iff_eq, cmpOf] at hb') <;> try (exfalso; omega)))
      all_goals (fail_if_success apply DL.id))
    | (refine RunL.split rfl rfl rfl rfl (fun hb => ?_) (fun hb => ?_) <;> have hb' := hb <;> (try simp only [decide_eq_true_eq, decide_eq_false_iff_not, Bool.not_true, Bool.not_false, bne_self_eq_false, beq_self_eq_true, ne_self_iff_false, Bool.true_bne, Bool.false_bne, Bool.true_beq, Bool.false_beq, Bool.false_eq_true, Bool.true_eq_false, reduceCtorEq, Bool.not_eq_true', Bool.not_eq_false', beq_iff_eq, bne_iff_ne, beq_eq_false_iff_ne, bne_eq_false_iff_eq, cmpOf] at hb') <;> try (exfalso; omega))
    )
  · apply Ends.mk (.cons (.tmp rfl) .nil)
    rw [decide_eq_false (fun h => by subst h; omega)]; rfl
  · refine ⟨_, St.Le.of (by repeat' (first | exact all_nil | refine all_cons rfl ?_)) (by repeat' (first | exact all_nil | refine all_cons rfl ?_)), ⟨by omega, by omega, fun j hj => ?_⟩, by omega⟩
    by_cases h : j < i.toNat
    · exact k3 j h
    · rw [show (j : Int) = i by omega]; omega
  · apply Ends.mk (.cons (.tmp rfl) .nil)
    rw [decide_eq_true (list_ext_ix (by omega) fun j hj => k3 j (by omega))]; rfl
theorem sequal0 (s : Bool) (l d : List Int) (s' : Bool) (l' d' : List Int) : Evals Tryd.prog 26 [.agg [.bool s, .ints .u32 l, .ints .u32 d], .agg [.bool s', .ints .u32 l', .ints .u32 d']] (.bool (decide (s = s' ∧ l = l' ∧ d = d'))) := by
  refine evals_of_awp Tryd.func26 rfl (CallOK.of Tryd.func26 (by kernel_rfl) rfl) (Nat.le_of_ble_eq_true rfl) ?_
  rintro w R hR ⟨vs, hv⟩
  repeat' (first
    | (apply RunL.step; exact rfl; first
      | fail)
    | (apply RunL.step; exact rfl; apply op_ev (τ := τ); exact rfl; (exact slimbs _ _); exact rfl)
    | (apply RunL.step; exact rfl; exact opA)
    | (apply RunL.hand; exact rfl; exact rfl; exact lenA; exact rfl)
    | (apply AWP.seq)
    | (apply AWP.region; exact rfl)
    | (apply AWP.block)
    | (apply AWP.skip)
    | (apply AWP.exit)
    | (apply AWP.retF; exact rfl; exact rfl; exact rfl; exact rfl; exact lenA; exact rfl)
    | (apply AWP.ret)
    | (apply RunL.nil)
    | (apply RunL.on; exact rfl; exact rfl; exact rfl; exact rfl; (first | exact rfl | assumption))
    | (apply RunL.noU; exact rfl; exact rfl; exact rfl; exact rfl; exact rfl; exact rfl)
    | (apply RunL.no; exact rfl; exact rfl; exact rfl; exact rfl; (first | exact rfl | assumption); exact rfl; exact rfl)
    | (refine AWP.cond _ (Rd.of rfl) (fun hc => ?_) (fun hc => ?_) <;> first | (exfalso; cases hc; done) | (have hc' := hc; (try simp only [decide_eq_true_eq, decide_eq_false_iff_not, Bool.not_true, Bool.not_false, bne_self_eq_false, beq_self_eq_true, ne_self_iff_false, Bool.true_bne, Bool.false_bne, Bool.true_beq, Bool.false_beq, Bool.false_eq_true, Bool.true_eq_false, reduceCtorEq, Bool.not_eq_true', Bool.not_eq_false', beq_iff_eq, bne_iff_ne, beq_eq_false_iff_ne, bne_eq_false_iff_eq, cmpOf] at hc'); try (exfalso; omega)))
    | (
      apply AWP.drawA
      repeat' (first
        | (apply DL.cons; (try (apply OpLoc.on; exact rfl; exact rfl; exact rfl; exact rfl; (first | exact rfl | assumption))); apply ol_ev (τ := τ); exact rfl; (exact slimbs _ _); exact rfl; exact rfl)
        | (apply DL.cons; exact olA; exact rfl)
        | (apply DL.nil; kernel_rfl)
        | (refine DL.split rfl rfl rfl rfl (fun hb => ?_) (fun hb => ?_) <;> have hb' := hb <;> (try simp only [decide_eq_true_eq, decide_eq_false_iff_not, Bool.not_true, Bool.not_false, bne_self_eq_false, beq_self_eq_true, ne_self_iff_false, Bool.true_bne, Bool.false_bne, Bool.true_beq, Bool.false_beq, Bool.false_eq_true, Bool.true_eq_false, reduceCtorEq, Bool.not_eq_true', Bool.not_eq_false', beq_iff_eq, bne_iff_ne, beq_eq_false_iff_ne, bne_eq_false_iff_eq, cmpOf] at hb') <;> try (exfalso; omega)))
      all_goals (fail_if_success apply DL.id))
    | (refine RunL.split rfl rfl rfl rfl (fun hb => ?_) (fun hb => ?_) <;> have hb' := hb <;> (try simp only [decide_eq_true_eq, decide_eq_false_iff_not, Bool.not_true, Bool.not_false, bne_self_eq_false, beq_self_eq_true, ne_self_iff_false, Bool.true_bne, Bool.false_bne, Bool.true_beq, Bool.false_beq, Bool.false_eq_true, Bool.true_eq_false, reduceCtorEq, Bool.not_eq_true', Bool.not_eq_false', beq_iff_eq, bne_iff_ne, beq_eq_false_iff_ne, bne_eq_false_iff_eq, cmpOf] at hb') <;> try (exfalso; omega))
    )
  all_goals
    apply Ends.mk (.cons (.tmp rfl) .nil)
    simp only [pack]; congr 1
    simp [*]
theorem sequal (p q : Rat) : Evals Tryd.prog 26 [ratD p, ratD q] (.bool (decide (p = q))) := by
  have := sequal0 (decide (p.num < 0)) (limbs p.num.natAbs) (limbs p.den) (decide (q.num < 0)) (limbs q.num.natAbs) (limbs q.den)
  have e : decide (decide (p.num < 0) = decide (q.num < 0) ∧ limbs p.num.natAbs = limbs q.num.natAbs ∧ limbs p.den = limbs q.den) = decide (p = q) :=
    decide_eq_decide.2 ⟨fun h => ratD_inj h.1 h.2.1 h.2.2, fun h => by subst h; exact ⟨rfl, rfl, rfl⟩⟩
  rwa [e] at this
theorem sequal_as {p q : Rat} (h : p = q := by first | rfl | assumption) : Evals Tryd.prog 26 [ratD p, ratD q] (.bool true) := by
  have := sequal p q
  rwa [decide_eq_true h] at this
theorem ssame_as {p q p' q' : Rat} (h1 : p = p' := by first | rfl | assumption) (h2 : q = q' := by first | rfl | assumption) : Evals Tryd.prog 13 [spanD p q, spanD p' q'] (.bool true) := by
  refine evals_of_awp Tryd.func13 rfl (CallOK.of Tryd.func13 (by kernel_rfl) rfl) (Nat.le_of_ble_eq_true rfl) ?_
  rintro w R hR ⟨vs, hv⟩
  repeat' (first
    | (apply RunL.step; exact rfl; first
      | fail)
    | (apply RunL.step; exact rfl; apply op_ev (τ := τ); exact rfl; (first | exact sequal_as | exact hE1 | exact hE2); exact rfl)
    | (apply RunL.step; exact rfl; exact opA)
    | (apply RunL.hand; exact rfl; exact rfl; exact lenA; exact rfl)
    | (apply AWP.seq)
    | (apply AWP.region; exact rfl)
    | (apply AWP.block)
    | (apply AWP.skip)
    | (apply AWP.exit)
    | (apply AWP.retF; exact rfl; exact rfl; exact rfl; exact rfl; exact lenA; exact rfl)
    | (apply AWP.ret)
    | (apply RunL.nil)
    | (apply RunL.on; exact rfl; exact rfl; exact rfl; exact rfl; (first | exact rfl | assumption))
    | (apply RunL.noU; exact rfl; exact rfl; exact rfl; exact rfl; exact rfl; exact rfl)
    | (apply RunL.no; exact rfl; exact rfl; exact rfl; exact rfl; (first | exact rfl | assumption); exact rfl; exact rfl)
    | (refine AWP.cond _ (Rd.of rfl) (fun hc => ?_) (fun hc => ?_) <;> first | (exfalso; cases hc; done) | (have hc' := hc; (try simp only [decide_eq_true_eq, decide_eq_false_iff_not, Bool.not_true, Bool.not_false, bne_self_eq_false, beq_self_eq_true, ne_self_iff_false, Bool.true_bne, Bool.false_bne, Bool.true_beq, Bool.false_beq, Bool.false_eq_true, Bool.true_eq_false, reduceCtorEq, Bool.not_eq_true', Bool.not_eq_false', beq_iff_eq, bne_iff_ne, beq_eq_false_iff_ne, bne_eq_false_iff_eq, cmpOf] at hc'); try (exfalso; omega)))
    | (
      apply AWP.drawA
      repeat' (first
        | (apply DL.cons; (try (apply OpLoc.on; exact rfl; exact rfl; exact rfl; exact rfl; (first | exact rfl | assumption))); apply ol_ev (τ := τ); exact rfl; (first | exact sequal_as | exact hE1 | exact hE2); exact rfl; exact rfl)
        | (apply DL.cons; exact olA; exact rfl)
        | (apply DL.nil; kernel_rfl)
        | (refine DL.split rfl rfl rfl rfl (fun hb => ?_) (fun hb => ?_) <;> have hb' := hb <;> (try simp only [decide_eq_true_eq, decide_eq_false_iff_not, Bool.not_true, Bool.not_false, bne_self_eq_false, beq_self_eq_true, ne_self_iff_false, Bool.true_bne, Bool.false_bne, Bool.true_beq, Bool.false_beq, Bool.false_eq_true, Bool.true_eq_false, reduceCtorEq, Bool.not_eq_true', Bool.not_eq_false', beq_iff_eq, bne_iff_ne, beq_eq_false_iff_ne, bne_eq_false_iff_eq, cmpOf] at hb') <;> try (exfalso; omega)))
      all_goals (fail_if_success apply DL.id))
    | (refine RunL.split rfl rfl rfl rfl (fun hb => ?_) (fun hb => ?_) <;> have hb' := hb <;> (try simp only [decide_eq_true_eq, decide_eq_false_iff_not, Bool.not_true, Bool.not_false, bne_self_eq_false, beq_self_eq_true, ne_self_iff_false, Bool.true_bne, Bool.false_bne, Bool.true_beq, Bool.false_beq, Bool.false_eq_true, Bool.true_eq_false, reduceCtorEq, Bool.not_eq_true', Bool.not_eq_false', beq_iff_eq, bne_iff_ne, beq_eq_false_iff_ne, bne_eq_false_iff_eq, cmpOf] at hb') <;> try (exfalso; omega))
    )
  all_goals
    first   | (apply Ends.mk (.cons (.tmp rfl) .nil); first | rfl | (simp only [pack]; congr 1; simp only [cmpOf, decide_eq_true_eq, beq_iff_eq, bne_iff_ne]; omega))   | (apply Ends.mk (.cons (.tmp rfl) .nil); simp only [pack]; congr 1; simp only [cmpOf, decide_eq_true_eq, decide_eq_false_iff_not, beq_iff_eq, bne_iff_ne, beq_eq_false_iff_ne, bne_eq_false_iff_eq]; omega)   | (exfalso; first | omega | (simp only [*, Bool.true_eq_false, Bool.false_eq_true, reduceCtorEq] at *; done) | grind)
theorem SzR.castI (n : Int) (h : -9223372036854775808 ≤ n ∧ n ≤ 9223372036854775807) : SzR (n : Rat) 2 := SzR.int n 1 (by omega)
theorem swhole0 (a b : Int) : Evals Tryd.prog 32 [.int .i64 a, .int .i64 b] (spanD (loQ (a : Rat) (b : Rat)) (hiQ (a : Rat) (b : Rat))) := by
  rw [← divInt_one' a, ← divInt_one' b]
  refine evals_of_awp Tryd.func32 rfl (CallOK.of Tryd.func32 (by kernel_rfl) rfl) (Nat.le_of_ble_eq_true rfl) ?_
  rintro w R hR ⟨vs, hv⟩
  have ha := hv.int 0 rfl
  have hb := hv.int 1 rfl
  simp [InR, IntKind.min, IntKind.max, IntKind.bits, IntKind.signed] at ha hb
  have s1 := SzI.i64 ha
  have s2 := SzI.i64 hb
  repeat' (first
    | (apply RunL.step; exact rfl; first
      | fail)
    | (apply RunL.step; exact rfl; apply op_ev (τ := τ); exact rfl; (first | exact rof _ _ | exact sof); exact rfl)
    | (apply RunL.step; exact rfl; exact opA)
    | (apply RunL.hand; exact rfl; exact rfl; exact lenA; exact rfl)
    | (apply AWP.seq)
    | (apply AWP.region; exact rfl)
    | (apply AWP.block)
    | (apply AWP.skip)
    | (apply AWP.exit)
    | (apply AWP.retF; exact rfl; exact rfl; exact rfl; exact rfl; exact lenA; exact rfl)
    | (apply AWP.ret)
    | (apply RunL.nil)
    | (apply RunL.on; exact rfl; exact rfl; exact rfl; exact rfl; (first | exact rfl | assumption))
    | (apply RunL.noU; exact rfl; exact rfl; exact rfl; exact rfl; exact rfl; exact rfl)
    | (apply RunL.no; exact rfl; exact rfl; exact rfl; exact rfl; (first | exact rfl | assumption); exact rfl; exact rfl)
    | (refine AWP.cond _ (Rd.of rfl) (fun hc => ?_) (fun hc => ?_) <;> first | (exfalso; cases hc; done) | (have hc' := hc; (try simp only [decide_eq_true_eq, decide_eq_false_iff_not, Bool.not_true, Bool.not_false, bne_self_eq_false, beq_self_eq_true, ne_self_iff_false, Bool.true_bne, Bool.false_bne, Bool.true_beq, Bool.false_beq, Bool.false_eq_true, Bool.true_eq_false, reduceCtorEq, Bool.not_eq_true', Bool.not_eq_false', beq_iff_eq, bne_iff_ne, beq_eq_false_iff_ne, bne_eq_false_iff_eq, cmpOf] at hc'); try (exfalso; omega)))
    | (
      apply AWP.drawA
      repeat' (first
        | (apply DL.cons; (try (apply OpLoc.on; exact rfl; exact rfl; exact rfl; exact rfl; (first | exact rfl | assumption))); apply ol_ev (τ := τ); exact rfl; (first | exact rof _ _ | exact sof); exact rfl; exact rfl)
        | (apply DL.cons; exact olA; exact rfl)
        | (apply DL.nil; kernel_rfl)
        | (refine DL.split rfl rfl rfl rfl (fun hb => ?_) (fun hb => ?_) <;> have hb' := hb <;> (try simp only [decide_eq_true_eq, decide_eq_false_iff_not, Bool.not_true, Bool.not_false, bne_self_eq_false, beq_self_eq_true, ne_self_iff_false, Bool.true_bne, Bool.false_bne, Bool.true_beq, Bool.false_beq, Bool.false_eq_true, Bool.true_eq_false, reduceCtorEq, Bool.not_eq_true', Bool.not_eq_false', beq_iff_eq, bne_iff_ne, beq_eq_false_iff_ne, bne_eq_false_iff_eq, cmpOf] at hb') <;> try (exfalso; omega)))
      all_goals (fail_if_success apply DL.id))
    | (refine RunL.split rfl rfl rfl rfl (fun hb => ?_) (fun hb => ?_) <;> have hb' := hb <;> (try simp only [decide_eq_true_eq, decide_eq_false_iff_not, Bool.not_true, Bool.not_false, bne_self_eq_false, beq_self_eq_true, ne_self_iff_false, Bool.true_bne, Bool.false_bne, Bool.true_beq, Bool.false_beq, Bool.false_eq_true, Bool.true_eq_false, reduceCtorEq, Bool.not_eq_true', Bool.not_eq_false', beq_iff_eq, bne_iff_ne, beq_eq_false_iff_ne, bne_eq_false_iff_eq, cmpOf] at hb') <;> try (exfalso; omega))
    )
  apply Ends.mk (.cons (.cellA (τ := τ) rfl rfl rfl rfl rfl) .nil)
  rfl
theorem swholeL (a b : Int) (h : a ≤ b := by omega) : Evals Tryd.prog 32 [.int .i64 a, .int .i64 b] (spanD (a : Rat) (b : Rat)) := by
  obtain ⟨e1, e2⟩ := lohi (show (a : Rat) ≤ (b : Rat) from Rat.intCast_le_intCast.2 h)
  have := swhole0 a b
  rwa [e1, e2] at this
theorem swholeG (a b : Int) (h : b < a := by omega) : Evals Tryd.prog 32 [.int .i64 a, .int .i64 b] (spanD (b : Rat) (a : Rat)) := by
  have h' : (b : Rat) < (a : Rat) := Rat.intCast_lt_intCast.2 h
  have := swhole0 a b
  rwa [loQ, hiQ, if_pos h', if_pos h'] at this
set_option maxHeartbeats 4000000 in
theorem sawake : Evals Tryd.prog 14 [] (.bool true) := by
  refine evals_of_awp Tryd.func14 rfl (CallOK.of Tryd.func14 (by kernel_rfl) rfl) (Nat.le_of_ble_eq_true rfl) ?_
  rintro w R hR ⟨vs, hv⟩
  have c0 := SzR.castI 0 (by omega)
  have c1 := SzR.castI 1 (by omega)
  have c2 := SzR.castI 2 (by omega)
  have c3 := SzR.castI 3 (by omega)
  have c4 := SzR.castI 4 (by omega)
  have c5 := SzR.castI (-1) (by omega)
  have c6 := SzR.castI (-3) (by omega)
  have c7 := SzR.castI (-6) (by omega)
  have c8 := SzR.castI 8 (by omega)
  have hM1 : hiQ (loQ ((0 : Int) : Rat) ((1 : Int) : Rat)) (loQ ((1 : Int) : Rat) ((2 : Int) : Rat)) ≤ loQ (hiQ ((0 : Int) : Rat) ((1 : Int) : Rat)) (hiQ ((1 : Int) : Rat) ((2 : Int) : Rat)) := by decide +kernel
  have hM2 : ¬ hiQ (loQ ((0 : Int) : Rat) ((1 : Int) : Rat)) (loQ ((2 : Int) : Rat) ((3 : Int) : Rat)) ≤ loQ (hiQ ((0 : Int) : Rat) ((1 : Int) : Rat)) (hiQ ((2 : Int) : Rat) ((3 : Int) : Rat)) := by decide +kernel
  have e1 : hiQ (loQ ((0 : Int) : Rat) ((1 : Int) : Rat)) (loQ ((1 : Int) : Rat) ((2 : Int) : Rat)) = ((1 : Int) : Rat) := by decide +kernel
  have e2 : loQ (hiQ ((0 : Int) : Rat) ((1 : Int) : Rat)) (hiQ ((1 : Int) : Rat) ((2 : Int) : Rat)) = ((1 : Int) : Rat) := by decide +kernel
  have e3 : mulLo ((-1 : Int) : Rat) ((2 : Int) : Rat) ((-3 : Int) : Rat) ((4 : Int) : Rat) = ((-6 : Int) : Rat) := by decide +kernel
  have e4 : mulHi ((-1 : Int) : Rat) ((2 : Int) : Rat) ((-3 : Int) : Rat) ((4 : Int) : Rat) = ((8 : Int) : Rat) := by decide +kernel
  have e5 : sideQ ((0 : Int) : Rat) ((1 : Int) : Rat) ((2 : Int) : Rat) ((3 : Int) : Rat) = -1 := by decide +kernel
  have e6 : hiQ ((-1 : Int) : Rat) ((4 : Int) : Rat) - loQ ((-1 : Int) : Rat) ((4 : Int) : Rat) = ((5 : Int) : Rat) := by decide +kernel
  have e7 : cmpStr .eql (ratS (hiQ ((-1 : Int) : Rat) ((4 : Int) : Rat) - loQ ((-1 : Int) : Rat) ((4 : Int) : Rat))) [53] = true := by
    rw [e6, ratS, if_pos (by decide +kernel), intS, if_neg (by decide +kernel), show (((((5 : Int) : Rat).num.natAbs : Nat) : Int)) = 5 by decide +kernel, decD_small (by omega) (by omega)]; rfl
  repeat' (first
    | (apply RunL.step; exact rfl; first
      | fail)
    | (apply RunL.step; exact rfl; apply op_ev (τ := τ); exact rfl; (first | exact swholeL _ _ | exact swholeG _ _ | exact smeet1 | exact smeet0 | exact smul | exact ssame_as | exact sorder | exact swidth | exact rprint); exact rfl)
    | (apply RunL.step; exact rfl; exact opA)
    | (apply RunL.hand; exact rfl; exact rfl; exact lenA; exact rfl)
    | (apply AWP.seq)
    | (apply AWP.region; exact rfl)
    | (apply AWP.block)
    | (apply AWP.skip)
    | (apply AWP.exit)
    | (apply AWP.retF; exact rfl; exact rfl; exact rfl; exact rfl; exact lenA; exact rfl)
    | (apply AWP.ret)
    | (apply RunL.nil)
    | (apply RunL.on; exact rfl; exact rfl; exact rfl; exact rfl; (first | exact rfl | assumption))
    | (apply RunL.noU; exact rfl; exact rfl; exact rfl; exact rfl; exact rfl; exact rfl)
    | (apply RunL.no; exact rfl; exact rfl; exact rfl; exact rfl; (first | exact rfl | assumption); exact rfl; exact rfl)
    | (refine AWP.cond _ (Rd.of rfl) (fun hc => ?_) (fun hc => ?_) <;> first | (exfalso; cases hc; done) | (have hc' := hc; (try simp only [decide_eq_true_eq, decide_eq_false_iff_not, Bool.not_true, Bool.not_false, bne_self_eq_false, beq_self_eq_true, ne_self_iff_false, Bool.true_bne, Bool.false_bne, Bool.true_beq, Bool.false_beq, Bool.false_eq_true, Bool.true_eq_false, reduceCtorEq, Bool.not_eq_true', Bool.not_eq_false', beq_iff_eq, bne_iff_ne, beq_eq_false_iff_ne, bne_eq_false_iff_eq, cmpOf] at hc'); try (exfalso; omega)))
    | (
      apply AWP.drawA
      repeat' (first
        | (apply DL.cons; (try (apply OpLoc.on; exact rfl; exact rfl; exact rfl; exact rfl; (first | exact rfl | assumption))); apply ol_ev (τ := τ); exact rfl; (first | exact swholeL _ _ | exact swholeG _ _ | exact smeet1 | exact smeet0 | exact smul | exact ssame_as | exact sorder | exact swidth | exact rprint); exact rfl; exact rfl)
        | (apply DL.cons; exact olA; exact rfl)
        | (apply DL.nil; kernel_rfl)
        | (refine DL.split rfl rfl rfl rfl (fun hb => ?_) (fun hb => ?_) <;> have hb' := hb <;> (try simp only [decide_eq_true_eq, decide_eq_false_iff_not, Bool.not_true, Bool.not_false, bne_self_eq_false, beq_self_eq_true, ne_self_iff_false, Bool.true_bne, Bool.false_bne, Bool.true_beq, Bool.false_beq, Bool.false_eq_true, Bool.true_eq_false, reduceCtorEq, Bool.not_eq_true', Bool.not_eq_false', beq_iff_eq, bne_iff_ne, beq_eq_false_iff_ne, bne_eq_false_iff_eq, cmpOf] at hb') <;> try (exfalso; omega)))
      all_goals (fail_if_success apply DL.id))
    | (refine RunL.split rfl rfl rfl rfl (fun hb => ?_) (fun hb => ?_) <;> have hb' := hb <;> (try simp only [decide_eq_true_eq, decide_eq_false_iff_not, Bool.not_true, Bool.not_false, bne_self_eq_false, beq_self_eq_true, ne_self_iff_false, Bool.true_bne, Bool.false_bne, Bool.true_beq, Bool.false_beq, Bool.false_eq_true, Bool.true_eq_false, reduceCtorEq, Bool.not_eq_true', Bool.not_eq_false', beq_iff_eq, bne_iff_ne, beq_eq_false_iff_ne, bne_eq_false_iff_eq, cmpOf] at hb') <;> try (exfalso; omega))
    )
  all_goals first
    | (apply Ends.mk (.cons (.tmp rfl) .nil); exact congrArg D.bool e7)
    | (apply Ends.mk (.cons (.tmp rfl) .nil); rfl)
/-- a number of an interval -/
def btw (x y : Rat) (n : Int) : Rat := loQ x y + Rat.divInt n 255 * (hiQ x y - loQ x y)
theorem btw_in (x y : Rat) {n : Int} (h0 : 0 ≤ n) (h1 : n ≤ 255) : loQ x y ≤ btw x y n ∧ btw x y n ≤ hiQ x y := by
  have hw := loQ_le x y
  have e : Rat.divInt n 255 * ((255 : Int) : Rat) = (n : Rat) := by rw [Rat.divInt_eq_div]; exact Rat.div_mul_cancel (by decide +kernel)
  have g0 : (0 : Rat) ≤ (n : Rat) := Rat.intCast_le_intCast.2 h0
  have g1 : (n : Rat) ≤ ((255 : Int) : Rat) := Rat.intCast_le_intCast.2 h1
  have e255 : ((255 : Int) : Rat) = 255 := rfl
  rw [e255] at e g1
  have t0 : 0 ≤ Rat.divInt n 255 := by grind
  have t1 : Rat.divInt n 255 ≤ 1 := by grind
  unfold btw
  generalize Rat.divInt n 255 = t at *
  have a1 := Rat.mul_nonneg t0 (show 0 ≤ hiQ x y - loQ x y by grind)
  have a2 := Rat.mul_nonneg (show 0 ≤ 1 - t by grind) (show 0 ≤ hiQ x y - loQ x y by grind)
  exact ⟨by grind, by grind⟩
section
variable {s s' t t' : Bool} {l d l' d' u e u' e' : List Int} {x y z v : Rat} {k m i j : Nat}
theorem sbetween [h : RA s l d x k] [h' : RA s' l' d' y m] (n : Int) (hk : k + m ≤ 100000000 := by first | omega | (simp only [List.length_cons, List.length_nil, List.length_set, List.length_replicate, List.length_append, List.length_take, List.length_drop]; omega)) : Evals Tryd.prog 9 [.agg [.bool s, .ints .u32 l, .ints .u32 d, .bool s', .ints .u32 l', .ints .u32 d'], .int .u8 n] (ratD (btw x y n)) := by
  refine evals_of_awp Tryd.func9 rfl (CallOK.of Tryd.func9 (by kernel_rfl) rfl) (Nat.le_of_ble_eq_true rfl) ?_
  rintro w R hR ⟨vs, hv⟩
  obtain ⟨a1, a2, a3, a4⟩ := hv.span 0 rfl
  have z1 := h.sz a1 a2
  have z2 := h'.sz a3 a4
  obtain ⟨n1, n2⟩ := hv.int 1 rfl
  have n1 : 0 ≤ n := n1
  have n2 : n ≤ 255 := n2
  have zn : SzI n 2 := SzI.i64 (by omega)
  have zm : SzI 255 2 := SzI.i64 (by omega)
  repeat' (first
    | (apply RunL.step; exact rfl; first
      | fail)
    | (apply RunL.step; exact rfl; apply op_ev (τ := τ); exact rfl; (first | exact rof _ _ | exact sof | exact swidth | exact rnorm | exact rneg | exact rsign | exact rcmp | exact radd | exact rsub | exact rmul | exact rmake | exact rdiv | exact rabs | exact rfloor | exact rof _ _); exact rfl)
    | (apply RunL.step; exact rfl; exact opA)
    | (apply RunL.hand; exact rfl; exact rfl; exact lenA; exact rfl)
    | (apply AWP.seq)
    | (apply AWP.region; exact rfl)
    | (apply AWP.block)
    | (apply AWP.skip)
    | (apply AWP.exit)
    | (apply AWP.retF; exact rfl; exact rfl; exact rfl; exact rfl; exact lenA; exact rfl)
    | (apply AWP.ret)
    | (apply RunL.nil)
    | (apply RunL.on; exact rfl; exact rfl; exact rfl; exact rfl; (first | exact rfl | assumption))
    | (apply RunL.noU; exact rfl; exact rfl; exact rfl; exact rfl; exact rfl; exact rfl)
    | (apply RunL.no; exact rfl; exact rfl; exact rfl; exact rfl; (first | exact rfl | assumption); exact rfl; exact rfl)
    | (refine AWP.cond _ (Rd.of rfl) (fun hc => ?_) (fun hc => ?_) <;> first | (exfalso; cases hc; done) | (have hc' := hc; (try simp only [decide_eq_true_eq, decide_eq_false_iff_not, Bool.not_true, Bool.not_false, bne_self_eq_false, beq_self_eq_true, ne_self_iff_false, Bool.true_bne, Bool.false_bne, Bool.true_beq, Bool.false_beq, Bool.false_eq_true, Bool.true_eq_false, reduceCtorEq, Bool.not_eq_true', Bool.not_eq_false', beq_iff_eq, bne_iff_ne, beq_eq_false_iff_ne, bne_eq_false_iff_eq, cmpOf] at hc'); try (exfalso; omega)))
    | (
      apply AWP.drawA
      repeat' (first
        | (apply DL.cons; (try (apply OpLoc.on; exact rfl; exact rfl; exact rfl; exact rfl; (first | exact rfl | assumption))); apply ol_ev (τ := τ); exact rfl; (first | exact rof _ _ | exact sof | exact swidth | exact rnorm | exact rneg | exact rsign | exact rcmp | exact radd | exact rsub | exact rmul | exact rmake | exact rdiv | exact rabs | exact rfloor | exact rof _ _); exact rfl; exact rfl)
        | (apply DL.cons; exact olA; exact rfl)
        | (apply DL.nil; kernel_rfl)
        | (refine DL.split rfl rfl rfl rfl (fun hb => ?_) (fun hb => ?_) <;> have hb' := hb <;> (try simp only [decide_eq_true_eq, decide_eq_false_iff_not, Bool.not_true, Bool.not_false, bne_self_eq_false, beq_self_eq_true, ne_self_iff_false, Bool.true_bne, Bool.false_bne, Bool.true_beq, Bool.false_beq, Bool.false_eq_true, Bool.true_eq_false, reduceCtorEq, Bool.not_eq_true', Bool.not_eq_false', beq_iff_eq, bne_iff_ne, beq_eq_false_iff_ne, bne_eq_false_iff_eq, cmpOf] at hb') <;> try (exfalso; omega)))
      all_goals (fail_if_success apply DL.id))
    | (refine RunL.split rfl rfl rfl rfl (fun hb => ?_) (fun hb => ?_) <;> have hb' := hb <;> (try simp only [decide_eq_true_eq, decide_eq_false_iff_not, Bool.not_true, Bool.not_false, bne_self_eq_false, beq_self_eq_true, ne_self_iff_false, Bool.true_bne, Bool.false_bne, Bool.true_beq, Bool.false_beq, Bool.false_eq_true, Bool.true_eq_false, reduceCtorEq, Bool.not_eq_true', Bool.not_eq_false', beq_iff_eq, bne_iff_ne, beq_eq_false_iff_ne, bne_eq_false_iff_eq, cmpOf] at hb') <;> try (exfalso; omega))
    )
  apply Ends.mk (.cons (.cellA (τ := τ) rfl rfl rfl rfl rfl) .nil)
  rfl
end
set_option maxHeartbeats 4000000 in
theorem law_SpanEncloses (s1 : Bool) (l1 d1 : List Int) (s2 : Bool) (l2 d2 : List Int) (s3 : Bool) (l3 d3 : List Int) (s4 : Bool) (l4 d4 : List Int) (s5 : Bool) (l5 d5 : List Int) (n m : Int) (hb : bulkA [.agg [.bool s1, .ints .u32 l1, .ints .u32 d1, .bool s2, .ints .u32 l2, .ints .u32 d2], .agg [.bool s3, .ints .u32 l3, .ints .u32 d3, .bool s4, .ints .u32 l4, .ints .u32 d4], .agg [.bool s5, .ints .u32 l5, .ints .u32 d5], .agg [.int .u8 n, .int .u8 m]] ≤ 1048576) : Evals Tryd.prog 4 [.agg [.bool s1, .ints .u32 l1, .ints .u32 d1, .bool s2, .ints .u32 l2, .ints .u32 d2], .agg [.bool s3, .ints .u32 l3, .ints .u32 d3, .bool s4, .ints .u32 l4, .ints .u32 d4], .agg [.bool s5, .ints .u32 l5, .ints .u32 d5], .agg [.int .u8 n, .int .u8 m]] (.bool true) := by
  refine evals_of_awp Tryd.func4 rfl (CallOK.of Tryd.func4 (by kernel_rfl) rfl) (Nat.le_of_ble_eq_true rfl) ?_
  rintro w R hR ⟨vs, hv⟩
  have hl1 : l1.length ≤ 1048576 := by simp [bulkA, D.parts, bulkL, D.bulk] at hb; omega
  have hl2 : l2.length ≤ 1048576 := by simp [bulkA, D.parts, bulkL, D.bulk] at hb; omega
  have hd1 : d1.length ≤ 1048576 := by simp [bulkA, D.parts, bulkL, D.bulk] at hb; omega
  have hd2 : d2.length ≤ 1048576 := by simp [bulkA, D.parts, bulkL, D.bulk] at hb; omega
  obtain ⟨x, i1⟩ : ∃ x, RA s1 l1 d1 x 1048576 := ⟨_, rfl, hl1, hd1⟩
  obtain ⟨y, i2⟩ : ∃ x, RA s2 l2 d2 x 1048576 := ⟨_, rfl, hl2, hd2⟩
  obtain ⟨w1, w2, w3, w4⟩ := hv.span 0 rfl
  have z1 := i1.sz w1 w2
  have z2 := i2.sz w3 w4
  have hl3 : l3.length ≤ 1048576 := by simp [bulkA, D.parts, bulkL, D.bulk] at hb; omega
  have hl4 : l4.length ≤ 1048576 := by simp [bulkA, D.parts, bulkL, D.bulk] at hb; omega
  have hd3 : d3.length ≤ 1048576 := by simp [bulkA, D.parts, bulkL, D.bulk] at hb; omega
  have hd4 : d4.length ≤ 1048576 := by simp [bulkA, D.parts, bulkL, D.bulk] at hb; omega
  obtain ⟨z, i3⟩ : ∃ x, RA s3 l3 d3 x 1048576 := ⟨_, rfl, hl3, hd3⟩
  obtain ⟨v, i4⟩ : ∃ x, RA s4 l4 d4 x 1048576 := ⟨_, rfl, hl4, hd4⟩
  obtain ⟨w5, w6, w7, w8⟩ := hv.span 1 rfl
  have z3 := i3.sz w5 w6
  have z4 := i4.sz w7 w8
  have hl5 : l5.length ≤ 1048576 := by simp [bulkA, D.parts, bulkL, D.bulk] at hb; omega
  have hd5 : d5.length ≤ 1048576 := by simp [bulkA, D.parts, bulkL, D.bulk] at hb; omega
  obtain ⟨r, i5⟩ : ∃ x, RA s5 l5 d5 x 1048576 := ⟨_, rfl, hl5, hd5⟩
  obtain ⟨⟨_, w9⟩, _, w10⟩ := hv.rat 2 rfl
  have z5 := i5.sz w9 w10
  obtain ⟨us, hu⟩ := hv.agg 3 rfl
  obtain ⟨n1, n2⟩ := hu.int 0 rfl
  have n1 : 0 ≤ n := n1
  have n2 : n ≤ 255 := n2
  obtain ⟨m1, m2⟩ := hu.int 1 rfl
  have m1 : 0 ≤ m := m1
  have m2 : m ≤ 255 := m2
  have zn : SzI n 2 := SzI.i64 (by omega)
  have zm : SzI m 2 := SzI.i64 (by omega)
  have z255 : SzI 255 2 := SzI.i64 (by omega)
  have hA := btw_in x y n1 n2
  have hB := btw_in z v m1 m2
  obtain ⟨X, hX⟩ : ∃ X, btw x y n = X := ⟨_, rfl⟩
  obtain ⟨Y, hY⟩ : ∃ Y, btw z v m = Y := ⟨_, rfl⟩
  have zX : SzR X 10000000 := by rw [← hX]; exact (SzR.inst (loQ x y + Rat.divInt n 255 * (hiQ x y - loQ x y))).mono (by omega)
  have zY : SzR Y 10000000 := by rw [← hY]; exact (SzR.inst (loQ z v + Rat.divInt m 255 * (hiQ z v - loQ z v))).mono (by omega)
  have cX := sbetween (h := i1) (h' := i2) n
  have cY := sbetween (h := i3) (h' := i4) m
  rw [hX] at hA cX
  rw [hY] at hB cY
  obtain ⟨e1, e2⟩ := lohi (show loQ x y + loQ z v ≤ hiQ x y + hiQ z v by have := loQ_le x y; have := loQ_le z v; grind)
  have hP : loQ (loQ (loQ x y + loQ z v) (hiQ x y + hiQ z v)) (hiQ (loQ x y + loQ z v) (hiQ x y + hiQ z v)) ≤ X + Y ∧ X + Y ≤ hiQ (loQ (loQ x y + loQ z v) (hiQ x y + hiQ z v)) (hiQ (loQ x y + loQ z v) (hiQ x y + hiQ z v)) := by
    rw [e1, e2, e1, e2]; exact ⟨by grind, by grind⟩
  obtain ⟨e3, e4⟩ := lohi (show loQ x y - hiQ z v ≤ hiQ x y - loQ z v by have := loQ_le x y; have := loQ_le z v; grind)
  have hQ : loQ (loQ (loQ x y - hiQ z v) (hiQ x y - loQ z v)) (hiQ (loQ x y - hiQ z v) (hiQ x y - loQ z v)) ≤ X - Y ∧ X - Y ≤ hiQ (loQ (loQ x y - hiQ z v) (hiQ x y - loQ z v)) (hiQ (loQ x y - hiQ z v) (hiQ x y - loQ z v)) := by
    rw [e3, e4, e3, e4]; exact ⟨by grind, by grind⟩
  obtain ⟨e5, e6⟩ := lohi (mulLo_le x y z v)
  have hM : loQ (mulLo x y z v) (mulHi x y z v) ≤ X * Y ∧ X * Y ≤ hiQ (mulLo x y z v) (mulHi x y z v) := by
    rw [e5, e6]; exact hasMul hA hB
  obtain ⟨e7, e8⟩ := lohi (loQ_le (x * r) (y * r))
  have hS : loQ (loQ (x * r) (y * r)) (hiQ (x * r) (y * r)) ≤ r * X ∧ r * X ≤ hiQ (loQ (x * r) (y * r)) (hiQ (x * r) (y * r)) := by
    rw [e7, e8, Rat.mul_comm r X]
    have := hasMul (z := r) (w := r) (q := r) hA ⟨by rw [loQ]; split <;> exact Rat.le_refl, by rw [hiQ]; split <;> exact Rat.le_refl⟩
    have f1 : mulLo x y r r = loQ (x * r) (y * r) := by unfold mulLo loQ; (repeat' split) <;> grind
    have f2 : mulHi x y r r = hiQ (x * r) (y * r) := by unfold mulHi hiQ; (repeat' split) <;> grind
    rwa [f1, f2] at this
  have szA : SzR (mulLo x y z v) 10000000 := (SzR.inst (loQ (loQ (x * z) (x * v)) (loQ (y * z) (y * v)))).mono (by omega)
  have szB : SzR (mulHi x y z v) 10000000 := (SzR.inst (hiQ (hiQ (x * z) (x * v)) (hiQ (y * z) (y * v)))).mono (by omega)
  repeat' (first
    | (apply RunL.step; exact rfl; first
      | (apply op_iaArr (τ := τ); exact rfl; exact rfl; exact rfl; exact rfl; exact Rd.of rfl; exact Rd.of rfl; omega; omega; exact rfl)
      | fail)
    | (apply RunL.step; exact rfl; apply op_ev (τ := τ); exact rfl; (first | exact cX | exact cY | exact shasT | exact shasF | exact sadd | exact ssub | exact smul | exact sscale | exact sawake | exact radd | exact rsub | exact rmul); exact rfl)
    | (apply RunL.step; exact rfl; exact opA)
    | (apply RunL.hand; exact rfl; exact rfl; exact lenA; exact rfl)
    | (apply AWP.seq)
    | (apply AWP.region; exact rfl)
    | (apply AWP.block)
    | (apply AWP.skip)
    | (apply AWP.exit)
    | (apply AWP.retF; exact rfl; exact rfl; exact rfl; exact rfl; exact lenA; exact rfl)
    | (apply AWP.ret)
    | (apply RunL.nil)
    | (apply RunL.on; exact rfl; exact rfl; exact rfl; exact rfl; (first | exact rfl | assumption))
    | (apply RunL.noU; exact rfl; exact rfl; exact rfl; exact rfl; exact rfl; exact rfl)
    | (apply RunL.no; exact rfl; exact rfl; exact rfl; exact rfl; (first | exact rfl | assumption); exact rfl; exact rfl)
    | (refine AWP.cond _ (Rd.of rfl) (fun hc => ?_) (fun hc => ?_) <;> first | (exfalso; cases hc; done) | (have hc' := hc; (try simp only [decide_eq_true_eq, decide_eq_false_iff_not, Bool.not_true, Bool.not_false, bne_self_eq_false, beq_self_eq_true, ne_self_iff_false, Bool.true_bne, Bool.false_bne, Bool.true_beq, Bool.false_beq, Bool.false_eq_true, Bool.true_eq_false, reduceCtorEq, Bool.not_eq_true', Bool.not_eq_false', beq_iff_eq, bne_iff_ne, beq_eq_false_iff_ne, bne_eq_false_iff_eq, cmpOf] at hc'); try (exfalso; omega)))
    | (
      apply AWP.drawA
      repeat' (first
        | (apply DL.cons; (try (apply OpLoc.on; exact rfl; exact rfl; exact rfl; exact rfl; (first | exact rfl | assumption))); apply ol_ev (τ := τ); exact rfl; (first | exact cX | exact cY | exact shasT | exact shasF | exact sadd | exact ssub | exact smul | exact sscale | exact sawake | exact radd | exact rsub | exact rmul); exact rfl; exact rfl)
        | (apply DL.cons; exact olA; exact rfl)
        | (apply DL.nil; kernel_rfl)
        | (refine DL.split rfl rfl rfl rfl (fun hb => ?_) (fun hb => ?_) <;> have hb' := hb <;> (try simp only [decide_eq_true_eq, decide_eq_false_iff_not, Bool.not_true, Bool.not_false, bne_self_eq_false, beq_self_eq_true, ne_self_iff_false, Bool.true_bne, Bool.false_bne, Bool.true_beq, Bool.false_beq, Bool.false_eq_true, Bool.true_eq_false, reduceCtorEq, Bool.not_eq_true', Bool.not_eq_false', beq_iff_eq, bne_iff_ne, beq_eq_false_iff_ne, bne_eq_false_iff_eq, cmpOf] at hb') <;> try (exfalso; omega)))
      all_goals (fail_if_success apply DL.id))
    | (refine RunL.split rfl rfl rfl rfl (fun hb => ?_) (fun hb => ?_) <;> have hb' := hb <;> (try simp only [decide_eq_true_eq, decide_eq_false_iff_not, Bool.not_true, Bool.not_false, bne_self_eq_false, beq_self_eq_true, ne_self_iff_false, Bool.true_bne, Bool.false_bne, Bool.true_beq, Bool.false_beq, Bool.false_eq_true, Bool.true_eq_false, reduceCtorEq, Bool.not_eq_true', Bool.not_eq_false', beq_iff_eq, bne_iff_ne, beq_eq_false_iff_ne, bne_eq_false_iff_eq, cmpOf] at hb') <;> try (exfalso; omega))
    )
  all_goals
    (apply Ends.mk (.cons (.tmp rfl) .nil); first | rfl | (simp only [pack]; congr 1; simp only [cmpOf, decide_eq_true_eq, beq_iff_eq, bne_iff_ne]; omega))
end Go.Proofs.YtfbpkohfpipliaaDoor.K
