/- The laws of layer 2 (examboardlaw02). -/
import Derived.Test.YtemgfdojllepaaaDoorWalkV
import Derived.Test.YtemgfdojllepaaaDoorWalkT
import Derived.Test.YtemgfdojllepaaaDoorLawR
import Derived.Test.YtemgfdojllepaaaDoorPost
namespace Go.Proofs.YtemgfdojllepaaaDoor.K
open Go
set_option linter.unusedVariables false
set_option linter.unusedSimpArgs false

set_option maxHeartbeats 1000000 in
theorem isame0 (n : Bool) (a : List Int) (m : Bool) (b : List Int) : Evals Tryd.prog 14 [.agg [.bool n, .ints .u32 a], .agg [.bool m, .ints .u32 b]] (.bool (decide (n = m ∧ a = b))) := by
  refine evals_of_awp Tryd.func14 rfl (CallOK.of Tryd.func14 (by kernel_rfl) rfl) (Nat.le_of_ble_eq_true rfl) ?_
  rintro w R hR ⟨vs, hv⟩
  obtain ⟨_, ha⟩ := hv.sint 0 rfl
  obtain ⟨_, hB⟩ := hv.sint 1 rfl
  have hla : a.length ≤ 9223372036854775807 := by assumption
  repeat' (first
    | (apply RunL.step; exact rfl; first
      | fail)
    | (apply RunL.step; exact rfl; apply op_ev (τ := τ); exact rfl; (fail); exact rfl)
    | (apply RunL.step; exact rfl; exact opA)
    | (apply RunL.hand; exact rfl; exact rfl; exact lenA; exact rfl)
    | (apply AWP.seq)
    | (apply AWP.region; exact rfl)
    | (apply AWP.block)
    | (apply AWP.skip)
    | (apply AWP.exit)
    | (apply AWP.retF; exact rfl; exact rfl; exact rfl; exact rfl; exact lenA; exact rfl)
    | (apply AWP.ret)
    | (apply RunL.nil)
    | (apply RunL.on; exact rfl; exact rfl; exact rfl; exact rfl; (first | exact rfl | assumption))
    | (apply RunL.noU; exact rfl; exact rfl; exact rfl; exact rfl; exact rfl; exact rfl)
    | (apply RunL.no; exact rfl; exact rfl; exact rfl; exact rfl; (first | exact rfl | assumption); exact rfl; exact rfl)
    | (refine AWP.cond _ (Rd.of rfl) (fun hc => ?_) (fun hc => ?_) <;> first | (exfalso; cases hc; done) | (have hc' := hc; (try simp only [decide_eq_true_eq, decide_eq_false_iff_not, Bool.not_true, Bool.not_false, bne_self_eq_false, beq_self_eq_true, ne_self_iff_false, Bool.true_bne, Bool.false_bne, Bool.true_beq, Bool.false_beq, Bool.false_eq_true, Bool.true_eq_false, reduceCtorEq, Bool.not_eq_true', Bool.not_eq_false', beq_iff_eq, bne_iff_ne, beq_eq_false_iff_ne, bne_eq_false_iff_eq, cmpOf] at hc'); try (exfalso; omega)))
    | (
      apply AWP.drawA
      repeat' (first
        | (apply DL.cons; (try (apply OpLoc.on; exact rfl; exact rfl; exact rfl; exact rfl; (first | exact rfl | assumption))); apply ol_ev (τ := τ); exact rfl; (fail); exact rfl; exact rfl)
        | (apply DL.cons; exact olA; exact rfl)
        | (apply DL.nil; kernel_rfl)
        | (refine DL.split rfl rfl rfl rfl (fun hb => ?_) (fun hb => ?_) <;> have hb' := hb <;> (try simp only [decide_eq_true_eq, decide_eq_false_iff_not, Bool.not_true, Bool.not_false, bne_self_eq_false, beq_self_eq_true, ne_self_iff_false, Bool.true_bne, Bool.false_bne, Bool.true_beq, Bool.false_beq, Bool.false_eq_true, Bool.true_eq_false, reduceCtorEq, Bool.not_eq_true', Bool.not_eq_false', beq_iff_eq, bne_iff_ne, beq_eq_false_iff_ne, bne_eq_false_iff_eq, cmpOf] at hb') <;> try (exfalso; omega)))
      all_goals (fail_if_success apply DL.id))
    | (refine RunL.split rfl rfl rfl rfl (fun hb => ?_) (fun hb => ?_) <;> have hb' := hb <;> (try simp only [decide_eq_true_eq, decide_eq_false_iff_not, Bool.not_true, Bool.not_false, bne_self_eq_false, beq_self_eq_true, ne_self_iff_false, Bool.true_bne, Bool.false_bne, Bool.true_beq, Bool.false_beq, Bool.false_eq_true, Bool.true_eq_false, reduceCtorEq, Bool.not_eq_true', Bool.not_eq_false', beq_iff_eq, bne_iff_ne, beq_eq_false_iff_ne, bne_eq_false_iff_eq, cmpOf] at hb') <;> try (exfalso; omega))
    )
  · apply Ends.mk (.cons (.tmp rfl) .nil)
    rw [decide_eq_false (fun h => by have := h.2; subst this; omega)]; rfl
  · refine AWP.loop (ι := Int) (fun i => ⟨[(2, .pb 2 0), (3, .pb 3 0), (22, .val (.int .i64 a.length)), (23, .val (.int .i64 i))], [(2, .cells 25 [.bool n, .ints .u32 a]), (3, .cells 25 [.bool m, .ints .u32 b])]⟩) (fun i => 0 ≤ i ∧ i ≤ a.length ∧ ∀ j : Nat, j < i.toNat → ix a j = ix b j) (fun i => a.length - i.toNat) 0 ⟨by omega, by omega, fun j h => by omega⟩ (St.Le.of (by repeat' (first | exact all_nil | refine all_cons rfl ?_)) (by repeat' (first | exact all_nil | refine all_cons rfl ?_))) ?_
    rintro i ⟨k1, k2, k3⟩
    have q1 := ha.ix i
    have q2 := hB.ix i
    by_cases hi : i < a.length
    · repeat' (first
        | (apply RunL.step; exact rfl; first
          | fail)
        | (apply RunL.step; exact rfl; apply op_ev (τ := τ); exact rfl; (fail); exact rfl)
        | (apply RunL.step; exact rfl; exact opA)
        | (apply RunL.hand; exact rfl; exact rfl; exact lenA; exact rfl)
        | (apply AWP.seq)
        | (apply AWP.region; exact rfl)
        | (apply AWP.block)
        | (apply AWP.skip)
        | (apply AWP.exit)
        | (apply AWP.retF; exact rfl; exact rfl; exact rfl; exact rfl; exact lenA; exact rfl)
        | (apply AWP.ret)
        | (apply RunL.nil)
        | (apply RunL.on; exact rfl; exact rfl; exact rfl; exact rfl; (first | exact rfl | assumption))
        | (apply RunL.noU; exact rfl; exact rfl; exact rfl; exact rfl; exact rfl; exact rfl)
        | (apply RunL.no; exact rfl; exact rfl; exact rfl; exact rfl; (first | exact rfl | assumption); exact rfl; exact rfl)
        | (refine AWP.cond _ (Rd.of rfl) (fun hc => ?_) (fun hc => ?_) <;> first | (exfalso; cases hc; done) | (have hc' := hc; (try simp only [decide_eq_true_eq, decide_eq_false_iff_not, Bool.not_true, Bool.not_false, bne_self_eq_false, beq_self_eq_true, ne_self_iff_false, Bool.true_bne, Bool.false_bne, Bool.true_beq, Bool.false_beq, Bool.false_eq_true, Bool.true_eq_false, reduceCtorEq, Bool.not_eq_true', Bool.not_eq_false', beq_iff_eq, bne_iff_ne, beq_eq_false_iff_ne, bne_eq_false_iff_eq, cmpOf] at hc'); try (exfalso; omega)))
        | (
          apply AWP.drawA
          repeat' (first
            | (apply DL.cons; (try (apply OpLoc.on; exact rfl; exact rfl; exact rfl; exact rfl; (first | exact rfl | assumption))); apply ol_ev (τ := τ); exact rfl; (fail); exact rfl; exact rfl)
            | (apply DL.cons; exact olA; exact rfl)
            | (apply DL.nil; kernel_rfl)
            | (refine DL.split rfl rfl rfl rfl (fun hb => ?_) (fun hb => ?_) <;> have hb' := hb <;> (try simp only [decide_eq_true_eq, decide_eq_false_iff_not, Bool.not_true, Bool.not_false, bne_self_eq_false, beq_self_eq_true, ne_self_iff_false, Bool.true_bne, Bool.false_bne, Bool.true_beq, Bool.false_beq, Bool.false_eq_true, Bool.true_eq_false, reduceCtorEq, Bool.not_eq_true', Bool.not_eq_false', beq_iff_eq, bne_iff_ne, beq_eq_false_iff_ne, bne_eq_false_iff_eq, cmpOf] at hb') <;> try (exfalso; omega)))
          all_goals (fail_if_success apply DL.id))
        | (refine RunL.split rfl rfl rfl rfl (fun hb => ?_) (fun hb => ?_) <;> have hb' := hb <;> (try simp only [decide_eq_true_eq, decide_eq_false_iff_not, Bool.not_true, Bool.not_false, bne_self_eq_false, beq_self_eq_true, ne_self_iff_false, Bool.true_bne, Bool.false_bne, Bool.true_beq, Bool.false_beq, Bool.false_eq_true, Bool.true_eq_false, reduceCtorEq, Bool.not_eq_true', Bool.not_eq_false', beq_iff_eq, bne_iff_ne, beq_eq_false_iff_ne, bne_eq_false_iff_eq, cmpOf] at hb') <;> try (exfalso; omega))
        )
      · apply Ends.mk (.cons (.tmp rfl) .nil)
        rw [decide_eq_false (fun h => by have := h.2; subst this; omega)]; rfl
      · refine ⟨_, St.Le.of (by repeat' (first | exact all_nil | refine all_cons rfl ?_)) (by repeat' (first | exact all_nil | refine all_cons rfl ?_)), ⟨by omega, by omega, fun j hj => ?_⟩, by omega⟩
        by_cases h : j < i.toNat
        · exact k3 j h
        · rw [show (j : Int) = i by omega]; omega
    · repeat' (first
        | (apply RunL.step; exact rfl; first
          | fail)
        | (apply RunL.step; exact rfl; apply op_ev (τ := τ); exact rfl; (fail); exact rfl)
        | (apply RunL.step; exact rfl; exact opA)
        | (apply RunL.hand; exact rfl; exact rfl; exact lenA; exact rfl)
        | (apply AWP.seq)
        | (apply AWP.region; exact rfl)
        | (apply AWP.block)
        | (apply AWP.skip)
        | (apply AWP.exit)
        | (apply AWP.retF; exact rfl; exact rfl; exact rfl; exact rfl; exact lenA; exact rfl)
        | (apply AWP.ret)
        | (apply RunL.nil)
        | (apply RunL.on; exact rfl; exact rfl; exact rfl; exact rfl; (first | exact rfl | assumption))
        | (apply RunL.noU; exact rfl; exact rfl; exact rfl; exact rfl; exact rfl; exact rfl)
        | (apply RunL.no; exact rfl; exact rfl; exact rfl; exact rfl; (first | exact rfl | assumption); exact rfl; exact rfl)
        | (refine AWP.cond _ (Rd.of rfl) (fun hc => ?_) (fun hc => ?_) <;> first | (exfalso; cases hc; done) | (have hc' := hc; (try simp only [decide_eq_true_eq, decide_eq_false_iff_not, Bool.not_true, Bool.not_false, bne_self_eq_false, beq_self_eq_true, ne_self_iff_false, Bool.true_bne, Bool.false_bne, Bool.true_beq, Bool.false_beq, Bool.false_eq_true, Bool.true_eq_false, reduceCtorEq, Bool.not_eq_true', Bool.not_eq_false', beq_iff_eq, bne_iff_ne, beq_eq_false_iff_ne, bne_eq_false_iff_eq, cmpOf] at hc'); try (exfalso; omega)))
        | (
          apply AWP.drawA
          repeat' (first
            | (apply DL.cons; (try (apply OpLoc.on; exact rfl; exact rfl; exact rfl; exact rfl; (first | exact rfl | assumption))); apply ol_ev (τ := τ); exact rfl; (fail); exact rfl; exact rfl)
            | (apply DL.cons; exact olA; exact rfl)
            | (apply DL.nil; kernel_rfl)
            | (refine DL.split rfl rfl rfl rfl (fun hb => ?_) (fun hb => ?_) <;> have hb' := hb <;> (try simp only [decide_eq_true_eq, decide_eq_false_iff_not, Bool.not_true, Bool.not_false, bne_self_eq_false, beq_self_eq_true, ne_self_iff_false, Bool.true_bne, Bool.false_bne, Bool.true_beq, Bool.false_beq, Bool.false_eq_true, Bool.true_eq_false, reduceCtorEq, Bool.not_eq_true', Bool.not_eq_false', beq_iff_eq, bne_iff_ne, beq_eq_false_iff_ne, bne_eq_false_iff_eq, cmpOf] at hb') <;> try (exfalso; omega)))
          all_goals (fail_if_success apply DL.id))
        | (refine RunL.split rfl rfl rfl rfl (fun hb => ?_) (fun hb => ?_) <;> have hb' := hb <;> (try simp only [decide_eq_true_eq, decide_eq_false_iff_not, Bool.not_true, Bool.not_false, bne_self_eq_false, beq_self_eq_true, ne_self_iff_false, Bool.true_bne, Bool.false_bne, Bool.true_beq, Bool.false_beq, Bool.false_eq_true, Bool.true_eq_false, reduceCtorEq, Bool.not_eq_true', Bool.not_eq_false', beq_iff_eq, bne_iff_ne, beq_eq_false_iff_ne, bne_eq_false_iff_eq, cmpOf] at hb') <;> try (exfalso; omega))
        )
      apply Ends.mk (.cons (.tmp rfl) .nil)
      rw [decide_eq_true ⟨hb', list_ext_ix (by omega) fun j hj => k3 j (by omega)⟩]; rfl
  · apply Ends.mk (.cons (.tmp rfl) .nil)
    rw [decide_eq_false (fun h => hb' h.1)]; rfl
theorem intD_inj {x y : Int} (h1 : decide (x < 0) = decide (y < 0)) (h2 : limbs x.natAbs = limbs y.natAbs) : x = y := by
  have e1 := sI_norm x
  have e2 := sI_norm y
  rw [← e1, ← e2, h1, h2]
theorem isame (x y : Int) : Evals Tryd.prog 14 [intD x, intD y] (.bool (decide (x = y))) := by
  have := isame0 (decide (x < 0)) (limbs x.natAbs) (decide (y < 0)) (limbs y.natAbs)
  have e : decide (decide (x < 0) = decide (y < 0) ∧ limbs x.natAbs = limbs y.natAbs) = decide (x = y) :=
    decide_eq_decide.2 ⟨fun h => intD_inj h.1 h.2, fun h => by subst h; exact ⟨rfl, rfl⟩⟩
  rwa [e] at this
theorem isame_eq {x y : Int} (h : x = y := by first | rfl | grind) : Evals Tryd.prog 14 [intD x, intD y] (.bool true) := by
  have := isame x y
  rwa [decide_eq_true h] at this
/-- 0, as a composite literal of a struct writes it -/
theorem isame_zero {x : Int} (h : x = 0) : Evals Tryd.prog 14 [intD x, .agg [.bool false, .ints .u32 []]] (.bool true) := by
  have := isame_eq h
  rwa [intD_zero] at this
theorem intS_m4 : intS (-4) = [45, 52] := by
  rw [intS, if_pos (by omega), show (((-4 : Int).natAbs : Nat) : Int) = 4 from rfl, decD_small (by omega) (by omega)]; rfl
theorem intS_1 : intS 1 = [49] := by
  rw [intS, if_neg (by omega), show (((1 : Int).natAbs : Nat) : Int) = 1 from rfl, decD_small (by omega) (by omega)]; rfl
theorem intS_m12 : intS (-12) = [45, 49, 50] := by
  rw [intS, if_pos (by omega), show (((-12 : Int).natAbs : Nat) : Int) = 12 from rfl, decD_big (by omega), show (12 : Int) / 10 = 1 from rfl, decD_small (by omega) (by omega)]; rfl
set_option maxHeartbeats 2000000 in
theorem iawake : Evals Tryd.prog 17 [] (.bool true) := by
  refine evals_of_awp Tryd.func17 rfl (CallOK.of Tryd.func17 (by kernel_rfl) rfl) (Nat.le_of_ble_eq_true rfl) ?_
  rintro w R hR ⟨vs, hv⟩
  have s7 : SzI (-7) 2 := SzI.i64 (by omega)
  have s2 : SzI 2 2 := SzI.i64 (by omega)
  have s4 : SzI (-4) 2 := SzI.i64 (by omega)
  have s5 : SzI (-4294967296) 2 := SzI.i64 (by omega)
  have v1 : Int.fdiv (-7) 2 = -4 := by decide
  have v2 : Int.fmod (-7) 2 = 1 := by decide
  have v3 : intV [45, 49, 50] = -12 := by decide
  have v4 : intE [45, 49, 50] = 0 := by decide
  have h1 : cmpStr .eql (intS (Int.fdiv (-7) 2)) [45, 52] = true := by rw [v1, intS_m4]; rfl
  have h2 : cmpStr .eql (intS (Int.fmod (-7) 2)) [49] = true := by rw [v2, intS_1]; rfl
  have h3 : cmpStr .eql (intS (intV [45, 49, 50])) [45, 49, 50] = true := by rw [v3, intS_m12]; rfl
  have h4 : cmpOf .eql (intE [45, 49, 50]) 0 = true := by rw [v4]; rfl
  have h5 : cmpOf .eql (if fits (-4 * -4294967296) then -4 * -4294967296 else 0) 17179869184 = true := by decide
  have h6 : decide (fits (-4 * -4294967296)) = true := by decide
  have h7 : cmpOf .eql (cmpI (intV [45, 49, 50]) (Int.fmod (-7) 2)) (-1) = true := by rw [v3, v2]; decide
  repeat' (first
    | (apply RunL.step; exact rfl; first
      | fail)
    | (apply RunL.step; exact rfl; apply op_ev (τ := τ); exact rfl; (first | exact iparse _ | exact ciprint | exact cint64 | exact cmake | exact cineg | exact cisign | exact cicmp | exact ciadd | exact cimul | exact cidiv | exact cidiv0 | exact iof_ev _); exact rfl)
    | (apply RunL.step; exact rfl; exact opA)
    | (apply RunL.hand; exact rfl; exact rfl; exact lenA; exact rfl)
    | (apply AWP.seq)
    | (apply AWP.region; exact rfl)
    | (apply AWP.block)
    | (apply AWP.skip)
    | (apply AWP.exit)
    | (apply AWP.retF; exact rfl; exact rfl; exact rfl; exact rfl; exact lenA; exact rfl)
    | (apply AWP.ret)
    | (apply RunL.nil)
    | (apply RunL.on; exact rfl; exact rfl; exact rfl; exact rfl; (first | exact rfl | assumption))
    | (apply RunL.noU; exact rfl; exact rfl; exact rfl; exact rfl; exact rfl; exact rfl)
    | (apply RunL.no; exact rfl; exact rfl; exact rfl; exact rfl; (first | exact rfl | assumption); exact rfl; exact rfl)
    | (refine AWP.cond _ (Rd.of rfl) (fun hc => ?_) (fun hc => ?_) <;> first | (exfalso; cases hc; done) | (have hc' := hc; (try simp only [decide_eq_true_eq, decide_eq_false_iff_not, Bool.not_true, Bool.not_false, bne_self_eq_false, beq_self_eq_true, ne_self_iff_false, Bool.true_bne, Bool.false_bne, Bool.true_beq, Bool.false_beq, Bool.false_eq_true, Bool.true_eq_false, reduceCtorEq, Bool.not_eq_true', Bool.not_eq_false', beq_iff_eq, bne_iff_ne, beq_eq_false_iff_ne, bne_eq_false_iff_eq, cmpOf] at hc'); try (exfalso; omega)))
    | (
      apply AWP.drawA
      repeat' (first
        | (apply DL.cons; (try (apply OpLoc.on; exact rfl; exact rfl; exact rfl; exact rfl; (first | exact rfl | assumption))); apply ol_ev (τ := τ); exact rfl; (first | exact iparse _ | exact ciprint | exact cint64 | exact cmake | exact cineg | exact cisign | exact cicmp | exact ciadd | exact cimul | exact cidiv | exact cidiv0 | exact iof_ev _); exact rfl; exact rfl)
        | (apply DL.cons; exact olA; exact rfl)
        | (apply DL.nil; kernel_rfl)
        | (refine DL.split rfl rfl rfl rfl (fun hb => ?_) (fun hb => ?_) <;> have hb' := hb <;> (try simp only [decide_eq_true_eq, decide_eq_false_iff_not, Bool.not_true, Bool.not_false, bne_self_eq_false, beq_self_eq_true, ne_self_iff_false, Bool.true_bne, Bool.false_bne, Bool.true_beq, Bool.false_beq, Bool.false_eq_true, Bool.true_eq_false, reduceCtorEq, Bool.not_eq_true', Bool.not_eq_false', beq_iff_eq, bne_iff_ne, beq_eq_false_iff_ne, bne_eq_false_iff_eq, cmpOf] at hb') <;> try (exfalso; omega)))
      all_goals (fail_if_success apply DL.id))
    | (refine RunL.split rfl rfl rfl rfl (fun hb => ?_) (fun hb => ?_) <;> have hb' := hb <;> (try simp only [decide_eq_true_eq, decide_eq_false_iff_not, Bool.not_true, Bool.not_false, bne_self_eq_false, beq_self_eq_true, ne_self_iff_false, Bool.true_bne, Bool.false_bne, Bool.true_beq, Bool.false_beq, Bool.false_eq_true, Bool.true_eq_false, reduceCtorEq, Bool.not_eq_true', Bool.not_eq_false', beq_iff_eq, bne_iff_ne, beq_eq_false_iff_ne, bne_eq_false_iff_eq, cmpOf] at hb') <;> try (exfalso; omega))
    )
  apply Ends.mk (.cons (.tmp rfl) .nil)
  show D.bool (cmpOf .eql (cmpI (intV [45, 49, 50]) (Int.fmod (-7) 2)) (-1)) = _
  rw [h7]
theorem law_IntegerText (l : List UInt8) (n : Bool) (a : List Int) (hb : bulkA [D.str l, .agg [.bool n, .ints .u32 a]] ≤ 1048576) : Evals Tryd.prog 3 [.str l, .agg [.bool n, .ints .u32 a]] (.bool true) := by
  refine evals_of_awp Tryd.func3 rfl (CallOK.of Tryd.func3 (by kernel_rfl) rfl) (Nat.le_of_ble_eq_true rfl) ?_
  rintro w R hR ⟨vs, hv⟩
  have hl : a.length ≤ 1048576 := by simp [bulkA, D.parts, bulkL, D.bulk] at hb; omega
  have h1 : cmpStr .eql (intS (sI n a)) (intS (sI n a)) = true := by simp [cmpStr]
  repeat' (first
    | (apply RunL.step; exact rfl; first
      | fail)
    | (apply RunL.step; exact rfl; apply op_ev (τ := τ); exact rfl; (first | exact iparse _ | exact r2parse _ | exact isame_eq | exact ciprint | exact r2print | exact iawake); exact rfl)
    | (apply RunL.step; exact rfl; exact opA)
    | (apply RunL.hand; exact rfl; exact rfl; exact lenA; exact rfl)
    | (apply AWP.seq)
    | (apply AWP.region; exact rfl)
    | (apply AWP.block)
    | (apply AWP.skip)
    | (apply AWP.exit)
    | (apply AWP.retF; exact rfl; exact rfl; exact rfl; exact rfl; exact lenA; exact rfl)
    | (apply AWP.ret)
    | (apply RunL.nil)
    | (apply RunL.on; exact rfl; exact rfl; exact rfl; exact rfl; (first | exact rfl | assumption))
    | (apply RunL.noU; exact rfl; exact rfl; exact rfl; exact rfl; exact rfl; exact rfl)
    | (apply RunL.no; exact rfl; exact rfl; exact rfl; exact rfl; (first | exact rfl | assumption); exact rfl; exact rfl)
    | (refine AWP.cond _ (Rd.of rfl) (fun hc => ?_) (fun hc => ?_) <;> first | (exfalso; cases hc; done) | (have hc' := hc; (try simp only [decide_eq_true_eq, decide_eq_false_iff_not, Bool.not_true, Bool.not_false, bne_self_eq_false, beq_self_eq_true, ne_self_iff_false, Bool.true_bne, Bool.false_bne, Bool.true_beq, Bool.false_beq, Bool.false_eq_true, Bool.true_eq_false, reduceCtorEq, Bool.not_eq_true', Bool.not_eq_false', beq_iff_eq, bne_iff_ne, beq_eq_false_iff_ne, bne_eq_false_iff_eq, cmpOf] at hc'); try (exfalso; omega)))
    | (
      apply AWP.drawA
      repeat' (first
        | (apply DL.cons; (try (apply OpLoc.on; exact rfl; exact rfl; exact rfl; exact rfl; (first | exact rfl | assumption))); apply ol_ev (τ := τ); exact rfl; (first | exact iparse _ | exact r2parse _ | exact isame_eq | exact ciprint | exact r2print | exact iawake); exact rfl; exact rfl)
        | (apply DL.cons; exact olA; exact rfl)
        | (apply DL.nil; kernel_rfl)
        | (refine DL.split rfl rfl rfl rfl (fun hb => ?_) (fun hb => ?_) <;> have hb' := hb <;> (try simp only [decide_eq_true_eq, decide_eq_false_iff_not, Bool.not_true, Bool.not_false, bne_self_eq_false, beq_self_eq_true, ne_self_iff_false, Bool.true_bne, Bool.false_bne, Bool.true_beq, Bool.false_beq, Bool.false_eq_true, Bool.true_eq_false, reduceCtorEq, Bool.not_eq_true', Bool.not_eq_false', beq_iff_eq, bne_iff_ne, beq_eq_false_iff_ne, bne_eq_false_iff_eq, cmpOf] at hb') <;> try (exfalso; omega)))
      all_goals (fail_if_success apply DL.id))
    | (refine RunL.split rfl rfl rfl rfl (fun hb => ?_) (fun hb => ?_) <;> have hb' := hb <;> (try simp only [decide_eq_true_eq, decide_eq_false_iff_not, Bool.not_true, Bool.not_false, bne_self_eq_false, beq_self_eq_true, ne_self_iff_false, Bool.true_bne, Bool.false_bne, Bool.true_beq, Bool.false_beq, Bool.false_eq_true, Bool.true_eq_false, reduceCtorEq, Bool.not_eq_true', Bool.not_eq_false', beq_iff_eq, bne_iff_ne, beq_eq_false_iff_ne, bne_eq_false_iff_eq, cmpOf] at hb') <;> try (exfalso; omega))
    )
  all_goals (apply Ends.mk (.cons (.tmp rfl) .nil); first | rfl | (simp only [pack]; congr 1; simp only [cmpOf, decide_eq_true_eq, beq_iff_eq, bne_iff_ne]; omega))
end Go.Proofs.YtemgfdojllepaaaDoor.K
