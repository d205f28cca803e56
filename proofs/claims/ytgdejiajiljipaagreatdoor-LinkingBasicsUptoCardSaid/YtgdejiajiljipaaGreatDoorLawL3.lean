/- The laws of layer 45 (examboardlaw45): LinkingBasics. -/
import Derived.Test.YtgdejiajiljipaaGreatDoorLawL2
namespace Go.Proofs.YtgdejiajiljipaaGreatDoor.K
open Go
set_option linter.unusedVariables false
set_option linter.unusedSimpArgs false

theorem r4sameIg {s : Bool} {l : List Int} : Evals Tryz.prog 36 [.agg [.bool s, .ints .u32 l], .agg [.bool s, .ints .u32 l]] (.bool true) := by
  refine evals_of_awp Tryz.func36 rfl (CallOK.of Tryz.func36 (by kernel_rfl) rfl) (Nat.le_of_ble_eq_true rfl) ?_
  rintro w R hR ⟨vs, hv⟩
  have e : (s == s) = true := by simp
  repeat' (first
    | (apply RunL.step; exact rfl; first
      | fail)
    | (apply RunL.step; exact rfl; apply op_ev (τ := τ); exact rfl; (first | exact r1same_eq); exact rfl)
    | (apply RunL.step; exact rfl; exact opA)
    | (apply RunL.hand; exact rfl; exact rfl; exact lenA; exact rfl)
    | (apply AWP.seq)
    | (apply AWP.region; exact rfl)
    | (apply AWP.block)
    | (apply AWP.skip)
    | (apply AWP.exit)
    | (apply AWP.retF; exact rfl; exact rfl; exact rfl; exact rfl; exact lenA; exact rfl)
    | (apply AWP.ret)
    | (apply RunL.nil)
    | (apply RunL.on; exact rfl; exact rfl; exact rfl; exact rfl; (first | exact rfl | assumption))
    | (apply RunL.noU; exact rfl; exact rfl; exact rfl; exact rfl; exact rfl; exact rfl)
    | (apply RunL.no; exact rfl; exact rfl; exact rfl; exact rfl; (first | exact rfl | assumption); exact rfl; exact rfl)
    | (refine AWP.cond _ (Rd.of rfl) (fun hc => ?_) (fun hc => ?_) <;> first | (exfalso; cases hc; done) | (have hc' := hc; (try simp only [decide_eq_true_eq, decide_eq_false_iff_not, Bool.not_true, Bool.not_false, bne_self_eq_false, beq_self_eq_true, ne_self_iff_false, Bool.true_bne, Bool.false_bne, Bool.true_beq, Bool.false_beq, Bool.false_eq_true, Bool.true_eq_false, reduceCtorEq, Bool.not_eq_true', Bool.not_eq_false', beq_iff_eq, bne_iff_ne, beq_eq_false_iff_ne, bne_eq_false_iff_eq, cmpOf] at hc'); try (exfalso; omega)))
    | (
      apply AWP.drawA
      repeat' (first
        | (apply DL.cons; (try (apply OpLoc.on; exact rfl; exact rfl; exact rfl; exact rfl; (first | exact rfl | assumption))); apply ol_ev (τ := τ); exact rfl; (first | exact r1same_eq); exact rfl; exact rfl)
        | (apply DL.cons; exact olA; exact rfl)
        | (apply DL.nil; kernel_rfl)
        | (refine DL.split rfl rfl rfl rfl (fun hb => ?_) (fun hb => ?_) <;> have hb' := hb <;> (try simp only [decide_eq_true_eq, decide_eq_false_iff_not, Bool.not_true, Bool.not_false, bne_self_eq_false, beq_self_eq_true, ne_self_iff_false, Bool.true_bne, Bool.false_bne, Bool.true_beq, Bool.false_beq, Bool.false_eq_true, Bool.true_eq_false, reduceCtorEq, Bool.not_eq_true', Bool.not_eq_false', beq_iff_eq, bne_iff_ne, beq_eq_false_iff_ne, bne_eq_false_iff_eq, cmpOf] at hb') <;> try (exfalso; omega)))
      all_goals (fail_if_success apply DL.id))
    | (refine RunL.split rfl rfl rfl rfl (fun hb => ?_) (fun hb => ?_) <;> have hb' := hb <;> (try simp only [decide_eq_true_eq, decide_eq_false_iff_not, Bool.not_true, Bool.not_false, bne_self_eq_false, beq_self_eq_true, ne_self_iff_false, Bool.true_bne, Bool.false_bne, Bool.true_beq, Bool.false_beq, Bool.false_eq_true, Bool.true_eq_false, reduceCtorEq, Bool.not_eq_true', Bool.not_eq_false', beq_iff_eq, bne_iff_ne, beq_eq_false_iff_ne, bne_eq_false_iff_eq, cmpOf] at hb') <;> try (exfalso; omega))
    )
  all_goals
    first   | (apply Ends.mk (.cons (.tmp rfl) .nil); first | rfl | (simp only [pack]; congr 1; simp only [cmpOf, decide_eq_true_eq, beq_iff_eq, bne_iff_ne]; omega))   | (apply Ends.mk (.cons (.tmp rfl) .nil); simp only [pack]; congr 1; simp only [cmpOf, decide_eq_true_eq, decide_eq_false_iff_not, beq_iff_eq, bne_iff_ne, beq_eq_false_iff_ne, bne_eq_false_iff_eq]; omega)   | (exfalso; first | omega | (simp only [*, Bool.true_eq_false, Bool.false_eq_true, reduceCtorEq] at *; done) | grind)
theorem r4sameRg {s : Bool} {l d : List Int} : Evals Tryz.prog 11 [.agg [.bool s, .ints .u32 l, .ints .u32 d], .agg [.bool s, .ints .u32 l, .ints .u32 d]] (.bool true) := by
  refine evals_of_awp Tryz.func11 rfl (CallOK.of Tryz.func11 (by kernel_rfl) rfl) (Nat.le_of_ble_eq_true rfl) ?_
  rintro w R hR ⟨vs, hv⟩
  repeat' (first
    | (apply RunL.step; exact rfl; first
      | fail)
    | (apply RunL.step; exact rfl; apply op_ev (τ := τ); exact rfl; (first | exact r4sameIg | exact r1same_eq); exact rfl)
    | (apply RunL.step; exact rfl; exact opA)
    | (apply RunL.hand; exact rfl; exact rfl; exact lenA; exact rfl)
    | (apply AWP.seq)
    | (apply AWP.region; exact rfl)
    | (apply AWP.block)
    | (apply AWP.skip)
    | (apply AWP.exit)
    | (apply AWP.retF; exact rfl; exact rfl; exact rfl; exact rfl; exact lenA; exact rfl)
    | (apply AWP.ret)
    | (apply RunL.nil)
    | (apply RunL.on; exact rfl; exact rfl; exact rfl; exact rfl; (first | exact rfl | assumption))
    | (apply RunL.noU; exact rfl; exact rfl; exact rfl; exact rfl; exact rfl; exact rfl)
    | (apply RunL.no; exact rfl; exact rfl; exact rfl; exact rfl; (first | exact rfl | assumption); exact rfl; exact rfl)
    | (refine AWP.cond _ (Rd.of rfl) (fun hc => ?_) (fun hc => ?_) <;> first | (exfalso; cases hc; done) | (have hc' := hc; (try simp only [decide_eq_true_eq, decide_eq_false_iff_not, Bool.not_true, Bool.not_false, bne_self_eq_false, beq_self_eq_true, ne_self_iff_false, Bool.true_bne, Bool.false_bne, Bool.true_beq, Bool.false_beq, Bool.false_eq_true, Bool.true_eq_false, reduceCtorEq, Bool.not_eq_true', Bool.not_eq_false', beq_iff_eq, bne_iff_ne, beq_eq_false_iff_ne, bne_eq_false_iff_eq, cmpOf] at hc'); try (exfalso; omega)))
    | (
      apply AWP.drawA
      repeat' (first
        | (apply DL.cons; (try (apply OpLoc.on; exact rfl; exact rfl; exact rfl; exact rfl; (first | exact rfl | assumption))); apply ol_ev (τ := τ); exact rfl; (first | exact r4sameIg | exact r1same_eq); exact rfl; exact rfl)
        | (apply DL.cons; exact olA; exact rfl)
        | (apply DL.nil; kernel_rfl)
        | (refine DL.split rfl rfl rfl rfl (fun hb => ?_) (fun hb => ?_) <;> have hb' := hb <;> (try simp only [decide_eq_true_eq, decide_eq_false_iff_not, Bool.not_true, Bool.not_false, bne_self_eq_false, beq_self_eq_true, ne_self_iff_false, Bool.true_bne, Bool.false_bne, Bool.true_beq, Bool.false_beq, Bool.false_eq_true, Bool.true_eq_false, reduceCtorEq, Bool.not_eq_true', Bool.not_eq_false', beq_iff_eq, bne_iff_ne, beq_eq_false_iff_ne, bne_eq_false_iff_eq, cmpOf] at hb') <;> try (exfalso; omega)))
      all_goals (fail_if_success apply DL.id))
    | (refine RunL.split rfl rfl rfl rfl (fun hb => ?_) (fun hb => ?_) <;> have hb' := hb <;> (try simp only [decide_eq_true_eq, decide_eq_false_iff_not, Bool.not_true, Bool.not_false, bne_self_eq_false, beq_self_eq_true, ne_self_iff_false, Bool.true_bne, Bool.false_bne, Bool.true_beq, Bool.false_beq, Bool.false_eq_true, Bool.true_eq_false, reduceCtorEq, Bool.not_eq_true', Bool.not_eq_false', beq_iff_eq, bne_iff_ne, beq_eq_false_iff_ne, bne_eq_false_iff_eq, cmpOf] at hb') <;> try (exfalso; omega))
    )
  all_goals
    first   | (apply Ends.mk (.cons (.tmp rfl) .nil); first | rfl | (simp only [pack]; congr 1; simp only [cmpOf, decide_eq_true_eq, beq_iff_eq, bne_iff_ne]; omega))   | (apply Ends.mk (.cons (.tmp rfl) .nil); simp only [pack]; congr 1; simp only [cmpOf, decide_eq_true_eq, decide_eq_false_iff_not, beq_iff_eq, bne_iff_ne, beq_eq_false_iff_ne, bne_eq_false_iff_eq]; omega)   | (exfalso; first | omega | (simp only [*, Bool.true_eq_false, Bool.false_eq_true, reduceCtorEq] at *; done) | grind)
theorem r45same0 : Evals Tryz.prog 8 [link0, link0] (.bool true) := by
  refine evals_of_awp Tryz.func8 rfl (CallOK.of Tryz.func8 (by kernel_rfl) rfl) (Nat.le_of_ble_eq_true rfl) ?_
  rintro w R hR ⟨vs, hv⟩
  repeat' (first
    | (apply RunL.step; exact rfl; first
      | fail)
    | (apply RunL.step; exact rfl; apply op_ev (τ := τ); exact rfl; (first | exact r4sameRg); exact rfl)
    | (apply RunL.step; exact rfl; exact opA)
    | (apply RunL.hand; exact rfl; exact rfl; exact lenA; exact rfl)
    | (apply AWP.seq)
    | (apply AWP.region; exact rfl)
    | (apply AWP.block)
    | (apply AWP.skip)
    | (apply AWP.exit)
    | (apply AWP.retF; exact rfl; exact rfl; exact rfl; exact rfl; exact lenA; exact rfl)
    | (apply AWP.ret)
    | (apply RunL.nil)
    | (apply RunL.on; exact rfl; exact rfl; exact rfl; exact rfl; (first | exact rfl | assumption))
    | (apply RunL.noU; exact rfl; exact rfl; exact rfl; exact rfl; exact rfl; exact rfl)
    | (apply RunL.no; exact rfl; exact rfl; exact rfl; exact rfl; (first | exact rfl | assumption); exact rfl; exact rfl)
    | (refine AWP.cond _ (Rd.of rfl) (fun hc => ?_) (fun hc => ?_) <;> first | (exfalso; cases hc; done) | (have hc' := hc; (try simp only [decide_eq_true_eq, decide_eq_false_iff_not, Bool.not_true, Bool.not_false, bne_self_eq_false, beq_self_eq_true, ne_self_iff_false, Bool.true_bne, Bool.false_bne, Bool.true_beq, Bool.false_beq, Bool.false_eq_true, Bool.true_eq_false, reduceCtorEq, Bool.not_eq_true', Bool.not_eq_false', beq_iff_eq, bne_iff_ne, beq_eq_false_iff_ne, bne_eq_false_iff_eq, cmpOf] at hc'); try (exfalso; omega)))
    | (
      apply AWP.drawA
      repeat' (first
        | (apply DL.cons; (try (apply OpLoc.on; exact rfl; exact rfl; exact rfl; exact rfl; (first | exact rfl | assumption))); apply ol_ev (τ := τ); exact rfl; (first | exact r4sameRg); exact rfl; exact rfl)
        | (apply DL.cons; exact olA; exact rfl)
        | (apply DL.nil; kernel_rfl)
        | (refine DL.split rfl rfl rfl rfl (fun hb => ?_) (fun hb => ?_) <;> have hb' := hb <;> (try simp only [decide_eq_true_eq, decide_eq_false_iff_not, Bool.not_true, Bool.not_false, bne_self_eq_false, beq_self_eq_true, ne_self_iff_false, Bool.true_bne, Bool.false_bne, Bool.true_beq, Bool.false_beq, Bool.false_eq_true, Bool.true_eq_false, reduceCtorEq, Bool.not_eq_true', Bool.not_eq_false', beq_iff_eq, bne_iff_ne, beq_eq_false_iff_ne, bne_eq_false_iff_eq, cmpOf] at hb') <;> try (exfalso; omega)))
      all_goals (fail_if_success apply DL.id))
    | (refine RunL.split rfl rfl rfl rfl (fun hb => ?_) (fun hb => ?_) <;> have hb' := hb <;> (try simp only [decide_eq_true_eq, decide_eq_false_iff_not, Bool.not_true, Bool.not_false, bne_self_eq_false, beq_self_eq_true, ne_self_iff_false, Bool.true_bne, Bool.false_bne, Bool.true_beq, Bool.false_beq, Bool.false_eq_true, Bool.true_eq_false, reduceCtorEq, Bool.not_eq_true', Bool.not_eq_false', beq_iff_eq, bne_iff_ne, beq_eq_false_iff_ne, bne_eq_false_iff_eq, cmpOf] at hb') <;> try (exfalso; omega))
    )
  all_goals
    first   | (apply Ends.mk (.cons (.tmp rfl) .nil); first | rfl | (simp only [pack]; congr 1; simp only [cmpOf, decide_eq_true_eq, beq_iff_eq, bne_iff_ne]; omega))   | (apply Ends.mk (.cons (.tmp rfl) .nil); simp only [pack]; congr 1; simp only [cmpOf, decide_eq_true_eq, decide_eq_false_iff_not, beq_iff_eq, bne_iff_ne, beq_eq_false_iff_ne, bne_eq_false_iff_eq]; omega)   | (exfalso; first | omega | (simp only [*, Bool.true_eq_false, Bool.false_eq_true, reduceCtorEq] at *; done) | grind)
set_option maxHeartbeats 1000000 in
theorem law_LinkingBasics (s1 : Bool) (l1 d1 : List Int) (s2 : Bool) (l2 d2 : List Int) (s3 : Bool) (l3 d3 : List Int) (s4 : Bool) (l4 d4 : List Int) (s5 : Bool) (l5 d5 : List Int)
    (hb : bulkA [.agg [.bool s1, .ints .u32 l1, .ints .u32 d1, .bool s2, .ints .u32 l2, .ints .u32 d2], .agg [.bool s3, .ints .u32 l3, .ints .u32 d3, .bool s4, .ints .u32 l4, .ints .u32 d4], .agg [.bool s5, .ints .u32 l5, .ints .u32 d5]] ≤ 1048576) :
    Evals Tryz.prog 3 [.agg [.bool s1, .ints .u32 l1, .ints .u32 d1, .bool s2, .ints .u32 l2, .ints .u32 d2], .agg [.bool s3, .ints .u32 l3, .ints .u32 d3, .bool s4, .ints .u32 l4, .ints .u32 d4], .agg [.bool s5, .ints .u32 l5, .ints .u32 d5]] (.bool true) := by
  have hl1 : l1.length ≤ 1048576 := by simp [bulkA, D.parts, bulkL, D.bulk] at hb; omega
  have hl2 : l2.length ≤ 1048576 := by simp [bulkA, D.parts, bulkL, D.bulk] at hb; omega
  have hd1 : d1.length ≤ 1048576 := by simp [bulkA, D.parts, bulkL, D.bulk] at hb; omega
  have hd2 : d2.length ≤ 1048576 := by simp [bulkA, D.parts, bulkL, D.bulk] at hb; omega
  have hl3 : l3.length ≤ 1048576 := by simp [bulkA, D.parts, bulkL, D.bulk] at hb; omega
  have hl4 : l4.length ≤ 1048576 := by simp [bulkA, D.parts, bulkL, D.bulk] at hb; omega
  have hd3 : d3.length ≤ 1048576 := by simp [bulkA, D.parts, bulkL, D.bulk] at hb; omega
  have hd4 : d4.length ≤ 1048576 := by simp [bulkA, D.parts, bulkL, D.bulk] at hb; omega
  have hl5 : l5.length ≤ 1048576 := by simp [bulkA, D.parts, bulkL, D.bulk] at hb; omega
  have hd5 : d5.length ≤ 1048576 := by simp [bulkA, D.parts, bulkL, D.bulk] at hb; omega
  have A1 : RA s1 l1 d1 (Rat.divInt (sI s1 l1) (val d1)) 1048576 := ⟨rfl, hl1, hd1⟩
  have A2 : RA s2 l2 d2 (Rat.divInt (sI s2 l2) (val d2)) 1048576 := ⟨rfl, hl2, hd2⟩
  have A3 : RA s3 l3 d3 (Rat.divInt (sI s3 l3) (val d3)) 1048576 := ⟨rfl, hl3, hd3⟩
  have A4 : RA s4 l4 d4 (Rat.divInt (sI s4 l4) (val d4)) 1048576 := ⟨rfl, hl4, hd4⟩
  have A5 : RA s5 l5 d5 (Rat.divInt (sI s5 l5) (val d5)) 1048576 := ⟨rfl, hl5, hd5⟩
  generalize Rat.divInt (sI s1 l1) (val d1) = q1 at A1
  generalize Rat.divInt (sI s2 l2) (val d2) = q2 at A2
  generalize Rat.divInt (sI s3 l3) (val d3) = q3 at A3
  generalize Rat.divInt (sI s4 l4) (val d4) = q4 at A4
  generalize Rat.divInt (sI s5 l5) (val d5) = q5 at A5
  have hva := kvalid (h := A1) (h' := A2) (by omega)
  have hvb := r45valid (h := A1) (h' := A2) (by omega)
  have hap := kapply (h := A1) (h' := A2) (g := A5) (by omega)
  have hap' := r45apply (h := A1) (h' := A2) (g := A5) (by omega)
  have hco := kcompose (h := A1) (h' := A2) (g := A3) (g' := A4) (by omega)
  have hco' := r45compose (h := A1) (h' := A2) (g := A3) (g' := A4) (by omega)
  rw [posQ] at hva hvb
  refine evals_of_awp Tryz.func3 rfl (CallOK.of Tryz.func3 (by kernel_rfl) rfl) (Nat.le_of_ble_eq_true rfl) ?_
  rintro w R hR ⟨vs, hv⟩
  by_cases hp : 0 < q1
  · have hi := kinvert1 (h := A1) (h' := A2) hp (by omega)
    have hi' := r45invert1 (h := A1) (h' := A2) hp (by omega)
    rw [decide_eq_true hp] at hva hvb
    repeat' (first
      | (apply RunL.step; exact rfl; first
        | fail)
      | (apply RunL.step; exact rfl; apply op_ev (τ := τ); exact rfl; (first | exact hi | exact hi' | exact hva | exact hvb | exact r45same0 | exact r45same | exact r4sameR | exact hap | exact hap' | exact hco | exact hco' | exact lawake); exact rfl)
      | (apply RunL.step; exact rfl; exact opA)
      | (apply RunL.hand; exact rfl; exact rfl; exact lenA; exact rfl)
      | (apply AWP.seq)
      | (apply AWP.region; exact rfl)
      | (apply AWP.block)
      | (apply AWP.skip)
      | (apply AWP.exit)
      | (apply AWP.retF; exact rfl; exact rfl; exact rfl; exact rfl; exact lenA; exact rfl)
      | (apply AWP.ret)
      | (apply RunL.nil)
      | (apply RunL.on; exact rfl; exact rfl; exact rfl; exact rfl; (first | exact rfl | assumption))
      | (apply RunL.noU; exact rfl; exact rfl; exact rfl; exact rfl; exact rfl; exact rfl)
      | (apply RunL.no; exact rfl; exact rfl; exact rfl; exact rfl; (first | exact rfl | assumption); exact rfl; exact rfl)
      | (refine AWP.cond _ (Rd.of rfl) (fun hc => ?_) (fun hc => ?_) <;> first | (exfalso; cases hc; done) | (have hc' := hc; (try simp only [decide_eq_true_eq, decide_eq_false_iff_not, Bool.not_true, Bool.not_false, bne_self_eq_false, beq_self_eq_true, ne_self_iff_false, Bool.true_bne, Bool.false_bne, Bool.true_beq, Bool.false_beq, Bool.false_eq_true, Bool.true_eq_false, reduceCtorEq, Bool.not_eq_true', Bool.not_eq_false', beq_iff_eq, bne_iff_ne, beq_eq_false_iff_ne, bne_eq_false_iff_eq, cmpOf] at hc'); try (exfalso; omega)))
      | (
        apply AWP.drawA
        repeat' (first
          | (apply DL.cons; (try (apply OpLoc.on; exact rfl; exact rfl; exact rfl; exact rfl; (first | exact rfl | assumption))); apply ol_ev (τ := τ); exact rfl; (first | exact hi | exact hi' | exact hva | exact hvb | exact r45same0 | exact r45same | exact r4sameR | exact hap | exact hap' | exact hco | exact hco' | exact lawake); exact rfl; exact rfl)
          | (apply DL.cons; exact olA; exact rfl)
          | (apply DL.nil; kernel_rfl)
          | (refine DL.split rfl rfl rfl rfl (fun hb => ?_) (fun hb => ?_) <;> have hb' := hb <;> (try simp only [decide_eq_true_eq, decide_eq_false_iff_not, Bool.not_true, Bool.not_false, bne_self_eq_false, beq_self_eq_true, ne_self_iff_false, Bool.true_bne, Bool.false_bne, Bool.true_beq, Bool.false_beq, Bool.false_eq_true, Bool.true_eq_false, reduceCtorEq, Bool.not_eq_true', Bool.not_eq_false', beq_iff_eq, bne_iff_ne, beq_eq_false_iff_ne, bne_eq_false_iff_eq, cmpOf] at hb') <;> try (exfalso; omega)))
        all_goals (fail_if_success apply DL.id))
      | (refine RunL.split rfl rfl rfl rfl (fun hb => ?_) (fun hb => ?_) <;> have hb' := hb <;> (try simp only [decide_eq_true_eq, decide_eq_false_iff_not, Bool.not_true, Bool.not_false, bne_self_eq_false, beq_self_eq_true, ne_self_iff_false, Bool.true_bne, Bool.false_bne, Bool.true_beq, Bool.false_beq, Bool.false_eq_true, Bool.true_eq_false, reduceCtorEq, Bool.not_eq_true', Bool.not_eq_false', beq_iff_eq, bne_iff_ne, beq_eq_false_iff_ne, bne_eq_false_iff_eq, cmpOf] at hb') <;> try (exfalso; omega))
      )
    all_goals
      apply Ends.mk (.cons (.tmp rfl) .nil)
      first | done | rfl
  · have hi := kinvert0 (h := A1) (h' := A2) hp (by omega)
    have hi' := r45invert0 (h := A1) (h' := A2) hp (by omega)
    rw [decide_eq_false hp] at hva hvb
    repeat' (first
      | (apply RunL.step; exact rfl; first
        | fail)
      | (apply RunL.step; exact rfl; apply op_ev (τ := τ); exact rfl; (first | exact hi | exact hi' | exact hva | exact hvb | exact r45same0 | exact r45same | exact r4sameR | exact hap | exact hap' | exact hco | exact hco' | exact lawake); exact rfl)
      | (apply RunL.step; exact rfl; exact opA)
      | (apply RunL.hand; exact rfl; exact rfl; exact lenA; exact rfl)
      | (apply AWP.seq)
      | (apply AWP.region; exact rfl)
      | (apply AWP.block)
      | (apply AWP.skip)
      | (apply AWP.exit)
      | (apply AWP.retF; exact rfl; exact rfl; exact rfl; exact rfl; exact lenA; exact rfl)
      | (apply AWP.ret)
      | (apply RunL.nil)
      | (apply RunL.on; exact rfl; exact rfl; exact rfl; exact rfl; (first | exact rfl | assumption))
      | (apply RunL.noU; exact rfl; exact rfl; exact rfl; exact rfl; exact rfl; exact rfl)
      | (apply RunL.no; exact rfl; exact rfl; exact rfl; exact rfl; (first | exact rfl | assumption); exact rfl; exact rfl)
      | (refine AWP.cond _ (Rd.of rfl) (fun hc => ?_) (fun hc => ?_) <;> first | (exfalso; cases hc; done) | (have hc' := hc; (try simp only [decide_eq_true_eq, decide_eq_false_iff_not, Bool.not_true, Bool.not_false, bne_self_eq_false, beq_self_eq_true, ne_self_iff_false, Bool.true_bne, Bool.false_bne, Bool.true_beq, Bool.false_beq, Bool.false_eq_true, Bool.true_eq_false, reduceCtorEq, Bool.not_eq_true', Bool.not_eq_false', beq_iff_eq, bne_iff_ne, beq_eq_false_iff_ne, bne_eq_false_iff_eq, cmpOf] at hc'); try (exfalso; omega)))
      | (
        apply AWP.drawA
        repeat' (first
          | (apply DL.cons; (try (apply OpLoc.on; exact rfl; exact rfl; exact rfl; exact rfl; (first | exact rfl | assumption))); apply ol_ev (τ := τ); exact rfl; (first | exact hi | exact hi' | exact hva | exact hvb | exact r45same0 | exact r45same | exact r4sameR | exact hap | exact hap' | exact hco | exact hco' | exact lawake); exact rfl; exact rfl)
          | (apply DL.cons; exact olA; exact rfl)
          | (apply DL.nil; kernel_rfl)
          | (refine DL.split rfl rfl rfl rfl (fun hb => ?_) (fun hb => ?_) <;> have hb' := hb <;> (try simp only [decide_eq_true_eq, decide_eq_false_iff_not, Bool.not_true, Bool.not_false, bne_self_eq_false, beq_self_eq_true, ne_self_iff_false, Bool.true_bne, Bool.false_bne, Bool.true_beq, Bool.false_beq, Bool.false_eq_true, Bool.true_eq_false, reduceCtorEq, Bool.not_eq_true', Bool.not_eq_false', beq_iff_eq, bne_iff_ne, beq_eq_false_iff_ne, bne_eq_false_iff_eq, cmpOf] at hb') <;> try (exfalso; omega)))
        all_goals (fail_if_success apply DL.id))
      | (refine RunL.split rfl rfl rfl rfl (fun hb => ?_) (fun hb => ?_) <;> have hb' := hb <;> (try simp only [decide_eq_true_eq, decide_eq_false_iff_not, Bool.not_true, Bool.not_false, bne_self_eq_false, beq_self_eq_true, ne_self_iff_false, Bool.true_bne, Bool.false_bne, Bool.true_beq, Bool.false_beq, Bool.false_eq_true, Bool.true_eq_false, reduceCtorEq, Bool.not_eq_true', Bool.not_eq_false', beq_iff_eq, bne_iff_ne, beq_eq_false_iff_ne, bne_eq_false_iff_eq, cmpOf] at hb') <;> try (exfalso; omega))
      )
    all_goals
      apply Ends.mk (.cons (.tmp rfl) .nil)
      first | done | rfl
end Go.Proofs.YtgdejiajiljipaaGreatDoor.K
