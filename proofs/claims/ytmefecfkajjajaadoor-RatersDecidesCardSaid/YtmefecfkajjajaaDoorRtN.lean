/- The laws of layer 42 (examboardlaw42): comparisons, the examples of the chapter. -/
import Derived.Test.YtmefecfkajjajaaDoorRtD
import Derived.Test.YtmefecfkajjajaaDoorRtI
import Derived.Test.YtmefecfkajjajaaDoorRtL
import Derived.Test.YtmefecfkajjajaaDoorWalkW
import Derived.Test.YtmefecfkajjajaaDoorLawI
namespace Go.Proofs.YtmefecfkajjajaaDoor.K
open Go Go.RowKit
set_option linter.unusedVariables false
set_option linter.unusedSimpArgs false

theorem r4sameIg {s : Bool} {l : List Int} : Evals Tryd.prog 37 [.agg [.bool s, .ints .u32 l], .agg [.bool s, .ints .u32 l]] (.bool true) := by
  refine evals_of_awp Tryd.func37 rfl (CallOK.of Tryd.func37 (by kernel_rfl) rfl) (Nat.le_of_ble_eq_true rfl) ?_
  rintro w R hR ⟨vs, hv⟩
  have e : (s == s) = true := by simp
  repeat' (first
    | (apply RunL.step; exact rfl; apply op_ev (τ := τ); exact rfl; (first | exact r1same_eq); exact rfl) | (apply RunL.step; exact rfl; exact opA) | (apply RunL.hand; exact rfl; exact rfl; exact lenA; exact rfl) | (apply AWP.seq) | (apply AWP.region; exact rfl) | (apply AWP.block) | (apply AWP.skip) | (apply AWP.exit) | (apply AWP.retF; exact rfl; exact rfl; exact rfl; exact rfl; exact lenA; exact rfl) | (apply AWP.ret) | (apply RunL.nil) | (apply RunL.on; exact rfl; exact rfl; exact rfl; exact rfl; (first | exact rfl | assumption)) | (apply RunL.noU; exact rfl; exact rfl; exact rfl; exact rfl; exact rfl; exact rfl) | (apply RunL.no; exact rfl; exact rfl; exact rfl; exact rfl; (first | exact rfl | assumption); exact rfl; exact rfl) | (refine AWP.cond _ (Rd.of rfl) (fun hc => ?_) (fun hc => ?_) <;> first | (exfalso; cases hc; done) | (have hc' := hc; (try simp only [sc, reduceCtorEq, cmpOf] at hc'); try (exfalso; omega)))
    | (
     apply AWP.drawA
     repeat' (first
       | (apply DL.cons; (try (apply OpLoc.on; exact rfl; exact rfl; exact rfl; exact rfl; (first | exact rfl | assumption))); apply ol_ev (τ := τ); exact rfl; (first | exact r1same_eq); exact rfl; exact rfl) | (apply DL.cons; exact olA; exact rfl) | (apply DL.nil; kernel_rfl) | (refine DL.split rfl rfl rfl rfl (fun hb => ?_) (fun hb => ?_) <;> have hb' := hb <;> (try simp only [sc, reduceCtorEq, cmpOf] at hb') <;> try (exfalso; omega)))
     all_goals (fail_if_success apply DL.id))
    | (refine RunL.split rfl rfl rfl rfl (fun hb => ?_) (fun hb => ?_) <;> have hb' := hb <;> (try simp only [sc, reduceCtorEq, cmpOf] at hb') <;> try (exfalso; omega)) )
  all_goals
    first   | (apply Ends.mk (.cons (.tmp rfl) .nil); first | rfl | (simp only [pack]; congr 1; simp only [cmpOf, decide_eq_true_eq, beq_iff_eq, bne_iff_ne]; omega))   | (apply Ends.mk (.cons (.tmp rfl) .nil); simp only [pack]; congr 1; simp only [cmpOf, sc]; omega)   | (exfalso; first | omega | (simp only [*, Bool.true_eq_false, Bool.false_eq_true, reduceCtorEq] at *; done) | grind)
theorem r4sameRg {s : Bool} {l d : List Int} : Evals Tryd.prog 14 [.agg [.bool s, .ints .u32 l, .ints .u32 d], .agg [.bool s, .ints .u32 l, .ints .u32 d]] (.bool true) := by
  refine evals_of_awp Tryd.func14 rfl (CallOK.of Tryd.func14 (by kernel_rfl) rfl) (Nat.le_of_ble_eq_true rfl) ?_
  rintro w R hR ⟨vs, hv⟩
  repeat' (first
    | (apply RunL.step; exact rfl; apply op_ev (τ := τ); exact rfl; (first | exact r4sameIg | exact r1same_eq); exact rfl) | (apply RunL.step; exact rfl; exact opA) | (apply RunL.hand; exact rfl; exact rfl; exact lenA; exact rfl) | (apply AWP.seq) | (apply AWP.region; exact rfl) | (apply AWP.block) | (apply AWP.skip) | (apply AWP.exit) | (apply AWP.retF; exact rfl; exact rfl; exact rfl; exact rfl; exact lenA; exact rfl) | (apply AWP.ret) | (apply RunL.nil) | (apply RunL.on; exact rfl; exact rfl; exact rfl; exact rfl; (first | exact rfl | assumption)) | (apply RunL.noU; exact rfl; exact rfl; exact rfl; exact rfl; exact rfl; exact rfl) | (apply RunL.no; exact rfl; exact rfl; exact rfl; exact rfl; (first | exact rfl | assumption); exact rfl; exact rfl) | (refine AWP.cond _ (Rd.of rfl) (fun hc => ?_) (fun hc => ?_) <;> first | (exfalso; cases hc; done) | (have hc' := hc; (try simp only [sc, reduceCtorEq, cmpOf] at hc'); try (exfalso; omega)))
    | (
     apply AWP.drawA
     repeat' (first
       | (apply DL.cons; (try (apply OpLoc.on; exact rfl; exact rfl; exact rfl; exact rfl; (first | exact rfl | assumption))); apply ol_ev (τ := τ); exact rfl; (first | exact r4sameIg | exact r1same_eq); exact rfl; exact rfl) | (apply DL.cons; exact olA; exact rfl) | (apply DL.nil; kernel_rfl) | (refine DL.split rfl rfl rfl rfl (fun hb => ?_) (fun hb => ?_) <;> have hb' := hb <;> (try simp only [sc, reduceCtorEq, cmpOf] at hb') <;> try (exfalso; omega)))
     all_goals (fail_if_success apply DL.id))
    | (refine RunL.split rfl rfl rfl rfl (fun hb => ?_) (fun hb => ?_) <;> have hb' := hb <;> (try simp only [sc, reduceCtorEq, cmpOf] at hb') <;> try (exfalso; omega)) )
  all_goals
    first   | (apply Ends.mk (.cons (.tmp rfl) .nil); first | rfl | (simp only [pack]; congr 1; simp only [cmpOf, decide_eq_true_eq, beq_iff_eq, bne_iff_ne]; omega))   | (apply Ends.mk (.cons (.tmp rfl) .nil); simp only [pack]; congr 1; simp only [cmpOf, sc]; omega)   | (exfalso; first | omega | (simp only [*, Bool.true_eq_false, Bool.false_eq_true, reduceCtorEq] at *; done) | grind)
theorem ratS_frac (q : Rat) (n d : Nat) (t u : List UInt8) (h1 : q.num = n) (h2 : q.den = d) (hd : (d : Int) ≠ 1) (h : decD n = t) (h' : decD d = u) : ratS q = t ++ 47 :: u := by
  rw [ratS, h1, h2, if_neg hd, intS, if_neg (by omega), ← h, ← h']
  simp
theorem szd (a b : Int) (ha : -100 ≤ a ∧ a ≤ 100) (hb : -100 ≤ b ∧ b ≤ 100) : SzR (Rat.divInt a b) 5 := SzR.di _ _ 2 2 (h := SzI.i64 (by omega)) (g := SzI.i64 (by omega))
abbrev ex2 : List Rt := [(1, 1, []), (2, 1, [])]
abbrev ex3 : List Rt := [(1, 1, []), (2, 1, []), (7, 2, [5])]
abbrev exD : Int := 7806831264735756412
theorem exA1 : Evals Tryd.prog 25 [.sl 3 (ex2.map rowRt), .ints .i64 [5], .int .u64 1] (.tup [.sl 2 (([(5, 2), (5, 1)] : List As).map rowAs), .int .u64 exD, .int .i64 0]) := by
  have := kAssign1 ex2 [5] 1 (by decide +kernel) (by decide +kernel)
  rwa [show assignP ex2 (shuffle ex2.length 1).1 [5] [] = some [(5, 2), (5, 1)] by decide +kernel, show (shuffle ex2.length 1).2 = exD by decide +kernel] at this
theorem exA2 : Evals Tryd.prog 25 [.sl 3 (ex2.map rowRt), .ints .i64 [5, 6], .int .u64 1] (.tup [.sl 2 [], .int .u64 1, .int .i64 14]) := by
  have := kAssign1 ex2 [5, 6] 1 (by decide +kernel) (by decide +kernel)
  rwa [show assignP ex2 (shuffle ex2.length 1).1 [5, 6] [] = none by decide +kernel] at this
theorem exL : Evals Tryd.prog 12 [.sl 2 (([(5, 2), (5, 1)] : List As).map rowAs), .int .i64 1] (.int .i64 1) := by
  have := kLoad [(5, 2), (5, 1)] 1
  rwa [show loadN [(5, 2), (5, 1)] 1 = 1 by decide +kernel] at this
theorem exV1 : Evals Tryd.prog 19 [.sl 3 (ex3.map rowRt)] (.int .i64 0) := by
  have := kValid ex3
  rwa [show validE ex3 = 0 by decide +kernel] at this
theorem exV2 : Evals Tryd.prog 19 [.sl 3 (([(2, 0, []), (2, 0, [])] : List Rt).map rowRt)] (.int .i64 23) := by
  have := kValid [(2, 0, []), (2, 0, [])]
  rwa [show validE [(2, 0, []), (2, 0, [])] = 23 by decide +kernel] at this
theorem exM1 : Evals Tryd.prog 11 [.agg [.int .i64 7, .int .i64 2, .ints .i64 [5]], .int .i64 5] (.bool false) := by
  have := kMay 7 2 [5] 5
  rwa [show decide ((5 : Int) ∉ [(5 : Int)]) = false by decide +kernel] at this
theorem exM2 : Evals Tryd.prog 11 [.agg [.int .i64 7, .int .i64 2, .ints .i64 [5]], .int .i64 6] (.bool true) := by
  have := kMay 7 2 [5] 6
  rwa [show decide ((6 : Int) ∉ [(5 : Int)]) = true by decide +kernel] at this
theorem exC1 : Evals Tryd.prog 21 [.sl 3 (ex3.map rowRt), .ints .i64 [5], .sl 2 (([(5, 2), (5, 1)] : List As).map rowAs)] (.int .i64 0) := by
  have := kCheck ex3 [5] [(5, 2), (5, 1)]
  rwa [show checkE ex3 [5] [(5, 2), (5, 1)] = 0 by decide +kernel] at this
theorem exC2 : Evals Tryd.prog 21 [.sl 3 (ex3.map rowRt), .ints .i64 [5], .sl 2 (([(5, 1), (5, 1)] : List As).map rowAs)] (.int .i64 7) := by
  have := kCheck ex3 [5] [(5, 1), (5, 1)]
  rwa [show checkE ex3 [5] [(5, 1), (5, 1)] = 7 by decide +kernel] at this
theorem exT1 : Evals Tryd.prog 9 [.sl 3 (ex3.map rowRt), .sl 2 (([(5, 2), (5, 1)] : List As).map rowAs), .int .i64 5] (.tup [.int .i64 0, .int .i64 14]) := by
  have := kThird1 ex3 [(5, 2), (5, 1)] 5 (by decide) (by decide +kernel)
  rwa [if_neg (by decide +kernel), if_pos (by decide +kernel)] at this
theorem exT2 : Evals Tryd.prog 9 [.sl 3 (ex3.map rowRt), .sl 2 (([(6, 1), (6, 2)] : List As).map rowAs), .int .i64 6] (.tup [.int .i64 7, .int .i64 0]) := by
  have := kThird1 ex3 [(6, 1), (6, 2)] 6 (by decide) (by decide +kernel)
  rwa [if_neg (by decide +kernel), if_neg (by decide +kernel), show (atR ex3 (thirdP ex3 [(6, 1), (6, 2)] 6).toNat).1 = 7 by decide +kernel] at this
theorem exE : Evals Tryd.prog 13 [.ints .i64 [0, 0, 1, 1], .ints .i64 [0, 1, 1, 1]] (.tup [ratD (Rat.divInt 3 4), .int .i64 0]) := by
  have := kExact1 [0, 0, 1, 1] [0, 1, 1, 1] (by decide +kernel)
  rwa [show Rat.divInt (eqS [0, 0, 1, 1] [0, 1, 1, 1] [(0 : Int), 0, 1, 1].length) [(0 : Int), 0, 1, 1].length = Rat.divInt 3 4 by decide +kernel] at this
theorem exK : Evals Tryd.prog 15 [.ints .i64 [0, 0, 1, 1], .ints .i64 [0, 1, 1, 1], .int .i64 1] (.tup [ratD (Rat.divInt 1 2), .int .i64 0]) := by
  have := kKappaN [0, 0, 1, 1] [0, 1, 1, 1] 1 (by decide +kernel)
  rwa [if_neg (by decide +kernel), show kapQ [0, 0, 1, 1] [0, 1, 1, 1] [(0 : Int), 0, 1, 1].length = Rat.divInt 1 2 by decide +kernel] at this
theorem exW : Evals Tryd.prog 16 [.ints .i64 [0, 0, 1, 1], .ints .i64 [0, 1, 1, 1], .int .i64 1] (.tup [ratD (Rat.divInt 1 2), .int .i64 0]) := by
  have := kWeightedN [0, 0, 1, 1] [0, 1, 1, 1] 1 (by decide +kernel)
  rwa [if_neg (by decide +kernel), show wgtQ [0, 0, 1, 1] [0, 1, 1, 1] [(0 : Int), 0, 1, 1].length = Rat.divInt 1 2 by decide +kernel] at this
theorem exK8 : Evals Tryd.prog 15 [.ints .i64 [1, 1], .ints .i64 [1, 1], .int .i64 3] (.tup [rat0, .int .i64 8]) := by
  have := kKappaN [1, 1] [1, 1] 3 (by decide +kernel)
  rwa [if_pos (by decide +kernel)] at this
theorem exE20 : Evals Tryd.prog 13 [.ints .i64 [], .ints .i64 []] (.tup [rat0, .int .i64 20]) := kExact0 [] [] (by decide +kernel)
set_option maxRecDepth 8000 in
set_option maxHeartbeats 4000000 in
theorem lawake : Evals Tryd.prog 10 [] (.bool true) := by
  have d1 : decD 1 = [49] := by rw [decD_small (by omega) (by omega)]; rfl
  have d2 : decD 2 = [50] := by rw [decD_small (by omega) (by omega)]; rfl
  have d3 : decD 3 = [51] := by rw [decD_small (by omega) (by omega)]; rfl
  have d4 : decD 4 = [52] := by rw [decD_small (by omega) (by omega)]; rfl
  have t12 : ratS (Rat.divInt 1 2) = [49, 47, 50] := ratS_frac _ 1 2 _ _ (by decide +kernel) (by decide +kernel) (by decide) d1 d2
  have t34 : ratS (Rat.divInt 3 4) = [51, 47, 52] := ratS_frac _ 3 4 _ _ (by decide +kernel) (by decide +kernel) (by decide) d3 d4
  have p34 := rprint (h := RA.ratD (Rat.divInt 3 4) 5 (h := szd 3 4 (by omega) (by omega))) (by omega)
  have p12 := rprint (h := RA.ratD (Rat.divInt 1 2) 5 (h := szd 1 2 (by omega) (by omega))) (by omega)
  rw [t34] at p34
  rw [t12] at p12
  refine evals_of_awp Tryd.func10 rfl (CallOK.of Tryd.func10 (by kernel_rfl) rfl) (Nat.le_of_ble_eq_true rfl) ?_
  rintro w R hR ⟨vs, hv⟩
  repeat' (first
    | (apply RunL.step; exact rfl; first | (apply op_iaS (τ := τ); exact rfl; exact rfl; exact rfl; exact rfl; exact Rd.of rfl; exact Rd.of rfl; exact of_decide_eq_true rfl; exact rfl; exact rfl) | (apply op_sliceS (τ := τ); exact rfl; exact rfl; exact rfl; exact rfl; exact Rd.of rfl; exact Bd.none; exact Bd.some (Rd.of rfl) (Int.toNat_of_nonneg (by omega)).symm; exact Nat.zero_le _; exact of_decide_eq_true rfl; exact rfl) | fail) | (apply RunL.step; exact rfl; apply op_ev (τ := τ); exact rfl; (first | exact exA1 | exact exA2 | exact exL | exact exV1 | exact exV2 | exact exM1 | exact exM2 | exact exC1 | exact exC2 | exact exT1 | exact exT2 | exact exE | exact exK | exact exW | exact exK8 | exact exE20 | exact p34 | exact p12); exact rfl) | (apply RunL.step; exact rfl; exact opA) | (apply RunL.hand; exact rfl; exact rfl; exact lenA; exact rfl) | (apply AWP.seq) | (apply AWP.region; exact rfl) | (apply AWP.block) | (apply AWP.skip) | (apply AWP.exit) | (apply AWP.retF; exact rfl; exact rfl; exact rfl; exact rfl; exact lenA; exact rfl) | (apply AWP.ret) | (apply RunL.nil) | (apply RunL.on; exact rfl; exact rfl; exact rfl; exact rfl; (first | exact rfl | assumption)) | (apply RunL.noU; exact rfl; exact rfl; exact rfl; exact rfl; exact rfl; exact rfl) | (apply RunL.no; exact rfl; exact rfl; exact rfl; exact rfl; (first | exact rfl | assumption); exact rfl; exact rfl) | (refine AWP.cond _ (Rd.of rfl) (fun hc => ?_) (fun hc => ?_) <;> first | (exfalso; cases hc; done) | (have hc' := hc; (try simp only [sc, reduceCtorEq, cmpOf] at hc'); try (exfalso; omega)))
    | (
     apply AWP.drawA
     repeat' (first
       | (apply DL.cons; (try (apply OpLoc.on; exact rfl; exact rfl; exact rfl; exact rfl; (first | exact rfl | assumption))); apply ol_iaS (τ := τ); exact rfl; exact rfl; exact rfl; exact rfl; exact Rd.of rfl; exact Rd.of rfl; exact of_decide_eq_true rfl; exact rfl; exact rfl; exact rfl) | (apply DL.cons; (try (apply OpLoc.on; exact rfl; exact rfl; exact rfl; exact rfl; (first | exact rfl | assumption))); apply ol_ev (τ := τ); exact rfl; (first | exact exA1 | exact exA2 | exact exL | exact exV1 | exact exV2 | exact exM1 | exact exM2 | exact exC1 | exact exC2 | exact exT1 | exact exT2 | exact exE | exact exK | exact exW | exact exK8 | exact exE20 | exact p34 | exact p12); exact rfl; exact rfl) | (apply DL.cons; exact olA; exact rfl) | (apply DL.nil; kernel_rfl) | (refine DL.split rfl rfl rfl rfl (fun hb => ?_) (fun hb => ?_) <;> have hb' := hb <;> (try simp only [sc, reduceCtorEq, cmpOf] at hb') <;> try (exfalso; omega)))
     all_goals (fail_if_success apply DL.id))
    | (refine RunL.split rfl rfl rfl rfl (fun hb => ?_) (fun hb => ?_) <;> have hb' := hb <;> (try simp only [sc, reduceCtorEq, cmpOf] at hb') <;> try (exfalso; omega)) )
  all_goals
    apply Ends.mk (.cons (.tmp rfl) .nil)
    first | done | rfl
end Go.Proofs.YtmefecfkajjajaaDoor.K
