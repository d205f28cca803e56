/- The laws of layer 42 (examboardlaw42): comparisons, the examples of the chapter. -/
import Derived.Test.YtmefecfkajjajaaDoorRtD
import Derived.Test.YtmefecfkajjajaaDoorRtI
import Derived.Test.YtmefecfkajjajaaDoorRtL
import Derived.Test.YtmefecfkajjajaaDoorWalkW
import Derived.Test.YtmefecfkajjajaaDoorLawI
import Derived.Test.YtmefecfkajjajaaDoorPost
namespace Go.Proofs.YtmefecfkajjajaaDoor.K
open Go Go.RowKit
set_option linter.unusedVariables false
set_option linter.unusedSimpArgs false

theorem r4sameIg {s : Bool} {l : List Int} : Evals Tryd.prog 37 [.agg [.bool s, .ints .u32 l], .agg [.bool s, .ints .u32 l]] (.bool true) := by
  refine evals_of_awp Tryd.func37 rfl (CallOK.of Tryd.func37 (by kernel_rfl) rfl) (Nat.le_of_ble_eq_true rfl) ?_
  rintro w R hR ⟨vs, hv⟩
  have e : (s == s) = true := by simp
  repeat' (first
    | (apply RunL.step; exact rfl; apply op_ev (τ := τ); exact rfl; (first | exact r1same_eq); exact rfl) | (apply RunL.step; exact rfl; exact opA) | (apply RunL.hand; exact rfl; exact rfl; exact lenA; exact rfl) | (apply AWP.seq) | (apply AWP.region; exact rfl) | (apply AWP.block) | (apply AWP.skip) | (apply AWP.exit) | (apply AWP.retF; exact rfl; exact rfl; exact rfl; exact rfl; exact lenA; exact rfl) | (apply AWP.ret) | (apply RunL.nil) | (apply RunL.on; exact rfl; exact rfl; exact rfl; exact rfl; (first | exact rfl | assumption)) | (apply RunL.noU; exact rfl; exact rfl; exact rfl; exact rfl; exact rfl; exact rfl) | (apply RunL.no; exact rfl; exact rfl; exact rfl; exact rfl; (first | exact rfl | assumption); exact rfl; exact rfl) | (refine AWP.cond _ (Rd.of rfl) (fun hc => ?_) (fun hc => ?_) <;> first | (exfalso; cases hc; done) | (have hc' := hc; (try simp only [sc, reduceCtorEq, cmpOf] at hc'); try (exfalso; omega)))
    | (
     apply AWP.drawA
     repeat' (first
       | (apply DL.cons; (try (apply OpLoc.on; exact rfl; exact rfl; exact rfl; exact rfl; (first | exact rfl | assumption))); apply ol_ev (τ := τ); exact rfl; (first | exact r1same_eq); exact rfl; exact rfl) | (apply DL.cons; exact olA; exact rfl) | (apply DL.nil; kernel_rfl) | (refine DL.split rfl rfl rfl rfl (fun hb => ?_) (fun hb => ?_) <;> have hb' := hb <;> (try simp only [sc, reduceCtorEq, cmpOf] at hb') <;> try (exfalso; omega)))
     all_goals (fail_if_success apply DL.id))
    | (refine RunL.split rfl rfl rfl rfl (fun hb => ?_) (fun hb => ?_) <;> have hb' := hb <;> (try simp only [sc, reduceCtorEq, cmpOf] at hb') <;> try (exfalso; omega)) )
  all_goals
    first   | (apply Ends.mk (.cons (.tmp rfl) .nil); first | rfl | (simp only [pack]; congr 1; simp only [cmpOf, decide_eq_true_eq, beq_iff_eq, bne_iff_ne]; omega))   | (apply Ends.mk (.cons (.tmp rfl) .nil); simp only [pack]; congr 1; simp only [cmpOf, sc]; omega)   | (exfalso; first | omega | (simp only [*, Bool.true_eq_false, Bool.false_eq_true, reduceCtorEq] at *; done) | grind)
theorem r4sameRg {s : Bool} {l d : List Int} : Evals Tryd.prog 14 [.agg [.bool s, .ints .u32 l, .ints .u32 d], .agg [.bool s, .ints .u32 l, .ints .u32 d]] (.bool true) := by
  refine evals_of_awp Tryd.func14 rfl (CallOK.of Tryd.func14 (by kernel_rfl) rfl) (Nat.le_of_ble_eq_true rfl) ?_
  rintro w R hR ⟨vs, hv⟩
  repeat' (first
    | (apply RunL.step; exact rfl; apply op_ev (τ := τ); exact rfl; (first | exact r4sameIg | exact r1same_eq); exact rfl) | (apply RunL.step; exact rfl; exact opA) | (apply RunL.hand; exact rfl; exact rfl; exact lenA; exact rfl) | (apply AWP.seq) | (apply AWP.region; exact rfl) | (apply AWP.block) | (apply AWP.skip) | (apply AWP.exit) | (apply AWP.retF; exact rfl; exact rfl; exact rfl; exact rfl; exact lenA; exact rfl) | (apply AWP.ret) | (apply RunL.nil) | (apply RunL.on; exact rfl; exact rfl; exact rfl; exact rfl; (first | exact rfl | assumption)) | (apply RunL.noU; exact rfl; exact rfl; exact rfl; exact rfl; exact rfl; exact rfl) | (apply RunL.no; exact rfl; exact rfl; exact rfl; exact rfl; (first | exact rfl | assumption); exact rfl; exact rfl) | (refine AWP.cond _ (Rd.of rfl) (fun hc => ?_) (fun hc => ?_) <;> first | (exfalso; cases hc; done) | (have hc' := hc; (try simp only [sc, reduceCtorEq, cmpOf] at hc'); try (exfalso; omega)))
    | (
     apply AWP.drawA
     repeat' (first
       | (apply DL.cons; (try (apply OpLoc.on; exact rfl; exact rfl; exact rfl; exact rfl; (first | exact rfl | assumption))); apply ol_ev (τ := τ); exact rfl; (first | exact r4sameIg | exact r1same_eq); exact rfl; exact rfl) | (apply DL.cons; exact olA; exact rfl) | (apply DL.nil; kernel_rfl) | (refine DL.split rfl rfl rfl rfl (fun hb => ?_) (fun hb => ?_) <;> have hb' := hb <;> (try simp only [sc, reduceCtorEq, cmpOf] at hb') <;> try (exfalso; omega)))
     all_goals (fail_if_success apply DL.id))
    | (refine RunL.split rfl rfl rfl rfl (fun hb => ?_) (fun hb => ?_) <;> have hb' := hb <;> (try simp only [sc, reduceCtorEq, cmpOf] at hb') <;> try (exfalso; omega)) )
  all_goals
    first   | (apply Ends.mk (.cons (.tmp rfl) .nil); first | rfl | (simp only [pack]; congr 1; simp only [cmpOf, decide_eq_true_eq, beq_iff_eq, bne_iff_ne]; omega))   | (apply Ends.mk (.cons (.tmp rfl) .nil); simp only [pack]; congr 1; simp only [cmpOf, sc]; omega)   | (exfalso; first | omega | (simp only [*, Bool.true_eq_false, Bool.false_eq_true, reduceCtorEq] at *; done) | grind)
theorem ratS_frac (q : Rat) (n d : Nat) (t u : List UInt8) (h1 : q.num = n) (h2 : q.den = d) (hd : (d : Int) ≠ 1) (h : decD n = t) (h' : decD d = u) : ratS q = t ++ 47 :: u := by
  rw [ratS, h1, h2, if_neg hd, intS, if_neg (by omega), ← h, ← h']
  simp
theorem szd (a b : Int) (ha : -100 ≤ a ∧ a ≤ 100) (hb : -100 ≤ b ∧ b ≤ 100) : SzR (Rat.divInt a b) 5 := SzR.di _ _ 2 2 (h := SzI.i64 (by omega)) (g := SzI.i64 (by omega))
abbrev ex2 : List Rt := [(1, 1, []), (2, 1, [])]
abbrev ex3 : List Rt := [(1, 1, []), (2, 1, []), (7, 2, [5])]
abbrev exD : Int := 7806831264735756412
theorem exA1 : Evals Tryd.prog 25 [.sl 3 (ex2.map rowRt), .ints .i64 [5], .int .u64 1] (.tup [.sl 2 (([(5, 2), (5, 1)] : List As).map rowAs), .int .u64 exD, .int .i64 0]) := by
  have := kAssign1 ex2 [5] 1 (by decide +kernel) (by decide +kernel)
  rwa [show assignP ex2 (shuffle ex2.length 1).1 [5] [] = some [(5, 2), (5, 1)] by decide +kernel, show (shuffle ex2.length 1).2 = exD by decide +kernel] at this
theorem exA2 : Evals Tryd.prog 25 [.sl 3 (ex2.map rowRt), .ints .i64 [5, 6], .int .u64 1] (.tup [.sl 2 [], .int .u64 1, .int .i64 14]) := by
  have := kAssign1 ex2 [5, 6] 1 (by decide +kernel) (by decide +kernel)
  rwa [show assignP ex2 (shuffle ex2.length 1).1 [5, 6] [] = none by decide +kernel] at this
theorem exL : Evals Tryd.prog 12 [.sl 2 (([(5, 2), (5, 1)] : List As).map rowAs), .int .i64 1] (.int .i64 1) := by
  have := kLoad [(5, 2), (5, 1)] 1
  rwa [show loadN [(5, 2), (5, 1)] 1 = 1 by decide +kernel] at this
theorem exV1 : Evals Tryd.prog 19 [.sl 3 (ex3.map rowRt)] (.int .i64 0) := by
  have := kValid ex3
  rwa [show validE ex3 = 0 by decide +kernel] at this
theorem exV2 : Evals Tryd.prog 19 [.sl 3 (([(2, 0, []), (2, 0, [])] : List Rt).map rowRt)] (.int .i64 23) := by
  have := kValid [(2, 0, []), (2, 0, [])]
  rwa [show validE [(2, 0, []), (2, 0, [])] = 23 by decide +kernel] at this
theorem exM1 : Evals Tryd.prog 11 [.agg [.int .i64 7, .int .i64 2, .ints .i64 [5]], .int .i64 5] (.bool false) := by
  have := kMay 7 2 [5] 5
  rwa [show decide ((5 : Int) ∉ [(5 : Int)]) = false by decide +kernel] at this
theorem exM2 : Evals Tryd.prog 11 [.agg [.int .i64 7, .int .i64 2, .ints .i64 [5]], .int .i64 6] (.bool true) := by
  have := kMay 7 2 [5] 6
  rwa [show decide ((6 : Int) ∉ [(5 : Int)]) = true by decide +kernel] at this
theorem exC1 : Evals Tryd.prog 21 [.sl 3 (ex3.map rowRt), .ints .i64 [5], .sl 2 (([(5, 2), (5, 1)] : List As).map rowAs)] (.int .i64 0) := by
  have := kCheck ex3 [5] [(5, 2), (5, 1)]
  rwa [show checkE ex3 [5] [(5, 2), (5, 1)] = 0 by decide +kernel] at this
theorem exC2 : Evals Tryd.prog 21 [.sl 3 (ex3.map rowRt), .ints .i64 [5], .sl 2 (([(5, 1), (5, 1)] : List As).map rowAs)] (.int .i64 7) := by
  have := kCheck ex3 [5] [(5, 1), (5, 1)]
  rwa [show checkE ex3 [5] [(5, 1), (5, 1)] = 7 by decide +kernel] at this
theorem exT1 : Evals Tryd.prog 9 [.sl 3 (ex3.map rowRt), .sl 2 (([(5, 2), (5, 1)] : List As).map rowAs), .int .i64 5] (.tup [.int .i64 0, .int .i64 14]) := by
  have := kThird1 ex3 [(5, 2), (5, 1)] 5 (by decide) (by decide +kernel)
  rwa [if_neg (by decide +kernel), if_pos (by decide +kernel)] at this
theorem exT2 : Evals Tryd.prog 9 [.sl 3 (ex3.map rowRt), .sl 2 (([(6, 1), (6, 2)] : List As).map rowAs), .int .i64 6] (.tup [.int .i64 7, .int .i64 0]) := by
  have := kThird1 ex3 [(6, 1), (6, 2)] 6 (by decide) (by decide +kernel)
  rwa [if_neg (by decide +kernel), if_neg (by decide +kernel), show (atR ex3 (thirdP ex3 [(6, 1), (6, 2)] 6).toNat).1 = 7 by decide +kernel] at this
theorem exE : Evals Tryd.prog 13 [.ints .i64 [0, 0, 1, 1], .ints .i64 [0, 1, 1, 1]] (.tup [ratD (Rat.divInt 3 4), .int .i64 0]) := by
  have := kExact1 [0, 0, 1, 1] [0, 1, 1, 1] (by decide +kernel)
  rwa [show Rat.divInt (eqS [0, 0, 1, 1] [0, 1, 1, 1] [(0 : Int), 0, 1, 1].length) [(0 : Int), 0, 1, 1].length = Rat.divInt 3 4 by decide +kernel] at this
theorem exK : Evals Tryd.prog 15 [.ints .i64 [0, 0, 1, 1], .ints .i64 [0, 1, 1, 1], .int .i64 1] (.tup [ratD (Rat.divInt 1 2), .int .i64 0]) := by
  have := kKappaN [0, 0, 1, 1] [0, 1, 1, 1] 1 (by decide +kernel)
  rwa [if_neg (by decide +kernel), show kapQ [0, 0, 1, 1] [0, 1, 1, 1] [(0 : Int), 0, 1, 1].length = Rat.divInt 1 2 by decide +kernel] at this
theorem exW : Evals Tryd.prog 16 [.ints .i64 [0, 0, 1, 1], .ints .i64 [0, 1, 1, 1], .int .i64 1] (.tup [ratD (Rat.divInt 1 2), .int .i64 0]) := by
  have := kWeightedN [0, 0, 1, 1] [0, 1, 1, 1] 1 (by decide +kernel)
  rwa [if_neg (by decide +kernel), show wgtQ [0, 0, 1, 1] [0, 1, 1, 1] [(0 : Int), 0, 1, 1].length = Rat.divInt 1 2 by decide +kernel] at this
theorem exK8 : Evals Tryd.prog 15 [.ints .i64 [1, 1], .ints .i64 [1, 1], .int .i64 3] (.tup [rat0, .int .i64 8]) := by
  have := kKappaN [1, 1] [1, 1] 3 (by decide +kernel)
  rwa [if_pos (by decide +kernel)] at this
theorem exE20 : Evals Tryd.prog 13 [.ints .i64 [], .ints .i64 []] (.tup [rat0, .int .i64 20]) := kExact0 [] [] (by decide +kernel)
set_option maxRecDepth 8000 in
set_option maxHeartbeats 4000000 in
theorem lawake : Evals Tryd.prog 10 [] (.bool true) := by
  have d1 : decD 1 = [49] := by rw [decD_small (by omega) (by omega)]; rfl
  have d2 : decD 2 = [50] := by rw [decD_small (by omega) (by omega)]; rfl
  have d3 : decD 3 = [51] := by rw [decD_small (by omega) (by omega)]; rfl
  have d4 : decD 4 = [52] := by rw [decD_small (by omega) (by omega)]; rfl
  have t12 : ratS (Rat.divInt 1 2) = [49, 47, 50] := ratS_frac _ 1 2 _ _ (by decide +kernel) (by decide +kernel) (by decide) d1 d2
  have t34 : ratS (Rat.divInt 3 4) = [51, 47, 52] := ratS_frac _ 3 4 _ _ (by decide +kernel) (by decide +kernel) (by decide) d3 d4
  have p34 := rprint (h := RA.ratD (Rat.divInt 3 4) 5 (h := szd 3 4 (by omega) (by omega))) (by omega)
  have p12 := rprint (h := RA.ratD (Rat.divInt 1 2) 5 (h := szd 1 2 (by omega) (by omega))) (by omega)
  rw [t34] at p34
  rw [t12] at p12
  refine evals_of_awp Tryd.func10 rfl (CallOK.of Tryd.func10 (by kernel_rfl) rfl) (Nat.le_of_ble_eq_true rfl) ?_
  rintro w R hR ⟨vs, hv⟩
  repeat' (first
    | (apply RunL.step; exact rfl; first | (apply op_iaS (τ := τ); exact rfl; exact rfl; exact rfl; exact rfl; exact Rd.of rfl; exact Rd.of rfl; exact of_decide_eq_true rfl; exact rfl; exact rfl) | (apply op_sliceS (τ := τ); exact rfl; exact rfl; exact rfl; exact rfl; exact Rd.of rfl; exact Bd.none; exact Bd.some (Rd.of rfl) (Int.toNat_of_nonneg (by omega)).symm; exact Nat.zero_le _; exact of_decide_eq_true rfl; exact rfl) | fail) | (apply RunL.step; exact rfl; apply op_ev (τ := τ); exact rfl; (first | exact exA1 | exact exA2 | exact exL | exact exV1 | exact exV2 | exact exM1 | exact exM2 | exact exC1 | exact exC2 | exact exT1 | exact exT2 | exact exE | exact exK | exact exW | exact exK8 | exact exE20 | exact p34 | exact p12); exact rfl) | (apply RunL.step; exact rfl; exact opA) | (apply RunL.hand; exact rfl; exact rfl; exact lenA; exact rfl) | (apply AWP.seq) | (apply AWP.region; exact rfl) | (apply AWP.block) | (apply AWP.skip) | (apply AWP.exit) | (apply AWP.retF; exact rfl; exact rfl; exact rfl; exact rfl; exact lenA; exact rfl) | (apply AWP.ret) | (apply RunL.nil) | (apply RunL.on; exact rfl; exact rfl; exact rfl; exact rfl; (first | exact rfl | assumption)) | (apply RunL.noU; exact rfl; exact rfl; exact rfl; exact rfl; exact rfl; exact rfl) | (apply RunL.no; exact rfl; exact rfl; exact rfl; exact rfl; (first | exact rfl | assumption); exact rfl; exact rfl) | (refine AWP.cond _ (Rd.of rfl) (fun hc => ?_) (fun hc => ?_) <;> first | (exfalso; cases hc; done) | (have hc' := hc; (try simp only [sc, reduceCtorEq, cmpOf] at hc'); try (exfalso; omega)))
    | (
     apply AWP.drawA
     repeat' (first
       | (apply DL.cons; (try (apply OpLoc.on; exact rfl; exact rfl; exact rfl; exact rfl; (first | exact rfl | assumption))); apply ol_iaS (τ := τ); exact rfl; exact rfl; exact rfl; exact rfl; exact Rd.of rfl; exact Rd.of rfl; exact of_decide_eq_true rfl; exact rfl; exact rfl; exact rfl) | (apply DL.cons; (try (apply OpLoc.on; exact rfl; exact rfl; exact rfl; exact rfl; (first | exact rfl | assumption))); apply ol_ev (τ := τ); exact rfl; (first | exact exA1 | exact exA2 | exact exL | exact exV1 | exact exV2 | exact exM1 | exact exM2 | exact exC1 | exact exC2 | exact exT1 | exact exT2 | exact exE | exact exK | exact exW | exact exK8 | exact exE20 | exact p34 | exact p12); exact rfl; exact rfl) | (apply DL.cons; exact olA; exact rfl) | (apply DL.nil; kernel_rfl) | (refine DL.split rfl rfl rfl rfl (fun hb => ?_) (fun hb => ?_) <;> have hb' := hb <;> (try simp only [sc, reduceCtorEq, cmpOf] at hb') <;> try (exfalso; omega)))
     all_goals (fail_if_success apply DL.id))
    | (refine RunL.split rfl rfl rfl rfl (fun hb => ?_) (fun hb => ?_) <;> have hb' := hb <;> (try simp only [sc, reduceCtorEq, cmpOf] at hb') <;> try (exfalso; omega)) )
  all_goals
    apply Ends.mk (.cons (.tmp rfl) .nil)
    first | done | rfl
end Go.Proofs.YtmefecfkajjajaaDoor.K
namespace Go.Proofs.YtmefecfkajjajaaDoor.K
open Go Go.RowKit
set_option linter.unusedVariables false
set_option linter.unusedSimpArgs false

theorem rows_rt {L : List (List D)} (h : ∀ row ∈ L, Oks [.int .i64, .int .i64, .ints .i64] row) : ∃ M : List Rt, L = M.map rowRt := by
  induction L with
  | nil => exact ⟨[], rfl⟩
  | cons r L ih =>
    obtain ⟨M, hM⟩ := ih fun row hr => h row (by simp [hr])
    obtain ⟨_, _, rfl, h1, h2⟩ := Oks.cons_inv (h r (by simp))
    obtain ⟨_, _, rfl, h3, h4⟩ := Oks.cons_inv h2
    obtain ⟨_, _, rfl, h5, h6⟩ := Oks.cons_inv h4
    obtain rfl := Oks.nil_inv h6
    cases h1 with | int _ c => cases h3 with | int _ t => cases h5 with | ints _ u => exact ⟨(c, t, u) :: M, by simp [hM]⟩
theorem rows_as {L : List (List D)} (h : ∀ row ∈ L, Oks [.int .i64, .int .i64] row) : ∃ M : List As, L = M.map rowAs := by
  induction L with
  | nil => exact ⟨[], rfl⟩
  | cons r L ih =>
    obtain ⟨M, hM⟩ := ih fun row hr => h row (by simp [hr])
    obtain ⟨_, _, rfl, h1, h2⟩ := Oks.cons_inv (h r (by simp))
    obtain ⟨_, _, rfl, h3, h4⟩ := Oks.cons_inv h2
    obtain rfl := Oks.nil_inv h4
    cases h1 with | int _ c => cases h3 with | int _ t => exact ⟨(c, t) :: M, by simp [hM]⟩
theorem bulk_as : ∀ (M : List As), M.length ≤ bulkLL (M.map rowAs)
  | [] => by simp
  | p :: M => by
    have := bulk_as M
    simp only [List.map_cons, List.length_cons, bulkLL, bulkL, D.bulk]; omega
theorem bulk_rt : ∀ (M : List Rt), M.length ≤ bulkLL (M.map rowRt)
  | [] => by simp
  | p :: M => by
    have := bulk_rt M
    simp only [List.map_cons, List.length_cons, bulkLL, bulkL, D.bulk]; omega
theorem law_RatersChecks (L1 : List (List D)) (hL1 : ∀ row ∈ L1, Oks [.int .i64, .int .i64, .ints .i64] row) (C : List Int) (L2 : List (List D)) (hL2 : ∀ row ∈ L2, Oks [.int .i64, .int .i64] row) (a m : Int) (z : List Int) (n : Int) (hb : bulkA [D.sl 3 L1, .ints .i64 C, .sl 2 L2, .agg [.int .i64 a, .int .i64 m, .ints .i64 z], .int .i64 n] ≤ 1048576) : Evals Tryd.prog 5 [.sl 3 L1, .ints .i64 C, .sl 2 L2, .agg [.int .i64 a, .int .i64 m, .ints .i64 z], .int .i64 n] (.bool true) := by
  obtain ⟨l, rfl⟩ := rows_rt hL1
  obtain ⟨M, rfl⟩ := rows_as hL2
  have g1 := kValid l
  have g2 := rValid l
  have g3 := kCheck l C M
  have g4 := rCheck l C M
  have g5 := kMay a m z n
  have g6 := rMay a m z n
  have g7 := kLoad M n
  have g8 := rLoad M n
  clear hb hL1 hL2
  generalize validE l = e1 at *
  generalize checkE l C M = e2 at *
  generalize loadN M n = e3 at *
  generalize decide (n ∉ z) = e4 at *
  refine evals_of_awp Tryd.func5 rfl (CallOK.of Tryd.func5 (by kernel_rfl) rfl) (Nat.le_of_ble_eq_true rfl) ?_
  rintro w R hR ⟨vs, hv⟩
  have c4 : (e4 == e4) = true := by simp
  repeat' (first
    | (apply RunL.step; exact rfl; apply op_ev (τ := τ); exact rfl; (first | exact g1 | exact g2 | exact g3 | exact g4 | exact g5 | exact g6 | exact g7 | exact g8 | exact lawake); exact rfl) | (apply RunL.step; exact rfl; exact opA) | (apply RunL.hand; exact rfl; exact rfl; exact lenA; exact rfl) | (apply AWP.seq) | (apply AWP.region; exact rfl) | (apply AWP.block) | (apply AWP.skip) | (apply AWP.exit) | (apply AWP.retF; exact rfl; exact rfl; exact rfl; exact rfl; exact lenA; exact rfl) | (apply AWP.ret) | (apply RunL.nil) | (apply RunL.on; exact rfl; exact rfl; exact rfl; exact rfl; (first | exact rfl | assumption)) | (apply RunL.noU; exact rfl; exact rfl; exact rfl; exact rfl; exact rfl; exact rfl) | (apply RunL.no; exact rfl; exact rfl; exact rfl; exact rfl; (first | exact rfl | assumption); exact rfl; exact rfl) | (refine AWP.cond _ (Rd.of rfl) (fun hc => ?_) (fun hc => ?_) <;> first | (exfalso; cases hc; done) | (have hc' := hc; (try simp only [sc, reduceCtorEq, cmpOf] at hc'); try (exfalso; omega)))
    | (
     apply AWP.drawA
     repeat' (first
       | (apply DL.cons; (try (apply OpLoc.on; exact rfl; exact rfl; exact rfl; exact rfl; (first | exact rfl | assumption))); apply ol_ev (τ := τ); exact rfl; (first | exact g1 | exact g2 | exact g3 | exact g4 | exact g5 | exact g6 | exact g7 | exact g8 | exact lawake); exact rfl; exact rfl) | (apply DL.cons; exact olA; exact rfl) | (apply DL.nil; kernel_rfl) | (refine DL.split rfl rfl rfl rfl (fun hb => ?_) (fun hb => ?_) <;> have hb' := hb <;> (try simp only [sc, reduceCtorEq, cmpOf] at hb') <;> try (exfalso; omega)))
     all_goals (fail_if_success apply DL.id))
    | (refine RunL.split rfl rfl rfl rfl (fun hb => ?_) (fun hb => ?_) <;> have hb' := hb <;> (try simp only [sc, reduceCtorEq, cmpOf] at hb') <;> try (exfalso; omega)) )
  all_goals
    apply Ends.mk (.cons (.tmp rfl) .nil)
    first | done | rfl
theorem law_RatersAssign (L1 : List (List D)) (hL1 : ∀ row ∈ L1, Oks [.int .i64, .int .i64, .ints .i64] row) (C : List Int) (d : Int) (hb : bulkA [D.sl 3 L1, .ints .i64 C, .int .u64 d] ≤ 1048576) : Evals Tryd.prog 6 [.sl 3 L1, .ints .i64 C, .int .u64 d] (.bool true) := by
  obtain ⟨l, rfl⟩ := rows_rt hL1
  obtain ⟨out, nx, e, g1, g2⟩ : ∃ (out : List As) (nx e : Int), Evals Tryd.prog 25 [.sl 3 (l.map rowRt), .ints .i64 C, .int .u64 d] (.tup [.sl 2 (out.map rowAs), .int .u64 nx, .int .i64 e]) ∧ Evals Tryd.prog 26 [.sl 3 (l.map rowRt), .ints .i64 C, .int .u64 d] (.tup [.sl 2 (out.map rowAs), .int .u64 nx, .int .i64 e]) := by
    by_cases hv : validE l = 0
    · by_cases hc : candE C = 0
      · have h1 := kAssign1 l C d hv hc
        have h2 := rAssign1 l C d hv hc
        cases ho : assignP l (shuffle l.length d).1 C [] with
        | some out => rw [ho] at h1 h2; exact ⟨out, _, _, h1, h2⟩
        | none => rw [ho] at h1 h2; exact ⟨[], _, _, h1, h2⟩
      · have hp : peopleE l C = candE C := by rw [peopleE, if_neg (by omega)]
        have h2 := rAssignE l C d (by rw [hp]; exact hc)
        rw [hp] at h2
        exact ⟨[], _, _, kAssignC l C d hv hc, h2⟩
    · have hp : peopleE l C = validE l := by rw [peopleE, if_pos hv]
      have h2 := rAssignE l C d (by rw [hp]; exact hv)
      rw [hp] at h2
      exact ⟨[], _, _, kAssignV l C d hv, h2⟩
  have g3 := rSame out
  clear hb hL1
  refine evals_of_awp Tryd.func6 rfl (CallOK.of Tryd.func6 (by kernel_rfl) rfl) (Nat.le_of_ble_eq_true rfl) ?_
  rintro w R hR ⟨vs, hv⟩
  repeat' (first
    | (apply RunL.step; exact rfl; apply op_ev (τ := τ); exact rfl; (first | exact g1 | exact g2 | exact g3 | exact lawake); exact rfl) | (apply RunL.step; exact rfl; exact opA) | (apply RunL.hand; exact rfl; exact rfl; exact lenA; exact rfl) | (apply AWP.seq) | (apply AWP.region; exact rfl) | (apply AWP.block) | (apply AWP.skip) | (apply AWP.exit) | (apply AWP.retF; exact rfl; exact rfl; exact rfl; exact rfl; exact lenA; exact rfl) | (apply AWP.ret) | (apply RunL.nil) | (apply RunL.on; exact rfl; exact rfl; exact rfl; exact rfl; (first | exact rfl | assumption)) | (apply RunL.noU; exact rfl; exact rfl; exact rfl; exact rfl; exact rfl; exact rfl) | (apply RunL.no; exact rfl; exact rfl; exact rfl; exact rfl; (first | exact rfl | assumption); exact rfl; exact rfl) | (refine AWP.cond _ (Rd.of rfl) (fun hc => ?_) (fun hc => ?_) <;> first | (exfalso; cases hc; done) | (have hc' := hc; (try simp only [sc, reduceCtorEq, cmpOf] at hc'); try (exfalso; omega)))
    | (
     apply AWP.drawA
     repeat' (first
       | (apply DL.cons; (try (apply OpLoc.on; exact rfl; exact rfl; exact rfl; exact rfl; (first | exact rfl | assumption))); apply ol_ev (τ := τ); exact rfl; (first | exact g1 | exact g2 | exact g3 | exact lawake); exact rfl; exact rfl) | (apply DL.cons; exact olA; exact rfl) | (apply DL.nil; kernel_rfl) | (refine DL.split rfl rfl rfl rfl (fun hb => ?_) (fun hb => ?_) <;> have hb' := hb <;> (try simp only [sc, reduceCtorEq, cmpOf] at hb') <;> try (exfalso; omega)))
     all_goals (fail_if_success apply DL.id))
    | (refine RunL.split rfl rfl rfl rfl (fun hb => ?_) (fun hb => ?_) <;> have hb' := hb <;> (try simp only [sc, reduceCtorEq, cmpOf] at hb') <;> try (exfalso; omega)) )
  all_goals
    apply Ends.mk (.cons (.tmp rfl) .nil)
    first | done | rfl
theorem law_RatersThird (L1 : List (List D)) (hL1 : ∀ row ∈ L1, Oks [.int .i64, .int .i64, .ints .i64] row) (L2 : List (List D)) (hL2 : ∀ row ∈ L2, Oks [.int .i64, .int .i64] row) (c : Int) (hb : bulkA [D.sl 3 L1, .sl 2 L2, .int .i64 c] ≤ 1048576) : Evals Tryd.prog 7 [.sl 3 L1, .sl 2 L2, .int .i64 c] (.bool true) := by
  obtain ⟨l, rfl⟩ := rows_rt hL1
  obtain ⟨M, rfl⟩ := rows_as hL2
  have hbl := bulk_as M
  have hM : M.length ≤ 1048576 := by simp [bulkA, bulkL, D.bulk, D.parts] at hb; omega
  obtain ⟨n, e, g1, g2⟩ : ∃ (n e : Int), Evals Tryd.prog 9 [.sl 3 (l.map rowRt), .sl 2 (M.map rowAs), .int .i64 c] (.tup [.int .i64 n, .int .i64 e]) ∧ Evals Tryd.prog 28 [.sl 3 (l.map rowRt), .sl 2 (M.map rowAs), .int .i64 c] (.tup [.int .i64 n, .int .i64 e]) := by
    by_cases hv : validE l = 0
    · have h1 := kThird1 l M c hM hv
      have h2 := rThird1 l M c hM hv
      by_cases h3 : (asgL M c).length ≠ 2
      · rw [if_pos h3] at h1 h2; exact ⟨_, _, h1, h2⟩
      · rw [if_neg h3] at h1 h2
        by_cases h4 : thirdP l M c < 0
        · rw [if_pos h4] at h1 h2; exact ⟨_, _, h1, h2⟩
        · rw [if_neg h4] at h1 h2; exact ⟨_, _, h1, h2⟩
    · exact ⟨_, _, kThirdV l M c hv, rThirdV l M c hv⟩
  have g3 := g1
  clear hb hL1 hL2 hbl hM
  refine evals_of_awp Tryd.func7 rfl (CallOK.of Tryd.func7 (by kernel_rfl) rfl) (Nat.le_of_ble_eq_true rfl) ?_
  rintro w R hR ⟨vs, hv⟩
  repeat' (first
    | (apply RunL.step; exact rfl; apply op_ev (τ := τ); exact rfl; (first | exact g1 | exact g2 | exact g3 | exact lawake); exact rfl) | (apply RunL.step; exact rfl; exact opA) | (apply RunL.hand; exact rfl; exact rfl; exact lenA; exact rfl) | (apply AWP.seq) | (apply AWP.region; exact rfl) | (apply AWP.block) | (apply AWP.skip) | (apply AWP.exit) | (apply AWP.retF; exact rfl; exact rfl; exact rfl; exact rfl; exact lenA; exact rfl) | (apply AWP.ret) | (apply RunL.nil) | (apply RunL.on; exact rfl; exact rfl; exact rfl; exact rfl; (first | exact rfl | assumption)) | (apply RunL.noU; exact rfl; exact rfl; exact rfl; exact rfl; exact rfl; exact rfl) | (apply RunL.no; exact rfl; exact rfl; exact rfl; exact rfl; (first | exact rfl | assumption); exact rfl; exact rfl) | (refine AWP.cond _ (Rd.of rfl) (fun hc => ?_) (fun hc => ?_) <;> first | (exfalso; cases hc; done) | (have hc' := hc; (try simp only [sc, reduceCtorEq, cmpOf] at hc'); try (exfalso; omega)))
    | (
     apply AWP.drawA
     repeat' (first
       | (apply DL.cons; (try (apply OpLoc.on; exact rfl; exact rfl; exact rfl; exact rfl; (first | exact rfl | assumption))); apply ol_ev (τ := τ); exact rfl; (first | exact g1 | exact g2 | exact g3 | exact lawake); exact rfl; exact rfl) | (apply DL.cons; exact olA; exact rfl) | (apply DL.nil; kernel_rfl) | (refine DL.split rfl rfl rfl rfl (fun hb => ?_) (fun hb => ?_) <;> have hb' := hb <;> (try simp only [sc, reduceCtorEq, cmpOf] at hb') <;> try (exfalso; omega)))
     all_goals (fail_if_success apply DL.id))
    | (refine RunL.split rfl rfl rfl rfl (fun hb => ?_) (fun hb => ?_) <;> have hb' := hb <;> (try simp only [sc, reduceCtorEq, cmpOf] at hb') <;> try (exfalso; omega)) )
  all_goals
    apply Ends.mk (.cons (.tmp rfl) .nil)
    first | done | rfl
end Go.Proofs.YtmefecfkajjajaaDoor.K
namespace Go.Proofs.YtmefecfkajjajaaDoor.K
open Go Go.RowKit
set_option linter.unusedVariables false
set_option linter.unusedSimpArgs false

set_option maxHeartbeats 1000000 in
theorem law_RatersDecides (L1 : List (List D)) (hL1 : ∀ row ∈ L1, Oks [.int .i64, .int .i64, .ints .i64] row) (L2 : List (List D)) (hL2 : ∀ row ∈ L2, Oks [.int .i64, .int .i64] row) (c : Int) (hb : bulkA [D.sl 3 L1, .sl 2 L2, .int .i64 c] ≤ 1048576) : Evals Tryd.prog 3 [.sl 3 L1, .sl 2 L2, .int .i64 c] (.bool true) := by
  obtain ⟨l, rfl⟩ := rows_rt hL1
  obtain ⟨M, rfl⟩ := rows_as hL2
  have hbl := bulk_as M
  have hM : M.length ≤ 1048576 := by simp [bulkA, bulkL, D.bulk, D.parts] at hb; omega
  have key : (∃ e : Int, e ≠ 0 ∧ Evals Tryd.prog 9 [.sl 3 (l.map rowRt), .sl 2 (M.map rowAs), .int .i64 c] (.tup [.int .i64 0, .int .i64 e])) ∨
      (∃ a : Nat, validE l = 0 ∧ a < l.length ∧ c ∉ (atR l a).2.2 ∧ (c, (atR l a).1) ∉ M ∧ loadN M (atR l a).1 < (atR l a).2.1 ∧ Evals Tryd.prog 9 [.sl 3 (l.map rowRt), .sl 2 (M.map rowAs), .int .i64 c] (.tup [.int .i64 (atR l a).1, .int .i64 0])) := by
    by_cases hv : validE l = 0
    · have h1 := kThird1 l M c hM hv
      by_cases h3 : (asgL M c).length ≠ 2
      · rw [if_pos h3] at h1; exact .inl ⟨6, by omega, h1⟩
      · rw [if_neg h3] at h1
        by_cases h4 : thirdP l M c < 0
        · rw [if_pos h4] at h1; exact .inl ⟨14, by omega, h1⟩
        · rw [if_neg h4] at h1
          obtain ⟨a, e1, e2, e3, e4, e5⟩ := third_spec (l := l) (L := M) (c := c) (by unfold thirdE; rw [if_neg (by omega), if_neg h3, if_neg h4])
          rw [e1] at h1
          exact .inr ⟨a, hv, e2, e3, e4, e5, h1⟩
    · exact .inl ⟨_, hv, kThirdV l M c hv⟩
  clear hb hL1 hL2 hbl hM
  rcases key with ⟨e, he, g1⟩ | ⟨a, hvz, ha, ha1, ha2, ha3, g1⟩
  ·
    refine evals_of_awp Tryd.func3 rfl (CallOK.of Tryd.func3 (by kernel_rfl) rfl) (Nat.le_of_ble_eq_true rfl) ?_
    rintro w R hR ⟨vs, hv⟩
    repeat' (first
      | (apply RunL.step; exact rfl; apply op_ev (τ := τ); exact rfl; (first | exact g1 | exact g2 | exact g3 | exact lawake); exact rfl) | (apply RunL.step; exact rfl; exact opA) | (apply RunL.hand; exact rfl; exact rfl; exact lenA; exact rfl) | (apply AWP.seq) | (apply AWP.region; exact rfl) | (apply AWP.block) | (apply AWP.skip) | (apply AWP.exit) | (apply AWP.retF; exact rfl; exact rfl; exact rfl; exact rfl; exact lenA; exact rfl) | (apply AWP.ret) | (apply RunL.nil) | (apply RunL.on; exact rfl; exact rfl; exact rfl; exact rfl; (first | exact rfl | assumption)) | (apply RunL.noU; exact rfl; exact rfl; exact rfl; exact rfl; exact rfl; exact rfl) | (apply RunL.no; exact rfl; exact rfl; exact rfl; exact rfl; (first | exact rfl | assumption); exact rfl; exact rfl) | (refine AWP.cond _ (Rd.of rfl) (fun hc => ?_) (fun hc => ?_) <;> first | (exfalso; cases hc; done) | (have hc' := hc; (try simp only [sc, reduceCtorEq, cmpOf] at hc'); try (exfalso; omega)))
      | (
       apply AWP.drawA
       repeat' (first
         | (apply DL.cons; (try (apply OpLoc.on; exact rfl; exact rfl; exact rfl; exact rfl; (first | exact rfl | assumption))); apply ol_ev (τ := τ); exact rfl; (first | exact g1 | exact g2 | exact g3 | exact lawake); exact rfl; exact rfl) | (apply DL.cons; exact olA; exact rfl) | (apply DL.nil; kernel_rfl) | (refine DL.split rfl rfl rfl rfl (fun hb => ?_) (fun hb => ?_) <;> have hb' := hb <;> (try simp only [sc, reduceCtorEq, cmpOf] at hb') <;> try (exfalso; omega)))
       all_goals (fail_if_success apply DL.id))
      | (refine RunL.split rfl rfl rfl rfl (fun hb => ?_) (fun hb => ?_) <;> have hb' := hb <;> (try simp only [sc, reduceCtorEq, cmpOf] at hb') <;> try (exfalso; omega)) )
    all_goals
      apply Ends.mk (.cons (.tmp rfl) .nil)
      first | done | rfl
  · generalize hid : (atR l a).1 = id at *
    have hml : (l.map rowRt).length = l.length := by simp
    have hmL : (M.map rowAs).length = M.length := by simp
    refine evals_of_awp Tryd.func3 rfl (CallOK.of Tryd.func3 (by kernel_rfl) rfl) (Nat.le_of_ble_eq_true rfl) ?_
    rintro w R hR ⟨vs, hv⟩
    have hlen := hv.slen 0 rfl
    have hlenL := hv.slen 1 rfl
    repeat' (first
      | (apply RunL.step; exact rfl; apply op_ev (τ := τ); exact rfl; (first | exact g1 | exact g2 | exact g3 | exact lawake); exact rfl) | (apply RunL.step; exact rfl; exact opA) | (apply RunL.hand; exact rfl; exact rfl; exact lenA; exact rfl) | (apply AWP.seq) | (apply AWP.region; exact rfl) | (apply AWP.block) | (apply AWP.skip) | (apply AWP.exit) | (apply AWP.retF; exact rfl; exact rfl; exact rfl; exact rfl; exact lenA; exact rfl) | (apply AWP.ret) | (apply RunL.nil) | (apply RunL.on; exact rfl; exact rfl; exact rfl; exact rfl; (first | exact rfl | assumption)) | (apply RunL.noU; exact rfl; exact rfl; exact rfl; exact rfl; exact rfl; exact rfl) | (apply RunL.no; exact rfl; exact rfl; exact rfl; exact rfl; (first | exact rfl | assumption); exact rfl; exact rfl) | (refine AWP.cond _ (Rd.of rfl) (fun hc => ?_) (fun hc => ?_) <;> first | (exfalso; cases hc; done) | (have hc' := hc; (try simp only [sc, reduceCtorEq, cmpOf] at hc'); try (exfalso; omega)))
      | (
       apply AWP.drawA
       repeat' (first
         | (apply DL.cons; (try (apply OpLoc.on; exact rfl; exact rfl; exact rfl; exact rfl; (first | exact rfl | assumption))); apply ol_ev (τ := τ); exact rfl; (first | exact g1 | exact g2 | exact g3 | exact lawake); exact rfl; exact rfl) | (apply DL.cons; exact olA; exact rfl) | (apply DL.nil; kernel_rfl) | (refine DL.split rfl rfl rfl rfl (fun hb => ?_) (fun hb => ?_) <;> have hb' := hb <;> (try simp only [sc, reduceCtorEq, cmpOf] at hb') <;> try (exfalso; omega)))
       all_goals (fail_if_success apply DL.id))
      | (refine RunL.split rfl rfl rfl rfl (fun hb => ?_) (fun hb => ?_) <;> have hb' := hb <;> (try simp only [sc, reduceCtorEq, cmpOf] at hb') <;> try (exfalso; omega)) )
    refine AWP.loop (ι := Int) (fun i => ⟨[(0, .val (.sl 3 (l.map rowRt))), (1, .val (.sl 2 (M.map rowAs))), (2, .val (.int .i64 c)), (7, .val (.int .i64 id)), (9, .val (.int .i64 i))], []⟩) (fun i => 0 ≤ i ∧ i ≤ M.length) (fun i => (M.length - i).toNat) 0 ⟨by omega, by omega⟩ (St.Le.of (by repeat' (first | exact all_nil | refine all_cons rfl ?_)) (by repeat' (first | exact all_nil | refine all_cons rfl ?_))) ?_
    rintro i ⟨k1, k2⟩
    by_cases hi : i < M.length
    · obtain ⟨p, hp⟩ := at_some k1 hi
      have hrow : (M.map rowAs)[i.toNat]? = some [.int .i64 p.1, .int .i64 p.2] := by simp [hp]
      have hne : ¬ (p.1 = c ∧ p.2 = id) := fun ⟨e1, e2⟩ => ha2 (by rw [← e1, ← e2]; exact List.mem_of_getElem? hp)
      by_cases hm : p.1 = c
      · have hm2 : p.2 ≠ id := fun h => hne ⟨hm, h⟩
        repeat' (first
          | (apply RunL.step; exact rfl; apply op_ev (τ := τ); exact rfl; (first | exact g1 | exact g2 | exact g3 | exact lawake); exact rfl) | (apply RunL.step; exact rfl; exact opA) | (apply RunL.hand; exact rfl; exact rfl; exact lenA; exact rfl) | (apply AWP.seq) | (apply AWP.region; exact rfl) | (apply AWP.block) | (apply AWP.skip) | (apply AWP.exit) | (apply AWP.retF; exact rfl; exact rfl; exact rfl; exact rfl; exact lenA; exact rfl) | (apply AWP.ret) | (apply RunL.nil) | (apply RunL.on; exact rfl; exact rfl; exact rfl; exact rfl; (first | exact rfl | assumption)) | (apply RunL.noU; exact rfl; exact rfl; exact rfl; exact rfl; exact rfl; exact rfl) | (apply RunL.no; exact rfl; exact rfl; exact rfl; exact rfl; (first | exact rfl | assumption); exact rfl; exact rfl) | (refine AWP.cond _ (Rd.of rfl) (fun hc => ?_) (fun hc => ?_) <;> first | (exfalso; cases hc; done) | (have hc' := hc; (try simp only [sc, reduceCtorEq, cmpOf] at hc'); try (exfalso; omega)))
          | (
           apply AWP.drawA
           repeat' (first
             | (apply DL.cons; (try (apply OpLoc.on; exact rfl; exact rfl; exact rfl; exact rfl; (first | exact rfl | assumption))); apply ol_ev (τ := τ); exact rfl; (first | exact g1 | exact g2 | exact g3 | exact lawake); exact rfl; exact rfl) | (apply DL.cons; exact olA; exact rfl) | (apply DL.nil; kernel_rfl) | (refine DL.split rfl rfl rfl rfl (fun hb => ?_) (fun hb => ?_) <;> have hb' := hb <;> (try simp only [sc, reduceCtorEq, cmpOf] at hb') <;> try (exfalso; omega)))
           all_goals (fail_if_success apply DL.id))
          | (refine RunL.split rfl rfl rfl rfl (fun hb => ?_) (fun hb => ?_) <;> have hb' := hb <;> (try simp only [sc, reduceCtorEq, cmpOf] at hb') <;> try (exfalso; omega)) )
        all_goals
          exact ⟨_, St.Le.of (by repeat' (first | exact all_nil | refine all_cons rfl ?_)) (by repeat' (first | exact all_nil | refine all_cons rfl ?_)), ⟨by omega, by omega⟩, by omega⟩
      · repeat' (first
        | (apply RunL.step; exact rfl; apply op_ev (τ := τ); exact rfl; (first | exact g1 | exact g2 | exact g3 | exact lawake); exact rfl) | (apply RunL.step; exact rfl; exact opA) | (apply RunL.hand; exact rfl; exact rfl; exact lenA; exact rfl) | (apply AWP.seq) | (apply AWP.region; exact rfl) | (apply AWP.block) | (apply AWP.skip) | (apply AWP.exit) | (apply AWP.retF; exact rfl; exact rfl; exact rfl; exact rfl; exact lenA; exact rfl) | (apply AWP.ret) | (apply RunL.nil) | (apply RunL.on; exact rfl; exact rfl; exact rfl; exact rfl; (first | exact rfl | assumption)) | (apply RunL.noU; exact rfl; exact rfl; exact rfl; exact rfl; exact rfl; exact rfl) | (apply RunL.no; exact rfl; exact rfl; exact rfl; exact rfl; (first | exact rfl | assumption); exact rfl; exact rfl) | (refine AWP.cond _ (Rd.of rfl) (fun hc => ?_) (fun hc => ?_) <;> first | (exfalso; cases hc; done) | (have hc' := hc; (try simp only [sc, reduceCtorEq, cmpOf] at hc'); try (exfalso; omega)))
        | (
         apply AWP.drawA
         repeat' (first
           | (apply DL.cons; (try (apply OpLoc.on; exact rfl; exact rfl; exact rfl; exact rfl; (first | exact rfl | assumption))); apply ol_ev (τ := τ); exact rfl; (first | exact g1 | exact g2 | exact g3 | exact lawake); exact rfl; exact rfl) | (apply DL.cons; exact olA; exact rfl) | (apply DL.nil; kernel_rfl) | (refine DL.split rfl rfl rfl rfl (fun hb => ?_) (fun hb => ?_) <;> have hb' := hb <;> (try simp only [sc, reduceCtorEq, cmpOf] at hb') <;> try (exfalso; omega)))
         all_goals (fail_if_success apply DL.id))
        | (refine RunL.split rfl rfl rfl rfl (fun hb => ?_) (fun hb => ?_) <;> have hb' := hb <;> (try simp only [sc, reduceCtorEq, cmpOf] at hb') <;> try (exfalso; omega)) )
        all_goals
          exact ⟨_, St.Le.of (by repeat' (first | exact all_nil | refine all_cons rfl ?_)) (by repeat' (first | exact all_nil | refine all_cons rfl ?_)), ⟨by omega, by omega⟩, by omega⟩
    · repeat' (first
      | (apply RunL.step; exact rfl; apply op_ev (τ := τ); exact rfl; (first | exact g1 | exact g2 | exact g3 | exact lawake); exact rfl) | (apply RunL.step; exact rfl; exact opA) | (apply RunL.hand; exact rfl; exact rfl; exact lenA; exact rfl) | (apply AWP.seq) | (apply AWP.region; exact rfl) | (apply AWP.block) | (apply AWP.skip) | (apply AWP.exit) | (apply AWP.retF; exact rfl; exact rfl; exact rfl; exact rfl; exact lenA; exact rfl) | (apply AWP.ret) | (apply RunL.nil) | (apply RunL.on; exact rfl; exact rfl; exact rfl; exact rfl; (first | exact rfl | assumption)) | (apply RunL.noU; exact rfl; exact rfl; exact rfl; exact rfl; exact rfl; exact rfl) | (apply RunL.no; exact rfl; exact rfl; exact rfl; exact rfl; (first | exact rfl | assumption); exact rfl; exact rfl) | (refine AWP.cond _ (Rd.of rfl) (fun hc => ?_) (fun hc => ?_) <;> first | (exfalso; cases hc; done) | (have hc' := hc; (try simp only [sc, reduceCtorEq, cmpOf] at hc'); try (exfalso; omega)))
      | (
       apply AWP.drawA
       repeat' (first
         | (apply DL.cons; (try (apply OpLoc.on; exact rfl; exact rfl; exact rfl; exact rfl; (first | exact rfl | assumption))); apply ol_ev (τ := τ); exact rfl; (first | exact g1 | exact g2 | exact g3 | exact lawake); exact rfl; exact rfl) | (apply DL.cons; exact olA; exact rfl) | (apply DL.nil; kernel_rfl) | (refine DL.split rfl rfl rfl rfl (fun hb => ?_) (fun hb => ?_) <;> have hb' := hb <;> (try simp only [sc, reduceCtorEq, cmpOf] at hb') <;> try (exfalso; omega)))
       all_goals (fail_if_success apply DL.id))
      | (refine RunL.split rfl rfl rfl rfl (fun hb => ?_) (fun hb => ?_) <;> have hb' := hb <;> (try simp only [sc, reduceCtorEq, cmpOf] at hb') <;> try (exfalso; omega)) )
      refine AWP.loop (ι := Int) (fun i => ⟨[(0, .val (.sl 3 (l.map rowRt))), (1, .val (.sl 2 (M.map rowAs))), (2, .val (.int .i64 c)), (7, .val (.int .i64 id)), (10, .val (.int .i64 i))], []⟩) (fun i => 0 ≤ i ∧ i ≤ a) (fun i => (l.length - i).toNat) 0 ⟨by omega, by omega⟩ (St.Le.of (by repeat' (first | exact all_nil | refine all_cons rfl ?_)) (by repeat' (first | exact all_nil | refine all_cons rfl ?_))) ?_
      rintro i ⟨k3, k4⟩
      obtain ⟨p, hp⟩ := at_some (l := l) k3 (by omega)
      have hrow : (l.map rowRt)[i.toNat]? = some [.int .i64 p.1, .int .i64 p.2.1, .ints .i64 p.2.2] := by simp [hp]
      have hat := atR_of hp
      by_cases hm : p.1 = id
      · have hia : i.toNat = a := ids_inj hvz (by omega) ha (by rw [hat, hid, hm])
        rw [hia] at hat
        rw [hat] at ha1 ha3
        have g2 := kMay p.1 p.2.1 p.2.2 c
        have g3 := kLoad M id
        rw [decide_eq_true ha1] at g2
        generalize loadN M id = n at *
        repeat' (first
          | (apply RunL.step; exact rfl; apply op_ev (τ := τ); exact rfl; (first | exact g1 | exact g2 | exact g3 | exact lawake); exact rfl) | (apply RunL.step; exact rfl; exact opA) | (apply RunL.hand; exact rfl; exact rfl; exact lenA; exact rfl) | (apply AWP.seq) | (apply AWP.region; exact rfl) | (apply AWP.block) | (apply AWP.skip) | (apply AWP.exit) | (apply AWP.retF; exact rfl; exact rfl; exact rfl; exact rfl; exact lenA; exact rfl) | (apply AWP.ret) | (apply RunL.nil) | (apply RunL.on; exact rfl; exact rfl; exact rfl; exact rfl; (first | exact rfl | assumption)) | (apply RunL.noU; exact rfl; exact rfl; exact rfl; exact rfl; exact rfl; exact rfl) | (apply RunL.no; exact rfl; exact rfl; exact rfl; exact rfl; (first | exact rfl | assumption); exact rfl; exact rfl) | (refine AWP.cond _ (Rd.of rfl) (fun hc => ?_) (fun hc => ?_) <;> first | (exfalso; cases hc; done) | (have hc' := hc; (try simp only [sc, reduceCtorEq, cmpOf] at hc'); try (exfalso; omega)))
          | (
           apply AWP.drawA
           repeat' (first
             | (apply DL.cons; (try (apply OpLoc.on; exact rfl; exact rfl; exact rfl; exact rfl; (first | exact rfl | assumption))); apply ol_ev (τ := τ); exact rfl; (first | exact g1 | exact g2 | exact g3 | exact lawake); exact rfl; exact rfl) | (apply DL.cons; exact olA; exact rfl) | (apply DL.nil; kernel_rfl) | (refine DL.split rfl rfl rfl rfl (fun hb => ?_) (fun hb => ?_) <;> have hb' := hb <;> (try simp only [sc, reduceCtorEq, cmpOf] at hb') <;> try (exfalso; omega)))
           all_goals (fail_if_success apply DL.id))
          | (refine RunL.split rfl rfl rfl rfl (fun hb => ?_) (fun hb => ?_) <;> have hb' := hb <;> (try simp only [sc, reduceCtorEq, cmpOf] at hb') <;> try (exfalso; omega)) )
        all_goals
          apply Ends.mk (.cons (.tmp rfl) .nil)
          first | done | rfl
      · have hia : i ≠ a := fun h => hm (by rw [← hat, ← hid, h]; simp)
        repeat' (first
          | (apply RunL.step; exact rfl; apply op_ev (τ := τ); exact rfl; (first | exact g1 | exact g2 | exact g3 | exact lawake); exact rfl) | (apply RunL.step; exact rfl; exact opA) | (apply RunL.hand; exact rfl; exact rfl; exact lenA; exact rfl) | (apply AWP.seq) | (apply AWP.region; exact rfl) | (apply AWP.block) | (apply AWP.skip) | (apply AWP.exit) | (apply AWP.retF; exact rfl; exact rfl; exact rfl; exact rfl; exact lenA; exact rfl) | (apply AWP.ret) | (apply RunL.nil) | (apply RunL.on; exact rfl; exact rfl; exact rfl; exact rfl; (first | exact rfl | assumption)) | (apply RunL.noU; exact rfl; exact rfl; exact rfl; exact rfl; exact rfl; exact rfl) | (apply RunL.no; exact rfl; exact rfl; exact rfl; exact rfl; (first | exact rfl | assumption); exact rfl; exact rfl) | (refine AWP.cond _ (Rd.of rfl) (fun hc => ?_) (fun hc => ?_) <;> first | (exfalso; cases hc; done) | (have hc' := hc; (try simp only [sc, reduceCtorEq, cmpOf] at hc'); try (exfalso; omega)))
          | (
           apply AWP.drawA
           repeat' (first
             | (apply DL.cons; (try (apply OpLoc.on; exact rfl; exact rfl; exact rfl; exact rfl; (first | exact rfl | assumption))); apply ol_ev (τ := τ); exact rfl; (first | exact g1 | exact g2 | exact g3 | exact lawake); exact rfl; exact rfl) | (apply DL.cons; exact olA; exact rfl) | (apply DL.nil; kernel_rfl) | (refine DL.split rfl rfl rfl rfl (fun hb => ?_) (fun hb => ?_) <;> have hb' := hb <;> (try simp only [sc, reduceCtorEq, cmpOf] at hb') <;> try (exfalso; omega)))
           all_goals (fail_if_success apply DL.id))
          | (refine RunL.split rfl rfl rfl rfl (fun hb => ?_) (fun hb => ?_) <;> have hb' := hb <;> (try simp only [sc, reduceCtorEq, cmpOf] at hb') <;> try (exfalso; omega)) )
        all_goals
          exact ⟨_, St.Le.of (by repeat' (first | exact all_nil | refine all_cons rfl ?_)) (by repeat' (first | exact all_nil | refine all_cons rfl ?_)), ⟨by omega, by omega⟩, by omega⟩
end Go.Proofs.YtmefecfkajjajaaDoor.K
