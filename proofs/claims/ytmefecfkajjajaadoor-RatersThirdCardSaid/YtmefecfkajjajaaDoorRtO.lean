/- The laws of layer 42 (examboardlaw42): RatersChecks, RatersAssign, RatersThird. -/
import Derived.Test.YtmefecfkajjajaaDoorRtI
import Derived.Test.YtmefecfkajjajaaDoorRtN
import Derived.Test.YtmefecfkajjajaaDoorPost
namespace Go.Proofs.YtmefecfkajjajaaDoor.K
open Go Go.RowKit
set_option linter.unusedVariables false
set_option linter.unusedSimpArgs false

theorem rows_rt {L : List (List D)} (h : ∀ row ∈ L, Oks [.int .i64, .int .i64, .ints .i64] row) : ∃ M : List Rt, L = M.map rowRt := by
  induction L with
  | nil => exact ⟨[], rfl⟩
  | cons r L ih =>
    obtain ⟨M, hM⟩ := ih fun row hr => h row (by simp [hr])
    obtain ⟨_, _, rfl, h1, h2⟩ := Oks.cons_inv (h r (by simp))
    obtain ⟨_, _, rfl, h3, h4⟩ := Oks.cons_inv h2
    obtain ⟨_, _, rfl, h5, h6⟩ := Oks.cons_inv h4
    obtain rfl := Oks.nil_inv h6
    cases h1 with | int _ c => cases h3 with | int _ t => cases h5 with | ints _ u => exact ⟨(c, t, u) :: M, by simp [hM]⟩
theorem rows_as {L : List (List D)} (h : ∀ row ∈ L, Oks [.int .i64, .int .i64] row) : ∃ M : List As, L = M.map rowAs := by
  induction L with
  | nil => exact ⟨[], rfl⟩
  | cons r L ih =>
    obtain ⟨M, hM⟩ := ih fun row hr => h row (by simp [hr])
    obtain ⟨_, _, rfl, h1, h2⟩ := Oks.cons_inv (h r (by simp))
    obtain ⟨_, _, rfl, h3, h4⟩ := Oks.cons_inv h2
    obtain rfl := Oks.nil_inv h4
    cases h1 with | int _ c => cases h3 with | int _ t => exact ⟨(c, t) :: M, by simp [hM]⟩
theorem bulk_as : ∀ (M : List As), M.length ≤ bulkLL (M.map rowAs)
  | [] => by simp
  | p :: M => by
    have := bulk_as M
    simp only [List.map_cons, List.length_cons, bulkLL, bulkL, D.bulk]; omega
theorem bulk_rt : ∀ (M : List Rt), M.length ≤ bulkLL (M.map rowRt)
  | [] => by simp
  | p :: M => by
    have := bulk_rt M
    simp only [List.map_cons, List.length_cons, bulkLL, bulkL, D.bulk]; omega
theorem law_RatersChecks (L1 : List (List D)) (hL1 : ∀ row ∈ L1, Oks [.int .i64, .int .i64, .ints .i64] row) (C : List Int) (L2 : List (List D)) (hL2 : ∀ row ∈ L2, Oks [.int .i64, .int .i64] row) (a m : Int) (z : List Int) (n : Int) : Evals Tryd.prog 5 [.sl 3 L1, .ints .i64 C, .sl 2 L2, .agg [.int .i64 a, .int .i64 m, .ints .i64 z], .int .i64 n] (.bool true) := by
  obtain ⟨l, rfl⟩ := rows_rt hL1
  obtain ⟨M, rfl⟩ := rows_as hL2
  have g1 := kValid l
  have g2 := rValid l
  have g3 := kCheck l C M
  have g4 := rCheck l C M
  have g5 := kMay a m z n
  have g6 := rMay a m z n
  have g7 := kLoad M n
  have g8 := rLoad M n
  clear hL1 hL2
  generalize validE l = e1 at *
  generalize checkE l C M = e2 at *
  generalize loadN M n = e3 at *
  generalize decide (n ∉ z) = e4 at *
  refine evals_of_awp Tryd.func5 rfl (CallOK.of Tryd.func5 (by kernel_rfl) rfl) (Nat.le_of_ble_eq_true rfl) ?_
  rintro w R hR ⟨vs, hv⟩
  have c4 : (e4 == e4) = true := by simp
  repeat' (first
    | (apply RunL.step; exact rfl; apply op_ev (τ := τ); exact rfl; (first | exact g1 | exact g2 | exact g3 | exact g4 | exact g5 | exact g6 | exact g7 | exact g8 | exact lawake); exact rfl) | (apply RunL.step; exact rfl; exact opA) | (apply RunL.hand; exact rfl; exact rfl; exact lenA; exact rfl) | (apply AWP.seq) | (apply AWP.region; exact rfl) | (apply AWP.block) | (apply AWP.skip) | (apply AWP.exit) | (apply AWP.retF; exact rfl; exact rfl; exact rfl; exact rfl; exact lenA; exact rfl) | (apply AWP.ret) | (apply RunL.nil) | (apply RunL.on; exact rfl; exact rfl; exact rfl; exact rfl; (first | exact rfl | assumption)) | (apply RunL.noU; exact rfl; exact rfl; exact rfl; exact rfl; exact rfl; exact rfl) | (apply RunL.no; exact rfl; exact rfl; exact rfl; exact rfl; (first | exact rfl | assumption); exact rfl; exact rfl) | (refine AWP.cond _ (Rd.of rfl) (fun hc => ?_) (fun hc => ?_) <;> first | (exfalso; cases hc; done) | (have hc' := hc; (try simp only [sc, reduceCtorEq, cmpOf] at hc'); try (exfalso; omega)))
    | (
     apply AWP.drawA
     repeat' (first
       | (apply DL.cons; (try (apply OpLoc.on; exact rfl; exact rfl; exact rfl; exact rfl; (first | exact rfl | assumption))); apply ol_ev (τ := τ); exact rfl; (first | exact g1 | exact g2 | exact g3 | exact g4 | exact g5 | exact g6 | exact g7 | exact g8 | exact lawake); exact rfl; exact rfl) | (apply DL.cons; exact olA; exact rfl) | (apply DL.nil; kernel_rfl) | (refine DL.split rfl rfl rfl rfl (fun hb => ?_) (fun hb => ?_) <;> have hb' := hb <;> (try simp only [sc, reduceCtorEq, cmpOf] at hb') <;> try (exfalso; omega)))
     all_goals (fail_if_success apply DL.id))
    | (refine RunL.split rfl rfl rfl rfl (fun hb => ?_) (fun hb => ?_) <;> have hb' := hb <;> (try simp only [sc, reduceCtorEq, cmpOf] at hb') <;> try (exfalso; omega)) )
  all_goals
    apply Ends.mk (.cons (.tmp rfl) .nil)
    first | done | rfl
theorem law_RatersAssign (L1 : List (List D)) (hL1 : ∀ row ∈ L1, Oks [.int .i64, .int .i64, .ints .i64] row) (C : List Int) (d : Int) : Evals Tryd.prog 6 [.sl 3 L1, .ints .i64 C, .int .u64 d] (.bool true) := by
  obtain ⟨l, rfl⟩ := rows_rt hL1
  obtain ⟨out, nx, e, g1, g2⟩ : ∃ (out : List As) (nx e : Int), Evals Tryd.prog 25 [.sl 3 (l.map rowRt), .ints .i64 C, .int .u64 d] (.tup [.sl 2 (out.map rowAs), .int .u64 nx, .int .i64 e]) ∧ Evals Tryd.prog 26 [.sl 3 (l.map rowRt), .ints .i64 C, .int .u64 d] (.tup [.sl 2 (out.map rowAs), .int .u64 nx, .int .i64 e]) := by
    by_cases hv : validE l = 0
    · by_cases hc : candE C = 0
      · have h1 := kAssign1 l C d hv hc
        have h2 := rAssign1 l C d hv hc
        cases ho : assignP l (shuffle l.length d).1 C [] with
        | some out => rw [ho] at h1 h2; exact ⟨out, _, _, h1, h2⟩
        | none => rw [ho] at h1 h2; exact ⟨[], _, _, h1, h2⟩
      · have hp : peopleE l C = candE C := by rw [peopleE, if_neg (by omega)]
        have h2 := rAssignE l C d (by rw [hp]; exact hc)
        rw [hp] at h2
        exact ⟨[], _, _, kAssignC l C d hv hc, h2⟩
    · have hp : peopleE l C = validE l := by rw [peopleE, if_pos hv]
      have h2 := rAssignE l C d (by rw [hp]; exact hv)
      rw [hp] at h2
      exact ⟨[], _, _, kAssignV l C d hv, h2⟩
  have g3 := rSame out
  clear hL1
  refine evals_of_awp Tryd.func6 rfl (CallOK.of Tryd.func6 (by kernel_rfl) rfl) (Nat.le_of_ble_eq_true rfl) ?_
  rintro w R hR ⟨vs, hv⟩
  repeat' (first
    | (apply RunL.step; exact rfl; apply op_ev (τ := τ); exact rfl; (first | exact g1 | exact g2 | exact g3 | exact lawake); exact rfl) | (apply RunL.step; exact rfl; exact opA) | (apply RunL.hand; exact rfl; exact rfl; exact lenA; exact rfl) | (apply AWP.seq) | (apply AWP.region; exact rfl) | (apply AWP.block) | (apply AWP.skip) | (apply AWP.exit) | (apply AWP.retF; exact rfl; exact rfl; exact rfl; exact rfl; exact lenA; exact rfl) | (apply AWP.ret) | (apply RunL.nil) | (apply RunL.on; exact rfl; exact rfl; exact rfl; exact rfl; (first | exact rfl | assumption)) | (apply RunL.noU; exact rfl; exact rfl; exact rfl; exact rfl; exact rfl; exact rfl) | (apply RunL.no; exact rfl; exact rfl; exact rfl; exact rfl; (first | exact rfl | assumption); exact rfl; exact rfl) | (refine AWP.cond _ (Rd.of rfl) (fun hc => ?_) (fun hc => ?_) <;> first | (exfalso; cases hc; done) | (have hc' := hc; (try simp only [sc, reduceCtorEq, cmpOf] at hc'); try (exfalso; omega)))
    | (
     apply AWP.drawA
     repeat' (first
       | (apply DL.cons; (try (apply OpLoc.on; exact rfl; exact rfl; exact rfl; exact rfl; (first | exact rfl | assumption))); apply ol_ev (τ := τ); exact rfl; (first | exact g1 | exact g2 | exact g3 | exact lawake); exact rfl; exact rfl) | (apply DL.cons; exact olA; exact rfl) | (apply DL.nil; kernel_rfl) | (refine DL.split rfl rfl rfl rfl (fun hb => ?_) (fun hb => ?_) <;> have hb' := hb <;> (try simp only [sc, reduceCtorEq, cmpOf] at hb') <;> try (exfalso; omega)))
     all_goals (fail_if_success apply DL.id))
    | (refine RunL.split rfl rfl rfl rfl (fun hb => ?_) (fun hb => ?_) <;> have hb' := hb <;> (try simp only [sc, reduceCtorEq, cmpOf] at hb') <;> try (exfalso; omega)) )
  all_goals
    apply Ends.mk (.cons (.tmp rfl) .nil)
    first | done | rfl
theorem law_RatersThird (L1 : List (List D)) (hL1 : ∀ row ∈ L1, Oks [.int .i64, .int .i64, .ints .i64] row) (L2 : List (List D)) (hL2 : ∀ row ∈ L2, Oks [.int .i64, .int .i64] row) (c : Int) (hb1 : L1.length * 40 ≤ 140737488351232) (hb : L2.length * 16 ≤ 140737488351232) : Evals Tryd.prog 7 [.sl 3 L1, .sl 2 L2, .int .i64 c] (.bool true) := by
  obtain ⟨l, rfl⟩ := rows_rt hL1
  obtain ⟨M, rfl⟩ := rows_as hL2
  have hM : M.length ≤ 8796093022207 := by simp at hb; omega
  obtain ⟨n, e, g1, g2⟩ : ∃ (n e : Int), Evals Tryd.prog 9 [.sl 3 (l.map rowRt), .sl 2 (M.map rowAs), .int .i64 c] (.tup [.int .i64 n, .int .i64 e]) ∧ Evals Tryd.prog 28 [.sl 3 (l.map rowRt), .sl 2 (M.map rowAs), .int .i64 c] (.tup [.int .i64 n, .int .i64 e]) := by
    by_cases hv : validE l = 0
    · have h1 := kThird1 l M c hM hv
      have h2 := rThird1 l M c hM hv
      by_cases h3 : (asgL M c).length ≠ 2
      · rw [if_pos h3] at h1 h2; exact ⟨_, _, h1, h2⟩
      · rw [if_neg h3] at h1 h2
        by_cases h4 : thirdP l M c < 0
        · rw [if_pos h4] at h1 h2; exact ⟨_, _, h1, h2⟩
        · rw [if_neg h4] at h1 h2; exact ⟨_, _, h1, h2⟩
    · exact ⟨_, _, kThirdV l M c hv, rThirdV l M c hv⟩
  have g3 := g1
  clear hb hb1 hL1 hL2 hM
  refine evals_of_awp Tryd.func7 rfl (CallOK.of Tryd.func7 (by kernel_rfl) rfl) (Nat.le_of_ble_eq_true rfl) ?_
  rintro w R hR ⟨vs, hv⟩
  repeat' (first
    | (apply RunL.step; exact rfl; apply op_ev (τ := τ); exact rfl; (first | exact g1 | exact g2 | exact g3 | exact lawake); exact rfl) | (apply RunL.step; exact rfl; exact opA) | (apply RunL.hand; exact rfl; exact rfl; exact lenA; exact rfl) | (apply AWP.seq) | (apply AWP.region; exact rfl) | (apply AWP.block) | (apply AWP.skip) | (apply AWP.exit) | (apply AWP.retF; exact rfl; exact rfl; exact rfl; exact rfl; exact lenA; exact rfl) | (apply AWP.ret) | (apply RunL.nil) | (apply RunL.on; exact rfl; exact rfl; exact rfl; exact rfl; (first | exact rfl | assumption)) | (apply RunL.noU; exact rfl; exact rfl; exact rfl; exact rfl; exact rfl; exact rfl) | (apply RunL.no; exact rfl; exact rfl; exact rfl; exact rfl; (first | exact rfl | assumption); exact rfl; exact rfl) | (refine AWP.cond _ (Rd.of rfl) (fun hc => ?_) (fun hc => ?_) <;> first | (exfalso; cases hc; done) | (have hc' := hc; (try simp only [sc, reduceCtorEq, cmpOf] at hc'); try (exfalso; omega)))
    | (
     apply AWP.drawA
     repeat' (first
       | (apply DL.cons; (try (apply OpLoc.on; exact rfl; exact rfl; exact rfl; exact rfl; (first | exact rfl | assumption))); apply ol_ev (τ := τ); exact rfl; (first | exact g1 | exact g2 | exact g3 | exact lawake); exact rfl; exact rfl) | (apply DL.cons; exact olA; exact rfl) | (apply DL.nil; kernel_rfl) | (refine DL.split rfl rfl rfl rfl (fun hb => ?_) (fun hb => ?_) <;> have hb' := hb <;> (try simp only [sc, reduceCtorEq, cmpOf] at hb') <;> try (exfalso; omega)))
     all_goals (fail_if_success apply DL.id))
    | (refine RunL.split rfl rfl rfl rfl (fun hb => ?_) (fun hb => ?_) <;> have hb' := hb <;> (try simp only [sc, reduceCtorEq, cmpOf] at hb') <;> try (exfalso; omega)) )
  all_goals
    apply Ends.mk (.cons (.tmp rfl) .nil)
    first | done | rfl
end Go.Proofs.YtmefecfkajjajaaDoor.K
