/- The laws of layer 45 (examboardlaw45): LinkingAnchors. -/
import Derived.Test.YtgdejiajiljipaaGreatDoorLawL
import Derived.Test.YtgdejiajiljipaaGreatDoorWalkY6
namespace Go.Proofs.YtgdejiajiljipaaGreatDoor.K
open Go
set_option linter.unusedVariables false
set_option linter.unusedSimpArgs false

set_option maxHeartbeats 1000000 in
theorem law_LinkingAnchors (s1 : Bool) (l1 d1 : List Int) (s2 : Bool) (l2 d2 : List Int) (x y : List Int)
    (hb : bulkA [.agg [.bool s1, .ints .u32 l1, .ints .u32 d1, .bool s2, .ints .u32 l2, .ints .u32 d2], .ints .i64 x, .ints .i64 y] ≤ 1048576) :
    Evals Tryz.prog 4 [.agg [.bool s1, .ints .u32 l1, .ints .u32 d1, .bool s2, .ints .u32 l2, .ints .u32 d2], .ints .i64 x, .ints .i64 y] (.bool true) := by
  have hl1 : l1.length ≤ 1048576 := by simp [bulkA, D.parts, bulkL, D.bulk] at hb; omega
  have hl2 : l2.length ≤ 1048576 := by simp [bulkA, D.parts, bulkL, D.bulk] at hb; omega
  have hd1 : d1.length ≤ 1048576 := by simp [bulkA, D.parts, bulkL, D.bulk] at hb; omega
  have hd2 : d2.length ≤ 1048576 := by simp [bulkA, D.parts, bulkL, D.bulk] at hb; omega
  obtain ⟨A, A1⟩ : ∃ q, RA s1 l1 d1 q 1048576 := ⟨_, rfl, hl1, hd1⟩
  obtain ⟨B, A2⟩ : ∃ q, RA s2 l2 d2 q 1048576 := ⟨_, rfl, hl2, hd2⟩
  refine evals_of_awp Tryz.func4 rfl (CallOK.of Tryz.func4 (by kernel_rfl) rfl) (Nat.le_of_ble_eq_true rfl) ?_
  rintro w R hR ⟨vs, hv⟩
  obtain ⟨w1, w2, w3, w4⟩ := hv.link 0 rfl
  have zA := A1.sz w1 w2
  have zB := A2.sz w3 w4
  by_cases he : anchE x y = 0
  · have hm := kMean1 x y he
    have hm' := rMean1 x y he
    have hq := kLoss1 (h := A1) (h' := A2) x y he (by omega)
    have hq' := rLoss1 (h := A1) (h' := A2) x y he (by omega)
    by_cases h0 : devQ (fn x) x.length = 0 ∨ devQ (fn y) y.length = 0
    · have hs := kSpread8 x y he h0
      have hs' := rSpread8 x y he h0
      repeat' (first
        | (apply RunL.step; exact rfl; apply op_ev (τ := τ); exact rfl; (first | exact hm | exact hm' | exact hs | exact hs' | exact hq | exact hq' | exact r45same0 | exact r45same | exact r4sameR | exact r4sameRg | exact lawake); exact rfl) | (apply RunL.step; exact rfl; exact opA) | (apply RunL.hand; exact rfl; exact rfl; exact lenA; exact rfl) | (apply AWP.seq) | (apply AWP.region; exact rfl) | (apply AWP.block) | (apply AWP.skip) | (apply AWP.exit) | (apply AWP.retF; exact rfl; exact rfl; exact rfl; exact rfl; exact lenA; exact rfl) | (apply AWP.ret) | (apply RunL.nil) | (apply RunL.on; exact rfl; exact rfl; exact rfl; exact rfl; (first | exact rfl | assumption)) | (apply RunL.noU; exact rfl; exact rfl; exact rfl; exact rfl; exact rfl; exact rfl) | (apply RunL.no; exact rfl; exact rfl; exact rfl; exact rfl; (first | exact rfl | assumption); exact rfl; exact rfl) | (refine AWP.cond _ (Rd.of rfl) (fun hc => ?_) (fun hc => ?_) <;> first | (exfalso; cases hc; done) | (have hc' := hc; (try simp only [sc, reduceCtorEq, cmpOf] at hc'); try (exfalso; omega)))
        | (
         apply AWP.drawA
         repeat' (first
           | (apply DL.cons; (try (apply OpLoc.on; exact rfl; exact rfl; exact rfl; exact rfl; (first | exact rfl | assumption))); apply ol_ev (τ := τ); exact rfl; (first | exact hm | exact hm' | exact hs | exact hs' | exact hq | exact hq' | exact r45same0 | exact r45same | exact r4sameR | exact r4sameRg | exact lawake); exact rfl; exact rfl) | (apply DL.cons; exact olA; exact rfl) | (apply DL.nil; kernel_rfl) | (refine DL.split rfl rfl rfl rfl (fun hb => ?_) (fun hb => ?_) <;> have hb' := hb <;> (try simp only [sc, reduceCtorEq, cmpOf] at hb') <;> try (exfalso; omega)))
         all_goals (fail_if_success apply DL.id))
        | (refine RunL.split rfl rfl rfl rfl (fun hb => ?_) (fun hb => ?_) <;> have hb' := hb <;> (try simp only [sc, reduceCtorEq, cmpOf] at hb') <;> try (exfalso; omega)) )
      all_goals
        apply Ends.mk (.cons (.tmp rfl) .nil)
        first | done | rfl
    · have hs := kSpread1 x y he (fun h => h0 (.inl h)) (fun h => h0 (.inr h))
      have hs' := rSpread1 x y he (fun h => h0 (.inl h)) (fun h => h0 (.inr h))
      repeat' (first
        | (apply RunL.step; exact rfl; apply op_ev (τ := τ); exact rfl; (first | exact hm | exact hm' | exact hs | exact hs' | exact hq | exact hq' | exact r45same0 | exact r45same | exact r4sameR | exact r4sameRg | exact lawake); exact rfl) | (apply RunL.step; exact rfl; exact opA) | (apply RunL.hand; exact rfl; exact rfl; exact lenA; exact rfl) | (apply AWP.seq) | (apply AWP.region; exact rfl) | (apply AWP.block) | (apply AWP.skip) | (apply AWP.exit) | (apply AWP.retF; exact rfl; exact rfl; exact rfl; exact rfl; exact lenA; exact rfl) | (apply AWP.ret) | (apply RunL.nil) | (apply RunL.on; exact rfl; exact rfl; exact rfl; exact rfl; (first | exact rfl | assumption)) | (apply RunL.noU; exact rfl; exact rfl; exact rfl; exact rfl; exact rfl; exact rfl) | (apply RunL.no; exact rfl; exact rfl; exact rfl; exact rfl; (first | exact rfl | assumption); exact rfl; exact rfl) | (refine AWP.cond _ (Rd.of rfl) (fun hc => ?_) (fun hc => ?_) <;> first | (exfalso; cases hc; done) | (have hc' := hc; (try simp only [sc, reduceCtorEq, cmpOf] at hc'); try (exfalso; omega)))
        | (
         apply AWP.drawA
         repeat' (first
           | (apply DL.cons; (try (apply OpLoc.on; exact rfl; exact rfl; exact rfl; exact rfl; (first | exact rfl | assumption))); apply ol_ev (τ := τ); exact rfl; (first | exact hm | exact hm' | exact hs | exact hs' | exact hq | exact hq' | exact r45same0 | exact r45same | exact r4sameR | exact r4sameRg | exact lawake); exact rfl; exact rfl) | (apply DL.cons; exact olA; exact rfl) | (apply DL.nil; kernel_rfl) | (refine DL.split rfl rfl rfl rfl (fun hb => ?_) (fun hb => ?_) <;> have hb' := hb <;> (try simp only [sc, reduceCtorEq, cmpOf] at hb') <;> try (exfalso; omega)))
         all_goals (fail_if_success apply DL.id))
        | (refine RunL.split rfl rfl rfl rfl (fun hb => ?_) (fun hb => ?_) <;> have hb' := hb <;> (try simp only [sc, reduceCtorEq, cmpOf] at hb') <;> try (exfalso; omega)) )
      all_goals
        apply Ends.mk (.cons (.tmp rfl) .nil)
        first | done | rfl
  · have hm := kMean0 x y he
    have hm' := rMean0 x y he
    have hs := kSpread0 x y he
    have hs' := rSpread0 x y he
    have hq := kLoss0 (s := s1) (l := l1) (d := d1) (s' := s2) (l' := l2) (d' := d2) x y he
    have hq' := rLoss0 (s := s1) (l := l1) (d := d1) (s' := s2) (l' := l2) (d' := d2) x y he
    repeat' (first
      | (apply RunL.step; exact rfl; apply op_ev (τ := τ); exact rfl; (first | exact hm | exact hm' | exact hs | exact hs' | exact hq | exact hq' | exact r45same0 | exact r45same | exact r4sameR | exact r4sameRg | exact lawake); exact rfl) | (apply RunL.step; exact rfl; exact opA) | (apply RunL.hand; exact rfl; exact rfl; exact lenA; exact rfl) | (apply AWP.seq) | (apply AWP.region; exact rfl) | (apply AWP.block) | (apply AWP.skip) | (apply AWP.exit) | (apply AWP.retF; exact rfl; exact rfl; exact rfl; exact rfl; exact lenA; exact rfl) | (apply AWP.ret) | (apply RunL.nil) | (apply RunL.on; exact rfl; exact rfl; exact rfl; exact rfl; (first | exact rfl | assumption)) | (apply RunL.noU; exact rfl; exact rfl; exact rfl; exact rfl; exact rfl; exact rfl) | (apply RunL.no; exact rfl; exact rfl; exact rfl; exact rfl; (first | exact rfl | assumption); exact rfl; exact rfl) | (refine AWP.cond _ (Rd.of rfl) (fun hc => ?_) (fun hc => ?_) <;> first | (exfalso; cases hc; done) | (have hc' := hc; (try simp only [sc, reduceCtorEq, cmpOf] at hc'); try (exfalso; omega)))
      | (
       apply AWP.drawA
       repeat' (first
         | (apply DL.cons; (try (apply OpLoc.on; exact rfl; exact rfl; exact rfl; exact rfl; (first | exact rfl | assumption))); apply ol_ev (τ := τ); exact rfl; (first | exact hm | exact hm' | exact hs | exact hs' | exact hq | exact hq' | exact r45same0 | exact r45same | exact r4sameR | exact r4sameRg | exact lawake); exact rfl; exact rfl) | (apply DL.cons; exact olA; exact rfl) | (apply DL.nil; kernel_rfl) | (refine DL.split rfl rfl rfl rfl (fun hb => ?_) (fun hb => ?_) <;> have hb' := hb <;> (try simp only [sc, reduceCtorEq, cmpOf] at hb') <;> try (exfalso; omega)))
       all_goals (fail_if_success apply DL.id))
      | (refine RunL.split rfl rfl rfl rfl (fun hb => ?_) (fun hb => ?_) <;> have hb' := hb <;> (try simp only [sc, reduceCtorEq, cmpOf] at hb') <;> try (exfalso; omega)) )
    all_goals
      apply Ends.mk (.cons (.tmp rfl) .nil)
      first | done | rfl
end Go.Proofs.YtgdejiajiljipaaGreatDoor.K
