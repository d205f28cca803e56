/- The laws of layer 45 (examboardlaw45): LinkingMean. -/
import Derived.Test.YtgdejiajiljipaaDoorLawL7
namespace Go.Proofs.YtgdejiajiljipaaDoor.K
open Go
set_option linter.unusedVariables false
set_option linter.unusedSimpArgs false

set_option maxHeartbeats 2000000 in
theorem law_LinkingMean (x y : List Int) (s3 : Bool) (l3 d3 : List Int) (hb : bulkA [.ints .i64 x, .ints .i64 y, .agg [.bool s3, .ints .u32 l3, .ints .u32 d3]] ≤ 1048576) : Evals Tryd.prog 4 [.ints .i64 x, .ints .i64 y, .agg [.bool s3, .ints .u32 l3, .ints .u32 d3]] (.bool true) := by
  simp only [bulkA, D.parts, bulkL, D.bulk] at hb
  obtain ⟨sh, A3⟩ : ∃ q, RA s3 l3 d3 q 1048576 := ⟨_, rfl, by omega, by omega⟩
  clear hb
  by_cases he : anchE x y = 0
  · have hm := kMean1 x y he
    obtain ⟨e1, e2, e3, e4, e5⟩ := anchE_zero he
    have zx := mean_sz e4 e1
    have zy := mean_sz e5 (by omega)
    have hres := res_sum (fn x) (fn y) e3
    have hll := loss_least (fn x) (fn y) e3 sh
    rw [← e2] at hm zy
    have zB := SzR.sub _ _ _ _ (h := zy) (g := zx)
    obtain ⟨B, hB⟩ : ∃ B, meanQ (fn y) x.length - meanQ (fn x) x.length = B := ⟨_, rfl⟩
    rw [hB] at hm hres hll zB
    replace hres : sumF (resQ z1 B (fn x) (fn y)) x.length = 0 := hres
    replace hll : lossQ z1 B (fn x) (fn y) x.length ≤ lossQ z1 (B + sh) (fn x) (fn y) x.length ∧ (lossQ z1 B (fn x) (fn y) x.length = lossQ z1 (B + sh) (fn x) (fn y) x.length ↔ sh = 0) := hll
    have s1 : ratS z1 = [49] := ratS_int z1 1 _ (by decide +kernel) (by decide +kernel) (by rw [decD_small (by omega) (by omega)]; rfl)
    have zo : SzR z1 2 := SzR.i64 (by omega)
    have hpr := rprint (h := RA.ratD z1 2 (h := zo)) (by omega)
    rw [s1] at hpr
    have hq1 := kLoss1 (h := RA.ratD z1 2 (h := zo)) (h' := RA.ratD B _ (h := zB)) x y he (by omega)
    refine evals_of_awp Tryd.func4 rfl (CallOK.of Tryd.func4 (by kernel_rfl) rfl) (Nat.le_of_ble_eq_true rfl) ?_
    rintro w R hR ⟨vs, hv⟩
    obtain ⟨⟨_, b1⟩, _, b2⟩ := hv.rat 2 rfl
    have zs := A3.sz b1 b2
    have zBs := SzR.add B sh _ _ (h := zB) (g := zs)
    have hq2 := radd (h := RA.ratD B _ (h := zB)) (h' := A3) (by omega)
    have hq3 := kLoss1 (h := RA.ratD z1 2 (h := zo)) (h' := RA.ratD _ _ (h := zBs)) x y he (by omega)
    have w1 := loss_sz zo zB e4 e5 e1
    have w2 := loss_sz zo zBs e4 e5 e1
    have hcm := rcmp (h := RA.ratD _ _ (h := w1)) (h' := RA.ratD _ _ (h := w2)) (by omega)
    have hsh := rsign (h := A3) (by omega)
    have hz : SzR 0 1 := SzR.zero
    have hsg := rsign (h := RA.ratD 0 1 (h := hz)) (by omega)
    rw [cmp0 rfl] at hsg
    have hcc : cmpQ (lossQ z1 B (fn x) (fn y) x.length) (lossQ z1 (B + sh) (fn x) (fn y) x.length) ≤ 0 ∧ (cmpQ (lossQ z1 B (fn x) (fn y) x.length) (lossQ z1 (B + sh) (fn x) (fn y) x.length) = 0 ↔ cmpQ sh 0 = 0) := by
      rw [cmpQ_zero sh 0, cmpQ_zero, hll.2]
      refine ⟨?_, Iff.rfl⟩
      rcases cmpQ_cases (lossQ z1 B (fn x) (fn y) x.length) (lossQ z1 (B + sh) (fn x) (fn y) x.length) with ⟨g1, g2⟩ | ⟨g1, g2⟩ | ⟨g1, g2⟩
      · omega
      · omega
      · have := hll.1; exfalso; grind
    generalize cmpQ (lossQ z1 B (fn x) (fn y) x.length) (lossQ z1 (B + sh) (fn x) (fn y) x.length) = c1 at *
    generalize cmpQ sh 0 = c2 at *
    generalize lossQ z1 B (fn x) (fn y) x.length = L1 at *
    generalize lossQ z1 (B + sh) (fn x) (fn y) x.length = L2 at *
    obtain ⟨_, hX⟩ := hv.intsJ 0 rfl
    obtain ⟨_, hY⟩ := hv.intsJ 1 rfl
    have zw0 : SzR ((0 : Int) : Rat) 2 := SzR.i64 (by omega)
    repeat' (first
      | (apply RunL.step; exact rfl; apply op_ev (τ := τ); exact rfl; (first | exact hm | exact hap | exact hq1 | exact hq2 | exact hq3 | exact hsg | exact hcm | exact hsh | exact hpr | exact lnumber _ | exact radd | exact rsub | exact lawake); exact rfl) | (apply RunL.step; exact rfl; exact opA) | (apply RunL.hand; exact rfl; exact rfl; exact lenA; exact rfl) | (apply AWP.seq) | (apply AWP.region; exact rfl) | (apply AWP.block) | (apply AWP.skip) | (apply AWP.exit) | (apply AWP.retF; exact rfl; exact rfl; exact rfl; exact rfl; exact lenA; exact rfl) | (apply AWP.ret) | (apply RunL.nil) | (apply RunL.on; exact rfl; exact rfl; exact rfl; exact rfl; (first | exact rfl | assumption)) | (apply RunL.noU; exact rfl; exact rfl; exact rfl; exact rfl; exact rfl; exact rfl) | (apply RunL.no; exact rfl; exact rfl; exact rfl; exact rfl; (first | exact rfl | assumption); exact rfl; exact rfl) | (refine AWP.cond _ (Rd.of rfl) (fun hc => ?_) (fun hc => ?_) <;> first | (exfalso; cases hc; done) | (have hc' := hc; (try simp only [sc, reduceCtorEq, cmpOf] at hc'); try (exfalso; omega)))
      | (
       apply AWP.drawA
       repeat' (first
         | (apply DL.cons; (try (apply OpLoc.on; exact rfl; exact rfl; exact rfl; exact rfl; (first | exact rfl | assumption))); apply ol_ev (τ := τ); exact rfl; (first | exact hm | exact hap | exact hq1 | exact hq2 | exact hq3 | exact hsg | exact hcm | exact hsh | exact hpr | exact lnumber _ | exact radd | exact rsub | exact lawake); exact rfl; exact rfl) | (apply DL.cons; exact olA; exact rfl) | (apply DL.nil; kernel_rfl) | (refine DL.split rfl rfl rfl rfl (fun hb => ?_) (fun hb => ?_) <;> have hb' := hb <;> (try simp only [sc, reduceCtorEq, cmpOf] at hb') <;> try (exfalso; omega)))
       all_goals (fail_if_success apply DL.id))
      | (refine RunL.split rfl rfl rfl rfl (fun hb => ?_) (fun hb => ?_) <;> have hb' := hb <;> (try simp only [sc, reduceCtorEq, cmpOf] at hb') <;> try (exfalso; omega)) )
    refine AWP.loop2 (fun (i : Int) (q : Rat) => ⟨[(0, .val (.ints .i64 x)), (1, .val (.ints .i64 y)), (5, .pb 5 0), (7, .pb 7 0), (9, .pb 9 0), (10, .val (.int .i64 i))], [(5, .cells 27 [.bool s3, .ints .u32 l3, .ints .u32 d3]), (7, .cells 29 (ratCl z1 ++ ratCl B)), (9, .cells 27 (ratCl q))]⟩)
      (fun i q => 0 ≤ i ∧ i ≤ x.length ∧ q = sumF (resQ z1 B (fn x) (fn y)) i.toNat ∧ SzR q (i.toNat * 60 + 2)) (fun i _ => (x.length - i).toNat) 0 ((0 : Int) : Rat) ⟨by omega, by omega, rfl, by simpa using zw0⟩ (St.Le.of (by repeat' (first | exact all_nil | refine all_cons rfl ?_)) (by repeat' (first | exact all_nil | refine all_cons rfl ?_))) ?_
    rintro i q ⟨k1, k2, k3, k4⟩
    by_cases hi : i < x.length
    · have zx : SzR ((ix x i : Int) : Rat) 2 := SzR.i64 (hX i)
      have zy : SzR ((ix y i : Int) : Rat) 2 := SzR.i64 (hY i)
      have hst := sumF_step (f := resQ z1 B (fn x) (fn y)) k1
      have hap := kapply (h := RA.ratD z1 2 (h := zo)) (h' := RA.ratD B _ (h := zB)) (g := RA.ratD _ _ (h := zx)) (by omega)
      have y1 := SzR.mul z1 ((ix x i : Int) : Rat) _ _ (h := zo) (g := zx)
      have y2 := SzR.add _ B _ _ (h := y1) (g := zB)
      have y3 := SzR.sub _ ((ix y i : Int) : Rat) _ _ (h := y2) (g := zy)
      have y4 := SzR.add _ _ _ _ (h := k4) (g := y3)
      have m1 : i.toNat * 60 ≤ 60 * 60 := Nat.mul_le_mul_right _ (by omega)
      repeat' (first
        | (apply RunL.step; exact rfl; apply op_ev (τ := τ); exact rfl; (first | exact hm | exact hap | exact hq1 | exact hq2 | exact hq3 | exact hsg | exact hcm | exact hsh | exact hpr | exact lnumber _ | exact radd | exact rsub | exact lawake); exact rfl) | (apply RunL.step; exact rfl; exact opA) | (apply RunL.hand; exact rfl; exact rfl; exact lenA; exact rfl) | (apply AWP.seq) | (apply AWP.region; exact rfl) | (apply AWP.block) | (apply AWP.skip) | (apply AWP.exit) | (apply AWP.retF; exact rfl; exact rfl; exact rfl; exact rfl; exact lenA; exact rfl) | (apply AWP.ret) | (apply RunL.nil) | (apply RunL.on; exact rfl; exact rfl; exact rfl; exact rfl; (first | exact rfl | assumption)) | (apply RunL.noU; exact rfl; exact rfl; exact rfl; exact rfl; exact rfl; exact rfl) | (apply RunL.no; exact rfl; exact rfl; exact rfl; exact rfl; (first | exact rfl | assumption); exact rfl; exact rfl) | (refine AWP.cond _ (Rd.of rfl) (fun hc => ?_) (fun hc => ?_) <;> first | (exfalso; cases hc; done) | (have hc' := hc; (try simp only [sc, reduceCtorEq, cmpOf] at hc'); try (exfalso; omega)))
        | (
         apply AWP.drawA
         repeat' (first
           | (apply DL.cons; (try (apply OpLoc.on; exact rfl; exact rfl; exact rfl; exact rfl; (first | exact rfl | assumption))); apply ol_ev (τ := τ); exact rfl; (first | exact hm | exact hap | exact hq1 | exact hq2 | exact hq3 | exact hsg | exact hcm | exact hsh | exact hpr | exact lnumber _ | exact radd | exact rsub | exact lawake); exact rfl; exact rfl) | (apply DL.cons; exact olA; exact rfl) | (apply DL.nil; kernel_rfl) | (refine DL.split rfl rfl rfl rfl (fun hb => ?_) (fun hb => ?_) <;> have hb' := hb <;> (try simp only [sc, reduceCtorEq, cmpOf] at hb') <;> try (exfalso; omega)))
         all_goals (fail_if_success apply DL.id))
        | (refine RunL.split rfl rfl rfl rfl (fun hb => ?_) (fun hb => ?_) <;> have hb' := hb <;> (try simp only [sc, reduceCtorEq, cmpOf] at hb') <;> try (exfalso; omega)) )
      refine ⟨i + 1, _, St.Le.of (by repeat' (first | exact all_nil | refine all_cons rfl ?_)) (by repeat' (first | exact all_nil | refine all_cons rfl ?_)), ⟨by omega, by omega, ?_, y4.mono ?_⟩, by omega⟩
      · show _ = _
        rw [hst, k3]; simp only [resQ, fn, show ((i.toNat : Nat) : Int) = i by omega]
      · rw [show (i + 1).toNat = i.toNat + 1 by omega, Nat.succ_mul i.toNat 60]; omega
    · rw [show i.toNat = x.length by omega, hres] at k3
      subst k3
      by_cases hc2 : c2 = 0
      · have hc1 : c1 = 0 := hcc.2.2 hc2
        subst hc1 hc2
        repeat' (first
          | (apply RunL.step; exact rfl; apply op_ev (τ := τ); exact rfl; (first | exact hm | exact hap | exact hq1 | exact hq2 | exact hq3 | exact hsg | exact hcm | exact hsh | exact hpr | exact lnumber _ | exact radd | exact rsub | exact lawake); exact rfl) | (apply RunL.step; exact rfl; exact opA) | (apply RunL.hand; exact rfl; exact rfl; exact lenA; exact rfl) | (apply AWP.seq) | (apply AWP.region; exact rfl) | (apply AWP.block) | (apply AWP.skip) | (apply AWP.exit) | (apply AWP.retF; exact rfl; exact rfl; exact rfl; exact rfl; exact lenA; exact rfl) | (apply AWP.ret) | (apply RunL.nil) | (apply RunL.on; exact rfl; exact rfl; exact rfl; exact rfl; (first | exact rfl | assumption)) | (apply RunL.noU; exact rfl; exact rfl; exact rfl; exact rfl; exact rfl; exact rfl) | (apply RunL.no; exact rfl; exact rfl; exact rfl; exact rfl; (first | exact rfl | assumption); exact rfl; exact rfl) | (refine AWP.cond _ (Rd.of rfl) (fun hc => ?_) (fun hc => ?_) <;> first | (exfalso; cases hc; done) | (have hc' := hc; (try simp only [sc, reduceCtorEq, cmpOf] at hc'); try (exfalso; omega)))
          | (
           apply AWP.drawA
           repeat' (first
             | (apply DL.cons; (try (apply OpLoc.on; exact rfl; exact rfl; exact rfl; exact rfl; (first | exact rfl | assumption))); apply ol_ev (τ := τ); exact rfl; (first | exact hm | exact hap | exact hq1 | exact hq2 | exact hq3 | exact hsg | exact hcm | exact hsh | exact hpr | exact lnumber _ | exact radd | exact rsub | exact lawake); exact rfl; exact rfl) | (apply DL.cons; exact olA; exact rfl) | (apply DL.nil; kernel_rfl) | (refine DL.split rfl rfl rfl rfl (fun hb => ?_) (fun hb => ?_) <;> have hb' := hb <;> (try simp only [sc, reduceCtorEq, cmpOf] at hb') <;> try (exfalso; omega)))
           all_goals (fail_if_success apply DL.id))
          | (refine RunL.split rfl rfl rfl rfl (fun hb => ?_) (fun hb => ?_) <;> have hb' := hb <;> (try simp only [sc, reduceCtorEq, cmpOf] at hb') <;> try (exfalso; omega)) )
        all_goals
          first   | (apply Ends.mk (.cons (.tmp rfl) .nil); first | rfl | (simp only [pack]; congr 1; simp only [cmpOf, decide_eq_true_eq, beq_iff_eq, bne_iff_ne]; omega))   | (apply Ends.mk (.cons (.tmp rfl) .nil); simp only [pack]; congr 1; simp only [cmpOf, sc]; omega)   | (exfalso; first | omega | (simp only [*, Bool.true_eq_false, Bool.false_eq_true, reduceCtorEq] at *; done) | grind)
      · have hc1 : c1 ≠ 0 := fun h => hc2 (hcc.2.1 h)
        have hc3 := hcc.1
        clear hcc
        have g1 : decide (c1 = 0) = false := decide_eq_false hc1
        have g2 : decide (c2 = 0) = false := decide_eq_false hc2
        repeat' (first
          | (apply RunL.step; exact rfl; apply op_ev (τ := τ); exact rfl; (first | exact hm | exact hap | exact hq1 | exact hq2 | exact hq3 | exact hsg | exact hcm | exact hsh | exact hpr | exact lnumber _ | exact radd | exact rsub | exact lawake); exact rfl) | (apply RunL.step; exact rfl; exact opA) | (apply RunL.hand; exact rfl; exact rfl; exact lenA; exact rfl) | (apply AWP.seq) | (apply AWP.region; exact rfl) | (apply AWP.block) | (apply AWP.skip) | (apply AWP.exit) | (apply AWP.retF; exact rfl; exact rfl; exact rfl; exact rfl; exact lenA; exact rfl) | (apply AWP.ret) | (apply RunL.nil) | (apply RunL.on; exact rfl; exact rfl; exact rfl; exact rfl; (first | exact rfl | assumption)) | (apply RunL.noU; exact rfl; exact rfl; exact rfl; exact rfl; exact rfl; exact rfl) | (apply RunL.no; exact rfl; exact rfl; exact rfl; exact rfl; (first | exact rfl | assumption); exact rfl; exact rfl) | (refine AWP.cond _ (Rd.of rfl) (fun hc => ?_) (fun hc => ?_) <;> first | (exfalso; cases hc; done) | (have hc' := hc; (try simp only [sc, reduceCtorEq, cmpOf] at hc'); try (exfalso; omega)))
          | (
           apply AWP.drawA
           repeat' (first
             | (apply DL.cons; (try (apply OpLoc.on; exact rfl; exact rfl; exact rfl; exact rfl; (first | exact rfl | assumption))); apply ol_ev (τ := τ); exact rfl; (first | exact hm | exact hap | exact hq1 | exact hq2 | exact hq3 | exact hsg | exact hcm | exact hsh | exact hpr | exact lnumber _ | exact radd | exact rsub | exact lawake); exact rfl; exact rfl) | (apply DL.cons; exact olA; exact rfl) | (apply DL.nil; kernel_rfl) | (refine DL.split rfl rfl rfl rfl (fun hb => ?_) (fun hb => ?_) <;> have hb' := hb <;> (try simp only [sc, reduceCtorEq, cmpOf] at hb') <;> try (exfalso; omega)))
           all_goals (fail_if_success apply DL.id))
          | (refine RunL.split rfl rfl rfl rfl (fun hb => ?_) (fun hb => ?_) <;> have hb' := hb <;> (try simp only [sc, reduceCtorEq, cmpOf] at hb') <;> try (exfalso; omega)) )
        all_goals
          first   | (apply Ends.mk (.cons (.tmp rfl) .nil); first | rfl | (simp only [pack]; congr 1; simp only [cmpOf, decide_eq_true_eq, beq_iff_eq, bne_iff_ne]; omega))   | (apply Ends.mk (.cons (.tmp rfl) .nil); simp only [pack]; congr 1; simp only [cmpOf, sc]; omega)   | (exfalso; first | omega | (simp only [*, Bool.true_eq_false, Bool.false_eq_true, reduceCtorEq] at *; done) | grind)
  · have hm := kMean0 x y he
    generalize anchE x y = e at *
    refine evals_of_awp Tryd.func4 rfl (CallOK.of Tryd.func4 (by kernel_rfl) rfl) (Nat.le_of_ble_eq_true rfl) ?_
    rintro w R hR ⟨vs, hv⟩
    repeat' (first
      | (apply RunL.step; exact rfl; apply op_ev (τ := τ); exact rfl; (first | exact hm | exact hap | exact hq1 | exact hq2 | exact hq3 | exact hsg | exact hcm | exact hsh | exact hpr | exact lnumber _ | exact radd | exact rsub | exact lawake); exact rfl) | (apply RunL.step; exact rfl; exact opA) | (apply RunL.hand; exact rfl; exact rfl; exact lenA; exact rfl) | (apply AWP.seq) | (apply AWP.region; exact rfl) | (apply AWP.block) | (apply AWP.skip) | (apply AWP.exit) | (apply AWP.retF; exact rfl; exact rfl; exact rfl; exact rfl; exact lenA; exact rfl) | (apply AWP.ret) | (apply RunL.nil) | (apply RunL.on; exact rfl; exact rfl; exact rfl; exact rfl; (first | exact rfl | assumption)) | (apply RunL.noU; exact rfl; exact rfl; exact rfl; exact rfl; exact rfl; exact rfl) | (apply RunL.no; exact rfl; exact rfl; exact rfl; exact rfl; (first | exact rfl | assumption); exact rfl; exact rfl) | (refine AWP.cond _ (Rd.of rfl) (fun hc => ?_) (fun hc => ?_) <;> first | (exfalso; cases hc; done) | (have hc' := hc; (try simp only [sc, reduceCtorEq, cmpOf] at hc'); try (exfalso; omega)))
      | (
       apply AWP.drawA
       repeat' (first
         | (apply DL.cons; (try (apply OpLoc.on; exact rfl; exact rfl; exact rfl; exact rfl; (first | exact rfl | assumption))); apply ol_ev (τ := τ); exact rfl; (first | exact hm | exact hap | exact hq1 | exact hq2 | exact hq3 | exact hsg | exact hcm | exact hsh | exact hpr | exact lnumber _ | exact radd | exact rsub | exact lawake); exact rfl; exact rfl) | (apply DL.cons; exact olA; exact rfl) | (apply DL.nil; kernel_rfl) | (refine DL.split rfl rfl rfl rfl (fun hb => ?_) (fun hb => ?_) <;> have hb' := hb <;> (try simp only [sc, reduceCtorEq, cmpOf] at hb') <;> try (exfalso; omega)))
       all_goals (fail_if_success apply DL.id))
      | (refine RunL.split rfl rfl rfl rfl (fun hb => ?_) (fun hb => ?_) <;> have hb' := hb <;> (try simp only [sc, reduceCtorEq, cmpOf] at hb') <;> try (exfalso; omega)) )
    all_goals
      apply Ends.mk (.cons (.tmp rfl) .nil)
      first | done | rfl
end Go.Proofs.YtgdejiajiljipaaDoor.K
