/- The laws of layer 45 (examboardlaw45): LinkingInverse. -/
import Derived.Test.YtgdejiajiljipaaDoorLawL
namespace Go.Proofs.YtgdejiajiljipaaDoor.K
open Go
set_option linter.unusedVariables false
set_option linter.unusedSimpArgs false

theorem inv_facts {p q x : Rat} (hp : 0 < p) : 0 < invA p ∧ invA (invA p) = p ∧ invB (invA p) (invB p q) = q ∧ invA p * p = 1 ∧ p * invA p = 1 ∧ invA p * q + invB p q = 0 ∧ p * invB p q + q = 0 ∧ invA p * (p * x + q) + invB p q = x ∧ p * (invA p * x + invB p q) + q = x := by
  have h0 : p ≠ 0 := by grind
  have e1 : invA p * p = 1 := Rat.div_mul_cancel h0
  have e2 : invB p q * p = -q := Rat.div_mul_cancel h0
  have hi : 0 < invA p := by
    rcases cmpQ_cases (invA p) 0 with ⟨h, _⟩ | ⟨h, _⟩ | ⟨h, _⟩
    · have := Rat.mul_pos (show 0 < -invA p by grind) hp
      grind
    · rw [h] at e1; grind
    · exact h
  have h1 : invA p ≠ 0 := by grind
  have e3 : invA (invA p) * invA p = 1 := Rat.div_mul_cancel h1
  have e4 : invB (invA p) (invB p q) * invA p = -invB p q := Rat.div_mul_cancel h1
  have e5 : invA (invA p) = p := by
    have : invA (invA p) * (invA p * p) = invA (invA p) * invA p * p := by grind
    rw [e1, e3] at this; grind
  have e6 : invB (invA p) (invB p q) = q := by
    have : invB (invA p) (invB p q) * (invA p * p) = invB (invA p) (invB p q) * invA p * p := by grind
    rw [e1, e4] at this; grind
  have e7 : invA p * q + invB p q = 0 := by
    have : (invA p * q + invB p q) * p = 0 := by grind
    rcases Rat.mul_eq_zero.1 this with h | h
    · exact h
    · exact absurd h h0
  refine ⟨hi, e5, e6, e1, by grind, e7, by grind, by grind, by grind⟩
theorem cmp0 {p q : Rat} (h : p = q) : cmpQ p q = 0 := (cmpQ_zero p q).2 h
set_option maxHeartbeats 2000000 in
theorem law_LinkingInverse (s1 : Bool) (l1 d1 : List Int) (s2 : Bool) (l2 d2 : List Int) (s3 : Bool) (l3 d3 : List Int) (s4 : Bool) (l4 d4 : List Int) (s5 : Bool) (l5 d5 : List Int) (s6 : Bool) (l6 d6 : List Int) (s7 : Bool) (l7 d7 : List Int)
    (hb : bulkA [.agg [.bool s1, .ints .u32 l1, .ints .u32 d1, .bool s2, .ints .u32 l2, .ints .u32 d2], .agg [.bool s3, .ints .u32 l3, .ints .u32 d3, .bool s4, .ints .u32 l4, .ints .u32 d4], .agg [.bool s5, .ints .u32 l5, .ints .u32 d5, .bool s6, .ints .u32 l6, .ints .u32 d6], .agg [.bool s7, .ints .u32 l7, .ints .u32 d7]] ≤ 1048576) :
    Evals Tryd.prog 3 [.agg [.bool s1, .ints .u32 l1, .ints .u32 d1, .bool s2, .ints .u32 l2, .ints .u32 d2], .agg [.bool s3, .ints .u32 l3, .ints .u32 d3, .bool s4, .ints .u32 l4, .ints .u32 d4], .agg [.bool s5, .ints .u32 l5, .ints .u32 d5, .bool s6, .ints .u32 l6, .ints .u32 d6], .agg [.bool s7, .ints .u32 l7, .ints .u32 d7]] (.bool true) := by
  simp only [bulkA, D.parts, bulkL, D.bulk] at hb
  obtain ⟨q1, A1⟩ : ∃ q, RA s1 l1 d1 q 1048576 := ⟨_, rfl, by omega, by omega⟩
  obtain ⟨q2, A2⟩ : ∃ q, RA s2 l2 d2 q 1048576 := ⟨_, rfl, by omega, by omega⟩
  obtain ⟨q3, A3⟩ : ∃ q, RA s3 l3 d3 q 1048576 := ⟨_, rfl, by omega, by omega⟩
  obtain ⟨q4, A4⟩ : ∃ q, RA s4 l4 d4 q 1048576 := ⟨_, rfl, by omega, by omega⟩
  obtain ⟨q5, A5⟩ : ∃ q, RA s5 l5 d5 q 1048576 := ⟨_, rfl, by omega, by omega⟩
  obtain ⟨q6, A6⟩ : ∃ q, RA s6 l6 d6 q 1048576 := ⟨_, rfl, by omega, by omega⟩
  obtain ⟨q7, A7⟩ : ∃ q, RA s7 l7 d7 q 1048576 := ⟨_, rfl, by omega, by omega⟩
  clear hb
  refine evals_of_awp Tryd.func3 rfl (CallOK.of Tryd.func3 (by kernel_rfl) rfl) (Nat.le_of_ble_eq_true rfl) ?_
  rintro w R hR ⟨vs, hv⟩
  obtain ⟨w1, w2, w3, w4⟩ := hv.link 0 rfl
  obtain ⟨w5, w6, w7, w8⟩ := hv.link 1 rfl
  obtain ⟨v1, v2, v3, v4⟩ := hv.link 2 rfl
  obtain ⟨⟨_, v5⟩, _, v6⟩ := hv.rat 3 rfl
  have z1 := A1.sz w1 w2
  have z2 := A2.sz w3 w4
  have z3 := A3.sz w5 w6
  have z4 := A4.sz w7 w8
  have z5 := A5.sz v1 v2
  have z6 := A6.sz v3 v4
  have z7 := A7.sz v5 v6
  clear w1 w2 w3 w4 w5 w6 w7 w8 v1 v2 v3 v4 v5 v6
  have zc1 := (SzR.mul q3 q1 _ _ (h := z3) (g := z1)).mono (m := 4000000) (by omega)
  have zc2 := (SzR.add _ q4 _ _ (h := SzR.mul q3 q2 _ _ (h := z3) (g := z2)) (g := z4)).mono (m := 4000000) (by omega)
  have zc3 := (SzR.mul q5 q3 _ _ (h := z5) (g := z3)).mono (m := 4000000) (by omega)
  have zc4 := (SzR.add _ q6 _ _ (h := SzR.mul q5 q4 _ _ (h := z5) (g := z4)) (g := z6)).mono (m := 4000000) (by omega)
  have za := (SzR.add _ q2 _ _ (h := SzR.mul q1 q7 _ _ (h := z1) (g := z7)) (g := z2)).mono (m := 4000000) (by omega)
  have hc1 := kcompose (h := A1) (h' := A2) (g := A3) (g' := A4) (by omega)
  have ha1 := kapply (h := RA.ratD _ _ (h := zc1)) (h' := RA.ratD _ _ (h := zc2)) (g := A7) (by omega)
  have ha2 := kapply (h := A1) (h' := A2) (g := A7) (by omega)
  have ha3 := kapply (h := A3) (h' := A4) (g := RA.ratD _ _ (h := za)) (by omega)
  have zb := (SzR.add _ q4 _ _ (h := SzR.mul q3 (q1 * q7 + q2) _ _ (h := z3) (g := za)) (g := z4)).mono (m := 10000000) (by omega)
  have e1 : q3 * q1 * q7 + (q3 * q2 + q4) = q3 * (q1 * q7 + q2) + q4 := by grind
  rw [e1] at ha1
  have hm1 := rcmp (h := RA.ratD _ _ (h := zb)) (h' := RA.ratD _ _ (h := zb)) (by omega)
  rw [cmp0 rfl] at hm1
  have hc2 := kcompose (h := RA.ratD _ _ (h := zc1)) (h' := RA.ratD _ _ (h := zc2)) (g := A5) (g' := A6) (by omega)
  have hc3 := kcompose (h := A3) (h' := A4) (g := A5) (g' := A6) (by omega)
  have hc4 := kcompose (h := A1) (h' := A2) (g := RA.ratD _ _ (h := zc3)) (g' := RA.ratD _ _ (h := zc4)) (by omega)
  have hs1 := r45same (p := q5 * (q3 * q1)) (q := q5 * (q3 * q2 + q4) + q6) (p' := q5 * q3 * q1) (q' := q5 * q3 * q2 + (q5 * q4 + q6)) (by grind) (by grind)
  have hva := kvalid (h := A1) (h' := A2) (by omega)
  rw [posQ] at hva
  by_cases hp : 0 < q1
  · have hi := kinvert1 (h := A1) (h' := A2) hp (by omega)
    obtain ⟨f1, f2, f3, f4, f5, f6, f7, f8, f9⟩ := inv_facts (q := q2) (x := q7) hp
    have zi1 : SzR (invA q1) 4000000 := (SzR.div 1 q1 _ _ (h := SzR.one) (g := z1)).mono (by omega)
    have zi2 : SzR (invB q1 q2) 4000000 := (SzR.div (-q2) q1 _ _ (h := SzR.neg q2 _ (h := z2)) (g := z1)).mono (by omega)
    have hb := kinvert1 (h := RA.ratD _ _ (h := zi1)) (h' := RA.ratD _ _ (h := zi2)) f1 (by omega)
    rw [f2, f3] at hb
    have hvi := kvalid (h := RA.ratD _ _ (h := zi1)) (h' := RA.ratD _ _ (h := zi2)) (by omega)
    rw [posQ, decide_eq_true f1] at hvi
    have hc5 := kcompose (h := RA.ratD _ _ (h := z1)) (h' := RA.ratD _ _ (h := z2)) (g := RA.ratD _ _ (h := zi1)) (g' := RA.ratD _ _ (h := zi2)) (by omega)
    have hc6 := kcompose (h := RA.ratD _ _ (h := zi1)) (h' := RA.ratD _ _ (h := zi2)) (g := A1) (g' := A2) (by omega)
    rw [f4, f6] at hc5
    rw [f5, f7] at hc6
    have hs2 := r45same (p := 1) (q := 0) (p' := 1) (q' := 0) rfl rfl
    have ha4 := kapply (h := RA.ratD _ _ (h := zi1)) (h' := RA.ratD _ _ (h := zi2)) (g := RA.ratD _ _ (h := za)) (by omega)
    rw [f8] at ha4
    have ha5 := kapply (h := RA.ratD _ _ (h := zi1)) (h' := RA.ratD _ _ (h := zi2)) (g := A7) (by omega)
    have zd := (SzR.add _ _ _ _ (h := SzR.mul (invA q1) q7 _ _ (h := zi1) (g := z7)) (g := zi2)).mono (m := 10000000) (by omega)
    have ha6 := kapply (h := A1) (h' := A2) (g := RA.ratD _ _ (h := zd)) (by omega)
    rw [f9] at ha6
    have hm2 := rcmp (h := RA.ratD _ _ (h := z7)) (h' := A7) (by omega)
    rw [cmp0 rfl] at hm2
    have hm3 := hm2
    rw [decide_eq_true hp] at hva
    repeat' (first
      | (apply RunL.step; exact rfl; apply op_ev (τ := τ); exact rfl; (first | exact hc1 | exact ha1 | exact ha2 | exact ha3 | exact hm1 | exact hc2 | exact hc3 | exact hc4 | exact hs1 | exact hi | exact hva | exact hb | exact hvi | exact hc5 | exact hc6 | exact hs2 | exact ha4 | exact hm2 | exact ha5 | exact ha6 | exact hm3 | exact lawake); exact rfl) | (apply RunL.step; exact rfl; exact opA) | (apply RunL.hand; exact rfl; exact rfl; exact lenA; exact rfl) | (apply AWP.seq) | (apply AWP.region; exact rfl) | (apply AWP.block) | (apply AWP.skip) | (apply AWP.exit) | (apply AWP.retF; exact rfl; exact rfl; exact rfl; exact rfl; exact lenA; exact rfl) | (apply AWP.ret) | (apply RunL.nil) | (apply RunL.on; exact rfl; exact rfl; exact rfl; exact rfl; (first | exact rfl | assumption)) | (apply RunL.noU; exact rfl; exact rfl; exact rfl; exact rfl; exact rfl; exact rfl) | (apply RunL.no; exact rfl; exact rfl; exact rfl; exact rfl; (first | exact rfl | assumption); exact rfl; exact rfl) | (refine AWP.cond _ (Rd.of rfl) (fun hc => ?_) (fun hc => ?_) <;> first | (exfalso; cases hc; done) | (have hc' := hc; (try simp only [sc, reduceCtorEq, cmpOf] at hc'); try (exfalso; omega)))
      | (
       apply AWP.drawA
       repeat' (first
         | (apply DL.cons; (try (apply OpLoc.on; exact rfl; exact rfl; exact rfl; exact rfl; (first | exact rfl | assumption))); apply ol_ev (τ := τ); exact rfl; (first | exact hc1 | exact ha1 | exact ha2 | exact ha3 | exact hm1 | exact hc2 | exact hc3 | exact hc4 | exact hs1 | exact hi | exact hva | exact hb | exact hvi | exact hc5 | exact hc6 | exact hs2 | exact ha4 | exact hm2 | exact ha5 | exact ha6 | exact hm3 | exact lawake); exact rfl; exact rfl) | (apply DL.cons; exact olA; exact rfl) | (apply DL.nil; kernel_rfl) | (refine DL.split rfl rfl rfl rfl (fun hb => ?_) (fun hb => ?_) <;> have hb' := hb <;> (try simp only [sc, reduceCtorEq, cmpOf] at hb') <;> try (exfalso; omega)))
       all_goals (fail_if_success apply DL.id))
      | (refine RunL.split rfl rfl rfl rfl (fun hb => ?_) (fun hb => ?_) <;> have hb' := hb <;> (try simp only [sc, reduceCtorEq, cmpOf] at hb') <;> try (exfalso; omega)) )
    all_goals
      apply Ends.mk (.cons (.tmp rfl) .nil)
      first | done | rfl
  · have hi := kinvert0 (h := A1) (h' := A2) hp (by omega)
    rw [decide_eq_false hp] at hva
    repeat' (first
      | (apply RunL.step; exact rfl; apply op_ev (τ := τ); exact rfl; (first | exact hc1 | exact ha1 | exact ha2 | exact ha3 | exact hm1 | exact hc2 | exact hc3 | exact hc4 | exact hs1 | exact hi | exact hva | exact hb | exact hvi | exact hc5 | exact hc6 | exact hs2 | exact ha4 | exact hm2 | exact ha5 | exact ha6 | exact hm3 | exact lawake); exact rfl) | (apply RunL.step; exact rfl; exact opA) | (apply RunL.hand; exact rfl; exact rfl; exact lenA; exact rfl) | (apply AWP.seq) | (apply AWP.region; exact rfl) | (apply AWP.block) | (apply AWP.skip) | (apply AWP.exit) | (apply AWP.retF; exact rfl; exact rfl; exact rfl; exact rfl; exact lenA; exact rfl) | (apply AWP.ret) | (apply RunL.nil) | (apply RunL.on; exact rfl; exact rfl; exact rfl; exact rfl; (first | exact rfl | assumption)) | (apply RunL.noU; exact rfl; exact rfl; exact rfl; exact rfl; exact rfl; exact rfl) | (apply RunL.no; exact rfl; exact rfl; exact rfl; exact rfl; (first | exact rfl | assumption); exact rfl; exact rfl) | (refine AWP.cond _ (Rd.of rfl) (fun hc => ?_) (fun hc => ?_) <;> first | (exfalso; cases hc; done) | (have hc' := hc; (try simp only [sc, reduceCtorEq, cmpOf] at hc'); try (exfalso; omega)))
      | (
       apply AWP.drawA
       repeat' (first
         | (apply DL.cons; (try (apply OpLoc.on; exact rfl; exact rfl; exact rfl; exact rfl; (first | exact rfl | assumption))); apply ol_ev (τ := τ); exact rfl; (first | exact hc1 | exact ha1 | exact ha2 | exact ha3 | exact hm1 | exact hc2 | exact hc3 | exact hc4 | exact hs1 | exact hi | exact hva | exact hb | exact hvi | exact hc5 | exact hc6 | exact hs2 | exact ha4 | exact hm2 | exact ha5 | exact ha6 | exact hm3 | exact lawake); exact rfl; exact rfl) | (apply DL.cons; exact olA; exact rfl) | (apply DL.nil; kernel_rfl) | (refine DL.split rfl rfl rfl rfl (fun hb => ?_) (fun hb => ?_) <;> have hb' := hb <;> (try simp only [sc, reduceCtorEq, cmpOf] at hb') <;> try (exfalso; omega)))
       all_goals (fail_if_success apply DL.id))
      | (refine RunL.split rfl rfl rfl rfl (fun hb => ?_) (fun hb => ?_) <;> have hb' := hb <;> (try simp only [sc, reduceCtorEq, cmpOf] at hb') <;> try (exfalso; omega)) )
    all_goals
      apply Ends.mk (.cons (.tmp rfl) .nil)
      first | done | rfl
end Go.Proofs.YtgdejiajiljipaaDoor.K
