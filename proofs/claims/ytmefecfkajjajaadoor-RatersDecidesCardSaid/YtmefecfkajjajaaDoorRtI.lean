/- Walks: Third, and its reference. -/
import Derived.Test.YtmefecfkajjajaaDoorRtD
import Derived.Laws.StructEq
import Derived.Tactics2
namespace Go.Proofs.YtmefecfkajjajaaDoor.K
open Go Go.RowKit
set_option linter.unusedVariables false
set_option linter.unusedSimpArgs false

theorem asgL_take {L : List As} {i : Int} {p : As} (h : L[i.toNat]? = some p) (h0 : 0 ≤ i) (c : Int) : asgL (L.take (i + 1).toNat) c = asgL (L.take i.toNat) c ++ if p.1 = c then [p.2] else [] := by
  rw [show (i + 1).toNat = i.toNat + 1 by omega, List.take_add_one, h]
  simp only [Option.toList_some, asgL, List.filter_append, List.map_append]
  congr 1
  by_cases e : p.1 = c <;> simp [e]
theorem asgL_le (L : List As) (c : Int) : (asgL L c).length ≤ L.length := by simp [asgL]; exact List.length_filter_le _ _
theorem LD_take {l : List Rt} {L : List As} {i : Int} {p : Rt} (h : l[i.toNat]? = some p) (h0 : 0 ≤ i) : LD (l.take (i + 1).toNat) L = LD (l.take i.toNat) L ++ [loadN L p.1] := by
  rw [show (i + 1).toNat = i.toNat + 1 by omega, List.take_add_one, h]
  simp [LD]
theorem kPick3 (l : List Rt) (L : List As) (c : Int) : Evals Tryd.prog 30 [.ints .i64 (iota l.length), .ints .i64 (LD l L), .fn 31 [.ref [.sl 3 (l.map rowRt)], .ref [.int .i64 c], .ref [.ints .i64 (asgL L c)], .ref [.ints .i64 (LD l L)]]] (.int .i64 (thirdP l L c)) := by
  have ho : ∀ i ∈ iota l.length, 0 ≤ i ∧ i < (l.length : Int) := fun i hi => mem_iota.1 hi
  have h := klight (iota l.length) (LD l L) 31 [.ref [.sl 3 (l.map rowRt)], .ref [.int .i64 c], .ref [.ints .i64 (asgL L c)], .ref [.ints .i64 (LD l L)]] (thirdB l L c) (fun i hi => by rw [LD_length]; exact ho i hi) (fun i hi => by
    obtain ⟨h0, h1⟩ := ho i hi
    obtain ⟨n, rfl⟩ : ∃ n : Nat, i = n := ⟨i.toNat, by omega⟩
    have := kOpen3 l (asgL L c) (LD l L) c n (by omega) (LD_length l L)
    rw [LD_ix (by omega)] at this
    exact this)
  rw [lightP_congr (o' := thirdB l L c) (ld' := fun i => loadN L (atR l i.toNat).1) (iota l.length) (-1) (fun i hi => ⟨rfl, by
    obtain ⟨h0, h1⟩ := ho i hi
    obtain ⟨n, rfl⟩ : ∃ n : Nat, i = n := ⟨i.toNat, by omega⟩
    exact LD_ix (by omega)⟩) (fun h => by omega)] at h
  exact h
theorem third_range (l : List Rt) (L : List As) (c : Int) : thirdP l L c = -1 ∨ (0 ≤ thirdP l L c ∧ thirdP l L c < l.length) := lightP_range fun i hi => mem_iota.1 hi
theorem kThirdV (l : List Rt) (L : List As) (c : Int) (hv : validE l ≠ 0) : Evals Tryd.prog 9 [.sl 3 (l.map rowRt), .sl 2 (L.map rowAs), .int .i64 c] (.tup [.int .i64 0, .int .i64 (validE l)]) := by
  have hvd := kValid l
  generalize validE l = e at *
  refine evals_of_awp Tryd.func9 rfl (CallOK.of Tryd.func9 (by kernel_rfl) rfl) (Nat.le_of_ble_eq_true rfl) ?_
  rintro w R hR ⟨vs, hv⟩
  repeat' (first
    | (apply RunL.step; exact rfl; apply op_ev (τ := τ); exact rfl; (first | exact hvd | exact hld); exact rfl) | (apply RunL.step; exact rfl; exact opA) | (apply RunL.hand; exact rfl; exact rfl; exact lenA; exact rfl) | (apply AWP.seq) | (apply AWP.region; exact rfl) | (apply AWP.block) | (apply AWP.skip) | (apply AWP.exit) | (apply AWP.retF; exact rfl; exact rfl; exact rfl; exact rfl; exact lenA; exact rfl) | (apply AWP.ret) | (apply RunL.nil) | (apply RunL.on; exact rfl; exact rfl; exact rfl; exact rfl; (first | exact rfl | assumption)) | (apply RunL.noU; exact rfl; exact rfl; exact rfl; exact rfl; exact rfl; exact rfl) | (apply RunL.no; exact rfl; exact rfl; exact rfl; exact rfl; (first | exact rfl | assumption); exact rfl; exact rfl) | (refine AWP.cond _ (Rd.of rfl) (fun hc => ?_) (fun hc => ?_) <;> first | (exfalso; cases hc; done) | (have hc' := hc; (try simp only [sc, reduceCtorEq, cmpOf] at hc'); try (exfalso; omega)))
    | (
     apply AWP.drawA
     repeat' (first
       | (apply DL.cons; (try (apply OpLoc.on; exact rfl; exact rfl; exact rfl; exact rfl; (first | exact rfl | assumption))); apply ol_ev (τ := τ); exact rfl; (first | exact hvd | exact hld); exact rfl; exact rfl) | (apply DL.cons; exact olA; exact rfl) | (apply DL.nil; kernel_rfl) | (refine DL.split rfl rfl rfl rfl (fun hb => ?_) (fun hb => ?_) <;> have hb' := hb <;> (try simp only [sc, reduceCtorEq, cmpOf] at hb') <;> try (exfalso; omega)))
     all_goals (fail_if_success apply DL.id))
    | (refine RunL.split rfl rfl rfl rfl (fun hb => ?_) (fun hb => ?_) <;> have hb' := hb <;> (try simp only [sc, reduceCtorEq, cmpOf] at hb') <;> try (exfalso; omega)) )
  all_goals
    apply Ends.mk (.cons (.tmp rfl) (.cons (.tmp rfl) .nil))
    first | done | rfl
set_option maxHeartbeats 4000000 in
theorem kThird1 (l : List Rt) (L : List As) (c : Int) (hb : L.length ≤ 8796093022207) (hv0 : validE l = 0) : Evals Tryd.prog 9 [.sl 3 (l.map rowRt), .sl 2 (L.map rowAs), .int .i64 c]
    (if (asgL L c).length ≠ 2 then .tup [.int .i64 0, .int .i64 6] else if thirdP l L c < 0 then .tup [.int .i64 0, .int .i64 14] else .tup [.int .i64 (atR l (thirdP l L c).toNat).1, .int .i64 0]) := by
  have hvd := kValid l
  have hl20 := (valid_zero hv0).1
  rw [hv0] at hvd
  have hml : (l.map rowRt).length = l.length := by simp
  have hmL : (L.map rowAs).length = L.length := by simp
  have hp := kPick3 l L c
  have hrg := third_range l L c
  refine evals_of_awp Tryd.func9 rfl (CallOK.of Tryd.func9 (by kernel_rfl) rfl) (Nat.le_of_ble_eq_true rfl) ?_
  rintro w R hR ⟨vs, hv⟩
  generalize hres : (if (asgL L c).length ≠ 2 then D.tup [.int .i64 0, .int .i64 6] else if thirdP l L c < 0 then .tup [.int .i64 0, .int .i64 14] else .tup [.int .i64 (atR l (thirdP l L c).toNat).1, .int .i64 0]) = res
  repeat' (first
    | (apply RunL.step; exact rfl; first | (apply op_nilVec (d := 12) 3 .i64; exact .inl rfl; exact rfl) | (apply op_allocV (d := 9) 1009 3 1; kernel_rfl; exact rfl; exact rfl; exact .inl rfl; exact .inl rfl; exact rfl) | (apply op_allocV (d := 13) 1013 3 1; kernel_rfl; exact rfl; exact rfl; exact .inl rfl; exact .inl rfl; exact rfl) | (apply op_loadV (τ := τ); exact rfl; exact rfl; exact Rd.of rfl; exact rfl) | (apply op_storeVec (τ := τ); exact rfl; exact rfl; exact rfl; exact rfl; exact Rd.of rfl; exact .inl rfl) | (apply op_appendV (τ := τ); exact rfl; exact rfl; exact rfl; exact rfl; exact rfl; exact Rd.of rfl; exact Rd.of rfl; exact rfl; ((try dsimp only); (try simp only [List.length_cons, List.length_nil]); omega); exact rfl; exact .inl rfl; exact rfl) | (apply op_lenV (τ := τ); exact rfl; exact rfl; exact Rd.of rfl; exact rfl) | (apply op_clo; exact rfl; exact rfl) | (apply op_lendAll; exact .cons (.vec (Rd.of rfl)) (.cons (.vec (Rd.of rfl)) (.cons (.clo (Rd.of rfl) (.cons (.box rfl) (.cons (.box rfl) (.cons (.vec (t := 9) rfl) (.cons (.vec (t := 13) rfl) .nil))))) .nil)); exact hp; exact rfl; exact rfl) | fail) | (apply RunL.step; exact rfl; apply op_ev (τ := τ); exact rfl; (first | exact hvd | exact hld); exact rfl) | (apply RunL.step; exact rfl; exact opA) | (apply RunL.hand; exact rfl; exact rfl; exact lenA; exact rfl) | (apply AWP.seq) | (apply AWP.region; exact rfl) | (apply AWP.block) | (apply AWP.skip) | (apply AWP.exit) | (apply AWP.retF; exact rfl; exact rfl; exact rfl; exact rfl; exact lenA; exact rfl) | (apply AWP.ret) | (apply RunL.nil) | (apply RunL.on; exact rfl; exact rfl; exact rfl; exact rfl; (first | exact rfl | assumption)) | (apply RunL.noU; exact rfl; exact rfl; exact rfl; exact rfl; exact rfl; exact rfl) | (apply RunL.no; exact rfl; exact rfl; exact rfl; exact rfl; (first | exact rfl | assumption); exact rfl; exact rfl) | (refine AWP.cond _ (Rd.of rfl) (fun hc => ?_) (fun hc => ?_) <;> first | (exfalso; cases hc; done) | (have hc' := hc; (try simp only [sc, reduceCtorEq, cmpOf] at hc'); try (exfalso; omega)))
    | (
     refine AWP.drawTA 6 (of_decide_eq_true (by kernel_rfl)) (by kernel_rfl) (by kernel_rfl) (by kernel_rfl) (by kernel_rfl) ?_
     repeat' (first
       | (apply DL.cons; apply ol_loadV (τ := τ); exact rfl; exact rfl; exact Rd.of rfl; exact rfl; exact rfl) | (apply DL.cons; (try (apply OpLoc.on; exact rfl; exact rfl; exact rfl; exact rfl; (first | exact rfl | assumption))); apply ol_ev (τ := τ); exact rfl; (first | exact hvd | exact hld); exact rfl; exact rfl) | (apply DL.cons; exact olA; exact rfl) | (apply DL.nil; kernel_rfl) | (refine DL.split rfl rfl rfl rfl (fun hb => ?_) (fun hb => ?_) <;> have hb' := hb <;> (try simp only [sc, reduceCtorEq, cmpOf] at hb') <;> try (exfalso; omega)))
     all_goals (fail_if_success apply DL.id))
    | (refine RunL.split rfl rfl rfl rfl (fun hb => ?_) (fun hb => ?_) <;> have hb' := hb <;> (try simp only [sc, reduceCtorEq, cmpOf] at hb') <;> try (exfalso; omega)) )
  refine AWP.loop2 (fun (i : Int) (asg : List Int) => ⟨[(1, .val (.sl 2 (L.map rowAs))), (3, .pb 3 0), (5, .pb 5 0), (9, .pvec 9 30 1009 3 1 (iv .i64 asg)), (22, .val (.sl 2 (L.map rowAs))), (23, .val (.int .i64 (L.map rowAs).length)), (24, .val (.int .i64 i))], [(3, .cells 22 [.sl 3 (l.map rowRt)]), (5, .cells 3 [.int .i64 c])]⟩)
    (fun i asg => 0 ≤ i ∧ i ≤ L.length ∧ asg = asgL (L.take i.toNat) c) (fun i _ => (L.length - i).toNat) 0 [] ⟨by omega, by omega, rfl⟩ (St.Le.of (by repeat' (first | exact all_nil | refine all_cons rfl ?_)) (by repeat' (first | exact all_nil | refine all_cons rfl ?_))) ?_
  rintro i asg ⟨k1, k2, k3⟩
  have hal := asgL_le (L.take i.toNat) c
  rw [← k3, List.length_take] at hal
  have hiv := iv_length .i64 asg
  by_cases hi : i < L.length
  · obtain ⟨p, hp'⟩ := at_some k1 hi
    have hrow : (L.map rowAs)[i.toNat]? = some [.int .i64 p.1, .int .i64 p.2] := by simp [hp']
    have hst := asgL_take hp' k1 c
    rw [← k3] at hst
    by_cases hm : p.1 = c
    · rw [if_pos hm] at hst
      repeat' (first
        | (apply RunL.step; exact rfl; first | (apply op_nilVec (d := 12) 3 .i64; exact .inl rfl; exact rfl) | (apply op_allocV (d := 9) 1009 3 1; kernel_rfl; exact rfl; exact rfl; exact .inl rfl; exact .inl rfl; exact rfl) | (apply op_allocV (d := 13) 1013 3 1; kernel_rfl; exact rfl; exact rfl; exact .inl rfl; exact .inl rfl; exact rfl) | (apply op_loadV (τ := τ); exact rfl; exact rfl; exact Rd.of rfl; exact rfl) | (apply op_storeVec (τ := τ); exact rfl; exact rfl; exact rfl; exact rfl; exact Rd.of rfl; exact .inl rfl) | (apply op_appendV (τ := τ); exact rfl; exact rfl; exact rfl; exact rfl; exact rfl; exact Rd.of rfl; exact Rd.of rfl; exact rfl; ((try dsimp only); (try simp only [List.length_cons, List.length_nil]); omega); exact rfl; exact .inl rfl; exact rfl) | (apply op_lenV (τ := τ); exact rfl; exact rfl; exact Rd.of rfl; exact rfl) | (apply op_clo; exact rfl; exact rfl) | (apply op_lendAll; exact .cons (.vec (Rd.of rfl)) (.cons (.vec (Rd.of rfl)) (.cons (.clo (Rd.of rfl) (.cons (.box rfl) (.cons (.box rfl) (.cons (.vec (t := 9) rfl) (.cons (.vec (t := 13) rfl) .nil))))) .nil)); exact hp; exact rfl; exact rfl) | fail) | (apply RunL.step; exact rfl; apply op_ev (τ := τ); exact rfl; (first | exact hvd | exact hld); exact rfl) | (apply RunL.step; exact rfl; exact opA) | (apply RunL.hand; exact rfl; exact rfl; exact lenA; exact rfl) | (apply AWP.seq) | (apply AWP.region; exact rfl) | (apply AWP.block) | (apply AWP.skip) | (apply AWP.exit) | (apply AWP.retF; exact rfl; exact rfl; exact rfl; exact rfl; exact lenA; exact rfl) | (apply AWP.ret) | (apply RunL.nil) | (apply RunL.on; exact rfl; exact rfl; exact rfl; exact rfl; (first | exact rfl | assumption)) | (apply RunL.noU; exact rfl; exact rfl; exact rfl; exact rfl; exact rfl; exact rfl) | (apply RunL.no; exact rfl; exact rfl; exact rfl; exact rfl; (first | exact rfl | assumption); exact rfl; exact rfl) | (refine AWP.cond _ (Rd.of rfl) (fun hc => ?_) (fun hc => ?_) <;> first | (exfalso; cases hc; done) | (have hc' := hc; (try simp only [sc, reduceCtorEq, cmpOf] at hc'); try (exfalso; omega)))
        | (
         refine AWP.drawTA 6 (of_decide_eq_true (by kernel_rfl)) (by kernel_rfl) (by kernel_rfl) (by kernel_rfl) (by kernel_rfl) ?_
         repeat' (first
           | (apply DL.cons; apply ol_loadV (τ := τ); exact rfl; exact rfl; exact Rd.of rfl; exact rfl; exact rfl) | (apply DL.cons; (try (apply OpLoc.on; exact rfl; exact rfl; exact rfl; exact rfl; (first | exact rfl | assumption))); apply ol_ev (τ := τ); exact rfl; (first | exact hvd | exact hld); exact rfl; exact rfl) | (apply DL.cons; exact olA; exact rfl) | (apply DL.nil; kernel_rfl) | (refine DL.split rfl rfl rfl rfl (fun hb => ?_) (fun hb => ?_) <;> have hb' := hb <;> (try simp only [sc, reduceCtorEq, cmpOf] at hb') <;> try (exfalso; omega)))
         all_goals (fail_if_success apply DL.id))
        | (refine RunL.split rfl rfl rfl rfl (fun hb => ?_) (fun hb => ?_) <;> have hb' := hb <;> (try simp only [sc, reduceCtorEq, cmpOf] at hb') <;> try (exfalso; omega)) )
      all_goals
        exact ⟨_, _, St.Le.of (by repeat' (first | exact all_nil | refine all_cons rfl ?_)) (by repeat' (first | exact all_nil | refine all_cons rfl ?_)), ⟨by omega, by omega, hst.symm⟩, by omega⟩
    · rw [if_neg hm, List.append_nil] at hst
      repeat' (first
        | (apply RunL.step; exact rfl; first | (apply op_nilVec (d := 12) 3 .i64; exact .inl rfl; exact rfl) | (apply op_allocV (d := 9) 1009 3 1; kernel_rfl; exact rfl; exact rfl; exact .inl rfl; exact .inl rfl; exact rfl) | (apply op_allocV (d := 13) 1013 3 1; kernel_rfl; exact rfl; exact rfl; exact .inl rfl; exact .inl rfl; exact rfl) | (apply op_loadV (τ := τ); exact rfl; exact rfl; exact Rd.of rfl; exact rfl) | (apply op_storeVec (τ := τ); exact rfl; exact rfl; exact rfl; exact rfl; exact Rd.of rfl; exact .inl rfl) | (apply op_appendV (τ := τ); exact rfl; exact rfl; exact rfl; exact rfl; exact rfl; exact Rd.of rfl; exact Rd.of rfl; exact rfl; ((try dsimp only); (try simp only [List.length_cons, List.length_nil]); omega); exact rfl; exact .inl rfl; exact rfl) | (apply op_lenV (τ := τ); exact rfl; exact rfl; exact Rd.of rfl; exact rfl) | (apply op_clo; exact rfl; exact rfl) | (apply op_lendAll; exact .cons (.vec (Rd.of rfl)) (.cons (.vec (Rd.of rfl)) (.cons (.clo (Rd.of rfl) (.cons (.box rfl) (.cons (.box rfl) (.cons (.vec (t := 9) rfl) (.cons (.vec (t := 13) rfl) .nil))))) .nil)); exact hp; exact rfl; exact rfl) | fail) | (apply RunL.step; exact rfl; apply op_ev (τ := τ); exact rfl; (first | exact hvd | exact hld); exact rfl) | (apply RunL.step; exact rfl; exact opA) | (apply RunL.hand; exact rfl; exact rfl; exact lenA; exact rfl) | (apply AWP.seq) | (apply AWP.region; exact rfl) | (apply AWP.block) | (apply AWP.skip) | (apply AWP.exit) | (apply AWP.retF; exact rfl; exact rfl; exact rfl; exact rfl; exact lenA; exact rfl) | (apply AWP.ret) | (apply RunL.nil) | (apply RunL.on; exact rfl; exact rfl; exact rfl; exact rfl; (first | exact rfl | assumption)) | (apply RunL.noU; exact rfl; exact rfl; exact rfl; exact rfl; exact rfl; exact rfl) | (apply RunL.no; exact rfl; exact rfl; exact rfl; exact rfl; (first | exact rfl | assumption); exact rfl; exact rfl) | (refine AWP.cond _ (Rd.of rfl) (fun hc => ?_) (fun hc => ?_) <;> first | (exfalso; cases hc; done) | (have hc' := hc; (try simp only [sc, reduceCtorEq, cmpOf] at hc'); try (exfalso; omega)))
        | (
         refine AWP.drawTA 6 (of_decide_eq_true (by kernel_rfl)) (by kernel_rfl) (by kernel_rfl) (by kernel_rfl) (by kernel_rfl) ?_
         repeat' (first
           | (apply DL.cons; apply ol_loadV (τ := τ); exact rfl; exact rfl; exact Rd.of rfl; exact rfl; exact rfl) | (apply DL.cons; (try (apply OpLoc.on; exact rfl; exact rfl; exact rfl; exact rfl; (first | exact rfl | assumption))); apply ol_ev (τ := τ); exact rfl; (first | exact hvd | exact hld); exact rfl; exact rfl) | (apply DL.cons; exact olA; exact rfl) | (apply DL.nil; kernel_rfl) | (refine DL.split rfl rfl rfl rfl (fun hb => ?_) (fun hb => ?_) <;> have hb' := hb <;> (try simp only [sc, reduceCtorEq, cmpOf] at hb') <;> try (exfalso; omega)))
         all_goals (fail_if_success apply DL.id))
        | (refine RunL.split rfl rfl rfl rfl (fun hb => ?_) (fun hb => ?_) <;> have hb' := hb <;> (try simp only [sc, reduceCtorEq, cmpOf] at hb') <;> try (exfalso; omega)) )
      all_goals
        exact ⟨_, _, St.Le.of (by repeat' (first | exact all_nil | refine all_cons rfl ?_)) (by repeat' (first | exact all_nil | refine all_cons rfl ?_)), ⟨by omega, by omega, hst.symm⟩, by omega⟩
  · rw [List.take_of_length_le (by omega)] at k3
    by_cases h2 : asg.length = 2
    · rw [if_neg (by rw [← k3]; omega)] at hres
      repeat' (first
        | (apply RunL.step; exact rfl; first | (apply op_nilVec (d := 12) 3 .i64; exact .inl rfl; exact rfl) | (apply op_allocV (d := 9) 1009 3 1; kernel_rfl; exact rfl; exact rfl; exact .inl rfl; exact .inl rfl; exact rfl) | (apply op_allocV (d := 13) 1013 3 1; kernel_rfl; exact rfl; exact rfl; exact .inl rfl; exact .inl rfl; exact rfl) | (apply op_loadV (τ := τ); exact rfl; exact rfl; exact Rd.of rfl; exact rfl) | (apply op_storeVec (τ := τ); exact rfl; exact rfl; exact rfl; exact rfl; exact Rd.of rfl; exact .inl rfl) | (apply op_appendV (τ := τ); exact rfl; exact rfl; exact rfl; exact rfl; exact rfl; exact Rd.of rfl; exact Rd.of rfl; exact rfl; ((try dsimp only); (try simp only [List.length_cons, List.length_nil]); omega); exact rfl; exact .inl rfl; exact rfl) | (apply op_lenV (τ := τ); exact rfl; exact rfl; exact Rd.of rfl; exact rfl) | (apply op_clo; exact rfl; exact rfl) | (apply op_lendAll; exact .cons (.vec (Rd.of rfl)) (.cons (.vec (Rd.of rfl)) (.cons (.clo (Rd.of rfl) (.cons (.box rfl) (.cons (.box rfl) (.cons (.vec (t := 9) rfl) (.cons (.vec (t := 13) rfl) .nil))))) .nil)); exact hp; exact rfl; exact rfl) | fail) | (apply RunL.step; exact rfl; apply op_ev (τ := τ); exact rfl; (first | exact hvd | exact hld); exact rfl) | (apply RunL.step; exact rfl; exact opA) | (apply RunL.hand; exact rfl; exact rfl; exact lenA; exact rfl) | (apply AWP.seq) | (apply AWP.region; exact rfl) | (apply AWP.block) | (apply AWP.skip) | (apply AWP.exit) | (apply AWP.retF; exact rfl; exact rfl; exact rfl; exact rfl; exact lenA; exact rfl) | (apply AWP.ret) | (apply RunL.nil) | (apply RunL.on; exact rfl; exact rfl; exact rfl; exact rfl; (first | exact rfl | assumption)) | (apply RunL.noU; exact rfl; exact rfl; exact rfl; exact rfl; exact rfl; exact rfl) | (apply RunL.no; exact rfl; exact rfl; exact rfl; exact rfl; (first | exact rfl | assumption); exact rfl; exact rfl) | (refine AWP.cond _ (Rd.of rfl) (fun hc => ?_) (fun hc => ?_) <;> first | (exfalso; cases hc; done) | (have hc' := hc; (try simp only [sc, reduceCtorEq, cmpOf] at hc'); try (exfalso; omega)))
        | (
         refine AWP.drawTA 6 (of_decide_eq_true (by kernel_rfl)) (by kernel_rfl) (by kernel_rfl) (by kernel_rfl) (by kernel_rfl) ?_
         repeat' (first
           | (apply DL.cons; apply ol_loadV (τ := τ); exact rfl; exact rfl; exact Rd.of rfl; exact rfl; exact rfl) | (apply DL.cons; (try (apply OpLoc.on; exact rfl; exact rfl; exact rfl; exact rfl; (first | exact rfl | assumption))); apply ol_ev (τ := τ); exact rfl; (first | exact hvd | exact hld); exact rfl; exact rfl) | (apply DL.cons; exact olA; exact rfl) | (apply DL.nil; kernel_rfl) | (refine DL.split rfl rfl rfl rfl (fun hb => ?_) (fun hb => ?_) <;> have hb' := hb <;> (try simp only [sc, reduceCtorEq, cmpOf] at hb') <;> try (exfalso; omega)))
         all_goals (fail_if_success apply DL.id))
        | (refine RunL.split rfl rfl rfl rfl (fun hb => ?_) (fun hb => ?_) <;> have hb' := hb <;> (try simp only [sc, reduceCtorEq, cmpOf] at hb') <;> try (exfalso; omega)) )
      refine AWP.loop3 (fun (j : Int) (ord lds : List Int) => ⟨[(1, .val (.sl 2 (L.map rowAs))), (3, .pb 3 0), (5, .pb 5 0), (9, .pvec 9 30 1009 3 1 (iv .i64 asg)), (12, .vec 12 3 1 (iv .i64 ord)), (13, .pvec 13 30 1013 3 1 (iv .i64 lds)), (41, .val (.sl 3 (l.map rowRt))), (42, .val (.int .i64 (l.map rowRt).length)), (43, .val (.int .i64 j))], [(3, .cells 22 [.sl 3 (l.map rowRt)]), (5, .cells 3 [.int .i64 c])]⟩)
        (fun j ord lds => 0 ≤ j ∧ j ≤ l.length ∧ ord = iota j.toNat ∧ lds = LD (l.take j.toNat) L) (fun j _ _ => (l.length - j).toNat) 0 [] [] ⟨by omega, by omega, rfl, rfl⟩ (St.Le.of (by repeat' (first | exact all_nil | refine all_cons rfl ?_)) (by repeat' (first | exact all_nil | refine all_cons rfl ?_))) ?_
      rintro j ord lds ⟨j1, j2, j3, j4⟩
      have hol : ord.length = j.toNat := by rw [j3, iota_length]
      have hll : lds.length ≤ l.length := by rw [j4, LD_length, List.length_take]; omega
      by_cases hj : j < l.length
      · obtain ⟨p, hp'⟩ := at_some j1 hj
        have hrow : (l.map rowRt)[j.toNat]? = some [.int .i64 p.1, .int .i64 p.2.1, .ints .i64 p.2.2] := by simp [hp']
        have hld := kLoad L p.1
        have hst := LD_take (L := L) hp' j1
        rw [← j4] at hst
        have hso := iota_succ j.toNat
        rw [← j3, show ((j.toNat : Nat) : Int) = j by omega, show j.toNat + 1 = (j + 1).toNat by omega] at hso
        repeat' (first
          | (apply RunL.step; exact rfl; first | (apply op_nilVec (d := 12) 3 .i64; exact .inl rfl; exact rfl) | (apply op_allocV (d := 9) 1009 3 1; kernel_rfl; exact rfl; exact rfl; exact .inl rfl; exact .inl rfl; exact rfl) | (apply op_allocV (d := 13) 1013 3 1; kernel_rfl; exact rfl; exact rfl; exact .inl rfl; exact .inl rfl; exact rfl) | (apply op_loadV (τ := τ); exact rfl; exact rfl; exact Rd.of rfl; exact rfl) | (apply op_storeVec (τ := τ); exact rfl; exact rfl; exact rfl; exact rfl; exact Rd.of rfl; exact .inl rfl) | (apply op_appendV (τ := τ); exact rfl; exact rfl; exact rfl; exact rfl; exact rfl; exact Rd.of rfl; exact Rd.of rfl; exact rfl; ((try dsimp only); (try simp only [List.length_cons, List.length_nil]); omega); exact rfl; exact .inl rfl; exact rfl) | (apply op_lenV (τ := τ); exact rfl; exact rfl; exact Rd.of rfl; exact rfl) | (apply op_clo; exact rfl; exact rfl) | (apply op_lendAll; exact .cons (.vec (Rd.of rfl)) (.cons (.vec (Rd.of rfl)) (.cons (.clo (Rd.of rfl) (.cons (.box rfl) (.cons (.box rfl) (.cons (.vec (t := 9) rfl) (.cons (.vec (t := 13) rfl) .nil))))) .nil)); exact hp; exact rfl; exact rfl) | fail) | (apply RunL.step; exact rfl; apply op_ev (τ := τ); exact rfl; (first | exact hvd | exact hld); exact rfl) | (apply RunL.step; exact rfl; exact opA) | (apply RunL.hand; exact rfl; exact rfl; exact lenA; exact rfl) | (apply AWP.seq) | (apply AWP.region; exact rfl) | (apply AWP.block) | (apply AWP.skip) | (apply AWP.exit) | (apply AWP.retF; exact rfl; exact rfl; exact rfl; exact rfl; exact lenA; exact rfl) | (apply AWP.ret) | (apply RunL.nil) | (apply RunL.on; exact rfl; exact rfl; exact rfl; exact rfl; (first | exact rfl | assumption)) | (apply RunL.noU; exact rfl; exact rfl; exact rfl; exact rfl; exact rfl; exact rfl) | (apply RunL.no; exact rfl; exact rfl; exact rfl; exact rfl; (first | exact rfl | assumption); exact rfl; exact rfl) | (refine AWP.cond _ (Rd.of rfl) (fun hc => ?_) (fun hc => ?_) <;> first | (exfalso; cases hc; done) | (have hc' := hc; (try simp only [sc, reduceCtorEq, cmpOf] at hc'); try (exfalso; omega)))
          | (
           refine AWP.drawTA 6 (of_decide_eq_true (by kernel_rfl)) (by kernel_rfl) (by kernel_rfl) (by kernel_rfl) (by kernel_rfl) ?_
           repeat' (first
             | (apply DL.cons; apply ol_loadV (τ := τ); exact rfl; exact rfl; exact Rd.of rfl; exact rfl; exact rfl) | (apply DL.cons; (try (apply OpLoc.on; exact rfl; exact rfl; exact rfl; exact rfl; (first | exact rfl | assumption))); apply ol_ev (τ := τ); exact rfl; (first | exact hvd | exact hld); exact rfl; exact rfl) | (apply DL.cons; exact olA; exact rfl) | (apply DL.nil; kernel_rfl) | (refine DL.split rfl rfl rfl rfl (fun hb => ?_) (fun hb => ?_) <;> have hb' := hb <;> (try simp only [sc, reduceCtorEq, cmpOf] at hb') <;> try (exfalso; omega)))
           all_goals (fail_if_success apply DL.id))
          | (refine RunL.split rfl rfl rfl rfl (fun hb => ?_) (fun hb => ?_) <;> have hb' := hb <;> (try simp only [sc, reduceCtorEq, cmpOf] at hb') <;> try (exfalso; omega)) )
        all_goals
          exact ⟨j + 1, _, _, St.Le.of (by repeat' (first | exact all_nil | refine all_cons rfl ?_)) (by repeat' (first | exact all_nil | refine all_cons rfl ?_)), ⟨by omega, by omega, hso.symm, hst.symm⟩, by omega⟩
      · rw [show j.toNat = l.length by omega] at j3 j4
        rw [List.take_of_length_le (Nat.le_refl _)] at j4
        rw [← j3, ← j4, ← k3] at hp
        by_cases hneg : thirdP l L c < 0
        · rw [if_pos hneg] at hres
          subst hres
          generalize thirdP l L c = t at *
          repeat' (first
            | (apply RunL.step; exact rfl; first | (apply op_nilVec (d := 12) 3 .i64; exact .inl rfl; exact rfl) | (apply op_allocV (d := 9) 1009 3 1; kernel_rfl; exact rfl; exact rfl; exact .inl rfl; exact .inl rfl; exact rfl) | (apply op_allocV (d := 13) 1013 3 1; kernel_rfl; exact rfl; exact rfl; exact .inl rfl; exact .inl rfl; exact rfl) | (apply op_loadV (τ := τ); exact rfl; exact rfl; exact Rd.of rfl; exact rfl) | (apply op_storeVec (τ := τ); exact rfl; exact rfl; exact rfl; exact rfl; exact Rd.of rfl; exact .inl rfl) | (apply op_appendV (τ := τ); exact rfl; exact rfl; exact rfl; exact rfl; exact rfl; exact Rd.of rfl; exact Rd.of rfl; exact rfl; ((try dsimp only); (try simp only [List.length_cons, List.length_nil]); omega); exact rfl; exact .inl rfl; exact rfl) | (apply op_lenV (τ := τ); exact rfl; exact rfl; exact Rd.of rfl; exact rfl) | (apply op_clo; exact rfl; exact rfl) | (apply op_lendAll; exact .cons (.vec (Rd.of rfl)) (.cons (.vec (Rd.of rfl)) (.cons (.clo (Rd.of rfl) (.cons (.box rfl) (.cons (.box rfl) (.cons (.vec (t := 9) rfl) (.cons (.vec (t := 13) rfl) .nil))))) .nil)); exact hp; exact rfl; exact rfl) | fail) | (apply RunL.step; exact rfl; apply op_ev (τ := τ); exact rfl; (first | exact hvd | exact hld); exact rfl) | (apply RunL.step; exact rfl; exact opA) | (apply RunL.hand; exact rfl; exact rfl; exact lenA; exact rfl) | (apply AWP.seq) | (apply AWP.region; exact rfl) | (apply AWP.block) | (apply AWP.skip) | (apply AWP.exit) | (apply AWP.retF; exact rfl; exact rfl; exact rfl; exact rfl; exact lenA; exact rfl) | (apply AWP.ret) | (apply RunL.nil) | (apply RunL.on; exact rfl; exact rfl; exact rfl; exact rfl; (first | exact rfl | assumption)) | (apply RunL.noU; exact rfl; exact rfl; exact rfl; exact rfl; exact rfl; exact rfl) | (apply RunL.no; exact rfl; exact rfl; exact rfl; exact rfl; (first | exact rfl | assumption); exact rfl; exact rfl) | (refine AWP.cond _ (Rd.of rfl) (fun hc => ?_) (fun hc => ?_) <;> first | (exfalso; cases hc; done) | (have hc' := hc; (try simp only [sc, reduceCtorEq, cmpOf] at hc'); try (exfalso; omega)))
            | (
             refine AWP.drawTA 6 (of_decide_eq_true (by kernel_rfl)) (by kernel_rfl) (by kernel_rfl) (by kernel_rfl) (by kernel_rfl) ?_
             repeat' (first
               | (apply DL.cons; apply ol_loadV (τ := τ); exact rfl; exact rfl; exact Rd.of rfl; exact rfl; exact rfl) | (apply DL.cons; (try (apply OpLoc.on; exact rfl; exact rfl; exact rfl; exact rfl; (first | exact rfl | assumption))); apply ol_ev (τ := τ); exact rfl; (first | exact hvd | exact hld); exact rfl; exact rfl) | (apply DL.cons; exact olA; exact rfl) | (apply DL.nil; kernel_rfl) | (refine DL.split rfl rfl rfl rfl (fun hb => ?_) (fun hb => ?_) <;> have hb' := hb <;> (try simp only [sc, reduceCtorEq, cmpOf] at hb') <;> try (exfalso; omega)))
             all_goals (fail_if_success apply DL.id))
            | (refine RunL.split rfl rfl rfl rfl (fun hb => ?_) (fun hb => ?_) <;> have hb' := hb <;> (try simp only [sc, reduceCtorEq, cmpOf] at hb') <;> try (exfalso; omega)) )
          all_goals
            apply Ends.mk (.cons (.tmp rfl) (.cons (.tmp rfl) .nil))
            first | done | rfl
        · rw [if_neg hneg] at hres
          obtain ⟨q, hq⟩ := at_some (l := l) (i := thirdP l L c) (by omega) (by omega)
          rw [atR_of hq] at hres
          have hrowq : (l.map rowRt)[(thirdP l L c).toNat]? = some [.int .i64 q.1, .int .i64 q.2.1, .ints .i64 q.2.2] := by rw [List.getElem?_map, hq]; rfl
          subst hres
          generalize thirdP l L c = t at *
          repeat' (first
            | (apply RunL.step; exact rfl; first | (apply op_nilVec (d := 12) 3 .i64; exact .inl rfl; exact rfl) | (apply op_allocV (d := 9) 1009 3 1; kernel_rfl; exact rfl; exact rfl; exact .inl rfl; exact .inl rfl; exact rfl) | (apply op_allocV (d := 13) 1013 3 1; kernel_rfl; exact rfl; exact rfl; exact .inl rfl; exact .inl rfl; exact rfl) | (apply op_loadV (τ := τ); exact rfl; exact rfl; exact Rd.of rfl; exact rfl) | (apply op_storeVec (τ := τ); exact rfl; exact rfl; exact rfl; exact rfl; exact Rd.of rfl; exact .inl rfl) | (apply op_appendV (τ := τ); exact rfl; exact rfl; exact rfl; exact rfl; exact rfl; exact Rd.of rfl; exact Rd.of rfl; exact rfl; ((try dsimp only); (try simp only [List.length_cons, List.length_nil]); omega); exact rfl; exact .inl rfl; exact rfl) | (apply op_lenV (τ := τ); exact rfl; exact rfl; exact Rd.of rfl; exact rfl) | (apply op_clo; exact rfl; exact rfl) | (apply op_lendAll; exact .cons (.vec (Rd.of rfl)) (.cons (.vec (Rd.of rfl)) (.cons (.clo (Rd.of rfl) (.cons (.box rfl) (.cons (.box rfl) (.cons (.vec (t := 9) rfl) (.cons (.vec (t := 13) rfl) .nil))))) .nil)); exact hp; exact rfl; exact rfl) | fail) | (apply RunL.step; exact rfl; apply op_ev (τ := τ); exact rfl; (first | exact hvd | exact hld); exact rfl) | (apply RunL.step; exact rfl; exact opA) | (apply RunL.hand; exact rfl; exact rfl; exact lenA; exact rfl) | (apply AWP.seq) | (apply AWP.region; exact rfl) | (apply AWP.block) | (apply AWP.skip) | (apply AWP.exit) | (apply AWP.retF; exact rfl; exact rfl; exact rfl; exact rfl; exact lenA; exact rfl) | (apply AWP.ret) | (apply RunL.nil) | (apply RunL.on; exact rfl; exact rfl; exact rfl; exact rfl; (first | exact rfl | assumption)) | (apply RunL.noU; exact rfl; exact rfl; exact rfl; exact rfl; exact rfl; exact rfl) | (apply RunL.no; exact rfl; exact rfl; exact rfl; exact rfl; (first | exact rfl | assumption); exact rfl; exact rfl) | (refine AWP.cond _ (Rd.of rfl) (fun hc => ?_) (fun hc => ?_) <;> first | (exfalso; cases hc; done) | (have hc' := hc; (try simp only [sc, reduceCtorEq, cmpOf] at hc'); try (exfalso; omega)))
            | (
             refine AWP.drawTA 6 (of_decide_eq_true (by kernel_rfl)) (by kernel_rfl) (by kernel_rfl) (by kernel_rfl) (by kernel_rfl) ?_
             repeat' (first
               | (apply DL.cons; apply ol_loadV (τ := τ); exact rfl; exact rfl; exact Rd.of rfl; exact rfl; exact rfl) | (apply DL.cons; (try (apply OpLoc.on; exact rfl; exact rfl; exact rfl; exact rfl; (first | exact rfl | assumption))); apply ol_ev (τ := τ); exact rfl; (first | exact hvd | exact hld); exact rfl; exact rfl) | (apply DL.cons; exact olA; exact rfl) | (apply DL.nil; kernel_rfl) | (refine DL.split rfl rfl rfl rfl (fun hb => ?_) (fun hb => ?_) <;> have hb' := hb <;> (try simp only [sc, reduceCtorEq, cmpOf] at hb') <;> try (exfalso; omega)))
             all_goals (fail_if_success apply DL.id))
            | (refine RunL.split rfl rfl rfl rfl (fun hb => ?_) (fun hb => ?_) <;> have hb' := hb <;> (try simp only [sc, reduceCtorEq, cmpOf] at hb') <;> try (exfalso; omega)) )
          all_goals
            apply Ends.mk (.cons (.tmp rfl) (.cons (.tmp rfl) .nil))
            first | done | rfl
    · rw [if_pos (by rw [← k3]; omega)] at hres
      subst hres
      repeat' (first
        | (apply RunL.step; exact rfl; first | (apply op_nilVec (d := 12) 3 .i64; exact .inl rfl; exact rfl) | (apply op_allocV (d := 9) 1009 3 1; kernel_rfl; exact rfl; exact rfl; exact .inl rfl; exact .inl rfl; exact rfl) | (apply op_allocV (d := 13) 1013 3 1; kernel_rfl; exact rfl; exact rfl; exact .inl rfl; exact .inl rfl; exact rfl) | (apply op_loadV (τ := τ); exact rfl; exact rfl; exact Rd.of rfl; exact rfl) | (apply op_storeVec (τ := τ); exact rfl; exact rfl; exact rfl; exact rfl; exact Rd.of rfl; exact .inl rfl) | (apply op_appendV (τ := τ); exact rfl; exact rfl; exact rfl; exact rfl; exact rfl; exact Rd.of rfl; exact Rd.of rfl; exact rfl; ((try dsimp only); (try simp only [List.length_cons, List.length_nil]); omega); exact rfl; exact .inl rfl; exact rfl) | (apply op_lenV (τ := τ); exact rfl; exact rfl; exact Rd.of rfl; exact rfl) | (apply op_clo; exact rfl; exact rfl) | (apply op_lendAll; exact .cons (.vec (Rd.of rfl)) (.cons (.vec (Rd.of rfl)) (.cons (.clo (Rd.of rfl) (.cons (.box rfl) (.cons (.box rfl) (.cons (.vec (t := 9) rfl) (.cons (.vec (t := 13) rfl) .nil))))) .nil)); exact hp; exact rfl; exact rfl) | fail) | (apply RunL.step; exact rfl; apply op_ev (τ := τ); exact rfl; (first | exact hvd | exact hld); exact rfl) | (apply RunL.step; exact rfl; exact opA) | (apply RunL.hand; exact rfl; exact rfl; exact lenA; exact rfl) | (apply AWP.seq) | (apply AWP.region; exact rfl) | (apply AWP.block) | (apply AWP.skip) | (apply AWP.exit) | (apply AWP.retF; exact rfl; exact rfl; exact rfl; exact rfl; exact lenA; exact rfl) | (apply AWP.ret) | (apply RunL.nil) | (apply RunL.on; exact rfl; exact rfl; exact rfl; exact rfl; (first | exact rfl | assumption)) | (apply RunL.noU; exact rfl; exact rfl; exact rfl; exact rfl; exact rfl; exact rfl) | (apply RunL.no; exact rfl; exact rfl; exact rfl; exact rfl; (first | exact rfl | assumption); exact rfl; exact rfl) | (refine AWP.cond _ (Rd.of rfl) (fun hc => ?_) (fun hc => ?_) <;> first | (exfalso; cases hc; done) | (have hc' := hc; (try simp only [sc, reduceCtorEq, cmpOf] at hc'); try (exfalso; omega)))
        | (
         refine AWP.drawTA 6 (of_decide_eq_true (by kernel_rfl)) (by kernel_rfl) (by kernel_rfl) (by kernel_rfl) (by kernel_rfl) ?_
         repeat' (first
           | (apply DL.cons; apply ol_loadV (τ := τ); exact rfl; exact rfl; exact Rd.of rfl; exact rfl; exact rfl) | (apply DL.cons; (try (apply OpLoc.on; exact rfl; exact rfl; exact rfl; exact rfl; (first | exact rfl | assumption))); apply ol_ev (τ := τ); exact rfl; (first | exact hvd | exact hld); exact rfl; exact rfl) | (apply DL.cons; exact olA; exact rfl) | (apply DL.nil; kernel_rfl) | (refine DL.split rfl rfl rfl rfl (fun hb => ?_) (fun hb => ?_) <;> have hb' := hb <;> (try simp only [sc, reduceCtorEq, cmpOf] at hb') <;> try (exfalso; omega)))
         all_goals (fail_if_success apply DL.id))
        | (refine RunL.split rfl rfl rfl rfl (fun hb => ?_) (fun hb => ?_) <;> have hb' := hb <;> (try simp only [sc, reduceCtorEq, cmpOf] at hb') <;> try (exfalso; omega)) )
      all_goals
        apply Ends.mk (.cons (.tmp rfl) (.cons (.tmp rfl) .nil))
        first | done | rfl
end Go.Proofs.YtmefecfkajjajaaDoor.K
namespace Go.Proofs.YtmefecfkajjajaaDoor.K
open Go Go.RowKit
set_option linter.unusedVariables false
set_option linter.unusedSimpArgs false

theorem rassigned (L : List As) (c id : Int) : Evals Tryd.prog 53 [.sl 2 (L.map rowAs), .int .i64 c, .int .i64 id] (.bool (decide (id ∈ asgL L c))) := by
  refine evals_of_awp Tryd.func53 rfl (CallOK.of Tryd.func53 (by kernel_rfl) rfl) (Nat.le_of_ble_eq_true rfl) ?_
  rintro w R hR ⟨vs, hv⟩
  have hmL : (L.map rowAs).length = L.length := by simp
  have hlen := hv.slen 0 rfl
  repeat' (first
    | (apply RunL.step; exact rfl; exact opA) | (apply RunL.hand; exact rfl; exact rfl; exact lenA; exact rfl) | (apply AWP.seq) | (apply AWP.region; exact rfl) | (apply AWP.block) | (apply AWP.skip) | (apply AWP.exit) | (apply AWP.retF; exact rfl; exact rfl; exact rfl; exact rfl; exact lenA; exact rfl) | (apply AWP.ret) | (apply RunL.nil) | (apply RunL.on; exact rfl; exact rfl; exact rfl; exact rfl; (first | exact rfl | assumption)) | (apply RunL.noU; exact rfl; exact rfl; exact rfl; exact rfl; exact rfl; exact rfl) | (apply RunL.no; exact rfl; exact rfl; exact rfl; exact rfl; (first | exact rfl | assumption); exact rfl; exact rfl) | (refine AWP.cond _ (Rd.of rfl) (fun hc => ?_) (fun hc => ?_) <;> first | (exfalso; cases hc; done) | (have hc' := hc; (try simp only [sc, reduceCtorEq, cmpOf] at hc'); try (exfalso; omega)))
    | (
     apply AWP.drawA
     repeat' (first
       | (apply DL.cons; (try (apply OpLoc.on; exact rfl; exact rfl; exact rfl; exact rfl; (first | exact rfl | assumption))); apply ol_ev (τ := τ); exact rfl; (fail); exact rfl; exact rfl) | (apply DL.cons; exact olA; exact rfl) | (apply DL.nil; kernel_rfl) | (refine DL.split rfl rfl rfl rfl (fun hb => ?_) (fun hb => ?_) <;> have hb' := hb <;> (try simp only [sc, reduceCtorEq, cmpOf] at hb') <;> try (exfalso; omega)))
     all_goals (fail_if_success apply DL.id))
    | (refine RunL.split rfl rfl rfl rfl (fun hb => ?_) (fun hb => ?_) <;> have hb' := hb <;> (try simp only [sc, reduceCtorEq, cmpOf] at hb') <;> try (exfalso; omega)) )
  refine AWP.loop (ι := Int) (fun i => ⟨[(0, .val (.sl 2 (L.map rowAs))), (1, .val (.int .i64 c)), (2, .val (.int .i64 id)), (7, .val (.int .i64 i))], []⟩) (fun i => 0 ≤ i ∧ i ≤ L.length ∧ ∀ j : Nat, (j : Int) < i → ∀ p, L[j]? = some p → p ≠ (c, id)) (fun i => (L.length - i).toNat) 0 ⟨by omega, by omega, fun j hj => by omega⟩ (St.Le.of (by repeat' (first | exact all_nil | refine all_cons rfl ?_)) (by repeat' (first | exact all_nil | refine all_cons rfl ?_))) ?_
  rintro i ⟨k1, k2, k3⟩
  by_cases hi : i < L.length
  · obtain ⟨⟨p1, p2⟩, hp⟩ := at_some k1 hi
    have hrow : (L.map rowAs)[i.toNat]? = some [.int .i64 p1, .int .i64 p2] := by simp [hp]
    by_cases hm : p1 = c ∧ p2 = id
    · obtain ⟨rfl, rfl⟩ := hm
      rw [decide_eq_true (p := p2 ∈ asgL L p1) (mem_asgL.2 (List.mem_of_getElem? hp))]
      repeat' (first
        | (apply RunL.step; exact rfl; exact opA) | (apply RunL.hand; exact rfl; exact rfl; exact lenA; exact rfl) | (apply AWP.seq) | (apply AWP.region; exact rfl) | (apply AWP.block) | (apply AWP.skip) | (apply AWP.exit) | (apply AWP.retF; exact rfl; exact rfl; exact rfl; exact rfl; exact lenA; exact rfl) | (apply AWP.ret) | (apply RunL.nil) | (apply RunL.on; exact rfl; exact rfl; exact rfl; exact rfl; (first | exact rfl | assumption)) | (apply RunL.noU; exact rfl; exact rfl; exact rfl; exact rfl; exact rfl; exact rfl) | (apply RunL.no; exact rfl; exact rfl; exact rfl; exact rfl; (first | exact rfl | assumption); exact rfl; exact rfl) | (refine AWP.cond _ (Rd.of rfl) (fun hc => ?_) (fun hc => ?_) <;> first | (exfalso; cases hc; done) | (have hc' := hc; (try simp only [sc, reduceCtorEq, cmpOf] at hc'); try (exfalso; omega)))
        | (
         apply AWP.drawA
         repeat' (first
           | (apply DL.cons; (try (apply OpLoc.on; exact rfl; exact rfl; exact rfl; exact rfl; (first | exact rfl | assumption))); apply ol_ev (τ := τ); exact rfl; (fail); exact rfl; exact rfl) | (apply DL.cons; exact olA; exact rfl) | (apply DL.nil; kernel_rfl) | (refine DL.split rfl rfl rfl rfl (fun hb => ?_) (fun hb => ?_) <;> have hb' := hb <;> (try simp only [sc, reduceCtorEq, cmpOf] at hb') <;> try (exfalso; omega)))
         all_goals (fail_if_success apply DL.id))
        | (refine RunL.split rfl rfl rfl rfl (fun hb => ?_) (fun hb => ?_) <;> have hb' := hb <;> (try simp only [sc, reduceCtorEq, cmpOf] at hb') <;> try (exfalso; omega)) )
      all_goals
        first   | (apply Ends.mk (.cons (.tmp rfl) .nil); first | rfl | (simp only [pack]; congr 1; simp only [cmpOf, decide_eq_true_eq, beq_iff_eq, bne_iff_ne]; omega))   | (apply Ends.mk (.cons (.tmp rfl) .nil); simp only [pack]; congr 1; simp only [cmpOf, sc]; omega)   | (exfalso; first | omega | (simp only [*, Bool.true_eq_false, Bool.false_eq_true, reduceCtorEq] at *; done) | grind)
    · have hup : ∀ j : Nat, (j : Int) < i + 1 → ∀ p, L[j]? = some p → p ≠ (c, id) := fun j hj q hq e => by
        by_cases e2 : (j : Int) < i
        · exact k3 j e2 q hq e
        · rw [show j = i.toNat by omega, hp] at hq
          cases hq
          cases e
          exact hm ⟨rfl, rfl⟩
      by_cases h1 : p1 = c
      · have h2 : ¬ p2 = id := fun h => hm ⟨h1, h⟩
        repeat' (first
          | (apply RunL.step; exact rfl; exact opA) | (apply RunL.hand; exact rfl; exact rfl; exact lenA; exact rfl) | (apply AWP.seq) | (apply AWP.region; exact rfl) | (apply AWP.block) | (apply AWP.skip) | (apply AWP.exit) | (apply AWP.retF; exact rfl; exact rfl; exact rfl; exact rfl; exact lenA; exact rfl) | (apply AWP.ret) | (apply RunL.nil) | (apply RunL.on; exact rfl; exact rfl; exact rfl; exact rfl; (first | exact rfl | assumption)) | (apply RunL.noU; exact rfl; exact rfl; exact rfl; exact rfl; exact rfl; exact rfl) | (apply RunL.no; exact rfl; exact rfl; exact rfl; exact rfl; (first | exact rfl | assumption); exact rfl; exact rfl) | (refine AWP.cond _ (Rd.of rfl) (fun hc => ?_) (fun hc => ?_) <;> first | (exfalso; cases hc; done) | (have hc' := hc; (try simp only [sc, reduceCtorEq, cmpOf] at hc'); try (exfalso; omega)))
          | (
           apply AWP.drawA
           repeat' (first
             | (apply DL.cons; (try (apply OpLoc.on; exact rfl; exact rfl; exact rfl; exact rfl; (first | exact rfl | assumption))); apply ol_ev (τ := τ); exact rfl; (fail); exact rfl; exact rfl) | (apply DL.cons; exact olA; exact rfl) | (apply DL.nil; kernel_rfl) | (refine DL.split rfl rfl rfl rfl (fun hb => ?_) (fun hb => ?_) <;> have hb' := hb <;> (try simp only [sc, reduceCtorEq, cmpOf] at hb') <;> try (exfalso; omega)))
           all_goals (fail_if_success apply DL.id))
          | (refine RunL.split rfl rfl rfl rfl (fun hb => ?_) (fun hb => ?_) <;> have hb' := hb <;> (try simp only [sc, reduceCtorEq, cmpOf] at hb') <;> try (exfalso; omega)) )
        all_goals
          exact ⟨_, St.Le.of (by repeat' (first | exact all_nil | refine all_cons rfl ?_)) (by repeat' (first | exact all_nil | refine all_cons rfl ?_)), ⟨by omega, by omega, hup⟩, by omega⟩
      · repeat' (first
        | (apply RunL.step; exact rfl; exact opA) | (apply RunL.hand; exact rfl; exact rfl; exact lenA; exact rfl) | (apply AWP.seq) | (apply AWP.region; exact rfl) | (apply AWP.block) | (apply AWP.skip) | (apply AWP.exit) | (apply AWP.retF; exact rfl; exact rfl; exact rfl; exact rfl; exact lenA; exact rfl) | (apply AWP.ret) | (apply RunL.nil) | (apply RunL.on; exact rfl; exact rfl; exact rfl; exact rfl; (first | exact rfl | assumption)) | (apply RunL.noU; exact rfl; exact rfl; exact rfl; exact rfl; exact rfl; exact rfl) | (apply RunL.no; exact rfl; exact rfl; exact rfl; exact rfl; (first | exact rfl | assumption); exact rfl; exact rfl) | (refine AWP.cond _ (Rd.of rfl) (fun hc => ?_) (fun hc => ?_) <;> first | (exfalso; cases hc; done) | (have hc' := hc; (try simp only [sc, reduceCtorEq, cmpOf] at hc'); try (exfalso; omega)))
        | (
         apply AWP.drawA
         repeat' (first
           | (apply DL.cons; (try (apply OpLoc.on; exact rfl; exact rfl; exact rfl; exact rfl; (first | exact rfl | assumption))); apply ol_ev (τ := τ); exact rfl; (fail); exact rfl; exact rfl) | (apply DL.cons; exact olA; exact rfl) | (apply DL.nil; kernel_rfl) | (refine DL.split rfl rfl rfl rfl (fun hb => ?_) (fun hb => ?_) <;> have hb' := hb <;> (try simp only [sc, reduceCtorEq, cmpOf] at hb') <;> try (exfalso; omega)))
         all_goals (fail_if_success apply DL.id))
        | (refine RunL.split rfl rfl rfl rfl (fun hb => ?_) (fun hb => ?_) <;> have hb' := hb <;> (try simp only [sc, reduceCtorEq, cmpOf] at hb') <;> try (exfalso; omega)) )
        all_goals
          exact ⟨_, St.Le.of (by repeat' (first | exact all_nil | refine all_cons rfl ?_)) (by repeat' (first | exact all_nil | refine all_cons rfl ?_)), ⟨by omega, by omega, hup⟩, by omega⟩
  · rw [decide_eq_false (p := id ∈ asgL L c) (fun h => by
      obtain ⟨j, hj, e⟩ := List.mem_iff_getElem.1 (mem_asgL.1 h)
      exact k3 j (by omega) _ (by simp [hj]) e)]
    repeat' (first
      | (apply RunL.step; exact rfl; exact opA) | (apply RunL.hand; exact rfl; exact rfl; exact lenA; exact rfl) | (apply AWP.seq) | (apply AWP.region; exact rfl) | (apply AWP.block) | (apply AWP.skip) | (apply AWP.exit) | (apply AWP.retF; exact rfl; exact rfl; exact rfl; exact rfl; exact lenA; exact rfl) | (apply AWP.ret) | (apply RunL.nil) | (apply RunL.on; exact rfl; exact rfl; exact rfl; exact rfl; (first | exact rfl | assumption)) | (apply RunL.noU; exact rfl; exact rfl; exact rfl; exact rfl; exact rfl; exact rfl) | (apply RunL.no; exact rfl; exact rfl; exact rfl; exact rfl; (first | exact rfl | assumption); exact rfl; exact rfl) | (refine AWP.cond _ (Rd.of rfl) (fun hc => ?_) (fun hc => ?_) <;> first | (exfalso; cases hc; done) | (have hc' := hc; (try simp only [sc, reduceCtorEq, cmpOf] at hc'); try (exfalso; omega)))
      | (
       apply AWP.drawA
       repeat' (first
         | (apply DL.cons; (try (apply OpLoc.on; exact rfl; exact rfl; exact rfl; exact rfl; (first | exact rfl | assumption))); apply ol_ev (τ := τ); exact rfl; (fail); exact rfl; exact rfl) | (apply DL.cons; exact olA; exact rfl) | (apply DL.nil; kernel_rfl) | (refine DL.split rfl rfl rfl rfl (fun hb => ?_) (fun hb => ?_) <;> have hb' := hb <;> (try simp only [sc, reduceCtorEq, cmpOf] at hb') <;> try (exfalso; omega)))
       all_goals (fail_if_success apply DL.id))
      | (refine RunL.split rfl rfl rfl rfl (fun hb => ?_) (fun hb => ?_) <;> have hb' := hb <;> (try simp only [sc, reduceCtorEq, cmpOf] at hb') <;> try (exfalso; omega)) )
    all_goals
      first   | (apply Ends.mk (.cons (.tmp rfl) .nil); first | rfl | (simp only [pack]; congr 1; simp only [cmpOf, decide_eq_true_eq, beq_iff_eq, bne_iff_ne]; omega))   | (apply Ends.mk (.cons (.tmp rfl) .nil); simp only [pack]; congr 1; simp only [cmpOf, sc]; omega)   | (exfalso; first | omega | (simp only [*, Bool.true_eq_false, Bool.false_eq_true, reduceCtorEq] at *; done) | grind)
theorem rThirdV (l : List Rt) (L : List As) (c : Int) (hv : validE l ≠ 0) : Evals Tryd.prog 28 [.sl 3 (l.map rowRt), .sl 2 (L.map rowAs), .int .i64 c] (.tup [.int .i64 0, .int .i64 (validE l)]) := by
  have hvd := rValid l
  generalize validE l = e at *
  refine evals_of_awp Tryd.func28 rfl (CallOK.of Tryd.func28 (by kernel_rfl) rfl) (Nat.le_of_ble_eq_true rfl) ?_
  rintro w R hR ⟨vs, hv⟩
  repeat' (first
    | (apply RunL.step; exact rfl; apply op_ev (τ := τ); exact rfl; (first | exact hvd | exact hld | exact hlb | exact hmay | exact has); exact rfl) | (apply RunL.step; exact rfl; exact opA) | (apply RunL.hand; exact rfl; exact rfl; exact lenA; exact rfl) | (apply AWP.seq) | (apply AWP.region; exact rfl) | (apply AWP.block) | (apply AWP.skip) | (apply AWP.exit) | (apply AWP.retF; exact rfl; exact rfl; exact rfl; exact rfl; exact lenA; exact rfl) | (apply AWP.ret) | (apply RunL.nil) | (apply RunL.on; exact rfl; exact rfl; exact rfl; exact rfl; (first | exact rfl | assumption)) | (apply RunL.noU; exact rfl; exact rfl; exact rfl; exact rfl; exact rfl; exact rfl) | (apply RunL.no; exact rfl; exact rfl; exact rfl; exact rfl; (first | exact rfl | assumption); exact rfl; exact rfl) | (refine AWP.cond _ (Rd.of rfl) (fun hc => ?_) (fun hc => ?_) <;> first | (exfalso; cases hc; done) | (have hc' := hc; (try simp only [sc, reduceCtorEq, cmpOf] at hc'); try (exfalso; omega)))
    | (
     apply AWP.drawA
     repeat' (first
       | (apply DL.cons; (try (apply OpLoc.on; exact rfl; exact rfl; exact rfl; exact rfl; (first | exact rfl | assumption))); apply ol_ev (τ := τ); exact rfl; (first | exact hvd | exact hld | exact hlb | exact hmay | exact has); exact rfl; exact rfl) | (apply DL.cons; exact olA; exact rfl) | (apply DL.nil; kernel_rfl) | (refine DL.split rfl rfl rfl rfl (fun hb => ?_) (fun hb => ?_) <;> have hb' := hb <;> (try simp only [sc, reduceCtorEq, cmpOf] at hb') <;> try (exfalso; omega)))
     all_goals (fail_if_success apply DL.id))
    | (refine RunL.split rfl rfl rfl rfl (fun hb => ?_) (fun hb => ?_) <;> have hb' := hb <;> (try simp only [sc, reduceCtorEq, cmpOf] at hb') <;> try (exfalso; omega)) )
  all_goals
    apply Ends.mk (.cons (.tmp rfl) (.cons (.tmp rfl) .nil))
    first | done | rfl
theorem iota_take {n : Nat} {j : Int} (h0 : 0 ≤ j) (h : j ≤ n) : (iota n).take j.toNat = iota j.toNat := by
  apply List.ext_getElem?
  intro k
  rw [List.getElem?_take]
  by_cases e : k < j.toNat
  · rw [if_pos e, iota_at (by omega), iota_at e]
  · rw [if_neg e, List.getElem?_eq_none (by rw [iota_length]; omega)]
theorem iota_ix {n : Nat} {j : Int} (h0 : 0 ≤ j) (h : j < n) : ix (iota n) j = j := by
  have := iota_at (n := n) (i := j.toNat) (by omega)
  simp only [ix, List.getD_eq_getElem?_getD, this]
  simp; omega
set_option maxHeartbeats 4000000 in
theorem rThird1 (l : List Rt) (L : List As) (c : Int) (hb : L.length ≤ 8796093022207) (hv0 : validE l = 0) : Evals Tryd.prog 28 [.sl 3 (l.map rowRt), .sl 2 (L.map rowAs), .int .i64 c]
    (if (asgL L c).length ≠ 2 then .tup [.int .i64 0, .int .i64 6] else if thirdP l L c < 0 then .tup [.int .i64 0, .int .i64 14] else .tup [.int .i64 (atR l (thirdP l L c).toNat).1, .int .i64 0]) := by
  have hvd := rValid l
  have hl20 := (valid_zero hv0).1
  rw [hv0] at hvd
  have hml : (l.map rowRt).length = l.length := by simp
  have hmL : (L.map rowAs).length = L.length := by simp
  have hrg := third_range l L c
  refine evals_of_awp Tryd.func28 rfl (CallOK.of Tryd.func28 (by kernel_rfl) rfl) (Nat.le_of_ble_eq_true rfl) ?_
  rintro w R hR ⟨vs, hv⟩
  generalize hres : (if (asgL L c).length ≠ 2 then D.tup [.int .i64 0, .int .i64 6] else if thirdP l L c < 0 then .tup [.int .i64 0, .int .i64 14] else .tup [.int .i64 (atR l (thirdP l L c).toNat).1, .int .i64 0]) = res
  repeat' (first
    | (apply RunL.step; exact rfl; apply op_ev (τ := τ); exact rfl; (first | exact hvd | exact hld | exact hlb | exact hmay | exact has); exact rfl) | (apply RunL.step; exact rfl; exact opA) | (apply RunL.hand; exact rfl; exact rfl; exact lenA; exact rfl) | (apply AWP.seq) | (apply AWP.region; exact rfl) | (apply AWP.block) | (apply AWP.skip) | (apply AWP.exit) | (apply AWP.retF; exact rfl; exact rfl; exact rfl; exact rfl; exact lenA; exact rfl) | (apply AWP.ret) | (apply RunL.nil) | (apply RunL.on; exact rfl; exact rfl; exact rfl; exact rfl; (first | exact rfl | assumption)) | (apply RunL.noU; exact rfl; exact rfl; exact rfl; exact rfl; exact rfl; exact rfl) | (apply RunL.no; exact rfl; exact rfl; exact rfl; exact rfl; (first | exact rfl | assumption); exact rfl; exact rfl) | (refine AWP.cond _ (Rd.of rfl) (fun hc => ?_) (fun hc => ?_) <;> first | (exfalso; cases hc; done) | (have hc' := hc; (try simp only [sc, reduceCtorEq, cmpOf] at hc'); try (exfalso; omega)))
    | (
     apply AWP.drawA
     repeat' (first
       | (apply DL.cons; (try (apply OpLoc.on; exact rfl; exact rfl; exact rfl; exact rfl; (first | exact rfl | assumption))); apply ol_ev (τ := τ); exact rfl; (first | exact hvd | exact hld | exact hlb | exact hmay | exact has); exact rfl; exact rfl) | (apply DL.cons; exact olA; exact rfl) | (apply DL.nil; kernel_rfl) | (refine DL.split rfl rfl rfl rfl (fun hb => ?_) (fun hb => ?_) <;> have hb' := hb <;> (try simp only [sc, reduceCtorEq, cmpOf] at hb') <;> try (exfalso; omega)))
     all_goals (fail_if_success apply DL.id))
    | (refine RunL.split rfl rfl rfl rfl (fun hb => ?_) (fun hb => ?_) <;> have hb' := hb <;> (try simp only [sc, reduceCtorEq, cmpOf] at hb') <;> try (exfalso; omega)) )
  refine AWP.loop2 (fun i n : Int => ⟨[(0, .val (.sl 3 (l.map rowRt))), (1, .val (.sl 2 (L.map rowAs))), (2, .val (.int .i64 c)), (9, .val (.int .i64 n)), (10, .val (.int .i64 i))], []⟩)
    (fun i n => 0 ≤ i ∧ i ≤ L.length ∧ n = (asgL (L.take i.toNat) c).length) (fun i _ => (L.length - i).toNat) 0 0 ⟨by omega, by omega, rfl⟩ (St.Le.of (by repeat' (first | exact all_nil | refine all_cons rfl ?_)) (by repeat' (first | exact all_nil | refine all_cons rfl ?_))) ?_
  rintro i n ⟨k1, k2, k3⟩
  have hal := asgL_le (L.take i.toNat) c
  rw [List.length_take] at hal
  by_cases hi : i < L.length
  · obtain ⟨p, hp'⟩ := at_some k1 hi
    have hrow : (L.map rowAs)[i.toNat]? = some [.int .i64 p.1, .int .i64 p.2] := by simp [hp']
    have hst := congrArg List.length (asgL_take hp' k1 c)
    rw [List.length_append] at hst
    by_cases hm : p.1 = c
    · rw [if_pos hm, List.length_singleton] at hst
      repeat' (first
        | (apply RunL.step; exact rfl; apply op_ev (τ := τ); exact rfl; (first | exact hvd | exact hld | exact hlb | exact hmay | exact has); exact rfl) | (apply RunL.step; exact rfl; exact opA) | (apply RunL.hand; exact rfl; exact rfl; exact lenA; exact rfl) | (apply AWP.seq) | (apply AWP.region; exact rfl) | (apply AWP.block) | (apply AWP.skip) | (apply AWP.exit) | (apply AWP.retF; exact rfl; exact rfl; exact rfl; exact rfl; exact lenA; exact rfl) | (apply AWP.ret) | (apply RunL.nil) | (apply RunL.on; exact rfl; exact rfl; exact rfl; exact rfl; (first | exact rfl | assumption)) | (apply RunL.noU; exact rfl; exact rfl; exact rfl; exact rfl; exact rfl; exact rfl) | (apply RunL.no; exact rfl; exact rfl; exact rfl; exact rfl; (first | exact rfl | assumption); exact rfl; exact rfl) | (refine AWP.cond _ (Rd.of rfl) (fun hc => ?_) (fun hc => ?_) <;> first | (exfalso; cases hc; done) | (have hc' := hc; (try simp only [sc, reduceCtorEq, cmpOf] at hc'); try (exfalso; omega)))
        | (
         apply AWP.drawA
         repeat' (first
           | (apply DL.cons; (try (apply OpLoc.on; exact rfl; exact rfl; exact rfl; exact rfl; (first | exact rfl | assumption))); apply ol_ev (τ := τ); exact rfl; (first | exact hvd | exact hld | exact hlb | exact hmay | exact has); exact rfl; exact rfl) | (apply DL.cons; exact olA; exact rfl) | (apply DL.nil; kernel_rfl) | (refine DL.split rfl rfl rfl rfl (fun hb => ?_) (fun hb => ?_) <;> have hb' := hb <;> (try simp only [sc, reduceCtorEq, cmpOf] at hb') <;> try (exfalso; omega)))
         all_goals (fail_if_success apply DL.id))
        | (refine RunL.split rfl rfl rfl rfl (fun hb => ?_) (fun hb => ?_) <;> have hb' := hb <;> (try simp only [sc, reduceCtorEq, cmpOf] at hb') <;> try (exfalso; omega)) )
      all_goals
        exact ⟨_, _, St.Le.of (by repeat' (first | exact all_nil | refine all_cons rfl ?_)) (by repeat' (first | exact all_nil | refine all_cons rfl ?_)), ⟨by omega, by omega, by omega⟩, by omega⟩
    · rw [if_neg hm, List.length_nil] at hst
      repeat' (first
        | (apply RunL.step; exact rfl; apply op_ev (τ := τ); exact rfl; (first | exact hvd | exact hld | exact hlb | exact hmay | exact has); exact rfl) | (apply RunL.step; exact rfl; exact opA) | (apply RunL.hand; exact rfl; exact rfl; exact lenA; exact rfl) | (apply AWP.seq) | (apply AWP.region; exact rfl) | (apply AWP.block) | (apply AWP.skip) | (apply AWP.exit) | (apply AWP.retF; exact rfl; exact rfl; exact rfl; exact rfl; exact lenA; exact rfl) | (apply AWP.ret) | (apply RunL.nil) | (apply RunL.on; exact rfl; exact rfl; exact rfl; exact rfl; (first | exact rfl | assumption)) | (apply RunL.noU; exact rfl; exact rfl; exact rfl; exact rfl; exact rfl; exact rfl) | (apply RunL.no; exact rfl; exact rfl; exact rfl; exact rfl; (first | exact rfl | assumption); exact rfl; exact rfl) | (refine AWP.cond _ (Rd.of rfl) (fun hc => ?_) (fun hc => ?_) <;> first | (exfalso; cases hc; done) | (have hc' := hc; (try simp only [sc, reduceCtorEq, cmpOf] at hc'); try (exfalso; omega)))
        | (
         apply AWP.drawA
         repeat' (first
           | (apply DL.cons; (try (apply OpLoc.on; exact rfl; exact rfl; exact rfl; exact rfl; (first | exact rfl | assumption))); apply ol_ev (τ := τ); exact rfl; (first | exact hvd | exact hld | exact hlb | exact hmay | exact has); exact rfl; exact rfl) | (apply DL.cons; exact olA; exact rfl) | (apply DL.nil; kernel_rfl) | (refine DL.split rfl rfl rfl rfl (fun hb => ?_) (fun hb => ?_) <;> have hb' := hb <;> (try simp only [sc, reduceCtorEq, cmpOf] at hb') <;> try (exfalso; omega)))
         all_goals (fail_if_success apply DL.id))
        | (refine RunL.split rfl rfl rfl rfl (fun hb => ?_) (fun hb => ?_) <;> have hb' := hb <;> (try simp only [sc, reduceCtorEq, cmpOf] at hb') <;> try (exfalso; omega)) )
      all_goals
        exact ⟨_, _, St.Le.of (by repeat' (first | exact all_nil | refine all_cons rfl ?_)) (by repeat' (first | exact all_nil | refine all_cons rfl ?_)), ⟨by omega, by omega, by omega⟩, by omega⟩
  · rw [List.take_of_length_le (by omega)] at k3
    by_cases h2 : n = 2
    · rw [if_neg (by omega)] at hres
      unfold thirdP at hres hrg
      repeat' (first
        | (apply RunL.step; exact rfl; apply op_ev (τ := τ); exact rfl; (first | exact hvd | exact hld | exact hlb | exact hmay | exact has); exact rfl) | (apply RunL.step; exact rfl; exact opA) | (apply RunL.hand; exact rfl; exact rfl; exact lenA; exact rfl) | (apply AWP.seq) | (apply AWP.region; exact rfl) | (apply AWP.block) | (apply AWP.skip) | (apply AWP.exit) | (apply AWP.retF; exact rfl; exact rfl; exact rfl; exact rfl; exact lenA; exact rfl) | (apply AWP.ret) | (apply RunL.nil) | (apply RunL.on; exact rfl; exact rfl; exact rfl; exact rfl; (first | exact rfl | assumption)) | (apply RunL.noU; exact rfl; exact rfl; exact rfl; exact rfl; exact rfl; exact rfl) | (apply RunL.no; exact rfl; exact rfl; exact rfl; exact rfl; (first | exact rfl | assumption); exact rfl; exact rfl) | (refine AWP.cond _ (Rd.of rfl) (fun hc => ?_) (fun hc => ?_) <;> first | (exfalso; cases hc; done) | (have hc' := hc; (try simp only [sc, reduceCtorEq, cmpOf] at hc'); try (exfalso; omega)))
        | (
         apply AWP.drawA
         repeat' (first
           | (apply DL.cons; (try (apply OpLoc.on; exact rfl; exact rfl; exact rfl; exact rfl; (first | exact rfl | assumption))); apply ol_ev (τ := τ); exact rfl; (first | exact hvd | exact hld | exact hlb | exact hmay | exact has); exact rfl; exact rfl) | (apply DL.cons; exact olA; exact rfl) | (apply DL.nil; kernel_rfl) | (refine DL.split rfl rfl rfl rfl (fun hb => ?_) (fun hb => ?_) <;> have hb' := hb <;> (try simp only [sc, reduceCtorEq, cmpOf] at hb') <;> try (exfalso; omega)))
         all_goals (fail_if_success apply DL.id))
        | (refine RunL.split rfl rfl rfl rfl (fun hb => ?_) (fun hb => ?_) <;> have hb' := hb <;> (try simp only [sc, reduceCtorEq, cmpOf] at hb') <;> try (exfalso; omega)) )
      refine AWP.loop2 (fun j b : Int => ⟨[(0, .val (.sl 3 (l.map rowRt))), (1, .val (.sl 2 (L.map rowAs))), (2, .val (.int .i64 c)), (11, .val (.int .i64 b)), (12, .val (.int .i64 j))], []⟩)
        (fun j b => 0 ≤ j ∧ j ≤ l.length ∧ b = lightP (thirdB l L c) (fun i => loadN L (atR l i.toNat).1) (iota j.toNat) (-1)) (fun j _ => (l.length - j).toNat) 0 (-1) ⟨by omega, by omega, rfl⟩ (St.Le.of (by repeat' (first | exact all_nil | refine all_cons rfl ?_)) (by repeat' (first | exact all_nil | refine all_cons rfl ?_))) ?_
      rintro j b ⟨j1, j2, j3⟩
      have hrb := lightP_range (o := thirdB l L c) (ld := fun i => loadN L (atR l i.toNat).1) (L := iota j.toNat) (n := l.length) fun i hi => by have := mem_iota.1 hi; omega
      rw [← j3] at hrb
      by_cases hj : j < l.length
      · obtain ⟨p, hp'⟩ := at_some j1 hj
        have hrow : (l.map rowRt)[j.toNat]? = some [.int .i64 p.1, .int .i64 p.2.1, .ints .i64 p.2.2] := by simp [hp']
        have hat := atR_of hp'
        have hmay := rMay p.1 p.2.1 p.2.2 c
        have has := rassigned L c p.1
        have hld := rLoad L p.1
        have hst := lightP_take (o := thirdB l L c) (ld := fun i => loadN L (atR l i.toNat).1) (order := iota l.length) (i := j) j1 (by rw [iota_length]; exact hj)
        rw [iota_take j1 j2, iota_take (by omega) (by omega), iota_ix j1 hj, ← j3, hat] at hst
        have hth : thirdB l L c j = (decide (c ∉ p.2.2) && (decide (p.1 ∉ asgL L c) && decide (loadN L p.1 < p.2.1))) := by rw [thirdB, hat]
        by_cases g1 : c ∈ p.2.2
        · rw [decide_eq_false (p := c ∉ p.2.2) (fun h => h g1)] at hmay hth
          rw [if_neg (by rw [hth]; simp)] at hst
          generalize loadN L p.1 = m at *
          repeat' (first
            | (apply RunL.step; exact rfl; apply op_ev (τ := τ); exact rfl; (first | exact hvd | exact hld | exact hlb | exact hmay | exact has); exact rfl) | (apply RunL.step; exact rfl; exact opA) | (apply RunL.hand; exact rfl; exact rfl; exact lenA; exact rfl) | (apply AWP.seq) | (apply AWP.region; exact rfl) | (apply AWP.block) | (apply AWP.skip) | (apply AWP.exit) | (apply AWP.retF; exact rfl; exact rfl; exact rfl; exact rfl; exact lenA; exact rfl) | (apply AWP.ret) | (apply RunL.nil) | (apply RunL.on; exact rfl; exact rfl; exact rfl; exact rfl; (first | exact rfl | assumption)) | (apply RunL.noU; exact rfl; exact rfl; exact rfl; exact rfl; exact rfl; exact rfl) | (apply RunL.no; exact rfl; exact rfl; exact rfl; exact rfl; (first | exact rfl | assumption); exact rfl; exact rfl) | (refine AWP.cond _ (Rd.of rfl) (fun hc => ?_) (fun hc => ?_) <;> first | (exfalso; cases hc; done) | (have hc' := hc; (try simp only [sc, reduceCtorEq, cmpOf] at hc'); try (exfalso; omega)))
            | (
             apply AWP.drawA
             repeat' (first
               | (apply DL.cons; (try (apply OpLoc.on; exact rfl; exact rfl; exact rfl; exact rfl; (first | exact rfl | assumption))); apply ol_ev (τ := τ); exact rfl; (first | exact hvd | exact hld | exact hlb | exact hmay | exact has); exact rfl; exact rfl) | (apply DL.cons; exact olA; exact rfl) | (apply DL.nil; kernel_rfl) | (refine DL.split rfl rfl rfl rfl (fun hb => ?_) (fun hb => ?_) <;> have hb' := hb <;> (try simp only [sc, reduceCtorEq, cmpOf] at hb') <;> try (exfalso; omega)))
             all_goals (fail_if_success apply DL.id))
            | (refine RunL.split rfl rfl rfl rfl (fun hb => ?_) (fun hb => ?_) <;> have hb' := hb <;> (try simp only [sc, reduceCtorEq, cmpOf] at hb') <;> try (exfalso; omega)) )
          all_goals
            exact ⟨_, _, St.Le.of (by repeat' (first | exact all_nil | refine all_cons rfl ?_)) (by repeat' (first | exact all_nil | refine all_cons rfl ?_)), ⟨by omega, by omega, hst.symm⟩, by omega⟩
        · rw [decide_eq_true (p := c ∉ p.2.2) g1] at hmay hth
          by_cases g2 : p.1 ∈ asgL L c
          · rw [decide_eq_false (p := p.1 ∉ asgL L c) (fun h => h g2)] at hth
            rw [decide_eq_true g2] at has
            rw [if_neg (by rw [hth]; simp)] at hst
            generalize loadN L p.1 = m at *
            repeat' (first
              | (apply RunL.step; exact rfl; apply op_ev (τ := τ); exact rfl; (first | exact hvd | exact hld | exact hlb | exact hmay | exact has); exact rfl) | (apply RunL.step; exact rfl; exact opA) | (apply RunL.hand; exact rfl; exact rfl; exact lenA; exact rfl) | (apply AWP.seq) | (apply AWP.region; exact rfl) | (apply AWP.block) | (apply AWP.skip) | (apply AWP.exit) | (apply AWP.retF; exact rfl; exact rfl; exact rfl; exact rfl; exact lenA; exact rfl) | (apply AWP.ret) | (apply RunL.nil) | (apply RunL.on; exact rfl; exact rfl; exact rfl; exact rfl; (first | exact rfl | assumption)) | (apply RunL.noU; exact rfl; exact rfl; exact rfl; exact rfl; exact rfl; exact rfl) | (apply RunL.no; exact rfl; exact rfl; exact rfl; exact rfl; (first | exact rfl | assumption); exact rfl; exact rfl) | (refine AWP.cond _ (Rd.of rfl) (fun hc => ?_) (fun hc => ?_) <;> first | (exfalso; cases hc; done) | (have hc' := hc; (try simp only [sc, reduceCtorEq, cmpOf] at hc'); try (exfalso; omega)))
              | (
               apply AWP.drawA
               repeat' (first
                 | (apply DL.cons; (try (apply OpLoc.on; exact rfl; exact rfl; exact rfl; exact rfl; (first | exact rfl | assumption))); apply ol_ev (τ := τ); exact rfl; (first | exact hvd | exact hld | exact hlb | exact hmay | exact has); exact rfl; exact rfl) | (apply DL.cons; exact olA; exact rfl) | (apply DL.nil; kernel_rfl) | (refine DL.split rfl rfl rfl rfl (fun hb => ?_) (fun hb => ?_) <;> have hb' := hb <;> (try simp only [sc, reduceCtorEq, cmpOf] at hb') <;> try (exfalso; omega)))
               all_goals (fail_if_success apply DL.id))
              | (refine RunL.split rfl rfl rfl rfl (fun hb => ?_) (fun hb => ?_) <;> have hb' := hb <;> (try simp only [sc, reduceCtorEq, cmpOf] at hb') <;> try (exfalso; omega)) )
            all_goals
              exact ⟨_, _, St.Le.of (by repeat' (first | exact all_nil | refine all_cons rfl ?_)) (by repeat' (first | exact all_nil | refine all_cons rfl ?_)), ⟨by omega, by omega, hst.symm⟩, by omega⟩
          · rw [decide_eq_true (p := p.1 ∉ asgL L c) g2] at hth
            rw [decide_eq_false g2] at has
            by_cases g3 : loadN L p.1 < p.2.1
            · rw [decide_eq_true g3] at hth
              by_cases hb0 : b < 0
              · rw [if_pos ⟨by rw [hth]; rfl, .inl hb0⟩] at hst
                generalize loadN L p.1 = m at *
                repeat' (first
                  | (apply RunL.step; exact rfl; apply op_ev (τ := τ); exact rfl; (first | exact hvd | exact hld | exact hlb | exact hmay | exact has); exact rfl) | (apply RunL.step; exact rfl; exact opA) | (apply RunL.hand; exact rfl; exact rfl; exact lenA; exact rfl) | (apply AWP.seq) | (apply AWP.region; exact rfl) | (apply AWP.block) | (apply AWP.skip) | (apply AWP.exit) | (apply AWP.retF; exact rfl; exact rfl; exact rfl; exact rfl; exact lenA; exact rfl) | (apply AWP.ret) | (apply RunL.nil) | (apply RunL.on; exact rfl; exact rfl; exact rfl; exact rfl; (first | exact rfl | assumption)) | (apply RunL.noU; exact rfl; exact rfl; exact rfl; exact rfl; exact rfl; exact rfl) | (apply RunL.no; exact rfl; exact rfl; exact rfl; exact rfl; (first | exact rfl | assumption); exact rfl; exact rfl) | (refine AWP.cond _ (Rd.of rfl) (fun hc => ?_) (fun hc => ?_) <;> first | (exfalso; cases hc; done) | (have hc' := hc; (try simp only [sc, reduceCtorEq, cmpOf] at hc'); try (exfalso; omega)))
                  | (
                   apply AWP.drawA
                   repeat' (first
                     | (apply DL.cons; (try (apply OpLoc.on; exact rfl; exact rfl; exact rfl; exact rfl; (first | exact rfl | assumption))); apply ol_ev (τ := τ); exact rfl; (first | exact hvd | exact hld | exact hlb | exact hmay | exact has); exact rfl; exact rfl) | (apply DL.cons; exact olA; exact rfl) | (apply DL.nil; kernel_rfl) | (refine DL.split rfl rfl rfl rfl (fun hb => ?_) (fun hb => ?_) <;> have hb' := hb <;> (try simp only [sc, reduceCtorEq, cmpOf] at hb') <;> try (exfalso; omega)))
                   all_goals (fail_if_success apply DL.id))
                  | (refine RunL.split rfl rfl rfl rfl (fun hb => ?_) (fun hb => ?_) <;> have hb' := hb <;> (try simp only [sc, reduceCtorEq, cmpOf] at hb') <;> try (exfalso; omega)) )
                all_goals
                  exact ⟨_, _, St.Le.of (by repeat' (first | exact all_nil | refine all_cons rfl ?_)) (by repeat' (first | exact all_nil | refine all_cons rfl ?_)), ⟨by omega, by omega, hst.symm⟩, by omega⟩
              · obtain ⟨q, hq⟩ := at_some (l := l) (i := b) (by omega) (by omega)
                have hrowq : (l.map rowRt)[b.toNat]? = some [.int .i64 q.1, .int .i64 q.2.1, .ints .i64 q.2.2] := by rw [List.getElem?_map, hq]; rfl
                have hlb := rLoad L q.1
                rw [atR_of hq] at hst
                by_cases hlt : loadN L p.1 < loadN L q.1
                · rw [if_pos ⟨by rw [hth]; rfl, .inr hlt⟩] at hst
                  generalize loadN L p.1 = m at *
                  generalize loadN L q.1 = m' at *
                  repeat' (first
                    | (apply RunL.step; exact rfl; apply op_ev (τ := τ); exact rfl; (first | exact hvd | exact hld | exact hlb | exact hmay | exact has); exact rfl) | (apply RunL.step; exact rfl; exact opA) | (apply RunL.hand; exact rfl; exact rfl; exact lenA; exact rfl) | (apply AWP.seq) | (apply AWP.region; exact rfl) | (apply AWP.block) | (apply AWP.skip) | (apply AWP.exit) | (apply AWP.retF; exact rfl; exact rfl; exact rfl; exact rfl; exact lenA; exact rfl) | (apply AWP.ret) | (apply RunL.nil) | (apply RunL.on; exact rfl; exact rfl; exact rfl; exact rfl; (first | exact rfl | assumption)) | (apply RunL.noU; exact rfl; exact rfl; exact rfl; exact rfl; exact rfl; exact rfl) | (apply RunL.no; exact rfl; exact rfl; exact rfl; exact rfl; (first | exact rfl | assumption); exact rfl; exact rfl) | (refine AWP.cond _ (Rd.of rfl) (fun hc => ?_) (fun hc => ?_) <;> first | (exfalso; cases hc; done) | (have hc' := hc; (try simp only [sc, reduceCtorEq, cmpOf] at hc'); try (exfalso; omega)))
                    | (
                     apply AWP.drawA
                     repeat' (first
                       | (apply DL.cons; (try (apply OpLoc.on; exact rfl; exact rfl; exact rfl; exact rfl; (first | exact rfl | assumption))); apply ol_ev (τ := τ); exact rfl; (first | exact hvd | exact hld | exact hlb | exact hmay | exact has); exact rfl; exact rfl) | (apply DL.cons; exact olA; exact rfl) | (apply DL.nil; kernel_rfl) | (refine DL.split rfl rfl rfl rfl (fun hb => ?_) (fun hb => ?_) <;> have hb' := hb <;> (try simp only [sc, reduceCtorEq, cmpOf] at hb') <;> try (exfalso; omega)))
                     all_goals (fail_if_success apply DL.id))
                    | (refine RunL.split rfl rfl rfl rfl (fun hb => ?_) (fun hb => ?_) <;> have hb' := hb <;> (try simp only [sc, reduceCtorEq, cmpOf] at hb') <;> try (exfalso; omega)) )
                  all_goals
                    exact ⟨_, _, St.Le.of (by repeat' (first | exact all_nil | refine all_cons rfl ?_)) (by repeat' (first | exact all_nil | refine all_cons rfl ?_)), ⟨by omega, by omega, hst.symm⟩, by omega⟩
                · rw [if_neg (fun h => by rcases h.2 with h | h <;> omega)] at hst
                  generalize loadN L p.1 = m at *
                  generalize loadN L q.1 = m' at *
                  repeat' (first
                    | (apply RunL.step; exact rfl; apply op_ev (τ := τ); exact rfl; (first | exact hvd | exact hld | exact hlb | exact hmay | exact has); exact rfl) | (apply RunL.step; exact rfl; exact opA) | (apply RunL.hand; exact rfl; exact rfl; exact lenA; exact rfl) | (apply AWP.seq) | (apply AWP.region; exact rfl) | (apply AWP.block) | (apply AWP.skip) | (apply AWP.exit) | (apply AWP.retF; exact rfl; exact rfl; exact rfl; exact rfl; exact lenA; exact rfl) | (apply AWP.ret) | (apply RunL.nil) | (apply RunL.on; exact rfl; exact rfl; exact rfl; exact rfl; (first | exact rfl | assumption)) | (apply RunL.noU; exact rfl; exact rfl; exact rfl; exact rfl; exact rfl; exact rfl) | (apply RunL.no; exact rfl; exact rfl; exact rfl; exact rfl; (first | exact rfl | assumption); exact rfl; exact rfl) | (refine AWP.cond _ (Rd.of rfl) (fun hc => ?_) (fun hc => ?_) <;> first | (exfalso; cases hc; done) | (have hc' := hc; (try simp only [sc, reduceCtorEq, cmpOf] at hc'); try (exfalso; omega)))
                    | (
                     apply AWP.drawA
                     repeat' (first
                       | (apply DL.cons; (try (apply OpLoc.on; exact rfl; exact rfl; exact rfl; exact rfl; (first | exact rfl | assumption))); apply ol_ev (τ := τ); exact rfl; (first | exact hvd | exact hld | exact hlb | exact hmay | exact has); exact rfl; exact rfl) | (apply DL.cons; exact olA; exact rfl) | (apply DL.nil; kernel_rfl) | (refine DL.split rfl rfl rfl rfl (fun hb => ?_) (fun hb => ?_) <;> have hb' := hb <;> (try simp only [sc, reduceCtorEq, cmpOf] at hb') <;> try (exfalso; omega)))
                     all_goals (fail_if_success apply DL.id))
                    | (refine RunL.split rfl rfl rfl rfl (fun hb => ?_) (fun hb => ?_) <;> have hb' := hb <;> (try simp only [sc, reduceCtorEq, cmpOf] at hb') <;> try (exfalso; omega)) )
                  all_goals
                    exact ⟨_, _, St.Le.of (by repeat' (first | exact all_nil | refine all_cons rfl ?_)) (by repeat' (first | exact all_nil | refine all_cons rfl ?_)), ⟨by omega, by omega, hst.symm⟩, by omega⟩
            · rw [decide_eq_false g3] at hth
              rw [if_neg (by rw [hth]; simp)] at hst
              generalize loadN L p.1 = m at *
              repeat' (first
                | (apply RunL.step; exact rfl; apply op_ev (τ := τ); exact rfl; (first | exact hvd | exact hld | exact hlb | exact hmay | exact has); exact rfl) | (apply RunL.step; exact rfl; exact opA) | (apply RunL.hand; exact rfl; exact rfl; exact lenA; exact rfl) | (apply AWP.seq) | (apply AWP.region; exact rfl) | (apply AWP.block) | (apply AWP.skip) | (apply AWP.exit) | (apply AWP.retF; exact rfl; exact rfl; exact rfl; exact rfl; exact lenA; exact rfl) | (apply AWP.ret) | (apply RunL.nil) | (apply RunL.on; exact rfl; exact rfl; exact rfl; exact rfl; (first | exact rfl | assumption)) | (apply RunL.noU; exact rfl; exact rfl; exact rfl; exact rfl; exact rfl; exact rfl) | (apply RunL.no; exact rfl; exact rfl; exact rfl; exact rfl; (first | exact rfl | assumption); exact rfl; exact rfl) | (refine AWP.cond _ (Rd.of rfl) (fun hc => ?_) (fun hc => ?_) <;> first | (exfalso; cases hc; done) | (have hc' := hc; (try simp only [sc, reduceCtorEq, cmpOf] at hc'); try (exfalso; omega)))
                | (
                 apply AWP.drawA
                 repeat' (first
                   | (apply DL.cons; (try (apply OpLoc.on; exact rfl; exact rfl; exact rfl; exact rfl; (first | exact rfl | assumption))); apply ol_ev (τ := τ); exact rfl; (first | exact hvd | exact hld | exact hlb | exact hmay | exact has); exact rfl; exact rfl) | (apply DL.cons; exact olA; exact rfl) | (apply DL.nil; kernel_rfl) | (refine DL.split rfl rfl rfl rfl (fun hb => ?_) (fun hb => ?_) <;> have hb' := hb <;> (try simp only [sc, reduceCtorEq, cmpOf] at hb') <;> try (exfalso; omega)))
                 all_goals (fail_if_success apply DL.id))
                | (refine RunL.split rfl rfl rfl rfl (fun hb => ?_) (fun hb => ?_) <;> have hb' := hb <;> (try simp only [sc, reduceCtorEq, cmpOf] at hb') <;> try (exfalso; omega)) )
              all_goals
                exact ⟨_, _, St.Le.of (by repeat' (first | exact all_nil | refine all_cons rfl ?_)) (by repeat' (first | exact all_nil | refine all_cons rfl ?_)), ⟨by omega, by omega, hst.symm⟩, by omega⟩
      · rw [show j.toNat = l.length by omega] at j3
        rw [← j3] at hres hrg
        by_cases hneg : b < 0
        · rw [if_pos hneg] at hres
          subst hres
          repeat' (first
            | (apply RunL.step; exact rfl; apply op_ev (τ := τ); exact rfl; (first | exact hvd | exact hld | exact hlb | exact hmay | exact has); exact rfl) | (apply RunL.step; exact rfl; exact opA) | (apply RunL.hand; exact rfl; exact rfl; exact lenA; exact rfl) | (apply AWP.seq) | (apply AWP.region; exact rfl) | (apply AWP.block) | (apply AWP.skip) | (apply AWP.exit) | (apply AWP.retF; exact rfl; exact rfl; exact rfl; exact rfl; exact lenA; exact rfl) | (apply AWP.ret) | (apply RunL.nil) | (apply RunL.on; exact rfl; exact rfl; exact rfl; exact rfl; (first | exact rfl | assumption)) | (apply RunL.noU; exact rfl; exact rfl; exact rfl; exact rfl; exact rfl; exact rfl) | (apply RunL.no; exact rfl; exact rfl; exact rfl; exact rfl; (first | exact rfl | assumption); exact rfl; exact rfl) | (refine AWP.cond _ (Rd.of rfl) (fun hc => ?_) (fun hc => ?_) <;> first | (exfalso; cases hc; done) | (have hc' := hc; (try simp only [sc, reduceCtorEq, cmpOf] at hc'); try (exfalso; omega)))
            | (
             apply AWP.drawA
             repeat' (first
               | (apply DL.cons; (try (apply OpLoc.on; exact rfl; exact rfl; exact rfl; exact rfl; (first | exact rfl | assumption))); apply ol_ev (τ := τ); exact rfl; (first | exact hvd | exact hld | exact hlb | exact hmay | exact has); exact rfl; exact rfl) | (apply DL.cons; exact olA; exact rfl) | (apply DL.nil; kernel_rfl) | (refine DL.split rfl rfl rfl rfl (fun hb => ?_) (fun hb => ?_) <;> have hb' := hb <;> (try simp only [sc, reduceCtorEq, cmpOf] at hb') <;> try (exfalso; omega)))
             all_goals (fail_if_success apply DL.id))
            | (refine RunL.split rfl rfl rfl rfl (fun hb => ?_) (fun hb => ?_) <;> have hb' := hb <;> (try simp only [sc, reduceCtorEq, cmpOf] at hb') <;> try (exfalso; omega)) )
          all_goals
            apply Ends.mk (.cons (.tmp rfl) (.cons (.tmp rfl) .nil))
            first | done | rfl
        · rw [if_neg hneg] at hres
          obtain ⟨q, hq⟩ := at_some (l := l) (i := b) (by omega) (by omega)
          rw [atR_of hq] at hres
          have hrowq : (l.map rowRt)[b.toNat]? = some [.int .i64 q.1, .int .i64 q.2.1, .ints .i64 q.2.2] := by rw [List.getElem?_map, hq]; rfl
          subst hres
          repeat' (first
            | (apply RunL.step; exact rfl; apply op_ev (τ := τ); exact rfl; (first | exact hvd | exact hld | exact hlb | exact hmay | exact has); exact rfl) | (apply RunL.step; exact rfl; exact opA) | (apply RunL.hand; exact rfl; exact rfl; exact lenA; exact rfl) | (apply AWP.seq) | (apply AWP.region; exact rfl) | (apply AWP.block) | (apply AWP.skip) | (apply AWP.exit) | (apply AWP.retF; exact rfl; exact rfl; exact rfl; exact rfl; exact lenA; exact rfl) | (apply AWP.ret) | (apply RunL.nil) | (apply RunL.on; exact rfl; exact rfl; exact rfl; exact rfl; (first | exact rfl | assumption)) | (apply RunL.noU; exact rfl; exact rfl; exact rfl; exact rfl; exact rfl; exact rfl) | (apply RunL.no; exact rfl; exact rfl; exact rfl; exact rfl; (first | exact rfl | assumption); exact rfl; exact rfl) | (refine AWP.cond _ (Rd.of rfl) (fun hc => ?_) (fun hc => ?_) <;> first | (exfalso; cases hc; done) | (have hc' := hc; (try simp only [sc, reduceCtorEq, cmpOf] at hc'); try (exfalso; omega)))
            | (
             apply AWP.drawA
             repeat' (first
               | (apply DL.cons; (try (apply OpLoc.on; exact rfl; exact rfl; exact rfl; exact rfl; (first | exact rfl | assumption))); apply ol_ev (τ := τ); exact rfl; (first | exact hvd | exact hld | exact hlb | exact hmay | exact has); exact rfl; exact rfl) | (apply DL.cons; exact olA; exact rfl) | (apply DL.nil; kernel_rfl) | (refine DL.split rfl rfl rfl rfl (fun hb => ?_) (fun hb => ?_) <;> have hb' := hb <;> (try simp only [sc, reduceCtorEq, cmpOf] at hb') <;> try (exfalso; omega)))
             all_goals (fail_if_success apply DL.id))
            | (refine RunL.split rfl rfl rfl rfl (fun hb => ?_) (fun hb => ?_) <;> have hb' := hb <;> (try simp only [sc, reduceCtorEq, cmpOf] at hb') <;> try (exfalso; omega)) )
          all_goals
            apply Ends.mk (.cons (.tmp rfl) (.cons (.tmp rfl) .nil))
            first | done | rfl
    · rw [if_pos (by omega)] at hres
      subst hres
      repeat' (first
        | (apply RunL.step; exact rfl; apply op_ev (τ := τ); exact rfl; (first | exact hvd | exact hld | exact hlb | exact hmay | exact has); exact rfl) | (apply RunL.step; exact rfl; exact opA) | (apply RunL.hand; exact rfl; exact rfl; exact lenA; exact rfl) | (apply AWP.seq) | (apply AWP.region; exact rfl) | (apply AWP.block) | (apply AWP.skip) | (apply AWP.exit) | (apply AWP.retF; exact rfl; exact rfl; exact rfl; exact rfl; exact lenA; exact rfl) | (apply AWP.ret) | (apply RunL.nil) | (apply RunL.on; exact rfl; exact rfl; exact rfl; exact rfl; (first | exact rfl | assumption)) | (apply RunL.noU; exact rfl; exact rfl; exact rfl; exact rfl; exact rfl; exact rfl) | (apply RunL.no; exact rfl; exact rfl; exact rfl; exact rfl; (first | exact rfl | assumption); exact rfl; exact rfl) | (refine AWP.cond _ (Rd.of rfl) (fun hc => ?_) (fun hc => ?_) <;> first | (exfalso; cases hc; done) | (have hc' := hc; (try simp only [sc, reduceCtorEq, cmpOf] at hc'); try (exfalso; omega)))
        | (
         apply AWP.drawA
         repeat' (first
           | (apply DL.cons; (try (apply OpLoc.on; exact rfl; exact rfl; exact rfl; exact rfl; (first | exact rfl | assumption))); apply ol_ev (τ := τ); exact rfl; (first | exact hvd | exact hld | exact hlb | exact hmay | exact has); exact rfl; exact rfl) | (apply DL.cons; exact olA; exact rfl) | (apply DL.nil; kernel_rfl) | (refine DL.split rfl rfl rfl rfl (fun hb => ?_) (fun hb => ?_) <;> have hb' := hb <;> (try simp only [sc, reduceCtorEq, cmpOf] at hb') <;> try (exfalso; omega)))
         all_goals (fail_if_success apply DL.id))
        | (refine RunL.split rfl rfl rfl rfl (fun hb => ?_) (fun hb => ?_) <;> have hb' := hb <;> (try simp only [sc, reduceCtorEq, cmpOf] at hb') <;> try (exfalso; omega)) )
      all_goals
        apply Ends.mk (.cons (.tmp rfl) (.cons (.tmp rfl) .nil))
        first | done | rfl
end Go.Proofs.YtmefecfkajjajaaDoor.K
namespace Go.Proofs.YtmefecfkajjajaaDoor.K
open Go Go.RowKit
set_option linter.unusedVariables false
set_option linter.unusedSimpArgs false

set_option maxHeartbeats 2000000 in
theorem rCheck (l : List Rt) (C : List Int) (L : List As) : Evals Tryd.prog 22 [.sl 3 (l.map rowRt), .ints .i64 C, .sl 2 (L.map rowAs)] (.int .i64 (checkE l C L)) := by
  have hpe := rpeople l C
  have hC : candE C = 0 → C.length ≤ 200 := fun h => by unfold candE at h; split at h <;> omega
  unfold checkE
  unfold peopleE at hpe
  generalize validE l = e1 at *
  generalize candE C = e2 at *
  refine evals_of_awp Tryd.func22 rfl (CallOK.of Tryd.func22 (by kernel_rfl) rfl) (Nat.le_of_ble_eq_true rfl) ?_
  rintro w R hR ⟨vs, hv⟩
  have hml : (l.map rowRt).length = l.length := by simp
  have hmL : (L.map rowAs).length = L.length := by simp
  have hlen := hv.slen 0 rfl
  have hlenL := hv.slen 2 rfl
  by_cases h1 : e1 = 0
  · subst h1
    rw [if_neg (by omega)] at hpe ⊢
    by_cases h2 : e2 = 0
    · have hC' := hC h2
      subst h2
      rw [if_neg (by omega)]
      by_cases hl : L.length = 2 * C.length
      · repeat' (first
        | (apply RunL.step; exact rfl; apply op_ev (τ := τ); exact rfl; (first | exact hpe | exact hmay | exact hld | exact hidx); exact rfl) | (apply RunL.step; exact rfl; exact opA) | (apply RunL.hand; exact rfl; exact rfl; exact lenA; exact rfl) | (apply AWP.seq) | (apply AWP.region; exact rfl) | (apply AWP.block) | (apply AWP.skip) | (apply AWP.exit) | (apply AWP.retF; exact rfl; exact rfl; exact rfl; exact rfl; exact lenA; exact rfl) | (apply AWP.ret) | (apply RunL.nil) | (apply RunL.on; exact rfl; exact rfl; exact rfl; exact rfl; (first | exact rfl | assumption)) | (apply RunL.noU; exact rfl; exact rfl; exact rfl; exact rfl; exact rfl; exact rfl) | (apply RunL.no; exact rfl; exact rfl; exact rfl; exact rfl; (first | exact rfl | assumption); exact rfl; exact rfl) | (refine AWP.cond _ (Rd.of rfl) (fun hc => ?_) (fun hc => ?_) <;> first | (exfalso; cases hc; done) | (have hc' := hc; (try simp only [sc, reduceCtorEq, cmpOf] at hc'); try (exfalso; omega)))
        | (
         apply AWP.drawA
         repeat' (first
           | (apply DL.cons; (try (apply OpLoc.on; exact rfl; exact rfl; exact rfl; exact rfl; (first | exact rfl | assumption))); apply ol_ev (τ := τ); exact rfl; (first | exact hpe | exact hmay | exact hld | exact hidx); exact rfl; exact rfl) | (apply DL.cons; exact olA; exact rfl) | (apply DL.nil; kernel_rfl) | (refine DL.split rfl rfl rfl rfl (fun hb => ?_) (fun hb => ?_) <;> have hb' := hb <;> (try simp only [sc, reduceCtorEq, cmpOf] at hb') <;> try (exfalso; omega)))
         all_goals (fail_if_success apply DL.id))
        | (refine RunL.split rfl rfl rfl rfl (fun hb => ?_) (fun hb => ?_) <;> have hb' := hb <;> (try simp only [sc, reduceCtorEq, cmpOf] at hb') <;> try (exfalso; omega)) )
        refine AWP.loop (ι := Int) (fun i => ⟨[(0, .val (.sl 3 (l.map rowRt))), (1, .val (.ints .i64 C)), (2, .val (.sl 2 (L.map rowAs))), (8, .val (.int .i64 i))], []⟩) (fun i => 0 ≤ i ∧ i ≤ L.length ∧ ∀ j : Nat, (j : Int) < i → (atA L j).1 = ix C ((j / 2 : Nat) : Int)) (fun i => (L.length - i).toNat) 0 ⟨by omega, by omega, fun j hj => by omega⟩ (St.Le.of (by repeat' (first | exact all_nil | refine all_cons rfl ?_)) (by repeat' (first | exact all_nil | refine all_cons rfl ?_))) ?_
        rintro i ⟨k1, k2, k3⟩
        have hd2 := div2 k1
        by_cases hi : i < L.length
        · obtain ⟨p, hp⟩ := at_some k1 hi
          have hrow : (L.map rowAs)[i.toNat]? = some [.int .i64 p.1, .int .i64 p.2] := by simp [hp]
          have hat := atA_of hp
          by_cases hm : p.1 = ix C (i / 2)
          · repeat' (first
            | (apply RunL.step; exact rfl; apply op_ev (τ := τ); exact rfl; (first | exact hpe | exact hmay | exact hld | exact hidx); exact rfl) | (apply RunL.step; exact rfl; exact opA) | (apply RunL.hand; exact rfl; exact rfl; exact lenA; exact rfl) | (apply AWP.seq) | (apply AWP.region; exact rfl) | (apply AWP.block) | (apply AWP.skip) | (apply AWP.exit) | (apply AWP.retF; exact rfl; exact rfl; exact rfl; exact rfl; exact lenA; exact rfl) | (apply AWP.ret) | (apply RunL.nil) | (apply RunL.on; exact rfl; exact rfl; exact rfl; exact rfl; (first | exact rfl | assumption)) | (apply RunL.noU; exact rfl; exact rfl; exact rfl; exact rfl; exact rfl; exact rfl) | (apply RunL.no; exact rfl; exact rfl; exact rfl; exact rfl; (first | exact rfl | assumption); exact rfl; exact rfl) | (refine AWP.cond _ (Rd.of rfl) (fun hc => ?_) (fun hc => ?_) <;> first | (exfalso; cases hc; done) | (have hc' := hc; (try simp only [sc, reduceCtorEq, cmpOf] at hc'); try (exfalso; omega)))
            | (
             apply AWP.drawA
             repeat' (first
               | (apply DL.cons; (try (apply OpLoc.on; exact rfl; exact rfl; exact rfl; exact rfl; (first | exact rfl | assumption))); apply ol_ev (τ := τ); exact rfl; (first | exact hpe | exact hmay | exact hld | exact hidx); exact rfl; exact rfl) | (apply DL.cons; exact olA; exact rfl) | (apply DL.nil; kernel_rfl) | (refine DL.split rfl rfl rfl rfl (fun hb => ?_) (fun hb => ?_) <;> have hb' := hb <;> (try simp only [sc, reduceCtorEq, cmpOf] at hb') <;> try (exfalso; omega)))
             all_goals (fail_if_success apply DL.id))
            | (refine RunL.split rfl rfl rfl rfl (fun hb => ?_) (fun hb => ?_) <;> have hb' := hb <;> (try simp only [sc, reduceCtorEq, cmpOf] at hb') <;> try (exfalso; omega)) )
            all_goals
              refine ⟨_, St.Le.of (by repeat' (first | exact all_nil | refine all_cons rfl ?_)) (by repeat' (first | exact all_nil | refine all_cons rfl ?_)), ⟨by omega, by omega, fun j hj => ?_⟩, by omega⟩
              by_cases e : (j : Int) < i
              · exact k3 j e
              · have : j = i.toNat := by omega
                subst this
                rw [hat, hm, hd2]
          · rw [if_pos (fun h : pairedP L C => hm (by rw [hd2, ← h.2 i.toNat (by omega), hat]))]
            repeat' (first
              | (apply RunL.step; exact rfl; apply op_ev (τ := τ); exact rfl; (first | exact hpe | exact hmay | exact hld | exact hidx); exact rfl) | (apply RunL.step; exact rfl; exact opA) | (apply RunL.hand; exact rfl; exact rfl; exact lenA; exact rfl) | (apply AWP.seq) | (apply AWP.region; exact rfl) | (apply AWP.block) | (apply AWP.skip) | (apply AWP.exit) | (apply AWP.retF; exact rfl; exact rfl; exact rfl; exact rfl; exact lenA; exact rfl) | (apply AWP.ret) | (apply RunL.nil) | (apply RunL.on; exact rfl; exact rfl; exact rfl; exact rfl; (first | exact rfl | assumption)) | (apply RunL.noU; exact rfl; exact rfl; exact rfl; exact rfl; exact rfl; exact rfl) | (apply RunL.no; exact rfl; exact rfl; exact rfl; exact rfl; (first | exact rfl | assumption); exact rfl; exact rfl) | (refine AWP.cond _ (Rd.of rfl) (fun hc => ?_) (fun hc => ?_) <;> first | (exfalso; cases hc; done) | (have hc' := hc; (try simp only [sc, reduceCtorEq, cmpOf] at hc'); try (exfalso; omega)))
              | (
               apply AWP.drawA
               repeat' (first
                 | (apply DL.cons; (try (apply OpLoc.on; exact rfl; exact rfl; exact rfl; exact rfl; (first | exact rfl | assumption))); apply ol_ev (τ := τ); exact rfl; (first | exact hpe | exact hmay | exact hld | exact hidx); exact rfl; exact rfl) | (apply DL.cons; exact olA; exact rfl) | (apply DL.nil; kernel_rfl) | (refine DL.split rfl rfl rfl rfl (fun hb => ?_) (fun hb => ?_) <;> have hb' := hb <;> (try simp only [sc, reduceCtorEq, cmpOf] at hb') <;> try (exfalso; omega)))
               all_goals (fail_if_success apply DL.id))
              | (refine RunL.split rfl rfl rfl rfl (fun hb => ?_) (fun hb => ?_) <;> have hb' := hb <;> (try simp only [sc, reduceCtorEq, cmpOf] at hb') <;> try (exfalso; omega)) )
            all_goals
              first   | (apply Ends.mk (.cons (.tmp rfl) .nil); first | rfl | (simp only [pack]; congr 1; simp only [cmpOf, decide_eq_true_eq, beq_iff_eq, bne_iff_ne]; omega))   | (apply Ends.mk (.cons (.tmp rfl) .nil); simp only [pack]; congr 1; simp only [cmpOf, sc]; omega)   | (exfalso; first | omega | (simp only [*, Bool.true_eq_false, Bool.false_eq_true, reduceCtorEq] at *; done) | grind)
        · rw [if_neg (fun h : ¬ pairedP L C => h ⟨hl, fun j hj => k3 j (by omega)⟩)]
          repeat' (first
            | (apply RunL.step; exact rfl; apply op_ev (τ := τ); exact rfl; (first | exact hpe | exact hmay | exact hld | exact hidx); exact rfl) | (apply RunL.step; exact rfl; exact opA) | (apply RunL.hand; exact rfl; exact rfl; exact lenA; exact rfl) | (apply AWP.seq) | (apply AWP.region; exact rfl) | (apply AWP.block) | (apply AWP.skip) | (apply AWP.exit) | (apply AWP.retF; exact rfl; exact rfl; exact rfl; exact rfl; exact lenA; exact rfl) | (apply AWP.ret) | (apply RunL.nil) | (apply RunL.on; exact rfl; exact rfl; exact rfl; exact rfl; (first | exact rfl | assumption)) | (apply RunL.noU; exact rfl; exact rfl; exact rfl; exact rfl; exact rfl; exact rfl) | (apply RunL.no; exact rfl; exact rfl; exact rfl; exact rfl; (first | exact rfl | assumption); exact rfl; exact rfl) | (refine AWP.cond _ (Rd.of rfl) (fun hc => ?_) (fun hc => ?_) <;> first | (exfalso; cases hc; done) | (have hc' := hc; (try simp only [sc, reduceCtorEq, cmpOf] at hc'); try (exfalso; omega)))
            | (
             apply AWP.drawA
             repeat' (first
               | (apply DL.cons; (try (apply OpLoc.on; exact rfl; exact rfl; exact rfl; exact rfl; (first | exact rfl | assumption))); apply ol_ev (τ := τ); exact rfl; (first | exact hpe | exact hmay | exact hld | exact hidx); exact rfl; exact rfl) | (apply DL.cons; exact olA; exact rfl) | (apply DL.nil; kernel_rfl) | (refine DL.split rfl rfl rfl rfl (fun hb => ?_) (fun hb => ?_) <;> have hb' := hb <;> (try simp only [sc, reduceCtorEq, cmpOf] at hb') <;> try (exfalso; omega)))
             all_goals (fail_if_success apply DL.id))
            | (refine RunL.split rfl rfl rfl rfl (fun hb => ?_) (fun hb => ?_) <;> have hb' := hb <;> (try simp only [sc, reduceCtorEq, cmpOf] at hb') <;> try (exfalso; omega)) )
          refine AWP.loop (ι := Int) (fun i => ⟨[(0, .val (.sl 3 (l.map rowRt))), (2, .val (.sl 2 (L.map rowAs))), (9, .val (.int .i64 i))], []⟩) (fun i => 0 ≤ i ∧ i ≤ L.length ∧ ∀ j : Nat, (j : Int) < i → chkE l L j = 0) (fun i => (L.length - i).toNat) 0 ⟨by omega, by omega, fun j hj => by omega⟩ (St.Le.of (by repeat' (first | exact all_nil | refine all_cons rfl ?_)) (by repeat' (first | exact all_nil | refine all_cons rfl ?_))) ?_
          clear hc hc' hi k1 k2 k3 hd2 i
          rintro i ⟨k1, k2, k3⟩
          by_cases hi : i < L.length
          · obtain ⟨p, hp⟩ := at_some k1 hi
            have hrow : (L.map rowAs)[i.toNat]? = some [.int .i64 p.1, .int .i64 p.2] := by simp [hp]
            have hat := atA_of hp
            have hidx := rfind l p.2
            rcases chkE_cases l L i.toNat with ⟨g1, g9⟩ | ⟨k, q, g1, g2, g3⟩
            · rw [hat] at g1
              generalize findN (isId l p.2) l.length = kk at *
              rw [stop_at k1 hi k3 (by rw [g9]; omega), g9, if_pos (by omega)]
              repeat' (first
                | (apply RunL.step; exact rfl; apply op_ev (τ := τ); exact rfl; (first | exact hpe | exact hmay | exact hld | exact hidx); exact rfl) | (apply RunL.step; exact rfl; exact opA) | (apply RunL.hand; exact rfl; exact rfl; exact lenA; exact rfl) | (apply AWP.seq) | (apply AWP.region; exact rfl) | (apply AWP.block) | (apply AWP.skip) | (apply AWP.exit) | (apply AWP.retF; exact rfl; exact rfl; exact rfl; exact rfl; exact lenA; exact rfl) | (apply AWP.ret) | (apply RunL.nil) | (apply RunL.on; exact rfl; exact rfl; exact rfl; exact rfl; (first | exact rfl | assumption)) | (apply RunL.noU; exact rfl; exact rfl; exact rfl; exact rfl; exact rfl; exact rfl) | (apply RunL.no; exact rfl; exact rfl; exact rfl; exact rfl; (first | exact rfl | assumption); exact rfl; exact rfl) | (refine AWP.cond _ (Rd.of rfl) (fun hc => ?_) (fun hc => ?_) <;> first | (exfalso; cases hc; done) | (have hc' := hc; (try simp only [sc, reduceCtorEq, cmpOf] at hc'); try (exfalso; omega)))
                | (
                 apply AWP.drawA
                 repeat' (first
                   | (apply DL.cons; (try (apply OpLoc.on; exact rfl; exact rfl; exact rfl; exact rfl; (first | exact rfl | assumption))); apply ol_ev (τ := τ); exact rfl; (first | exact hpe | exact hmay | exact hld | exact hidx); exact rfl; exact rfl) | (apply DL.cons; exact olA; exact rfl) | (apply DL.nil; kernel_rfl) | (refine DL.split rfl rfl rfl rfl (fun hb => ?_) (fun hb => ?_) <;> have hb' := hb <;> (try simp only [sc, reduceCtorEq, cmpOf] at hb') <;> try (exfalso; omega)))
                 all_goals (fail_if_success apply DL.id))
                | (refine RunL.split rfl rfl rfl rfl (fun hb => ?_) (fun hb => ?_) <;> have hb' := hb <;> (try simp only [sc, reduceCtorEq, cmpOf] at hb') <;> try (exfalso; omega)) )
              all_goals
                first   | (apply Ends.mk (.cons (.tmp rfl) .nil); first | rfl | (simp only [pack]; congr 1; simp only [cmpOf, decide_eq_true_eq, beq_iff_eq, bne_iff_ne]; omega))   | (apply Ends.mk (.cons (.tmp rfl) .nil); simp only [pack]; congr 1; simp only [cmpOf, sc]; omega)   | (exfalso; first | omega | (simp only [*, Bool.true_eq_false, Bool.false_eq_true, reduceCtorEq] at *; done) | grind)
            · rw [hat] at g2 g3
              have hk := (List.getElem?_eq_some_iff.1 g1).1
              have hrowq : (l.map rowRt)[(k : Int).toNat]? = some [.int .i64 q.1, .int .i64 q.2.1, .ints .i64 q.2.2] := by rw [List.getElem?_map, Int.toNat_natCast, g1]; rfl
              have hmay := rMay q.1 q.2.1 q.2.2 p.1
              rw [g2] at hidx
              rcases g3 with ⟨f1, g9⟩ | ⟨f1, f2, f3, g9⟩ | ⟨f1, f2, g9⟩
              · rw [decide_eq_false (p := p.1 ∉ q.2.2) (fun h => h f1)] at hmay
                rw [stop_at k1 hi k3 (by rw [g9]; omega), g9, if_pos (by omega)]
                repeat' (first
                  | (apply RunL.step; exact rfl; apply op_ev (τ := τ); exact rfl; (first | exact hpe | exact hmay | exact hld | exact hidx); exact rfl) | (apply RunL.step; exact rfl; exact opA) | (apply RunL.hand; exact rfl; exact rfl; exact lenA; exact rfl) | (apply AWP.seq) | (apply AWP.region; exact rfl) | (apply AWP.block) | (apply AWP.skip) | (apply AWP.exit) | (apply AWP.retF; exact rfl; exact rfl; exact rfl; exact rfl; exact lenA; exact rfl) | (apply AWP.ret) | (apply RunL.nil) | (apply RunL.on; exact rfl; exact rfl; exact rfl; exact rfl; (first | exact rfl | assumption)) | (apply RunL.noU; exact rfl; exact rfl; exact rfl; exact rfl; exact rfl; exact rfl) | (apply RunL.no; exact rfl; exact rfl; exact rfl; exact rfl; (first | exact rfl | assumption); exact rfl; exact rfl) | (refine AWP.cond _ (Rd.of rfl) (fun hc => ?_) (fun hc => ?_) <;> first | (exfalso; cases hc; done) | (have hc' := hc; (try simp only [sc, reduceCtorEq, cmpOf] at hc'); try (exfalso; omega)))
                  | (
                   apply AWP.drawA
                   repeat' (first
                     | (apply DL.cons; (try (apply OpLoc.on; exact rfl; exact rfl; exact rfl; exact rfl; (first | exact rfl | assumption))); apply ol_ev (τ := τ); exact rfl; (first | exact hpe | exact hmay | exact hld | exact hidx); exact rfl; exact rfl) | (apply DL.cons; exact olA; exact rfl) | (apply DL.nil; kernel_rfl) | (refine DL.split rfl rfl rfl rfl (fun hb => ?_) (fun hb => ?_) <;> have hb' := hb <;> (try simp only [sc, reduceCtorEq, cmpOf] at hb') <;> try (exfalso; omega)))
                   all_goals (fail_if_success apply DL.id))
                  | (refine RunL.split rfl rfl rfl rfl (fun hb => ?_) (fun hb => ?_) <;> have hb' := hb <;> (try simp only [sc, reduceCtorEq, cmpOf] at hb') <;> try (exfalso; omega)) )
                all_goals
                  first   | (apply Ends.mk (.cons (.tmp rfl) .nil); first | rfl | (simp only [pack]; congr 1; simp only [cmpOf, decide_eq_true_eq, beq_iff_eq, bne_iff_ne]; omega))   | (apply Ends.mk (.cons (.tmp rfl) .nil); simp only [pack]; congr 1; simp only [cmpOf, sc]; omega)   | (exfalso; first | omega | (simp only [*, Bool.true_eq_false, Bool.false_eq_true, reduceCtorEq] at *; done) | grind)
              · rw [decide_eq_true (p := p.1 ∉ q.2.2) f1] at hmay
                obtain ⟨r, hr⟩ : ∃ r, L[(i - 1).toNat]? = some r := ⟨L[(i - 1).toNat]'(by omega), by simp⟩
                have hrowr : (L.map rowAs)[(i - 1).toNat]? = some [.int .i64 r.1, .int .i64 r.2] := by rw [List.getElem?_map, hr]; rfl
                rw [show i.toNat - 1 = (i - 1).toNat by omega, atA_of hr] at f3
                have f4 := f3.symm
                rw [stop_at k1 hi k3 (by rw [g9]; omega), g9, if_pos (by omega)]
                repeat' (first
                  | (apply RunL.step; exact rfl; apply op_ev (τ := τ); exact rfl; (first | exact hpe | exact hmay | exact hld | exact hidx); exact rfl) | (apply RunL.step; exact rfl; exact opA) | (apply RunL.hand; exact rfl; exact rfl; exact lenA; exact rfl) | (apply AWP.seq) | (apply AWP.region; exact rfl) | (apply AWP.block) | (apply AWP.skip) | (apply AWP.exit) | (apply AWP.retF; exact rfl; exact rfl; exact rfl; exact rfl; exact lenA; exact rfl) | (apply AWP.ret) | (apply RunL.nil) | (apply RunL.on; exact rfl; exact rfl; exact rfl; exact rfl; (first | exact rfl | assumption)) | (apply RunL.noU; exact rfl; exact rfl; exact rfl; exact rfl; exact rfl; exact rfl) | (apply RunL.no; exact rfl; exact rfl; exact rfl; exact rfl; (first | exact rfl | assumption); exact rfl; exact rfl) | (refine AWP.cond _ (Rd.of rfl) (fun hc => ?_) (fun hc => ?_) <;> first | (exfalso; cases hc; done) | (have hc' := hc; (try simp only [sc, reduceCtorEq, cmpOf] at hc'); try (exfalso; omega)))
                  | (
                   apply AWP.drawA
                   repeat' (first
                     | (apply DL.cons; (try (apply OpLoc.on; exact rfl; exact rfl; exact rfl; exact rfl; (first | exact rfl | assumption))); apply ol_ev (τ := τ); exact rfl; (first | exact hpe | exact hmay | exact hld | exact hidx); exact rfl; exact rfl) | (apply DL.cons; exact olA; exact rfl) | (apply DL.nil; kernel_rfl) | (refine DL.split rfl rfl rfl rfl (fun hb => ?_) (fun hb => ?_) <;> have hb' := hb <;> (try simp only [sc, reduceCtorEq, cmpOf] at hb') <;> try (exfalso; omega)))
                   all_goals (fail_if_success apply DL.id))
                  | (refine RunL.split rfl rfl rfl rfl (fun hb => ?_) (fun hb => ?_) <;> have hb' := hb <;> (try simp only [sc, reduceCtorEq, cmpOf] at hb') <;> try (exfalso; omega)) )
                all_goals
                  first   | (apply Ends.mk (.cons (.tmp rfl) .nil); first | rfl | (simp only [pack]; congr 1; simp only [cmpOf, decide_eq_true_eq, beq_iff_eq, bne_iff_ne]; omega))   | (apply Ends.mk (.cons (.tmp rfl) .nil); simp only [pack]; congr 1; simp only [cmpOf, sc]; omega)   | (exfalso; first | omega | (simp only [*, Bool.true_eq_false, Bool.false_eq_true, reduceCtorEq] at *; done) | grind)
              · rw [decide_eq_true (p := p.1 ∉ q.2.2) f1] at hmay
                have hup := upto k1 k3 g9
                by_cases h2 : i % 2 = 1
                · obtain ⟨r, hr⟩ : ∃ r, L[(i - 1).toNat]? = some r := ⟨L[(i - 1).toNat]'(by omega), by simp⟩
                  have hrowr : (L.map rowAs)[(i - 1).toNat]? = some [.int .i64 r.1, .int .i64 r.2] := by rw [List.getElem?_map, hr]; rfl
                  have f3 : ¬ r.2 = p.2 := fun e => f2 ⟨by omega, by rw [show i.toNat - 1 = (i - 1).toNat by omega, atA_of hr]; exact e⟩
                  have f4 : ¬ p.2 = r.2 := fun e => f3 e.symm
                  repeat' (first
                    | (apply RunL.step; exact rfl; apply op_ev (τ := τ); exact rfl; (first | exact hpe | exact hmay | exact hld | exact hidx); exact rfl) | (apply RunL.step; exact rfl; exact opA) | (apply RunL.hand; exact rfl; exact rfl; exact lenA; exact rfl) | (apply AWP.seq) | (apply AWP.region; exact rfl) | (apply AWP.block) | (apply AWP.skip) | (apply AWP.exit) | (apply AWP.retF; exact rfl; exact rfl; exact rfl; exact rfl; exact lenA; exact rfl) | (apply AWP.ret) | (apply RunL.nil) | (apply RunL.on; exact rfl; exact rfl; exact rfl; exact rfl; (first | exact rfl | assumption)) | (apply RunL.noU; exact rfl; exact rfl; exact rfl; exact rfl; exact rfl; exact rfl) | (apply RunL.no; exact rfl; exact rfl; exact rfl; exact rfl; (first | exact rfl | assumption); exact rfl; exact rfl) | (refine AWP.cond _ (Rd.of rfl) (fun hc => ?_) (fun hc => ?_) <;> first | (exfalso; cases hc; done) | (have hc' := hc; (try simp only [sc, reduceCtorEq, cmpOf] at hc'); try (exfalso; omega)))
                    | (
                     apply AWP.drawA
                     repeat' (first
                       | (apply DL.cons; (try (apply OpLoc.on; exact rfl; exact rfl; exact rfl; exact rfl; (first | exact rfl | assumption))); apply ol_ev (τ := τ); exact rfl; (first | exact hpe | exact hmay | exact hld | exact hidx); exact rfl; exact rfl) | (apply DL.cons; exact olA; exact rfl) | (apply DL.nil; kernel_rfl) | (refine DL.split rfl rfl rfl rfl (fun hb => ?_) (fun hb => ?_) <;> have hb' := hb <;> (try simp only [sc, reduceCtorEq, cmpOf] at hb') <;> try (exfalso; omega)))
                     all_goals (fail_if_success apply DL.id))
                    | (refine RunL.split rfl rfl rfl rfl (fun hb => ?_) (fun hb => ?_) <;> have hb' := hb <;> (try simp only [sc, reduceCtorEq, cmpOf] at hb') <;> try (exfalso; omega)) )
                  all_goals
                    exact ⟨_, St.Le.of (by repeat' (first | exact all_nil | refine all_cons rfl ?_)) (by repeat' (first | exact all_nil | refine all_cons rfl ?_)), ⟨by omega, by omega, hup⟩, by omega⟩
                · repeat' (first
                  | (apply RunL.step; exact rfl; apply op_ev (τ := τ); exact rfl; (first | exact hpe | exact hmay | exact hld | exact hidx); exact rfl) | (apply RunL.step; exact rfl; exact opA) | (apply RunL.hand; exact rfl; exact rfl; exact lenA; exact rfl) | (apply AWP.seq) | (apply AWP.region; exact rfl) | (apply AWP.block) | (apply AWP.skip) | (apply AWP.exit) | (apply AWP.retF; exact rfl; exact rfl; exact rfl; exact rfl; exact lenA; exact rfl) | (apply AWP.ret) | (apply RunL.nil) | (apply RunL.on; exact rfl; exact rfl; exact rfl; exact rfl; (first | exact rfl | assumption)) | (apply RunL.noU; exact rfl; exact rfl; exact rfl; exact rfl; exact rfl; exact rfl) | (apply RunL.no; exact rfl; exact rfl; exact rfl; exact rfl; (first | exact rfl | assumption); exact rfl; exact rfl) | (refine AWP.cond _ (Rd.of rfl) (fun hc => ?_) (fun hc => ?_) <;> first | (exfalso; cases hc; done) | (have hc' := hc; (try simp only [sc, reduceCtorEq, cmpOf] at hc'); try (exfalso; omega)))
                  | (
                   apply AWP.drawA
                   repeat' (first
                     | (apply DL.cons; (try (apply OpLoc.on; exact rfl; exact rfl; exact rfl; exact rfl; (first | exact rfl | assumption))); apply ol_ev (τ := τ); exact rfl; (first | exact hpe | exact hmay | exact hld | exact hidx); exact rfl; exact rfl) | (apply DL.cons; exact olA; exact rfl) | (apply DL.nil; kernel_rfl) | (refine DL.split rfl rfl rfl rfl (fun hb => ?_) (fun hb => ?_) <;> have hb' := hb <;> (try simp only [sc, reduceCtorEq, cmpOf] at hb') <;> try (exfalso; omega)))
                   all_goals (fail_if_success apply DL.id))
                  | (refine RunL.split rfl rfl rfl rfl (fun hb => ?_) (fun hb => ?_) <;> have hb' := hb <;> (try simp only [sc, reduceCtorEq, cmpOf] at hb') <;> try (exfalso; omega)) )
                  all_goals
                    exact ⟨_, St.Le.of (by repeat' (first | exact all_nil | refine all_cons rfl ?_)) (by repeat' (first | exact all_nil | refine all_cons rfl ?_)), ⟨by omega, by omega, hup⟩, by omega⟩
          · rw [done_at hi k3, if_neg (by omega)]
            repeat' (first
              | (apply RunL.step; exact rfl; apply op_ev (τ := τ); exact rfl; (first | exact hpe | exact hmay | exact hld | exact hidx); exact rfl) | (apply RunL.step; exact rfl; exact opA) | (apply RunL.hand; exact rfl; exact rfl; exact lenA; exact rfl) | (apply AWP.seq) | (apply AWP.region; exact rfl) | (apply AWP.block) | (apply AWP.skip) | (apply AWP.exit) | (apply AWP.retF; exact rfl; exact rfl; exact rfl; exact rfl; exact lenA; exact rfl) | (apply AWP.ret) | (apply RunL.nil) | (apply RunL.on; exact rfl; exact rfl; exact rfl; exact rfl; (first | exact rfl | assumption)) | (apply RunL.noU; exact rfl; exact rfl; exact rfl; exact rfl; exact rfl; exact rfl) | (apply RunL.no; exact rfl; exact rfl; exact rfl; exact rfl; (first | exact rfl | assumption); exact rfl; exact rfl) | (refine AWP.cond _ (Rd.of rfl) (fun hc => ?_) (fun hc => ?_) <;> first | (exfalso; cases hc; done) | (have hc' := hc; (try simp only [sc, reduceCtorEq, cmpOf] at hc'); try (exfalso; omega)))
              | (
               apply AWP.drawA
               repeat' (first
                 | (apply DL.cons; (try (apply OpLoc.on; exact rfl; exact rfl; exact rfl; exact rfl; (first | exact rfl | assumption))); apply ol_ev (τ := τ); exact rfl; (first | exact hpe | exact hmay | exact hld | exact hidx); exact rfl; exact rfl) | (apply DL.cons; exact olA; exact rfl) | (apply DL.nil; kernel_rfl) | (refine DL.split rfl rfl rfl rfl (fun hb => ?_) (fun hb => ?_) <;> have hb' := hb <;> (try simp only [sc, reduceCtorEq, cmpOf] at hb') <;> try (exfalso; omega)))
               all_goals (fail_if_success apply DL.id))
              | (refine RunL.split rfl rfl rfl rfl (fun hb => ?_) (fun hb => ?_) <;> have hb' := hb <;> (try simp only [sc, reduceCtorEq, cmpOf] at hb') <;> try (exfalso; omega)) )
            refine AWP.loop (ι := Int) (fun i => ⟨[(0, .val (.sl 3 (l.map rowRt))), (2, .val (.sl 2 (L.map rowAs))), (11, .val (.int .i64 i))], []⟩) (fun i => 0 ≤ i ∧ i ≤ l.length ∧ ∀ j : Nat, (j : Int) < i → overE l L j = 0) (fun i => (l.length - i).toNat) 0 ⟨by omega, by omega, fun j hj => by omega⟩ (St.Le.of (by repeat' (first | exact all_nil | refine all_cons rfl ?_)) (by repeat' (first | exact all_nil | refine all_cons rfl ?_))) ?_
            clear hc hc' hi k1 k2 k3 i
            rintro i ⟨k1, k2, k3⟩
            by_cases hi : i < l.length
            · obtain ⟨p, hp⟩ := at_some k1 hi
              have hrow : (l.map rowRt)[i.toNat]? = some [.int .i64 p.1, .int .i64 p.2.1, .ints .i64 p.2.2] := by simp [hp]
              have hat := atR_of hp
              have hld := rLoad L p.1
              by_cases hm : p.2.1 < loadN L p.1
              · have g9 : overE l L i.toNat = 3 := by rw [overE, hat, if_pos hm]
                rw [stop_at k1 hi k3 (by rw [g9]; omega), g9]
                generalize loadN L p.1 = n at *
                repeat' (first
                  | (apply RunL.step; exact rfl; apply op_ev (τ := τ); exact rfl; (first | exact hpe | exact hmay | exact hld | exact hidx); exact rfl) | (apply RunL.step; exact rfl; exact opA) | (apply RunL.hand; exact rfl; exact rfl; exact lenA; exact rfl) | (apply AWP.seq) | (apply AWP.region; exact rfl) | (apply AWP.block) | (apply AWP.skip) | (apply AWP.exit) | (apply AWP.retF; exact rfl; exact rfl; exact rfl; exact rfl; exact lenA; exact rfl) | (apply AWP.ret) | (apply RunL.nil) | (apply RunL.on; exact rfl; exact rfl; exact rfl; exact rfl; (first | exact rfl | assumption)) | (apply RunL.noU; exact rfl; exact rfl; exact rfl; exact rfl; exact rfl; exact rfl) | (apply RunL.no; exact rfl; exact rfl; exact rfl; exact rfl; (first | exact rfl | assumption); exact rfl; exact rfl) | (refine AWP.cond _ (Rd.of rfl) (fun hc => ?_) (fun hc => ?_) <;> first | (exfalso; cases hc; done) | (have hc' := hc; (try simp only [sc, reduceCtorEq, cmpOf] at hc'); try (exfalso; omega)))
                  | (
                   apply AWP.drawA
                   repeat' (first
                     | (apply DL.cons; (try (apply OpLoc.on; exact rfl; exact rfl; exact rfl; exact rfl; (first | exact rfl | assumption))); apply ol_ev (τ := τ); exact rfl; (first | exact hpe | exact hmay | exact hld | exact hidx); exact rfl; exact rfl) | (apply DL.cons; exact olA; exact rfl) | (apply DL.nil; kernel_rfl) | (refine DL.split rfl rfl rfl rfl (fun hb => ?_) (fun hb => ?_) <;> have hb' := hb <;> (try simp only [sc, reduceCtorEq, cmpOf] at hb') <;> try (exfalso; omega)))
                   all_goals (fail_if_success apply DL.id))
                  | (refine RunL.split rfl rfl rfl rfl (fun hb => ?_) (fun hb => ?_) <;> have hb' := hb <;> (try simp only [sc, reduceCtorEq, cmpOf] at hb') <;> try (exfalso; omega)) )
                all_goals
                  (apply Ends.mk (.cons (.tmp rfl) .nil); first | rfl | (simp only [pack]; congr 1; simp only [cmpOf, decide_eq_true_eq, beq_iff_eq, bne_iff_ne]; omega))
              · have g9 : overE l L i.toNat = 0 := by rw [overE, hat, if_neg hm]
                have hup := upto k1 k3 g9
                generalize loadN L p.1 = n at *
                repeat' (first
                  | (apply RunL.step; exact rfl; apply op_ev (τ := τ); exact rfl; (first | exact hpe | exact hmay | exact hld | exact hidx); exact rfl) | (apply RunL.step; exact rfl; exact opA) | (apply RunL.hand; exact rfl; exact rfl; exact lenA; exact rfl) | (apply AWP.seq) | (apply AWP.region; exact rfl) | (apply AWP.block) | (apply AWP.skip) | (apply AWP.exit) | (apply AWP.retF; exact rfl; exact rfl; exact rfl; exact rfl; exact lenA; exact rfl) | (apply AWP.ret) | (apply RunL.nil) | (apply RunL.on; exact rfl; exact rfl; exact rfl; exact rfl; (first | exact rfl | assumption)) | (apply RunL.noU; exact rfl; exact rfl; exact rfl; exact rfl; exact rfl; exact rfl) | (apply RunL.no; exact rfl; exact rfl; exact rfl; exact rfl; (first | exact rfl | assumption); exact rfl; exact rfl) | (refine AWP.cond _ (Rd.of rfl) (fun hc => ?_) (fun hc => ?_) <;> first | (exfalso; cases hc; done) | (have hc' := hc; (try simp only [sc, reduceCtorEq, cmpOf] at hc'); try (exfalso; omega)))
                  | (
                   apply AWP.drawA
                   repeat' (first
                     | (apply DL.cons; (try (apply OpLoc.on; exact rfl; exact rfl; exact rfl; exact rfl; (first | exact rfl | assumption))); apply ol_ev (τ := τ); exact rfl; (first | exact hpe | exact hmay | exact hld | exact hidx); exact rfl; exact rfl) | (apply DL.cons; exact olA; exact rfl) | (apply DL.nil; kernel_rfl) | (refine DL.split rfl rfl rfl rfl (fun hb => ?_) (fun hb => ?_) <;> have hb' := hb <;> (try simp only [sc, reduceCtorEq, cmpOf] at hb') <;> try (exfalso; omega)))
                   all_goals (fail_if_success apply DL.id))
                  | (refine RunL.split rfl rfl rfl rfl (fun hb => ?_) (fun hb => ?_) <;> have hb' := hb <;> (try simp only [sc, reduceCtorEq, cmpOf] at hb') <;> try (exfalso; omega)) )
                all_goals
                  exact ⟨_, St.Le.of (by repeat' (first | exact all_nil | refine all_cons rfl ?_)) (by repeat' (first | exact all_nil | refine all_cons rfl ?_)), ⟨by omega, by omega, hup⟩, by omega⟩
            · rw [done_at hi k3]
              repeat' (first
                | (apply RunL.step; exact rfl; apply op_ev (τ := τ); exact rfl; (first | exact hpe | exact hmay | exact hld | exact hidx); exact rfl) | (apply RunL.step; exact rfl; exact opA) | (apply RunL.hand; exact rfl; exact rfl; exact lenA; exact rfl) | (apply AWP.seq) | (apply AWP.region; exact rfl) | (apply AWP.block) | (apply AWP.skip) | (apply AWP.exit) | (apply AWP.retF; exact rfl; exact rfl; exact rfl; exact rfl; exact lenA; exact rfl) | (apply AWP.ret) | (apply RunL.nil) | (apply RunL.on; exact rfl; exact rfl; exact rfl; exact rfl; (first | exact rfl | assumption)) | (apply RunL.noU; exact rfl; exact rfl; exact rfl; exact rfl; exact rfl; exact rfl) | (apply RunL.no; exact rfl; exact rfl; exact rfl; exact rfl; (first | exact rfl | assumption); exact rfl; exact rfl) | (refine AWP.cond _ (Rd.of rfl) (fun hc => ?_) (fun hc => ?_) <;> first | (exfalso; cases hc; done) | (have hc' := hc; (try simp only [sc, reduceCtorEq, cmpOf] at hc'); try (exfalso; omega)))
                | (
                 apply AWP.drawA
                 repeat' (first
                   | (apply DL.cons; (try (apply OpLoc.on; exact rfl; exact rfl; exact rfl; exact rfl; (first | exact rfl | assumption))); apply ol_ev (τ := τ); exact rfl; (first | exact hpe | exact hmay | exact hld | exact hidx); exact rfl; exact rfl) | (apply DL.cons; exact olA; exact rfl) | (apply DL.nil; kernel_rfl) | (refine DL.split rfl rfl rfl rfl (fun hb => ?_) (fun hb => ?_) <;> have hb' := hb <;> (try simp only [sc, reduceCtorEq, cmpOf] at hb') <;> try (exfalso; omega)))
                 all_goals (fail_if_success apply DL.id))
                | (refine RunL.split rfl rfl rfl rfl (fun hb => ?_) (fun hb => ?_) <;> have hb' := hb <;> (try simp only [sc, reduceCtorEq, cmpOf] at hb') <;> try (exfalso; omega)) )
              all_goals
                (apply Ends.mk (.cons (.tmp rfl) .nil); first | rfl | (simp only [pack]; congr 1; simp only [cmpOf, decide_eq_true_eq, beq_iff_eq, bne_iff_ne]; omega))
      · rw [if_pos (fun h : pairedP L C => hl h.1)]
        repeat' (first
          | (apply RunL.step; exact rfl; apply op_ev (τ := τ); exact rfl; (first | exact hpe | exact hmay | exact hld | exact hidx); exact rfl) | (apply RunL.step; exact rfl; exact opA) | (apply RunL.hand; exact rfl; exact rfl; exact lenA; exact rfl) | (apply AWP.seq) | (apply AWP.region; exact rfl) | (apply AWP.block) | (apply AWP.skip) | (apply AWP.exit) | (apply AWP.retF; exact rfl; exact rfl; exact rfl; exact rfl; exact lenA; exact rfl) | (apply AWP.ret) | (apply RunL.nil) | (apply RunL.on; exact rfl; exact rfl; exact rfl; exact rfl; (first | exact rfl | assumption)) | (apply RunL.noU; exact rfl; exact rfl; exact rfl; exact rfl; exact rfl; exact rfl) | (apply RunL.no; exact rfl; exact rfl; exact rfl; exact rfl; (first | exact rfl | assumption); exact rfl; exact rfl) | (refine AWP.cond _ (Rd.of rfl) (fun hc => ?_) (fun hc => ?_) <;> first | (exfalso; cases hc; done) | (have hc' := hc; (try simp only [sc, reduceCtorEq, cmpOf] at hc'); try (exfalso; omega)))
          | (
           apply AWP.drawA
           repeat' (first
             | (apply DL.cons; (try (apply OpLoc.on; exact rfl; exact rfl; exact rfl; exact rfl; (first | exact rfl | assumption))); apply ol_ev (τ := τ); exact rfl; (first | exact hpe | exact hmay | exact hld | exact hidx); exact rfl; exact rfl) | (apply DL.cons; exact olA; exact rfl) | (apply DL.nil; kernel_rfl) | (refine DL.split rfl rfl rfl rfl (fun hb => ?_) (fun hb => ?_) <;> have hb' := hb <;> (try simp only [sc, reduceCtorEq, cmpOf] at hb') <;> try (exfalso; omega)))
           all_goals (fail_if_success apply DL.id))
          | (refine RunL.split rfl rfl rfl rfl (fun hb => ?_) (fun hb => ?_) <;> have hb' := hb <;> (try simp only [sc, reduceCtorEq, cmpOf] at hb') <;> try (exfalso; omega)) )
        all_goals
          first   | (apply Ends.mk (.cons (.tmp rfl) .nil); first | rfl | (simp only [pack]; congr 1; simp only [cmpOf, decide_eq_true_eq, beq_iff_eq, bne_iff_ne]; omega))   | (apply Ends.mk (.cons (.tmp rfl) .nil); simp only [pack]; congr 1; simp only [cmpOf, sc]; omega)   | (exfalso; first | omega | (simp only [*, Bool.true_eq_false, Bool.false_eq_true, reduceCtorEq] at *; done) | grind)
    · rw [if_pos h2]
      repeat' (first
        | (apply RunL.step; exact rfl; apply op_ev (τ := τ); exact rfl; (first | exact hpe | exact hmay | exact hld | exact hidx); exact rfl) | (apply RunL.step; exact rfl; exact opA) | (apply RunL.hand; exact rfl; exact rfl; exact lenA; exact rfl) | (apply AWP.seq) | (apply AWP.region; exact rfl) | (apply AWP.block) | (apply AWP.skip) | (apply AWP.exit) | (apply AWP.retF; exact rfl; exact rfl; exact rfl; exact rfl; exact lenA; exact rfl) | (apply AWP.ret) | (apply RunL.nil) | (apply RunL.on; exact rfl; exact rfl; exact rfl; exact rfl; (first | exact rfl | assumption)) | (apply RunL.noU; exact rfl; exact rfl; exact rfl; exact rfl; exact rfl; exact rfl) | (apply RunL.no; exact rfl; exact rfl; exact rfl; exact rfl; (first | exact rfl | assumption); exact rfl; exact rfl) | (refine AWP.cond _ (Rd.of rfl) (fun hc => ?_) (fun hc => ?_) <;> first | (exfalso; cases hc; done) | (have hc' := hc; (try simp only [sc, reduceCtorEq, cmpOf] at hc'); try (exfalso; omega)))
        | (
         apply AWP.drawA
         repeat' (first
           | (apply DL.cons; (try (apply OpLoc.on; exact rfl; exact rfl; exact rfl; exact rfl; (first | exact rfl | assumption))); apply ol_ev (τ := τ); exact rfl; (first | exact hpe | exact hmay | exact hld | exact hidx); exact rfl; exact rfl) | (apply DL.cons; exact olA; exact rfl) | (apply DL.nil; kernel_rfl) | (refine DL.split rfl rfl rfl rfl (fun hb => ?_) (fun hb => ?_) <;> have hb' := hb <;> (try simp only [sc, reduceCtorEq, cmpOf] at hb') <;> try (exfalso; omega)))
         all_goals (fail_if_success apply DL.id))
        | (refine RunL.split rfl rfl rfl rfl (fun hb => ?_) (fun hb => ?_) <;> have hb' := hb <;> (try simp only [sc, reduceCtorEq, cmpOf] at hb') <;> try (exfalso; omega)) )
      all_goals
        first   | (apply Ends.mk (.cons (.tmp rfl) .nil); first | rfl | (simp only [pack]; congr 1; simp only [cmpOf, decide_eq_true_eq, beq_iff_eq, bne_iff_ne]; omega))   | (apply Ends.mk (.cons (.tmp rfl) .nil); simp only [pack]; congr 1; simp only [cmpOf, sc]; omega)   | (exfalso; first | omega | (simp only [*, Bool.true_eq_false, Bool.false_eq_true, reduceCtorEq] at *; done) | grind)
  · rw [if_pos h1] at hpe ⊢
    repeat' (first
      | (apply RunL.step; exact rfl; apply op_ev (τ := τ); exact rfl; (first | exact hpe | exact hmay | exact hld | exact hidx); exact rfl) | (apply RunL.step; exact rfl; exact opA) | (apply RunL.hand; exact rfl; exact rfl; exact lenA; exact rfl) | (apply AWP.seq) | (apply AWP.region; exact rfl) | (apply AWP.block) | (apply AWP.skip) | (apply AWP.exit) | (apply AWP.retF; exact rfl; exact rfl; exact rfl; exact rfl; exact lenA; exact rfl) | (apply AWP.ret) | (apply RunL.nil) | (apply RunL.on; exact rfl; exact rfl; exact rfl; exact rfl; (first | exact rfl | assumption)) | (apply RunL.noU; exact rfl; exact rfl; exact rfl; exact rfl; exact rfl; exact rfl) | (apply RunL.no; exact rfl; exact rfl; exact rfl; exact rfl; (first | exact rfl | assumption); exact rfl; exact rfl) | (refine AWP.cond _ (Rd.of rfl) (fun hc => ?_) (fun hc => ?_) <;> first | (exfalso; cases hc; done) | (have hc' := hc; (try simp only [sc, reduceCtorEq, cmpOf] at hc'); try (exfalso; omega)))
      | (
       apply AWP.drawA
       repeat' (first
         | (apply DL.cons; (try (apply OpLoc.on; exact rfl; exact rfl; exact rfl; exact rfl; (first | exact rfl | assumption))); apply ol_ev (τ := τ); exact rfl; (first | exact hpe | exact hmay | exact hld | exact hidx); exact rfl; exact rfl) | (apply DL.cons; exact olA; exact rfl) | (apply DL.nil; kernel_rfl) | (refine DL.split rfl rfl rfl rfl (fun hb => ?_) (fun hb => ?_) <;> have hb' := hb <;> (try simp only [sc, reduceCtorEq, cmpOf] at hb') <;> try (exfalso; omega)))
       all_goals (fail_if_success apply DL.id))
      | (refine RunL.split rfl rfl rfl rfl (fun hb => ?_) (fun hb => ?_) <;> have hb' := hb <;> (try simp only [sc, reduceCtorEq, cmpOf] at hb') <;> try (exfalso; omega)) )
    all_goals
      first   | (apply Ends.mk (.cons (.tmp rfl) .nil); first | rfl | (simp only [pack]; congr 1; simp only [cmpOf, decide_eq_true_eq, beq_iff_eq, bne_iff_ne]; omega))   | (apply Ends.mk (.cons (.tmp rfl) .nil); simp only [pack]; congr 1; simp only [cmpOf, sc]; omega)   | (exfalso; first | omega | (simp only [*, Bool.true_eq_false, Bool.false_eq_true, reduceCtorEq] at *; done) | grind)
section
variable {B : Base} {ops : Array Oper} {s : St} {d : Nat} {ty : TypeId} {pos : String} {af : Array Edge} {gd : Option (Nat × Bool)}
theorem eqAs (a b c e : Int) (w : World) : (Op.equalIn 10000 29 (.agg #[.int .i64 a, .int .i64 b]) (.agg #[.int .i64 c, .int .i64 e])).run Tryd.prog w = .ok (a == c && b == e) w := by
  have u3 := Tryd.underlying3
  have hS : Tryd.prog.underlying 29 = some (.struct (Tryd.prog.fieldsOf 29)) := by kernel_rfl
  have hp : Tryd.prog.stoodInHeld 29 = false := by kernel_rfl
  rw [show (10000 : Nat) = 9999 + 1 from rfl, run_equalIn_agg w 9999 29 _ _ hS hp]
  simp only [Program.fieldsOf, Tryd.underlying29]
  have a3 : ∀ w, (isAgg 3).run Tryd.prog w = .ok false w := fun w => by simp [isAgg, run_underlying u3]
  have q3 : ∀ (x y : Int) w, (Op.equalIn 9999 3 (.int .i64 x) (.int .i64 y)).run Tryd.prog w = .ok (x == y) w := fun x y w => run_equalIn_int w 9998 3 .i64 .i64 x y u3
  by_cases h1 : a = c <;> by_cases h2 : b = e <;> simp [Op.eqFields, part, a3, q3, h1, h2]
theorem op_neAs {x y : Operand} {T' : TypeId} {a b c e : Int} (hx : Rd s x (.val (.agg [.int .i64 a, .int .i64 b]))) (hy : Rd s y (.val (.agg [.int .i64 c, .int .i64 e]))) (hN : Nat.blt d B.N = true) :
    OpDo Tryd.prog B ⟨some d, .binOp .neq 29 x y T', ty, pos, af, gd⟩ s (s.setT d (.val (.bool (!(a == c && b == e))))) :=
  .pure hN fun R ad a' w hi => by
    have inv : ∀ {z : Operand} {m n : Int}, Rd s z (.val (.agg [.int .i64 m, .int .i64 n])) → a'.eval z = .agg #[.int .i64 m, .int .i64 n] := fun {z m n} hz => by
      have h := hz.holds hi
      simp only [HoldsT] at h
      generalize a'.eval z = v at h
      cases h with
      | agg _ cs hs hh =>
        have hs2 : cs.size = 2 := hs
        have h0 := hh 0 _ cs[0] rfl (by simp [hs2])
        have h1 := hh 1 _ cs[1] rfl (by simp [hs2])
        have e0 : cs[0] = .int .i64 m := by generalize cs[0] = u at h0; cases h0; rfl
        have e1 : cs[1] = .int .i64 n := by generalize cs[1] = u at h1; cases h1; rfl
        congr 1
        apply Array.ext
        · simpa using hs2
        · intro i h2 h3
          rcases (show i = 0 ∨ i = 1 by omega) with rfl | rfl
          · simpa using e0
          · simpa using e1
    have hm : Tryd.prog.eqGuardType Tryd.prog.depth 29 = false := by kernel_rfl
    refine ⟨_, ?_, .bool _⟩
    simp only [execOp, inv hx, inv hy, Sem.run_bind, run_eqGuard_agg w _ _ _ _ _ _ hm, Result.andThen_ok, run_neq_struct, eqAs, Sem.run_pure]
theorem ol_neAs {x y : Operand} {T' : TypeId} {a b c e : Int} (hx : Rd s x (.val (.agg [.int .i64 a, .int .i64 b]))) (hy : Rd s y (.val (.agg [.int .i64 c, .int .i64 e]))) (hN : Nat.blt d B.N = true) :
    OpLoc Tryd.prog B ops ⟨some d, .binOp .neq 29 x y T', ty, pos, af, none⟩ s [] ⟨.val (.bool (!(a == c && b == e))), none⟩ :=
  .pure rfl rfl fun s' gT gB => op_neAs (hx.ag (ag_of gT (x := x) (by simp [Op.operands]))) (hy.ag (ag_of gT (x := y) (by simp [Op.operands]))) hN
end
theorem rSame (L : List As) : Evals Tryd.prog 27 [.sl 2 (L.map rowAs), .sl 2 (L.map rowAs)] (.bool true) := by
  refine evals_of_awp Tryd.func27 rfl (CallOK.of Tryd.func27 (by kernel_rfl) rfl) (Nat.le_of_ble_eq_true rfl) ?_
  rintro w R hR ⟨vs, hv⟩
  have hmL : (L.map rowAs).length = L.length := by simp
  have hlen := hv.slen 0 rfl
  repeat' (first
    | (apply RunL.step; exact rfl; exact opA) | (apply RunL.hand; exact rfl; exact rfl; exact lenA; exact rfl) | (apply AWP.seq) | (apply AWP.region; exact rfl) | (apply AWP.block) | (apply AWP.skip) | (apply AWP.exit) | (apply AWP.retF; exact rfl; exact rfl; exact rfl; exact rfl; exact lenA; exact rfl) | (apply AWP.ret) | (apply RunL.nil) | (apply RunL.on; exact rfl; exact rfl; exact rfl; exact rfl; (first | exact rfl | assumption)) | (apply RunL.noU; exact rfl; exact rfl; exact rfl; exact rfl; exact rfl; exact rfl) | (apply RunL.no; exact rfl; exact rfl; exact rfl; exact rfl; (first | exact rfl | assumption); exact rfl; exact rfl) | (refine AWP.cond _ (Rd.of rfl) (fun hc => ?_) (fun hc => ?_) <;> first | (exfalso; cases hc; done) | (have hc' := hc; (try simp only [sc, reduceCtorEq, cmpOf] at hc'); try (exfalso; omega)))
    | (
     apply AWP.drawA
     repeat' (first
       | (apply DL.cons; apply ol_neAs; exact Rd.of rfl; exact Rd.of rfl; exact rfl; exact rfl) | (apply DL.cons; (try (apply OpLoc.on; exact rfl; exact rfl; exact rfl; exact rfl; (first | exact rfl | assumption))); apply ol_ev (τ := τ); exact rfl; (fail); exact rfl; exact rfl) | (apply DL.cons; exact olA; exact rfl) | (apply DL.nil; kernel_rfl) | (refine DL.split rfl rfl rfl rfl (fun hb => ?_) (fun hb => ?_) <;> have hb' := hb <;> (try simp only [sc, reduceCtorEq, cmpOf] at hb') <;> try (exfalso; omega)))
     all_goals (fail_if_success apply DL.id))
    | (refine RunL.split rfl rfl rfl rfl (fun hb => ?_) (fun hb => ?_) <;> have hb' := hb <;> (try simp only [sc, reduceCtorEq, cmpOf] at hb') <;> try (exfalso; omega)) )
  refine AWP.loop (ι := Int) (fun i => ⟨[(0, .val (.sl 2 (L.map rowAs))), (1, .val (.sl 2 (L.map rowAs))), (5, .val (.int .i64 i))], []⟩) (fun i => 0 ≤ i ∧ i ≤ L.length) (fun i => (L.length - i).toNat) 0 ⟨by omega, by omega⟩ (St.Le.of (by repeat' (first | exact all_nil | refine all_cons rfl ?_)) (by repeat' (first | exact all_nil | refine all_cons rfl ?_))) ?_
  rintro i ⟨k1, k2⟩
  by_cases hi : i < L.length
  · obtain ⟨p, hp⟩ := at_some k1 hi
    have hrow : (L.map rowAs)[i.toNat]? = some [.int .i64 p.1, .int .i64 p.2] := by simp [hp]
    have hsf : (!(p.1 == p.1 && p.2 == p.2)) = false := by simp
    repeat' (first
      | (apply RunL.step; exact rfl; exact opA) | (apply RunL.hand; exact rfl; exact rfl; exact lenA; exact rfl) | (apply AWP.seq) | (apply AWP.region; exact rfl) | (apply AWP.block) | (apply AWP.skip) | (apply AWP.exit) | (apply AWP.retF; exact rfl; exact rfl; exact rfl; exact rfl; exact lenA; exact rfl) | (apply AWP.ret) | (apply RunL.nil) | (apply RunL.on; exact rfl; exact rfl; exact rfl; exact rfl; (first | exact rfl | assumption)) | (apply RunL.noU; exact rfl; exact rfl; exact rfl; exact rfl; exact rfl; exact rfl) | (apply RunL.no; exact rfl; exact rfl; exact rfl; exact rfl; (first | exact rfl | assumption); exact rfl; exact rfl) | (refine AWP.cond _ (Rd.of rfl) (fun hc => ?_) (fun hc => ?_) <;> first | (exfalso; cases hc; done) | (have hc' := hc; (try simp only [sc, reduceCtorEq, cmpOf] at hc'); try (exfalso; omega)))
      | (
       apply AWP.drawA
       repeat' (first
         | (apply DL.cons; apply ol_neAs; exact Rd.of rfl; exact Rd.of rfl; exact rfl; exact rfl) | (apply DL.cons; (try (apply OpLoc.on; exact rfl; exact rfl; exact rfl; exact rfl; (first | exact rfl | assumption))); apply ol_ev (τ := τ); exact rfl; (fail); exact rfl; exact rfl) | (apply DL.cons; exact olA; exact rfl) | (apply DL.nil; kernel_rfl) | (refine DL.split rfl rfl rfl rfl (fun hb => ?_) (fun hb => ?_) <;> have hb' := hb <;> (try simp only [sc, reduceCtorEq, cmpOf] at hb') <;> try (exfalso; omega)))
       all_goals (fail_if_success apply DL.id))
      | (refine RunL.split rfl rfl rfl rfl (fun hb => ?_) (fun hb => ?_) <;> have hb' := hb <;> (try simp only [sc, reduceCtorEq, cmpOf] at hb') <;> try (exfalso; omega)) )
    all_goals first
      | exact ⟨_, St.Le.of (by repeat' (first | exact all_nil | refine all_cons rfl ?_)) (by repeat' (first | exact all_nil | refine all_cons rfl ?_)), ⟨by omega, by omega⟩, by omega⟩
      | (exfalso; simp at *; done)
  · repeat' (first
    | (apply RunL.step; exact rfl; exact opA) | (apply RunL.hand; exact rfl; exact rfl; exact lenA; exact rfl) | (apply AWP.seq) | (apply AWP.region; exact rfl) | (apply AWP.block) | (apply AWP.skip) | (apply AWP.exit) | (apply AWP.retF; exact rfl; exact rfl; exact rfl; exact rfl; exact lenA; exact rfl) | (apply AWP.ret) | (apply RunL.nil) | (apply RunL.on; exact rfl; exact rfl; exact rfl; exact rfl; (first | exact rfl | assumption)) | (apply RunL.noU; exact rfl; exact rfl; exact rfl; exact rfl; exact rfl; exact rfl) | (apply RunL.no; exact rfl; exact rfl; exact rfl; exact rfl; (first | exact rfl | assumption); exact rfl; exact rfl) | (refine AWP.cond _ (Rd.of rfl) (fun hc => ?_) (fun hc => ?_) <;> first | (exfalso; cases hc; done) | (have hc' := hc; (try simp only [sc, reduceCtorEq, cmpOf] at hc'); try (exfalso; omega)))
    | (
     apply AWP.drawA
     repeat' (first
       | (apply DL.cons; apply ol_neAs; exact Rd.of rfl; exact Rd.of rfl; exact rfl; exact rfl) | (apply DL.cons; (try (apply OpLoc.on; exact rfl; exact rfl; exact rfl; exact rfl; (first | exact rfl | assumption))); apply ol_ev (τ := τ); exact rfl; (fail); exact rfl; exact rfl) | (apply DL.cons; exact olA; exact rfl) | (apply DL.nil; kernel_rfl) | (refine DL.split rfl rfl rfl rfl (fun hb => ?_) (fun hb => ?_) <;> have hb' := hb <;> (try simp only [sc, reduceCtorEq, cmpOf] at hb') <;> try (exfalso; omega)))
     all_goals (fail_if_success apply DL.id))
    | (refine RunL.split rfl rfl rfl rfl (fun hb => ?_) (fun hb => ?_) <;> have hb' := hb <;> (try simp only [sc, reduceCtorEq, cmpOf] at hb') <;> try (exfalso; omega)) )
    all_goals
      first   | (apply Ends.mk (.cons (.tmp rfl) .nil); first | rfl | (simp only [pack]; congr 1; simp only [cmpOf, decide_eq_true_eq, beq_iff_eq, bne_iff_ne]; omega))   | (apply Ends.mk (.cons (.tmp rfl) .nil); simp only [pack]; congr 1; simp only [cmpOf, sc]; omega)   | (exfalso; first | omega | (simp only [*, Bool.true_eq_false, Bool.false_eq_true, reduceCtorEq] at *; done) | grind)
end Go.Proofs.YtmefecfkajjajaaDoor.K
