/- Walks: functions whose result is new: nat.Norm, divLimb, divLong, DivMod; ratio.reduce, ratio.Norm. -/
import Derived.Test.YtpolinoaefdobaaDoorWalkJ
import Derived.Test.YtpolinoaefdobaaDoorNew
namespace Go.Proofs.YtpolinoaefdobaaDoor.K
open Go
set_option linter.unusedVariables false
set_option linter.unusedSimpArgs false

theorem norm_evN (a : List Int) (h : a.length ≤ 70368744177664) : EvalsN Tryd.prog 60 [.ints .u32 a] (.ints .u32 (limbs (val a))) := by
  refine evalsN_of_awp Tryd.func60 rfl (CallOK.of Tryd.func60 (by kernel_rfl) rfl) (Nat.le_of_ble_eq_true rfl) ?_
  rintro w R hR ⟨vs, hv⟩
  obtain ⟨hla, hla'⟩ := hv.nat 0 rfl
  have hlen := limbs_val_length a hla'
  repeat' (first
    | (apply RunL.step; exact rfl; first | (apply op_assignNilN (τ := τ); exact rfl; exact rfl) | (apply op_extractNS; exact Rd.of rfl; exact rfl; exact rfl; exact rfl) | (apply op_extractN; exact Rd.of rfl; exact rfl; exact rfl) | (apply op_appendNilN (τ := τ); exact rfl; exact rfl; exact rfl; exact rfl; exact Rd.of rfl; ((try dsimp only); omega); exact rfl) | fail) | (apply RunL.step; exact rfl; apply op_ev (τ := τ); exact rfl; (exact trim_ev _); exact rfl) | (apply RunL.step; exact rfl; exact opA) | (apply RunL.handN; exact rfl; exact rfl; exact lenA; exact rfl) | (apply AWP.seq) | (apply AWP.region; exact rfl) | (apply AWP.block) | (apply AWP.skip) | (apply AWP.exit) | (apply AWP.ret) | (apply RunL.nil) | (apply RunL.on; exact rfl; exact rfl; exact rfl; exact rfl; (first | exact rfl | assumption)) | (apply RunL.noU; exact rfl; exact rfl; exact rfl; exact rfl; exact rfl; exact rfl) | (apply RunL.no; exact rfl; exact rfl; exact rfl; exact rfl; (first | exact rfl | assumption); exact rfl; exact rfl) | (refine AWP.cond _ (Rd.of rfl) (fun hc => ?_) (fun hc => ?_) <;> first | (exfalso; cases hc; done) | (have hc' := hc; (try simp only [sc, reduceCtorEq, cmpOf] at hc'); try (exfalso; omega)))
    | (
     apply AWP.drawA
     repeat' (first
       | (apply DL.cons; (try (apply OpLoc.on; exact rfl; exact rfl; exact rfl; exact rfl; (first | exact rfl | assumption))); apply ol_ev (τ := τ); exact rfl; (exact trim_ev _); exact rfl; exact rfl) | (apply DL.cons; exact olA; exact rfl) | (apply DL.nil; kernel_rfl) | (refine DL.split rfl rfl rfl rfl (fun hb => ?_) (fun hb => ?_) <;> have hb' := hb <;> (try simp only [sc, reduceCtorEq, cmpOf] at hb') <;> try (exfalso; omega)))
     all_goals (fail_if_success apply DL.id))
    | (refine RunL.split rfl rfl rfl rfl (fun hb => ?_) (fun hb => ?_) <;> have hb' := hb <;> (try simp only [sc, reduceCtorEq, cmpOf] at hb') <;> try (exfalso; omega)) )
  refine AWP.toNew ⟨[(2, .val (.ints .u32 (limbs (val a))))], []⟩ hR (KLe.mk (by repeat' (first | exact all_nil | refine all_cons (by first | exact .nv | exact .sc rfl | exact .pb | exact .sb) ?_)) (by repeat' (first | exact all_nil | refine all_cons (by first | exact .row | (refine .cells ?_; repeat' (first | exact .nil | refine .cons ?_ ?_ | exact .sc rfl | exact .any rfl))) ?_))) ?_
  apply AWP.ret
  apply Ends.mk (.cons (.tmp rfl) .nil)
  rfl
theorem divLimb_evN (a : List Int) (d : Int) (hd : 0 < d) (h1 : a.length ≤ 70368744177664) : EvalsN Tryd.prog 55 [.ints .u32 a, .int .u32 d] (.tup [.ints .u32 (limbs (val a / d)), .int .u32 (val a % d)]) := by
  refine evalsN_of_awp Tryd.func55 rfl (CallOK.of Tryd.func55 (by kernel_rfl) rfl) (Nat.le_of_ble_eq_true rfl) ?_
  rintro w R hR ⟨vs, hv⟩
  obtain ⟨hla, ha⟩ := hv.nat 0 rfl
  have hdr := hv.int 1 rfl
  simp [InR, IntKind.min, IntKind.max, IntKind.bits, IntKind.signed] at hdr
  repeat' (first
    | (apply RunL.step; exact rfl; first | (apply op_ev1N; exact Rd.of rfl; exact trim_ev _; exact rfl) | fail) | (apply RunL.step; exact rfl; exact opA) | (apply RunL.hand; exact rfl; exact rfl; exact lenA; exact rfl) | (apply AWP.seq) | (apply AWP.region; exact rfl) | (apply AWP.block) | (apply AWP.skip) | (apply AWP.exit) | (apply AWP.retF; exact rfl; exact rfl; exact rfl; exact rfl; exact lenA; exact rfl) | (apply AWP.ret) | (apply RunL.nil) | (apply RunL.on; exact rfl; exact rfl; exact rfl; exact rfl; (first | exact rfl | assumption)) | (apply RunL.noU; exact rfl; exact rfl; exact rfl; exact rfl; exact rfl; exact rfl) | (apply RunL.no; exact rfl; exact rfl; exact rfl; exact rfl; (first | exact rfl | assumption); exact rfl; exact rfl) | (refine AWP.cond _ (Rd.of rfl) (fun hc => ?_) (fun hc => ?_) <;> first | (exfalso; cases hc; done) | (have hc' := hc; (try simp only [sc, reduceCtorEq, cmpOf] at hc'); try (exfalso; omega)))
    | (
     apply AWP.drawA
     repeat' (first
       | (apply DL.cons; (try (apply OpLoc.on; exact rfl; exact rfl; exact rfl; exact rfl; (first | exact rfl | assumption))); apply ol_ev (τ := τ); exact rfl; (fail); exact rfl; exact rfl) | (apply DL.cons; exact olA; exact rfl) | (apply DL.nil; kernel_rfl) | (refine DL.split rfl rfl rfl rfl (fun hb => ?_) (fun hb => ?_) <;> have hb' := hb <;> (try simp only [sc, reduceCtorEq, cmpOf] at hb') <;> try (exfalso; omega)))
     all_goals (fail_if_success apply DL.id))
    | (refine RunL.split rfl rfl rfl rfl (fun hb => ?_) (fun hb => ?_) <;> have hb' := hb <;> (try simp only [sc, reduceCtorEq, cmpOf] at hb') <;> try (exfalso; omega)) )
  refine AWP.loop3 (fun i l r => ⟨[(0, .val (.ints .u32 a)), (1, .val (.int .u32 d)), (6, .sb 12 0 a.length a.length), (7, .val (.int .u64 r)), (8, .val (.int .i64 i))], [(12, .row 35 .u32 l)]⟩)
    (fun i l r => -1 ≤ i ∧ i < a.length ∧ 0 ≤ r ∧ r < d ∧ l.length = a.length ∧ Lim l ∧ val (a.drop (i + 1).toNat) = d * val (l.drop (i + 1).toNat) + r)
    (fun i _ _ => (i + 1).toNat) (a.length - 1) (List.replicate a.length 0) 0 ⟨by omega, by omega, by omega, hd, by simp, Lim.rep _, ?_⟩ (St.Le.of (by repeat' (first | exact all_nil | refine all_cons rfl ?_)) (by repeat' (first | exact all_nil | refine all_cons rfl ?_))) ?_
  · rw [List.drop_eq_nil_of_le (by omega), List.drop_eq_nil_of_le (by simp)]; simp [val]
  rintro i l r ⟨k1, k2, k3, k4, k5, k6, k7⟩
  have q1 := ha.ix i
  have q2 := limb_div k3 k4 q1
  repeat' (first
    | (apply RunL.step; exact rfl; first | (apply op_assignNilN (τ := τ); exact rfl; exact rfl) | (apply op_extractNS; exact Rd.of rfl; exact rfl; exact rfl; exact rfl) | (apply op_extractN; exact Rd.of rfl; exact rfl; exact rfl) | (apply op_appendNilN (τ := τ); exact rfl; exact rfl; exact rfl; exact rfl; exact Rd.of rfl; ((try dsimp only); omega); exact rfl) | (apply op_ev1N; exact Rd.of rfl; exact trim_ev _; exact rfl) | fail) | (apply RunL.step; exact rfl; exact opA) | (apply RunL.handN; exact rfl; exact rfl; exact lenA; exact rfl) | (apply AWP.seq) | (apply AWP.region; exact rfl) | (apply AWP.block) | (apply AWP.skip) | (apply AWP.exit) | (apply AWP.ret) | (apply RunL.nil) | (apply RunL.on; exact rfl; exact rfl; exact rfl; exact rfl; (first | exact rfl | assumption)) | (apply RunL.noU; exact rfl; exact rfl; exact rfl; exact rfl; exact rfl; exact rfl) | (apply RunL.no; exact rfl; exact rfl; exact rfl; exact rfl; (first | exact rfl | assumption); exact rfl; exact rfl) | (refine AWP.cond _ (Rd.of rfl) (fun hc => ?_) (fun hc => ?_) <;> first | (exfalso; cases hc; done) | (have hc' := hc; (try simp only [sc, reduceCtorEq, cmpOf] at hc'); try (exfalso; omega)))
    | (
     apply AWP.drawA
     repeat' (first
       | (apply DL.cons; (try (apply OpLoc.on; exact rfl; exact rfl; exact rfl; exact rfl; (first | exact rfl | assumption))); apply ol_ev (τ := τ); exact rfl; (fail); exact rfl; exact rfl) | (apply DL.cons; exact olA; exact rfl) | (apply DL.nil; kernel_rfl) | (refine DL.split rfl rfl rfl rfl (fun hb => ?_) (fun hb => ?_) <;> have hb' := hb <;> (try simp only [sc, reduceCtorEq, cmpOf] at hb') <;> try (exfalso; omega)))
     all_goals (fail_if_success apply DL.id))
    | (refine RunL.split rfl rfl rfl rfl (fun hb => ?_) (fun hb => ?_) <;> have hb' := hb <;> (try simp only [sc, reduceCtorEq, cmpOf] at hb') <;> try (exfalso; omega)) )
  · refine ⟨_, _, _, St.Le.of (by repeat' (first | exact all_nil | refine all_cons rfl ?_)) (by repeat' (first | exact all_nil | refine all_cons rfl ?_)), ⟨by omega, by omega, by omega, by omega, by simp [k5], ?_, ?_⟩, by omega⟩
    · exact k6.set (by omega)
    · simp only [Nat.zero_add]
      exact divLimb_step hc' (by omega) (by omega) k7
  · refine AWP.toNew ⟨[(4, .val (.ints .u32 (limbs (val ((l.drop 0).take a.length))))), (5, .val (.int .u32 r))], []⟩ hR (KLe.mk (by repeat' (first | exact all_nil | refine all_cons (by first | exact .nv | exact .sc rfl | exact .pb | exact .sb) ?_)) (by repeat' (first | exact all_nil | refine all_cons (by first | exact .row | (refine .cells ?_; repeat' (first | exact .nil | refine .cons ?_ ?_ | exact .sc rfl | exact .any rfl))) ?_))) ?_
    apply AWP.ret
    apply Ends.mk (.cons (.tmp rfl) (.cons (.tmp rfl) .nil))
    have e : (i + 1).toNat = 0 := by omega
    rw [e] at k7
    simp only [List.drop_zero] at k7
    obtain ⟨e1, e2⟩ := divmod_of k7 k3 k4
    simp only [pack, List.drop_zero]
    rw [List.take_of_length_le (by omega), e1, e2]


set_option maxRecDepth 100000 in
theorem divLong_evN (a b : List Int) (hb2 : 2 ≤ b.length) (hab : b.length ≤ a.length) (ht : 1 ≤ ix b (b.length - 1)) (hla : a.length ≤ 70368744177663) :
    EvalsN Tryd.prog 61 [.ints .u32 a, .ints .u32 b] (.tup [.ints .u32 (limbs (val a / val b)), .ints .u32 (limbs (val a % val b))]) := by
  refine evalsN_of_awp Tryd.func61 rfl (CallOK.of Tryd.func61 (by kernel_rfl) rfl) (Nat.le_of_ble_eq_true rfl) ?_
  rintro w R hR ⟨vs, hv⟩
  obtain ⟨_, ha⟩ := hv.nat 0 rfl
  obtain ⟨_, hb⟩ := hv.nat 1 rfl
  obtain ⟨n, hn⟩ : ∃ n : Nat, b.length = n + 1 := ⟨b.length - 1, by omega⟩
  have en : (b.length : Int) - 1 = n := by omega
  rw [en] at ht
  obtain ⟨k, hk1, hk2, hk3, hk4, hk5⟩ := norm_shift hb hn ht
  have hlz : Evals Tryd.prog 69 [.int .u32 (ix b (b.length - 1))] (.int .i64 k) := by rw [← hk1, en]; exact lz32_ev _
  rw [← hn] at hk3
  have hV0 : 0 < val b * 2 ^ k := by have := Int.mul_pos (pow_pos' n) (pow2_pos k); omega
  repeat' (first
    | (apply RunL.step; exact rfl; first | (apply op_evNew (τ := τ); exact rfl; exact shiftLeft_ev _ _ (by omega) (by omega); exact dig_length _ _; exact rfl; exact rfl; exact rfl) | (apply op_lend (τ := τ); exact rfl; exact rfl; exact rfl; exact rfl; omega; exact rfl; exact hest _ _ (by omega) (by omega); exact rfl; exact rfl) | (apply op_evW (τ := τ); exact rfl; exact rfl; exact rfl; exact rfl; exact rfl; (first | exact hsub _ _ _ (by omega) (by omega) | exact hadd _ _ _ (by omega) (by omega)); exact rfl; exact rfl) | fail) | (apply RunL.step; exact rfl; apply op_ev (τ := τ); exact rfl; (first | exact hlz | exact trim_ev _ | exact shiftRight_ev _ _ (by omega) (by simp; omega)); exact rfl) | (apply RunL.step; exact rfl; exact opA) | (apply RunL.hand; exact rfl; exact rfl; exact lenA; exact rfl) | (apply AWP.seqLoop) | (apply AWP.seq) | (apply AWP.region; exact rfl) | (apply AWP.block) | (apply AWP.skip) | (apply AWP.exit) | (apply AWP.ret) | (apply RunL.nil) | (apply RunL.on; exact rfl; exact rfl; exact rfl; exact rfl; (first | exact rfl | assumption)) | (apply RunL.noU; exact rfl; exact rfl; exact rfl; exact rfl; exact rfl; exact rfl) | (apply RunL.no; exact rfl; exact rfl; exact rfl; exact rfl; (first | exact rfl | assumption); exact rfl; exact rfl) | (refine AWP.cond _ (Rd.of rfl) (fun hc => ?_) (fun hc => ?_) <;> first | (exfalso; cases hc; done) | (have hc' := hc; (try simp only [sc, reduceCtorEq, cmpOf] at hc'); try (exfalso; omega)))
    | (
     apply AWP.drawA
     repeat' (first
       | (apply DL.cons; (try (apply OpLoc.on; exact rfl; exact rfl; exact rfl; exact rfl; (first | exact rfl | assumption))); apply ol_ev (τ := τ); exact rfl; (first | exact hlz | exact trim_ev _ | exact shiftRight_ev _ _ (by omega) (by simp; omega)); exact rfl; exact rfl) | (apply DL.cons; exact olA; exact rfl) | (apply DL.nil; kernel_rfl) | (refine DL.split rfl rfl rfl rfl (fun hb => ?_) (fun hb => ?_) <;> have hb' := hb <;> (try simp only [sc, reduceCtorEq, cmpOf] at hb') <;> try (exfalso; omega)))
     all_goals (fail_if_success apply DL.id))
    | (refine RunL.split rfl rfl rfl rfl (fun hb => ?_) (fun hb => ?_) <;> have hb' := hb <;> (try simp only [sc, reduceCtorEq, cmpOf] at hb') <;> try (exfalso; omega)) )
  refine AWP.freezeAs 7 (dig b.length (val b * 2 ^ k)) rfl rfl rfl (by simp [dig_length]) (by rw [List.drop_zero]; exact dig_take _ (by simp)) ?_
  have hA0 : 0 ≤ val a := val_nonneg ha
  have hA1 : val a * 2 ^ k < 4294967296 ^ a.length * 2 ^ k := Int.mul_lt_mul_of_pos_right (val_lt ha) (pow2_pos k)
  have hA2 : val (dig (a.length + 1) (val a * 2 ^ k)) = val a * 2 ^ k := by
    refine val_dig _ _ (Int.mul_nonneg hA0 (Int.le_of_lt (pow2_pos k))) ?_
    have h1 : (2 : Int) ^ k ≤ 2 ^ 32 := pow2_le (by omega)
    have h2 : (4294967296 : Int) ^ a.length * 2 ^ k ≤ 4294967296 ^ a.length * 2 ^ 32 := Int.mul_le_mul_of_nonneg_left h1 (Int.le_of_lt (pow_pos' _))
    rw [Int.pow_succ]
    omega
  refine AWP.loop3 (fun j l Q => ⟨[(0, .val (.ints .u32 a)), (6, .val (.int .i64 k)), (7, .val (.ints .u32 (dig b.length (val b * 2 ^ k)))), (8, .sb 28 0 (a.length + 1) (a.length + 1)), (9, .val (.int .i64 b.length)), (10, .sb 36 0 ((a.length : Int) - b.length + 1).toNat ((a.length : Int) - b.length + 1).toNat), (11, .val (.int .i64 j))], [(28, .row 35 .u32 l), (36, .row 35 .u32 Q)]⟩)
    (fun j l Q => -1 ≤ j ∧ j ≤ (a.length : Int) - b.length ∧ l.length = a.length + 1 ∧ Lim l ∧ Q.length = ((a.length : Int) - b.length + 1).toNat ∧ Lim Q ∧ val (l.drop (j + 1).toNat) < val b * 2 ^ k ∧ val l + val b * 2 ^ k * (4294967296 ^ (j + 1).toNat * val (Q.drop (j + 1).toNat)) = val a * 2 ^ k)
    (fun j _ _ => (j + 1).toNat) ((a.length : Int) - b.length) (dig (a.length + 1) (val a * 2 ^ k)) (List.replicate ((a.length : Int) - b.length + 1).toNat 0) ⟨by omega, by omega, dig_length _ _, Lim.dig _ _, by simp, Lim.rep _, ?_, ?_⟩ (St.Le.of (by repeat' (first | exact all_nil | refine all_cons rfl ?_)) (by repeat' (first | exact all_nil | refine all_cons rfl ?_))) ?_
  · exact top_init (Lim.dig _ _) (n := n) (la := a.length) (by omega) (by rw [dig_length]; omega) (by rw [hA2]; exact hA1) hk5
  · rw [hA2, List.drop_eq_nil_of_le (by simp)]; simp [val]
  rintro j l Q ⟨k1, k2, k3, k4, k5, k6, k7, k8⟩
  have hVv : val (dig b.length (val b * 2 ^ k)) = val b * 2 ^ k := val_dig _ _ (Int.le_of_lt hV0) hk3
  have hVt := top_digit hn hk3 hk4
  have hVl : (dig b.length (val b * 2 ^ k)).length = b.length := dig_length _ _
  have hVL := Lim.dig b.length (val b * 2 ^ k)
  rcases (by omega : j = -1 ∨ 0 ≤ j) with hj | hj
  · subst hj
    simp only [show ((-1 : Int) + 1).toNat = 0 from rfl, List.drop_zero, Int.pow_zero, Int.one_mul] at k7 k8
    have hl0 := val_nonneg k4
    have hdm := divmod_of (a := val a * 2 ^ k) (d := val b * 2 ^ k) (q := val Q) (r := val l) (by omega) hl0 k7
    have hsd := shifted_div (a := val a) (b := val b) (k := k) (by
      rcases Int.lt_or_le 0 (val b) with h | h
      · exact h
      · exfalso
        have := Int.mul_le_mul_of_nonneg_right h (Int.le_of_lt (pow2_pos k))
        omega)
    rw [hdm.1, hdm.2] at hsd
    have htl := (val_take_lt k4 (n := b.length) (by omega)).1
    repeat' (first
      | (apply RunL.step; exact rfl; first | (apply op_evNew (τ := τ); exact rfl; exact shiftLeft_ev _ _ (by omega) (by omega); exact dig_length _ _; exact rfl; exact rfl; exact rfl) | (apply op_lend (τ := τ); exact rfl; exact rfl; exact rfl; exact rfl; omega; exact rfl; exact hest _ _ (by omega) (by omega); exact rfl; exact rfl) | (apply op_evW (τ := τ); exact rfl; exact rfl; exact rfl; exact rfl; exact rfl; (first | exact hsub _ _ _ (by omega) (by omega) | exact hadd _ _ _ (by omega) (by omega)); exact rfl; exact rfl) | fail) | (apply RunL.step; exact rfl; apply op_ev (τ := τ); exact rfl; (first | exact hlz | exact trim_ev _ | exact shiftRight_ev _ _ (by omega) (by simp; omega)); exact rfl) | (apply RunL.step; exact rfl; exact opA) | (apply RunL.hand; exact rfl; exact rfl; exact lenA; exact rfl) | (apply AWP.seqLoop) | (apply AWP.seq) | (apply AWP.region; exact rfl) | (apply AWP.block) | (apply AWP.skip) | (apply AWP.exit) | (apply AWP.ret) | (apply RunL.nil) | (apply RunL.on; exact rfl; exact rfl; exact rfl; exact rfl; (first | exact rfl | assumption)) | (apply RunL.noU; exact rfl; exact rfl; exact rfl; exact rfl; exact rfl; exact rfl) | (apply RunL.no; exact rfl; exact rfl; exact rfl; exact rfl; (first | exact rfl | assumption); exact rfl; exact rfl) | (refine AWP.cond _ (Rd.of rfl) (fun hc => ?_) (fun hc => ?_) <;> first | (exfalso; cases hc; done) | (have hc' := hc; (try simp only [sc, reduceCtorEq, cmpOf] at hc'); try (exfalso; omega)))
      | (
       apply AWP.drawA
       repeat' (first
         | (apply DL.cons; (try (apply OpLoc.on; exact rfl; exact rfl; exact rfl; exact rfl; (first | exact rfl | assumption))); apply ol_ev (τ := τ); exact rfl; (first | exact hlz | exact trim_ev _ | exact shiftRight_ev _ _ (by omega) (by simp; omega)); exact rfl; exact rfl) | (apply DL.cons; exact olA; exact rfl) | (apply DL.nil; kernel_rfl) | (refine DL.split rfl rfl rfl rfl (fun hb => ?_) (fun hb => ?_) <;> have hb' := hb <;> (try simp only [sc, reduceCtorEq, cmpOf] at hb') <;> try (exfalso; omega)))
       all_goals (fail_if_success apply DL.id))
      | (refine RunL.split rfl rfl rfl rfl (fun hb => ?_) (fun hb => ?_) <;> have hb' := hb <;> (try simp only [sc, reduceCtorEq, cmpOf] at hb') <;> try (exfalso; omega)) )
    refine Hold.mk ?_
    refine AWP.freezeN 10 Q rfl rfl rfl (by omega) (by rw [List.drop_zero]; exact List.take_of_length_le (by omega)) ?_
    refine AWP.freezeN 8 l rfl rfl rfl (by omega) (by rw [List.drop_zero]; exact List.take_of_length_le (by omega)) ?_
    refine AWP.toNew ⟨[(10, .val (.ints .u32 Q)), (8, .val (.ints .u32 l)), (9, .val (.int .i64 b.length)), (6, .val (.int .i64 k))], []⟩ hR (KLe.mk (by repeat' (first | exact all_nil | refine all_cons (by first | exact .nv | exact .sc rfl | exact .pb | exact .sb) ?_)) (by repeat' (first | exact all_nil | refine all_cons (by first | exact .row | (refine .cells ?_; repeat' (first | exact .nil | refine .cons ?_ ?_ | exact .sc rfl | exact .any rfl))) ?_))) ?_
    repeat' (first
      | (apply RunL.step; exact rfl; first | (apply op_evNew (τ := τ); exact rfl; exact shiftLeft_ev _ _ (by omega) (by omega); exact dig_length _ _; exact rfl; exact rfl; exact rfl) | (apply op_lend (τ := τ); exact rfl; exact rfl; exact rfl; exact rfl; omega; exact rfl; exact hest _ _ (by omega) (by omega); exact rfl; exact rfl) | (apply op_evW (τ := τ); exact rfl; exact rfl; exact rfl; exact rfl; exact rfl; (first | exact hsub _ _ _ (by omega) (by omega) | exact hadd _ _ _ (by omega) (by omega)); exact rfl; exact rfl) | fail) | (apply RunL.step; exact rfl; apply op_ev (τ := τ); exact rfl; (first | exact hlz | exact trim_ev _ | exact shiftRight_ev _ _ (by omega) (by simp; omega)); exact rfl) | (apply RunL.step; exact rfl; exact opA) | (apply RunL.hand; exact rfl; exact rfl; exact lenA; exact rfl) | (apply AWP.seq) | (apply AWP.region; exact rfl) | (apply AWP.block) | (apply AWP.skip) | (apply AWP.exit) | (apply AWP.retF; exact rfl; exact rfl; exact rfl; exact rfl; exact lenA; exact rfl) | (apply AWP.ret) | (apply RunL.nil) | (apply RunL.on; exact rfl; exact rfl; exact rfl; exact rfl; (first | exact rfl | assumption)) | (apply RunL.noU; exact rfl; exact rfl; exact rfl; exact rfl; exact rfl; exact rfl) | (apply RunL.no; exact rfl; exact rfl; exact rfl; exact rfl; (first | exact rfl | assumption); exact rfl; exact rfl) | (refine AWP.cond _ (Rd.of rfl) (fun hc => ?_) (fun hc => ?_) <;> first | (exfalso; cases hc; done) | (have hc' := hc; (try simp only [sc, reduceCtorEq, cmpOf] at hc'); try (exfalso; omega)))
      | (
       apply AWP.drawA
       repeat' (first
         | (apply DL.cons; (try (apply OpLoc.on; exact rfl; exact rfl; exact rfl; exact rfl; (first | exact rfl | assumption))); apply ol_ev (τ := τ); exact rfl; (first | exact hlz | exact trim_ev _ | exact shiftRight_ev _ _ (by omega) (by simp; omega)); exact rfl; exact rfl) | (apply DL.cons; exact olA; exact rfl) | (apply DL.nil; kernel_rfl) | (refine DL.split rfl rfl rfl rfl (fun hb => ?_) (fun hb => ?_) <;> have hb' := hb <;> (try simp only [sc, reduceCtorEq, cmpOf] at hb') <;> try (exfalso; omega)))
       all_goals (fail_if_success apply DL.id))
      | (refine RunL.split rfl rfl rfl rfl (fun hb => ?_) (fun hb => ?_) <;> have hb' := hb <;> (try simp only [sc, reduceCtorEq, cmpOf] at hb') <;> try (exfalso; omega)) )
    apply Ends.mk (.cons (.tmp rfl) (.cons (.tmp rfl) .nil))
    show D.tup [D.ints _ (limbs (val Q)), D.ints _ (limbs (val (dig ((l.take b.length).drop 0).length (val ((l.take b.length).drop 0) / 2 ^ k))))] = _
    have hb0 : 0 < val b := by
      rcases Int.lt_or_le 0 (val b) with h | h
      · exact h
      · exfalso
        have := Int.mul_le_mul_of_nonneg_right h (Int.le_of_lt (pow2_pos k))
        omega
    have hr1 := Int.emod_nonneg (val a) (show val b ≠ 0 by omega)
    have hr2 := Int.emod_lt_of_pos (val a) hb0
    have hr3 := val_lt hb
    rw [List.drop_zero, htl, hsd.1, hsd.2, Int.mul_ediv_cancel _ (by have := pow2_pos k; omega), show (l.take b.length).length = b.length by simp; omega, limbs_dig hr1 (by omega)]
  obtain ⟨J, rfl⟩ := Int.eq_ofNat_of_zero_le hj
  rw [show ((J : Int) + 1).toNat = J + 1 by omega] at k7 k8
  have D := div_step k4 (n := b.length) (j := J) (by omega) (by omega) hV0 hk3 k7 k8
  generalize dig b.length (val b * 2 ^ k) = V at *
  generalize val b * 2 ^ k = V' at *
  subst hVv
  dsimp only at D
  have E := div_estimate (m := (l.drop J).take (b.length + 1)) (V := V) ((k4.drop J).take _) hVL hb2 (by simp; omega) hVl hVt D.1
  dsimp only at E
  have hest0 := estimate_ev ((l.drop J).take (b.length + 1)) V (by omega) (by simp; omega) (by rw [hVl]; exact hVt) (by rw [hVl]; exact E.1)
  have hsub0 := fun q len cap => subtract_at l V q J len cap
  rw [hVl] at hest0
  simp only [hVl] at hsub0
  generalize estI _ _ _ _ = e at *
  obtain ⟨E1, E2, E3, E4⟩ := E
  obtain ⟨D1, D2, D3, D4, D5⟩ := D
  have hest : ∀ off len, off = J → len = b.length + 1 → Evals Tryd.prog 71 [.ints .u32 ((l.drop off).take len), .ints .u32 V] (.int .u64 e) := by rintro _ _ rfl rfl; exact hest0
  have hadd0 := fun x len cap => addBack_at l V x J len cap
  simp only [hVl] at hadd0
  have hM0 : 0 ≤ val ((l.drop J).take (b.length + 1)) := val_nonneg ((k4.drop J).take _)
  have hM1 := Int.mul_ediv_add_emod (val ((l.drop J).take (b.length + 1))) (val V)
  have hM2 := Int.emod_nonneg (val ((l.drop J).take (b.length + 1))) (show val V ≠ 0 by omega)
  have hM3 := Int.emod_lt_of_pos (val ((l.drop J).take (b.length + 1))) hV0
  have eJ : ((J : Nat) : Int) - 1 + 1 = J := by omega
  have fin : ∀ (x : Int) (p : Nat), p = J → x = val ((l.drop J).take (b.length + 1)) / val V → (0 ≤ x ∧ x < 4294967296 → -1 ≤ (J : Int) - 1 ∧ (J : Int) - 1 ≤ (a.length : Int) - b.length ∧ (l.take J ++ dig (b.length + 1) (val ((l.drop J).take (b.length + 1)) % val V) ++ l.drop (J + (b.length + 1))).length = a.length + 1 ∧ Lim (l.take J ++ dig (b.length + 1) (val ((l.drop J).take (b.length + 1)) % val V) ++ l.drop (J + (b.length + 1))) ∧ (Q.set p x).length = ((a.length : Int) - b.length + 1).toNat ∧ Lim (Q.set p x) ∧ val ((l.take J ++ dig (b.length + 1) (val ((l.drop J).take (b.length + 1)) % val V) ++ l.drop (J + (b.length + 1))).drop ((J : Int) - 1 + 1).toNat) < val V ∧ val (l.take J ++ dig (b.length + 1) (val ((l.drop J).take (b.length + 1)) % val V) ++ l.drop (J + (b.length + 1))) + val V * (4294967296 ^ ((J : Int) - 1 + 1).toNat * val ((Q.set p x).drop ((J : Int) - 1 + 1).toNat)) = val a * 2 ^ k) := by
    rintro x p rfl rfl hx
    rw [eJ, Int.toNat_natCast]
    exact ⟨by omega, by omega, by rw [D2, k3], D3, by simp [k5], k6.set hx, D4, D5⟩
  generalize hMM : val ((l.drop J).take (b.length + 1)) = M at *
  generalize hqq : M / val V = q at *
  generalize hrr : M % val V = r at *
  have hq0 : 0 ≤ q := by rw [← hqq]; exact Int.ediv_nonneg hM0 (Int.le_of_lt hV0)
  rcases E4 with he | he
  · subst he
    have hlt : ¬ M < e * val V := by rw [Int.mul_comm]; omega
    have hsub : ∀ off len cap, off = J → len = b.length + 1 → EvalsW Tryd.prog 72 35 .u32 l off len cap [.ints .u32 V, .int .u64 e] (.bool false) (l.take J ++ dig (b.length + 1) r ++ l.drop (J + (b.length + 1))) := by
      rintro _ len cap rfl hl
      have := hsub0 e len cap hl (by omega) ⟨E2, E3⟩ k4
      simp only [hlt, decide_false, if_false] at this
      rwa [show M - e * val V + 0 = r by rw [Int.mul_comm]; omega] at this
    repeat' (first
      | (apply RunL.step; exact rfl; first | (apply op_evNew (τ := τ); exact rfl; exact shiftLeft_ev _ _ (by omega) (by omega); exact dig_length _ _; exact rfl; exact rfl; exact rfl) | (apply op_lend (τ := τ); exact rfl; exact rfl; exact rfl; exact rfl; omega; exact rfl; exact hest _ _ (by omega) (by omega); exact rfl; exact rfl) | (apply op_evW (τ := τ); exact rfl; exact rfl; exact rfl; exact rfl; exact rfl; (first | exact hsub _ _ _ (by omega) (by omega) | exact hadd _ _ _ (by omega) (by omega)); exact rfl; exact rfl) | fail) | (apply RunL.step; exact rfl; apply op_ev (τ := τ); exact rfl; (first | exact hlz | exact trim_ev _ | exact shiftRight_ev _ _ (by omega) (by simp; omega)); exact rfl) | (apply RunL.step; exact rfl; exact opA) | (apply RunL.hand; exact rfl; exact rfl; exact lenA; exact rfl) | (apply AWP.seqLoop) | (apply AWP.seq) | (apply AWP.region; exact rfl) | (apply AWP.block) | (apply AWP.skip) | (apply AWP.exit) | (apply AWP.ret) | (apply RunL.nil) | (apply RunL.on; exact rfl; exact rfl; exact rfl; exact rfl; (first | exact rfl | assumption)) | (apply RunL.noU; exact rfl; exact rfl; exact rfl; exact rfl; exact rfl; exact rfl) | (apply RunL.no; exact rfl; exact rfl; exact rfl; exact rfl; (first | exact rfl | assumption); exact rfl; exact rfl) | (refine AWP.cond _ (Rd.of rfl) (fun hc => ?_) (fun hc => ?_) <;> first | (exfalso; cases hc; done) | (have hc' := hc; (try simp only [sc, reduceCtorEq, cmpOf] at hc'); try (exfalso; omega)))
      | (
       apply AWP.drawA
       repeat' (first
         | (apply DL.cons; (try (apply OpLoc.on; exact rfl; exact rfl; exact rfl; exact rfl; (first | exact rfl | assumption))); apply ol_ev (τ := τ); exact rfl; (first | exact hlz | exact trim_ev _ | exact shiftRight_ev _ _ (by omega) (by simp; omega)); exact rfl; exact rfl) | (apply DL.cons; exact olA; exact rfl) | (apply DL.nil; kernel_rfl) | (refine DL.split rfl rfl rfl rfl (fun hb => ?_) (fun hb => ?_) <;> have hb' := hb <;> (try simp only [sc, reduceCtorEq, cmpOf] at hb') <;> try (exfalso; omega)))
       all_goals (fail_if_success apply DL.id))
      | (refine RunL.split rfl rfl rfl rfl (fun hb => ?_) (fun hb => ?_) <;> have hb' := hb <;> (try simp only [sc, reduceCtorEq, cmpOf] at hb') <;> try (exfalso; omega)) )
    refine ⟨_, _, _, St.Le.of (by repeat' (first | exact all_nil | refine all_cons rfl ?_)) (by repeat' (first | exact all_nil | refine all_cons rfl ?_)), ?_, by omega⟩
    exact fin _ _ (by omega) rfl ⟨by omega, by omega⟩
  · subst he
    have hlt : M < (q + 1) * val V := by rw [Int.add_mul, Int.mul_comm]; omega
    have hsub : ∀ off len cap, off = J → len = b.length + 1 → EvalsW Tryd.prog 72 35 .u32 l off len cap [.ints .u32 V, .int .u64 (q + 1)] (.bool true) (l.take J ++ dig (b.length + 1) (M - (q + 1) * val V + 4294967296 ^ (b.length + 1)) ++ l.drop (J + (b.length + 1))) := by
      rintro _ len cap rfl hl
      have := hsub0 (q + 1) len cap hl (by omega) ⟨E2, E3⟩ k4
      simp only [hlt, decide_true, if_true] at this
      exact this
    have hx : val (dig (b.length + 1) (M - (q + 1) * val V + 4294967296 ^ (b.length + 1))) = M - (q + 1) * val V + 4294967296 ^ (b.length + 1) := by
      have h1 : (4294967296 : Int) ^ (b.length + 1) = 4294967296 ^ b.length * 4294967296 := Int.pow_succ _ _
      have h2 := pow_pos' b.length
      have h3 : (q + 1) * val V = val V * q + val V := by rw [Int.add_mul, Int.mul_comm]; omega
      exact val_dig _ _ (by omega) (by omega)
    have hadd : ∀ off len cap, off = J → len = b.length + 1 → EvalsW Tryd.prog 73 35 .u32 (l.take J ++ dig (b.length + 1) (M - (q + 1) * val V + 4294967296 ^ (b.length + 1)) ++ l.drop (J + (b.length + 1))) off len cap [.ints .u32 V] (.tup []) (l.take J ++ dig (b.length + 1) r ++ l.drop (J + (b.length + 1))) := by
      rintro _ len cap rfl hl
      have := hadd0 (M - (q + 1) * val V + 4294967296 ^ (b.length + 1)) len cap hl (by omega)
      rw [hx, show M - (q + 1) * val V + 4294967296 ^ (b.length + 1) + val V = r + 4294967296 ^ (b.length + 1) * 1 by rw [Int.add_mul, Int.mul_comm q]; omega, dig_add_mul] at this
      exact this
    have hl1 : ∀ x : Int, (l.take J ++ dig (b.length + 1) x ++ l.drop (J + (b.length + 1))).length = a.length + 1 := by intro x; simp [dig_length]; omega
    have hl2 := hl1 (M - (q + 1) * val V + 4294967296 ^ (b.length + 1))
    repeat' (first
      | (apply RunL.step; exact rfl; first | (apply op_evNew (τ := τ); exact rfl; exact shiftLeft_ev _ _ (by omega) (by omega); exact dig_length _ _; exact rfl; exact rfl; exact rfl) | (apply op_lend (τ := τ); exact rfl; exact rfl; exact rfl; exact rfl; omega; exact rfl; exact hest _ _ (by omega) (by omega); exact rfl; exact rfl) | (apply op_evW (τ := τ); exact rfl; exact rfl; exact rfl; exact rfl; exact rfl; (first | exact hsub _ _ _ (by omega) (by omega) | exact hadd _ _ _ (by omega) (by omega)); exact rfl; exact rfl) | fail) | (apply RunL.step; exact rfl; apply op_ev (τ := τ); exact rfl; (first | exact hlz | exact trim_ev _ | exact shiftRight_ev _ _ (by omega) (by simp; omega)); exact rfl) | (apply RunL.step; exact rfl; exact opA) | (apply RunL.hand; exact rfl; exact rfl; exact lenA; exact rfl) | (apply AWP.seqLoop) | (apply AWP.seq) | (apply AWP.region; exact rfl) | (apply AWP.block) | (apply AWP.skip) | (apply AWP.exit) | (apply AWP.ret) | (apply RunL.nil) | (apply RunL.on; exact rfl; exact rfl; exact rfl; exact rfl; (first | exact rfl | assumption)) | (apply RunL.noU; exact rfl; exact rfl; exact rfl; exact rfl; exact rfl; exact rfl) | (apply RunL.no; exact rfl; exact rfl; exact rfl; exact rfl; (first | exact rfl | assumption); exact rfl; exact rfl) | (refine AWP.cond _ (Rd.of rfl) (fun hc => ?_) (fun hc => ?_) <;> first | (exfalso; cases hc; done) | (have hc' := hc; (try simp only [sc, reduceCtorEq, cmpOf] at hc'); try (exfalso; omega)))
      | (
       apply AWP.drawA
       repeat' (first
         | (apply DL.cons; (try (apply OpLoc.on; exact rfl; exact rfl; exact rfl; exact rfl; (first | exact rfl | assumption))); apply ol_ev (τ := τ); exact rfl; (first | exact hlz | exact trim_ev _ | exact shiftRight_ev _ _ (by omega) (by simp; omega)); exact rfl; exact rfl) | (apply DL.cons; exact olA; exact rfl) | (apply DL.nil; kernel_rfl) | (refine DL.split rfl rfl rfl rfl (fun hb => ?_) (fun hb => ?_) <;> have hb' := hb <;> (try simp only [sc, reduceCtorEq, cmpOf] at hb') <;> try (exfalso; omega)))
       all_goals (fail_if_success apply DL.id))
      | (refine RunL.split rfl rfl rfl rfl (fun hb => ?_) (fun hb => ?_) <;> have hb' := hb <;> (try simp only [sc, reduceCtorEq, cmpOf] at hb') <;> try (exfalso; omega)) )
    refine ⟨_, _, _, St.Le.of (by repeat' (first | exact all_nil | refine all_cons rfl ?_)) (by repeat' (first | exact all_nil | refine all_cons rfl ?_)), ?_, by omega⟩
    exact fin _ _ (by omega) (by omega) ⟨by omega, by omega⟩


set_option maxRecDepth 100000 in
theorem divMod_evN (a b : List Int) (h1 : a.length ≤ 70368744177663) : EvalsN Tryd.prog 40 [.ints .u32 a, .ints .u32 b] (.tup [.ints .u32 (limbs (val a / val b)), .ints .u32 (if val b = 0 then [] else limbs (val a % val b)), .bool (decide (val b ≠ 0))]) := by
  refine evalsN_of_awp Tryd.func40 rfl (CallOK.of Tryd.func40 (by kernel_rfl) rfl) (Nat.le_of_ble_eq_true rfl) ?_
  rintro w R hR ⟨vs, hv⟩
  obtain ⟨hla, ha⟩ := hv.nat 0 rfl
  obtain ⟨hlb, hb⟩ := hv.nat 1 rfl
  have g1 := limbs_val_length a ha
  have g2 := limbs_val_length b hb
  have va := val_nonneg ha
  have vb := val_nonneg hb
  have g3 := Lim.limbs (val a)
  have g4 := Lim.limbs (val b)
  have f0 := limbs_nil vb
  have f1 := fun h => limbs_one vb h
  have f2 := fun h => limbs_top (n := val b) h
  have f3 : ¬ cmpI (val (limbs (val a))) (val (limbs (val b))) < 0 → (limbs (val b)).length ≤ (limbs (val a)).length := fun h => by
    rw [val_limbs va, val_limbs vb, cmpI_lt] at h
    exact limbs_mono (by omega)
  repeat' (first
    | (apply RunL.step; exact rfl; first | (apply op_assignNilN (τ := τ); exact rfl; exact rfl) | (apply op_extractNS; exact Rd.of rfl; exact rfl; exact rfl; exact rfl) | (apply op_extractN; exact Rd.of rfl; exact rfl; exact rfl) | (apply op_appendNilN (τ := τ); exact rfl; exact rfl; exact rfl; exact rfl; exact Rd.of rfl; ((try dsimp only); omega); exact rfl) | (apply op_evN (τ := τ); exact rfl; (first | exact norm_evN _ (by omega) | exact divLimb_evN _ _ (by omega) (by omega) | exact divLong_evN _ _ (by omega) (by omega) (by omega) (by omega)); exact rfl) | (apply op_ev1S; exact Rd.of rfl; exact rfl; exact of_ev _; exact rfl) | fail) | (apply RunL.step; exact rfl; apply op_ev (τ := τ); exact rfl; (first | exact trim_ev _ | exact cmp_ev _ _); exact rfl) | (apply RunL.step; exact rfl; exact opA) | (apply RunL.handN; exact rfl; exact rfl; exact lenA; exact rfl) | (apply AWP.seq) | (apply AWP.region; exact rfl) | (apply AWP.block) | (apply AWP.skip) | (apply AWP.exit) | (apply AWP.ret) | (apply RunL.nil) | (apply RunL.on; exact rfl; exact rfl; exact rfl; exact rfl; (first | exact rfl | assumption)) | (apply RunL.noU; exact rfl; exact rfl; exact rfl; exact rfl; exact rfl; exact rfl) | (apply RunL.no; exact rfl; exact rfl; exact rfl; exact rfl; (first | exact rfl | assumption); exact rfl; exact rfl) | (refine AWP.cond _ (Rd.of rfl) (fun hc => ?_) (fun hc => ?_) <;> first | (exfalso; cases hc; done) | (have hc' := hc; (try simp only [sc, reduceCtorEq, cmpOf] at hc'); try (exfalso; omega)))
    | (
     apply AWP.drawA
     repeat' (first
       | (apply DL.cons; (try (apply OpLoc.on; exact rfl; exact rfl; exact rfl; exact rfl; (first | exact rfl | assumption))); apply ol_ev (τ := τ); exact rfl; (first | exact trim_ev _ | exact cmp_ev _ _); exact rfl; exact rfl) | (apply DL.cons; exact olA; exact rfl) | (apply DL.nil; kernel_rfl) | (refine DL.split rfl rfl rfl rfl (fun hb => ?_) (fun hb => ?_) <;> have hb' := hb <;> (try simp only [sc, reduceCtorEq, cmpOf] at hb') <;> try (exfalso; omega)))
     all_goals (fail_if_success apply DL.id))
    | (refine RunL.split rfl rfl rfl rfl (fun hb => ?_) (fun hb => ?_) <;> have hb' := hb <;> (try simp only [sc, reduceCtorEq, cmpOf] at hb') <;> try (exfalso; omega)) )
  all_goals
    show AWP _ _ _ _ _
    refine AWP.toNew ⟨[(4, .val _), (5, .val _), (6, .val _)], []⟩ hR (KLe.mk (by repeat' (first | exact all_nil | refine all_cons (by first | exact .nv | exact .sc rfl | exact .pb | exact .sb) ?_)) (by repeat' (first | exact all_nil | refine all_cons (by first | exact .row | (refine .cells ?_; repeat' (first | exact .nil | refine .cons ?_ ?_ | exact .sc rfl | exact .any rfl))) ?_))) ?_
    apply AWP.ret
  · apply Ends.mk (.cons (.tmp rfl) (.cons (.tmp rfl) (.cons (.tmp rfl) .nil)))
    have e : val b = 0 := by omega
    simp [pack, e, limbs_zero]
  · apply Ends.mk (.cons (.tmp rfl) (.cons (.tmp rfl) (.cons (.tmp rfl) .nil)))
    rw [val_limbs va, val_limbs vb, cmpI_lt] at hc'
    have e : val b ≠ 0 := by omega
    have e1 := Int.ediv_eq_zero_of_lt va hc'
    have e2 := Int.emod_eq_of_lt va hc'
    simp [pack, e, e1, e2, limbs_zero, val_limbs va]
  · apply Ends.mk (.cons (.tmp rfl) (.cons (.tmp rfl) (.cons (.tmp rfl) .nil)))
    have e : val b ≠ 0 := by omega
    have e1 := f1 (by omega)
    rw [e1]
    have e2 := g4.ix 0
    have e3 := Int.emod_nonneg (val a) e
    have e4 := Int.emod_lt_of_pos (val a) (show 0 < val b by omega)
    simp [pack, e, val_limbs va]
    congr 1
    omega
  · apply Ends.mk (.cons (.tmp rfl) (.cons (.tmp rfl) (.cons (.tmp rfl) .nil)))
    have e : val b ≠ 0 := by omega
    simp [pack, e, val_limbs va, val_limbs vb]

theorem cdivN {a b : List Int} {x y : Int} {k m : Nat} [h : NA a x k] [g : NA b y m] (hy : 0 < y := by first | assumption | omega) (hk : k ≤ 70368744177663 := by first | omega | (simp only [List.length_cons, List.length_nil, List.length_set, List.length_replicate, List.length_append, List.length_take, List.length_drop]; omega)) : EvalsN Tryd.prog 40 [.ints .u32 a, .ints .u32 b] (.tup [.ints .u32 (limbs (x / y)), .ints .u32 (limbs (x % y)), .bool true]) := by
  have := h.hl; have := g.hl; have := divMod_evN a b (by omega); rw [h.v, g.v, if_neg (by omega)] at this
  rwa [show decide (y ≠ 0) = true from decide_eq_true (by omega)] at this
theorem reduce_evN {n : Bool} {l d : List Int} {x y : Int} {k m : Nat} [h : IA n l x k] [g : NA d y m] (hy : 0 < y := by first | assumption | omega) (hk : k + m ≤ 1000000000000 := by first | omega | (simp only [List.length_cons, List.length_nil, List.length_set, List.length_replicate, List.length_append, List.length_take, List.length_drop]; omega)) : EvalsN Tryd.prog 26 [.agg [.bool n, .ints .u32 l], .ints .u32 d] (ratD (Rat.divInt x y)) := by
  refine evalsN_of_awp Tryd.func26 rfl (CallOK.of Tryd.func26 (by kernel_rfl) rfl) (Nat.le_of_ble_eq_true rfl) ?_
  rintro w R hR ⟨vs, hv⟩
  obtain ⟨hl, hl'⟩ := hv.sint 0 rfl
  obtain ⟨hd, hd'⟩ := hv.nat 1 rfl
  have := h.hl
  have := g.hl
  have s1 := SzN.val hl'
  have s2 := SzN.val hd'
  have hv1 := h.v
  have hv2 := g.v
  have p1 : (0 : Int) < (Int.gcd (val l) (val d) : Nat) := by
    have := Int.gcd_pos_of_ne_zero_right (val l) (show val d ≠ 0 by omega); omega
  clear h g
  apply AWP.seq
  apply AWP.region
  exact rfl
  repeat' (first
    | (apply RunL.step; exact rfl; first | (apply op_assignNilN (τ := τ); exact rfl; exact rfl) | (apply op_extractNS; exact Rd.of rfl; exact rfl; exact rfl; exact rfl) | (apply op_extractN; exact Rd.of rfl; exact rfl; exact rfl) | (apply op_appendNilN (τ := τ); exact rfl; exact rfl; exact rfl; exact rfl; exact Rd.of rfl; ((try dsimp only); omega); exact rfl) | (apply op_evN (τ := τ); exact rfl; exact cdivN; exact rfl) | fail) | (apply RunL.step; exact rfl; apply op_ev (τ := τ); exact rfl; (first | exact cnorm | exact ctrim | exact ccmp | exact of_ev _ | exact cadd | exact csub | exact cmul | exact cdiv | exact cdiv0 | exact cgcd | exact cmake | exact cineg | exact cisign | exact cicmp | exact ciadd | exact cimul | exact cidiv | exact cidiv0 | exact iof_ev _); exact rfl) | (apply RunL.step; exact rfl; exact opA) | (apply RunL.handN; exact rfl; exact rfl; exact lenA; exact rfl) | (apply RunL.on; exact rfl; exact rfl; exact rfl; exact rfl; (first | exact rfl | assumption)) | (apply RunL.noU; exact rfl; exact rfl; exact rfl; exact rfl; exact rfl; exact rfl) | (apply RunL.no; exact rfl; exact rfl; exact rfl; exact rfl; (first | exact rfl | assumption); exact rfl; exact rfl) )
  apply RunL.nil
  apply AWP.seq
  apply AWP.region
  exact rfl
  repeat' (first
    | (apply RunL.step; exact rfl; first | (apply op_assignNilN (τ := τ); exact rfl; exact rfl) | (apply op_extractNS; exact Rd.of rfl; exact rfl; exact rfl; exact rfl) | (apply op_extractN; exact Rd.of rfl; exact rfl; exact rfl) | (apply op_appendNilN (τ := τ); exact rfl; exact rfl; exact rfl; exact rfl; exact Rd.of rfl; ((try dsimp only); omega); exact rfl) | (apply op_evN (τ := τ); exact rfl; exact cdivN; exact rfl) | fail) | (apply RunL.step; exact rfl; apply op_ev (τ := τ); exact rfl; (first | exact cnorm | exact ctrim | exact ccmp | exact of_ev _ | exact cadd | exact csub | exact cmul | exact cdiv | exact cdiv0 | exact cgcd | exact cmake | exact cineg | exact cisign | exact cicmp | exact ciadd | exact cimul | exact cidiv | exact cidiv0 | exact iof_ev _); exact rfl) | (apply RunL.step; exact rfl; exact opA) | (apply RunL.handN; exact rfl; exact rfl; exact lenA; exact rfl) | (apply RunL.on; exact rfl; exact rfl; exact rfl; exact rfl; (first | exact rfl | assumption)) | (apply RunL.noU; exact rfl; exact rfl; exact rfl; exact rfl; exact rfl; exact rfl) | (apply RunL.no; exact rfl; exact rfl; exact rfl; exact rfl; (first | exact rfl | assumption); exact rfl; exact rfl) )
  apply RunL.nil
  apply AWP.seq
  apply AWP.region
  exact rfl
  repeat' (first
    | (apply RunL.step; exact rfl; first | (apply op_assignNilN (τ := τ); exact rfl; exact rfl) | (apply op_extractNS; exact Rd.of rfl; exact rfl; exact rfl; exact rfl) | (apply op_extractN; exact Rd.of rfl; exact rfl; exact rfl) | (apply op_appendNilN (τ := τ); exact rfl; exact rfl; exact rfl; exact rfl; exact Rd.of rfl; ((try dsimp only); omega); exact rfl) | (apply op_evN (τ := τ); exact rfl; exact cdivN; exact rfl) | fail) | (apply RunL.step; exact rfl; apply op_ev (τ := τ); exact rfl; (first | exact cnorm | exact ctrim | exact ccmp | exact of_ev _ | exact cadd | exact csub | exact cmul | exact cdiv | exact cdiv0 | exact cgcd | exact cmake | exact cineg | exact cisign | exact cicmp | exact ciadd | exact cimul | exact cidiv | exact cidiv0 | exact iof_ev _); exact rfl) | (apply RunL.step; exact rfl; exact opA) | (apply RunL.handN; exact rfl; exact rfl; exact lenA; exact rfl) | (apply RunL.on; exact rfl; exact rfl; exact rfl; exact rfl; (first | exact rfl | assumption)) | (apply RunL.noU; exact rfl; exact rfl; exact rfl; exact rfl; exact rfl; exact rfl) | (apply RunL.no; exact rfl; exact rfl; exact rfl; exact rfl; (first | exact rfl | assumption); exact rfl; exact rfl) )
  apply RunL.nil
  apply AWP.seq
  apply AWP.region
  exact rfl
  repeat' (first
    | (apply RunL.step; exact rfl; first | (apply op_assignNilN (τ := τ); exact rfl; exact rfl) | (apply op_extractNS; exact Rd.of rfl; exact rfl; exact rfl; exact rfl) | (apply op_extractN; exact Rd.of rfl; exact rfl; exact rfl) | (apply op_appendNilN (τ := τ); exact rfl; exact rfl; exact rfl; exact rfl; exact Rd.of rfl; ((try dsimp only); omega); exact rfl) | (apply op_evN (τ := τ); exact rfl; exact cdivN; exact rfl) | fail) | (apply RunL.step; exact rfl; apply op_ev (τ := τ); exact rfl; (first | exact cnorm | exact ctrim | exact ccmp | exact of_ev _ | exact cadd | exact csub | exact cmul | exact cdiv | exact cdiv0 | exact cgcd | exact cmake | exact cineg | exact cisign | exact cicmp | exact ciadd | exact cimul | exact cidiv | exact cidiv0 | exact iof_ev _); exact rfl) | (apply RunL.step; exact rfl; exact opA) | (apply RunL.handN; exact rfl; exact rfl; exact lenA; exact rfl) | (apply RunL.on; exact rfl; exact rfl; exact rfl; exact rfl; (first | exact rfl | assumption)) | (apply RunL.noU; exact rfl; exact rfl; exact rfl; exact rfl; exact rfl; exact rfl) | (apply RunL.no; exact rfl; exact rfl; exact rfl; exact rfl; (first | exact rfl | assumption); exact rfl; exact rfl) )
  apply RunL.nil
  refine AWP.toNew ⟨[(6, .val (.ints .u32 (limbs (val l / (Int.gcd (val l) (val d) : Nat))))), (9, .val (.ints .u32 (limbs (val d / (Int.gcd (val l) (val d) : Nat))))), (2, .pb 2 0), (4, .pb 4 0)], [(2, .cells 25 [.bool n, .any]), (4, .cells 27 [.any, .any, .any])]⟩ hR (KLe.mk (by repeat' (first | exact all_nil | refine all_cons (by first | exact .nv | exact .sc rfl | exact .pb | exact .sb) ?_)) (by repeat' (first | exact all_nil | refine all_cons (by first | exact .row | (refine .cells ?_; repeat' (first | exact .nil | refine .cons ?_ ?_ | exact .sc rfl | exact .any rfl))) ?_))) ?_
  repeat' (first
    | (apply RunL.step; exact rfl; first | (apply op_evN (τ := τ); exact rfl; exact cdivN; exact rfl) | fail) | (apply RunL.step; exact rfl; apply op_ev (τ := τ); exact rfl; (first | exact cnorm | exact ctrim | exact ccmp | exact of_ev _ | exact cadd | exact csub | exact cmul | exact cdiv | exact cdiv0 | exact cgcd | exact cmake | exact cineg | exact cisign | exact cicmp | exact ciadd | exact cimul | exact cidiv | exact cidiv0 | exact iof_ev _); exact rfl) | (apply RunL.step; exact rfl; exact opA) | (apply RunL.hand; exact rfl; exact rfl; exact lenA; exact rfl) | (apply AWP.seq) | (apply AWP.region; exact rfl) | (apply AWP.block) | (apply AWP.skip) | (apply AWP.exit) | (apply AWP.retF; exact rfl; exact rfl; exact rfl; exact rfl; exact lenA; exact rfl) | (apply AWP.ret) | (apply RunL.nil) | (apply RunL.on; exact rfl; exact rfl; exact rfl; exact rfl; (first | exact rfl | assumption)) | (apply RunL.noU; exact rfl; exact rfl; exact rfl; exact rfl; exact rfl; exact rfl) | (apply RunL.no; exact rfl; exact rfl; exact rfl; exact rfl; (first | exact rfl | assumption); exact rfl; exact rfl) | (refine AWP.cond _ (Rd.of rfl) (fun hc => ?_) (fun hc => ?_) <;> first | (exfalso; cases hc; done) | (have hc' := hc; (try simp only [sc, reduceCtorEq, cmpOf] at hc'); try (exfalso; omega)))
    | (
     apply AWP.drawA
     repeat' (first
       | (apply DL.cons; (try (apply OpLoc.on; exact rfl; exact rfl; exact rfl; exact rfl; (first | exact rfl | assumption))); apply ol_ev (τ := τ); exact rfl; (first | exact cnorm | exact ctrim | exact ccmp | exact of_ev _ | exact cadd | exact csub | exact cmul | exact cdiv | exact cdiv0 | exact cgcd | exact cmake | exact cineg | exact cisign | exact cicmp | exact ciadd | exact cimul | exact cidiv | exact cidiv0 | exact iof_ev _); exact rfl; exact rfl) | (apply DL.cons; exact olA; exact rfl) | (apply DL.nil; kernel_rfl) | (refine DL.split rfl rfl rfl rfl (fun hb => ?_) (fun hb => ?_) <;> have hb' := hb <;> (try simp only [sc, reduceCtorEq, cmpOf] at hb') <;> try (exfalso; omega)))
     all_goals (fail_if_success apply DL.id))
    | (refine RunL.split rfl rfl rfl rfl (fun hb => ?_) (fun hb => ?_) <;> have hb' := hb <;> (try simp only [sc, reduceCtorEq, cmpOf] at hb') <;> try (exfalso; omega)) )
  apply Ends.mk (.cons (.cellA (τ := τ) rfl rfl rfl rfl rfl) .nil)
  show D.agg [D.bool (decide (sN n (val l / (Int.gcd (val l) (val d) : Nat)) < 0)), D.ints .u32 (limbs (sN n (val l / (Int.gcd (val l) (val d) : Nat))).natAbs), D.ints .u32 (limbs (val d / (Int.gcd (val l) (val d) : Nat)))] = _
  obtain ⟨e1, e2⟩ := rat_of (u := x) (v := y) hy
  rw [sN_div hl' (Int.gcd_dvd_left _ _)]
  unfold ratD
  rw [e1, e2, ← hv1, ← hv2, gcd_sI]
section
variable {s : Bool} {l d : List Int} {x : Rat} {k : Nat}
theorem rnormN [h : RA s l d x k] (hk : k ≤ 100000000000 := by first | omega | (simp only [List.length_cons, List.length_nil, List.length_set, List.length_replicate, List.length_append, List.length_take, List.length_drop]; omega)) : EvalsN Tryd.prog 8 [.agg [.bool s, .ints .u32 l, .ints .u32 d]] (ratD x) := by
  refine evalsN_of_awp Tryd.func8 rfl (CallOK.of Tryd.func8 (by kernel_rfl) rfl) (Nat.le_of_ble_eq_true rfl) ?_
  rintro w R hR ⟨vs, hv⟩
  obtain ⟨⟨_, hl⟩, _, hd⟩ := hv.rat 0 rfl
  obtain ⟨a1, a2, a3, a4, a5, a6, a7⟩ := h.part hl hd
  clear h
  apply AWP.seq
  apply AWP.region
  exact rfl
  repeat' (first
    | (apply RunL.step; exact rfl; first | (apply op_assignNilN (τ := τ); exact rfl; exact rfl) | (apply op_extractNS; exact Rd.of rfl; exact rfl; exact rfl; exact rfl) | (apply op_extractN; exact Rd.of rfl; exact rfl; exact rfl) | (apply op_appendNilN (τ := τ); exact rfl; exact rfl; exact rfl; exact rfl; exact Rd.of rfl; ((try dsimp only); omega); exact rfl) | (apply op_evN (τ := τ); exact rfl; exact reduce_evN; exact rfl) | fail) | (apply RunL.step; exact rfl; apply op_ev (τ := τ); exact rfl; (first | exact parts_ev _ _ _); exact rfl) | (apply RunL.step; exact rfl; exact opA) | (apply RunL.handN; exact rfl; exact rfl; exact lenA; exact rfl) | (apply RunL.on; exact rfl; exact rfl; exact rfl; exact rfl; (first | exact rfl | assumption)) | (apply RunL.noU; exact rfl; exact rfl; exact rfl; exact rfl; exact rfl; exact rfl) | (apply RunL.no; exact rfl; exact rfl; exact rfl; exact rfl; (first | exact rfl | assumption); exact rfl; exact rfl) )
  apply RunL.nil
  apply AWP.regionNew 5 ⟨[(2, .pb 2 0), (7, .val (ratD (Rat.divInt (sI (partS s d) (partL l d)) (val (partD d)))))], [(2, .cells 27 [.any, .any, .any])]⟩ _ _ rfl rfl hR
  repeat' (first
    | (apply RunL.step; exact rfl; first | (apply op_assignNilN (τ := τ); exact rfl; exact rfl) | (apply op_extractNS; exact Rd.of rfl; exact rfl; exact rfl; exact rfl) | (apply op_extractN; exact Rd.of rfl; exact rfl; exact rfl) | (apply op_appendNilN (τ := τ); exact rfl; exact rfl; exact rfl; exact rfl; exact Rd.of rfl; ((try dsimp only); omega); exact rfl) | (apply op_evN (τ := τ); exact rfl; exact reduce_evN; exact rfl) | fail) | (apply RunL.step; exact rfl; apply op_ev (τ := τ); exact rfl; (first | exact parts_ev _ _ _); exact rfl) | (apply RunL.step; exact rfl; exact opA) | (apply RunL.handN; exact rfl; exact rfl; exact lenA; exact rfl) )
  apply RunL.nil
  refine ⟨(KLe.mk (by repeat' (first | exact all_nil | refine all_cons (by first | exact .nv | exact .sc rfl | exact .pb | exact .sb) ?_)) (by repeat' (first | exact all_nil | refine all_cons (by first | exact .row | (refine .cells ?_; repeat' (first | exact .nil | refine .cons ?_ ?_ | exact .sc rfl | exact .any rfl))) ?_))), ?_⟩
  repeat' (first
    | (apply RunL.step; exact rfl; first | (apply op_evN (τ := τ); exact rfl; exact reduce_evN; exact rfl) | fail) | (apply RunL.step; exact rfl; apply op_ev (τ := τ); exact rfl; (first | exact parts_ev _ _ _); exact rfl) | (apply RunL.step; exact rfl; exact opA) | (apply RunL.hand; exact rfl; exact rfl; exact lenA; exact rfl) | (apply AWP.seq) | (apply AWP.region; exact rfl) | (apply AWP.block) | (apply AWP.skip) | (apply AWP.exit) | (apply AWP.retF; exact rfl; exact rfl; exact rfl; exact rfl; exact lenA; exact rfl) | (apply AWP.ret) | (apply RunL.nil) | (apply RunL.on; exact rfl; exact rfl; exact rfl; exact rfl; (first | exact rfl | assumption)) | (apply RunL.noU; exact rfl; exact rfl; exact rfl; exact rfl; exact rfl; exact rfl) | (apply RunL.no; exact rfl; exact rfl; exact rfl; exact rfl; (first | exact rfl | assumption); exact rfl; exact rfl) | (refine AWP.cond _ (Rd.of rfl) (fun hc => ?_) (fun hc => ?_) <;> first | (exfalso; cases hc; done) | (have hc' := hc; (try simp only [sc, reduceCtorEq, cmpOf] at hc'); try (exfalso; omega)))
    | (
     apply AWP.drawA
     repeat' (first
       | (apply DL.cons; (try (apply OpLoc.on; exact rfl; exact rfl; exact rfl; exact rfl; (first | exact rfl | assumption))); apply ol_ev (τ := τ); exact rfl; (first | exact parts_ev _ _ _); exact rfl; exact rfl) | (apply DL.cons; exact olA; exact rfl) | (apply DL.nil; kernel_rfl) | (refine DL.split rfl rfl rfl rfl (fun hb => ?_) (fun hb => ?_) <;> have hb' := hb <;> (try simp only [sc, reduceCtorEq, cmpOf] at hb') <;> try (exfalso; omega)))
     all_goals (fail_if_success apply DL.id))
    | (refine RunL.split rfl rfl rfl rfl (fun hb => ?_) (fun hb => ?_) <;> have hb' := hb <;> (try simp only [sc, reduceCtorEq, cmpOf] at hb') <;> try (exfalso; omega)) )
  apply Ends.mk (.cons (.cellA (τ := τ) rfl rfl rfl rfl rfl) .nil)
  show ratD _ = ratD _
  rw [a1]
end
end Go.Proofs.YtpolinoaefdobaaDoor.K
