/- Walks: nat.Of, Add, Sub, Mul. -/
import Derived.Test.YtffcpgebgoineaaDoorWalkA
import Derived.Test.YtffcpgebgoineaaDoorOwn
namespace Go.Proofs.YtffcpgebgoineaaDoor.K
open Go
set_option linter.unusedVariables false
set_option linter.unusedSimpArgs false

theorem of_ev (n : Int) : Evals Tryd.prog 31 [.int .u64 n] (.ints .u32 (limbs n)) := by
  refine evals_of_awp Tryd.func31 rfl (CallOK.of Tryd.func31 (by kernel_rfl) rfl) (Nat.le_of_ble_eq_true rfl) ?_
  rintro w R hR ⟨vs, hv⟩
  have hn := hv.int 0 rfl
  simp [InR, IntKind.min, IntKind.max, IntKind.bits, IntKind.signed] at hn
  repeat' (first
    | (apply RunL.step; exact rfl; apply op_ev (τ := τ); exact rfl; (exact trim_ev _); exact rfl) | (apply RunL.step; exact rfl; exact opA) | (apply RunL.hand; exact rfl; exact rfl; exact lenA; exact rfl) | (apply AWP.seq) | (apply AWP.region; exact rfl) | (apply AWP.block) | (apply AWP.skip) | (apply AWP.exit) | (apply AWP.retF; exact rfl; exact rfl; exact rfl; exact rfl; exact lenA; exact rfl) | (apply AWP.ret) | (apply RunL.nil) | (apply RunL.on; exact rfl; exact rfl; exact rfl; exact rfl; (first | exact rfl | assumption)) | (apply RunL.noU; exact rfl; exact rfl; exact rfl; exact rfl; exact rfl; exact rfl) | (apply RunL.no; exact rfl; exact rfl; exact rfl; exact rfl; (first | exact rfl | assumption); exact rfl; exact rfl) | (refine AWP.cond _ (Rd.of rfl) (fun hc => ?_) (fun hc => ?_) <;> first | (exfalso; cases hc; done) | (have hc' := hc; (try simp only [sc, reduceCtorEq, cmpOf] at hc'); try (exfalso; omega)))
    | (
     apply AWP.drawA
     repeat' (first
       | (apply DL.cons; (try (apply OpLoc.on; exact rfl; exact rfl; exact rfl; exact rfl; (first | exact rfl | assumption))); apply ol_ev (τ := τ); exact rfl; (exact trim_ev _); exact rfl; exact rfl) | (apply DL.cons; exact olA; exact rfl) | (apply DL.nil; kernel_rfl) | (refine DL.split rfl rfl rfl rfl (fun hb => ?_) (fun hb => ?_) <;> have hb' := hb <;> (try simp only [sc, reduceCtorEq, cmpOf] at hb') <;> try (exfalso; omega)))
     all_goals (fail_if_success apply DL.id))
    | (refine RunL.split rfl rfl rfl rfl (fun hb => ?_) (fun hb => ?_) <;> have hb' := hb <;> (try simp only [sc, reduceCtorEq, cmpOf] at hb') <;> try (exfalso; omega)) )
  apply Ends.mk (.cons (.tmp rfl) .nil)
  simp only [pack, val]
  congr 2
  omega

theorem add_ev (a b : List Int) (h1 : a.length ≤ 70368744177663) (h2 : b.length ≤ 70368744177663) : Evals Tryd.prog 21 [.ints .u32 a, .ints .u32 b] (.ints .u32 (limbs (val a + val b))) := by
  refine evals_of_awp Tryd.func21 rfl (CallOK.of Tryd.func21 (by kernel_rfl) rfl) (Nat.le_of_ble_eq_true rfl) ?_
  rintro w R hR ⟨vs, hv⟩
  obtain ⟨hla, ha⟩ := hv.nat 0 rfl
  obtain ⟨hlb, hb⟩ := hv.nat 1 rfl
  have g1 := limbs_val_length a ha
  have g2 := limbs_val_length b hb
  have va := val_nonneg ha
  have vb := val_nonneg hb
  repeat' (first
    | (apply RunL.step; exact rfl; apply op_ev (τ := τ); exact rfl; (exact trim_ev _); exact rfl) | (apply RunL.step; exact rfl; exact opA) | (apply RunL.hand; exact rfl; exact rfl; exact lenA; exact rfl) | (apply AWP.seq) | (apply AWP.region; exact rfl) | (apply AWP.block) | (apply AWP.skip) | (apply AWP.exit) | (apply AWP.retF; exact rfl; exact rfl; exact rfl; exact rfl; exact lenA; exact rfl) | (apply AWP.ret) | (apply RunL.nil) | (apply RunL.on; exact rfl; exact rfl; exact rfl; exact rfl; (first | exact rfl | assumption)) | (apply RunL.noU; exact rfl; exact rfl; exact rfl; exact rfl; exact rfl; exact rfl) | (apply RunL.no; exact rfl; exact rfl; exact rfl; exact rfl; (first | exact rfl | assumption); exact rfl; exact rfl)
    | (
     apply AWP.drawA
     repeat' (first
       | (apply DL.cons; (try (apply OpLoc.on; exact rfl; exact rfl; exact rfl; exact rfl; (first | exact rfl | assumption))); apply ol_ev (τ := τ); exact rfl; (exact trim_ev _); exact rfl; exact rfl) | (apply DL.cons; exact olA; exact rfl) | (apply DL.nil; kernel_rfl) | (refine DL.split rfl rfl rfl rfl (fun hb => ?_) (fun hb => ?_) <;> have hb' := hb <;> (try simp only [sc, reduceCtorEq, cmpOf] at hb') <;> try (exfalso; omega)))
     all_goals (fail_if_success apply DL.id))
    | (refine RunL.split rfl rfl rfl rfl (fun hb => ?_) (fun hb => ?_) <;> have hb' := hb <;> (try simp only [sc, reduceCtorEq, cmpOf] at hb') <;> try (exfalso; omega)) )
  refine AWP.join2 (fun A C => ⟨[(0, .val (.ints .u32 A)), (1, .val (.ints .u32 C))], []⟩)
    (fun A C => Lim A ∧ Lim C ∧ C.length ≤ A.length ∧ A.length ≤ 70368744177663 ∧ val A + val C = val a + val b) ?_ (fun A C s' hAC hl => AWP.le _ hl ?_)
  · repeat' (first
    | (apply RunL.step; exact rfl; apply op_ev (τ := τ); exact rfl; (exact trim_ev _); exact rfl) | (apply RunL.step; exact rfl; exact opA) | (apply RunL.hand; exact rfl; exact rfl; exact lenA; exact rfl) | (apply AWP.seq) | (apply AWP.region; exact rfl) | (apply AWP.block) | (apply AWP.skip) | (apply AWP.exit) | (apply AWP.retF; exact rfl; exact rfl; exact rfl; exact rfl; exact lenA; exact rfl) | (apply AWP.ret) | (apply RunL.nil) | (apply RunL.on; exact rfl; exact rfl; exact rfl; exact rfl; (first | exact rfl | assumption)) | (apply RunL.noU; exact rfl; exact rfl; exact rfl; exact rfl; exact rfl; exact rfl) | (apply RunL.no; exact rfl; exact rfl; exact rfl; exact rfl; (first | exact rfl | assumption); exact rfl; exact rfl) | (refine AWP.cond _ (Rd.of rfl) (fun hc => ?_) (fun hc => ?_) <;> first | (exfalso; cases hc; done) | (have hc' := hc; (try simp only [sc, reduceCtorEq, cmpOf] at hc'); try (exfalso; omega)))
    | (
     apply AWP.drawA
     repeat' (first
       | (apply DL.cons; (try (apply OpLoc.on; exact rfl; exact rfl; exact rfl; exact rfl; (first | exact rfl | assumption))); apply ol_ev (τ := τ); exact rfl; (exact trim_ev _); exact rfl; exact rfl) | (apply DL.cons; exact olA; exact rfl) | (apply DL.nil; kernel_rfl) | (refine DL.split rfl rfl rfl rfl (fun hb => ?_) (fun hb => ?_) <;> have hb' := hb <;> (try simp only [sc, reduceCtorEq, cmpOf] at hb') <;> try (exfalso; omega)))
     all_goals (fail_if_success apply DL.id))
    | (refine RunL.split rfl rfl rfl rfl (fun hb => ?_) (fun hb => ?_) <;> have hb' := hb <;> (try simp only [sc, reduceCtorEq, cmpOf] at hb') <;> try (exfalso; omega)) )
    · refine ⟨_, _, .of (all_cons rfl (all_cons rfl all_nil)) all_nil, Lim.limbs _, Lim.limbs _, by omega, by omega, ?_⟩
      rw [val_limbs va, val_limbs vb]; omega
    · refine ⟨_, _, .of (all_cons rfl (all_cons rfl all_nil)) all_nil, Lim.limbs _, Lim.limbs _, by omega, by omega, ?_⟩
      rw [val_limbs va, val_limbs vb]
  obtain ⟨hA, hC, hCA, hA', hAC⟩ := hAC
  repeat' (first
    | (apply RunL.step; exact rfl; apply op_ev (τ := τ); exact rfl; (exact trim_ev _); exact rfl) | (apply RunL.step; exact rfl; exact opA) | (apply RunL.hand; exact rfl; exact rfl; exact lenA; exact rfl) | (apply AWP.seq) | (apply AWP.region; exact rfl) | (apply AWP.block) | (apply AWP.skip) | (apply AWP.exit) | (apply AWP.retF; exact rfl; exact rfl; exact rfl; exact rfl; exact lenA; exact rfl) | (apply AWP.ret) | (apply RunL.nil) | (apply RunL.on; exact rfl; exact rfl; exact rfl; exact rfl; (first | exact rfl | assumption)) | (apply RunL.noU; exact rfl; exact rfl; exact rfl; exact rfl; exact rfl; exact rfl) | (apply RunL.no; exact rfl; exact rfl; exact rfl; exact rfl; (first | exact rfl | assumption); exact rfl; exact rfl)
    | (
     apply AWP.drawA
     repeat' (first
       | (apply DL.cons; (try (apply OpLoc.on; exact rfl; exact rfl; exact rfl; exact rfl; (first | exact rfl | assumption))); apply ol_ev (τ := τ); exact rfl; (exact trim_ev _); exact rfl; exact rfl) | (apply DL.cons; exact olA; exact rfl) | (apply DL.nil; kernel_rfl) | (refine DL.split rfl rfl rfl rfl (fun hb => ?_) (fun hb => ?_) <;> have hb' := hb <;> (try simp only [sc, reduceCtorEq, cmpOf] at hb') <;> try (exfalso; omega)))
     all_goals (fail_if_success apply DL.id))
    | (refine RunL.split rfl rfl rfl rfl (fun hb => ?_) (fun hb => ?_) <;> have hb' := hb <;> (try simp only [sc, reduceCtorEq, cmpOf] at hb') <;> try (exfalso; omega)) )
  refine AWP.loop3 (fun i l c => ⟨[(0, .val (.ints .u32 A)), (1, .val (.ints .u32 C)), (5, .sb 23 0 (A.length + 1) (A.length + 1)), (6, .val (.int .u64 c)), (25, .val (.int .i64 A.length)), (26, .val (.int .i64 i))], [(23, .row 34 .u32 l)]⟩)
    (fun i l c => 0 ≤ i ∧ i ≤ A.length ∧ 0 ≤ c ∧ c ≤ 1 ∧ l.length = A.length + 1 ∧ Lim l ∧ val (l.take i.toNat) + 4294967296 ^ i.toNat * c = val (A.take i.toNat) + val (C.take i.toNat))
    (fun i _ _ => A.length - i.toNat) 0 (List.replicate (A.length + 1) 0) 0 ⟨by simp, by simp, by simp, by simp, by simp, Lim.rep _, by simp [val]⟩ ?_ ?_
  · exact .of (all_cons rfl (all_cons rfl (all_cons rfl (all_cons rfl (all_cons rfl (all_cons rfl all_nil)))))) (all_cons rfl all_nil)
  rintro i l c ⟨k1, k2, k3, k4, k5, k6, k7⟩
  have q1 := hA.ix i
  have q2 := hC.ix i
  repeat' (first
    | (apply RunL.step; exact rfl; apply op_ev (τ := τ); exact rfl; (exact trim_ev _); exact rfl) | (apply RunL.step; exact rfl; exact opA) | (apply RunL.hand; exact rfl; exact rfl; exact lenA; exact rfl) | (apply AWP.seq) | (apply AWP.region; exact rfl) | (apply AWP.block) | (apply AWP.skip) | (apply AWP.exit) | (apply AWP.retF; exact rfl; exact rfl; exact rfl; exact rfl; exact lenA; exact rfl) | (apply AWP.ret) | (apply RunL.nil) | (apply RunL.on; exact rfl; exact rfl; exact rfl; exact rfl; (first | exact rfl | assumption)) | (apply RunL.noU; exact rfl; exact rfl; exact rfl; exact rfl; exact rfl; exact rfl) | (apply RunL.no; exact rfl; exact rfl; exact rfl; exact rfl; (first | exact rfl | assumption); exact rfl; exact rfl) | (refine AWP.cond _ (Rd.of rfl) (fun hc => ?_) (fun hc => ?_) <;> first | (exfalso; cases hc; done) | (have hc' := hc; (try simp only [sc, reduceCtorEq, cmpOf] at hc'); try (exfalso; omega)))
    | (
     apply AWP.drawA
     repeat' (first
       | (apply DL.cons; (try (apply OpLoc.on; exact rfl; exact rfl; exact rfl; exact rfl; (first | exact rfl | assumption))); apply ol_ev (τ := τ); exact rfl; (exact trim_ev _); exact rfl; exact rfl) | (apply DL.cons; exact olA; exact rfl) | (apply DL.nil; kernel_rfl) | (refine DL.split rfl rfl rfl rfl (fun hb => ?_) (fun hb => ?_) <;> have hb' := hb <;> (try simp only [sc, reduceCtorEq, cmpOf] at hb') <;> try (exfalso; omega)))
     all_goals (fail_if_success apply DL.id))
    | (refine RunL.split rfl rfl rfl rfl (fun hb => ?_) (fun hb => ?_) <;> have hb' := hb <;> (try simp only [sc, reduceCtorEq, cmpOf] at hb') <;> try (exfalso; omega)) )
  · refine ⟨_, _, _, .of (all_cons rfl (all_cons rfl (all_cons rfl (all_cons rfl (all_cons rfl (all_cons rfl all_nil)))))) (all_cons rfl all_nil), ⟨by omega, by omega, by omega, by omega, by simp [k5], ?_, ?_⟩, by omega⟩
    · exact k6.set (by omega)
    · simp only [Nat.zero_add]
      exact add_step k1 (by omega) k7 (by omega)
  · refine ⟨_, _, _, .of (all_cons rfl (all_cons rfl (all_cons rfl (all_cons rfl (all_cons rfl (all_cons rfl all_nil)))))) (all_cons rfl all_nil), ⟨by omega, by omega, by omega, by omega, by simp [k5], ?_, ?_⟩, by omega⟩
    · exact k6.set (by omega)
    · simp only [Nat.zero_add]
      have := ix_beyond (l := C) (i := i) (by omega)
      exact add_step k1 (by omega) k7 (by omega)
  · apply Ends.mk (.cons (.tmp rfl) .nil)
    have hi : i.toNat = A.length := by omega
    simp only [pack, List.drop_zero, Nat.zero_add]
    congr 2
    rw [hi, List.take_of_length_le (Nat.le_refl _), List.take_of_length_le hCA] at k7
    rw [List.take_of_length_le (by simp [k5]), ← hAC, ← k7]
    have e := val_take_set (l := l) (n := A.length) (v := c) (by omega)
    rw [List.take_of_length_le (by simp [k5])] at e
    simp [e]

theorem cmpI_lt {x y : Int} : cmpI x y < 0 ↔ x < y := by unfold cmpI; split <;> (try split) <;> omega
theorem sub_ev (a b : List Int) (h1 : a.length ≤ 70368744177664) : Evals Tryd.prog 22 [.ints .u32 a, .ints .u32 b] (.tup [.ints .u32 (limbs (val a - val b)), .bool (decide (val b ≤ val a))]) := by
  refine evals_of_awp Tryd.func22 rfl (CallOK.of Tryd.func22 (by kernel_rfl) rfl) (Nat.le_of_ble_eq_true rfl) ?_
  rintro w R hR ⟨vs, hv⟩
  obtain ⟨hla, ha⟩ := hv.nat 0 rfl
  obtain ⟨hlb, hb⟩ := hv.nat 1 rfl
  have g1 := limbs_val_length a ha
  have g2 := limbs_val_length b hb
  have va := val_nonneg ha
  have vb := val_nonneg hb
  repeat' (first
    | (apply RunL.step; exact rfl; apply op_ev (τ := τ); exact rfl; (first | exact trim_ev _ | exact cmp_ev _ _); exact rfl) | (apply RunL.step; exact rfl; exact opA) | (apply RunL.hand; exact rfl; exact rfl; exact lenA; exact rfl) | (apply AWP.seq) | (apply AWP.region; exact rfl) | (apply AWP.block) | (apply AWP.skip) | (apply AWP.exit) | (apply AWP.retF; exact rfl; exact rfl; exact rfl; exact rfl; exact lenA; exact rfl) | (apply AWP.ret) | (apply RunL.nil) | (apply RunL.on; exact rfl; exact rfl; exact rfl; exact rfl; (first | exact rfl | assumption)) | (apply RunL.noU; exact rfl; exact rfl; exact rfl; exact rfl; exact rfl; exact rfl) | (apply RunL.no; exact rfl; exact rfl; exact rfl; exact rfl; (first | exact rfl | assumption); exact rfl; exact rfl) | (refine AWP.cond _ (Rd.of rfl) (fun hc => ?_) (fun hc => ?_) <;> first | (exfalso; cases hc; done) | (have hc' := hc; (try simp only [sc, reduceCtorEq, cmpOf] at hc'); try (exfalso; omega)))
    | (
     apply AWP.drawA
     repeat' (first
       | (apply DL.cons; (try (apply OpLoc.on; exact rfl; exact rfl; exact rfl; exact rfl; (first | exact rfl | assumption))); apply ol_ev (τ := τ); exact rfl; (first | exact trim_ev _ | exact cmp_ev _ _); exact rfl; exact rfl) | (apply DL.cons; exact olA; exact rfl) | (apply DL.nil; kernel_rfl) | (refine DL.split rfl rfl rfl rfl (fun hb => ?_) (fun hb => ?_) <;> have hb' := hb <;> (try simp only [sc, reduceCtorEq, cmpOf] at hb') <;> try (exfalso; omega)))
     all_goals (fail_if_success apply DL.id))
    | (refine RunL.split rfl rfl rfl rfl (fun hb => ?_) (fun hb => ?_) <;> have hb' := hb <;> (try simp only [sc, reduceCtorEq, cmpOf] at hb') <;> try (exfalso; omega)) )
  · apply Ends.mk (.cons (.tmp rfl) (.cons (.tmp rfl) .nil))
    rw [val_limbs va, val_limbs vb, cmpI_lt] at hc'
    have : ¬ val b ≤ val a := by omega
    simp [pack, this, limbs_le (show val a - val b ≤ 0 by omega)]
  rw [val_limbs va, val_limbs vb, cmpI_lt] at hc'
  have hA := Lim.limbs (val a)
  have hC := Lim.limbs (val b)
  have hCA := limbs_mono (show val b ≤ val a by omega)
  have eA := val_limbs va
  have eC := val_limbs vb
  generalize limbs (val a) = A at *
  generalize limbs (val b) = C at *
  refine AWP.loop3 (fun i l c => ⟨[(0, .val (.ints .u32 A)), (1, .val (.ints .u32 C)), (6, .sb 20 0 A.length A.length), (7, .val (.int .u64 c)), (22, .val (.int .i64 A.length)), (23, .val (.int .i64 i))], [(20, .row 34 .u32 l)]⟩)
    (fun i l c => 0 ≤ i ∧ i ≤ A.length ∧ 0 ≤ c ∧ c ≤ 1 ∧ l.length = A.length ∧ Lim l ∧ val (l.take i.toNat) + val (C.take i.toNat) = val (A.take i.toNat) + 4294967296 ^ i.toNat * c)
    (fun i _ _ => A.length - i.toNat) 0 (List.replicate A.length 0) 0 ⟨by simp, by simp, by simp, by simp, by simp, Lim.rep _, by simp [val]⟩ (St.Le.of (by repeat' (first | exact all_nil | refine all_cons rfl ?_)) (by repeat' (first | exact all_nil | refine all_cons rfl ?_))) ?_
  rintro i l c ⟨k1, k2, k3, k4, k5, k6, k7⟩
  have q1 := hA.ix i
  have q2 := hC.ix i
  repeat' (first
    | (apply RunL.step; exact rfl; apply op_ev (τ := τ); exact rfl; (first | exact trim_ev _ | exact cmp_ev _ _); exact rfl) | (apply RunL.step; exact rfl; exact opA) | (apply RunL.hand; exact rfl; exact rfl; exact lenA; exact rfl) | (apply AWP.seq) | (apply AWP.region; exact rfl) | (apply AWP.block) | (apply AWP.skip) | (apply AWP.exit) | (apply AWP.retF; exact rfl; exact rfl; exact rfl; exact rfl; exact lenA; exact rfl) | (apply AWP.ret) | (apply RunL.nil) | (apply RunL.on; exact rfl; exact rfl; exact rfl; exact rfl; (first | exact rfl | assumption)) | (apply RunL.noU; exact rfl; exact rfl; exact rfl; exact rfl; exact rfl; exact rfl) | (apply RunL.no; exact rfl; exact rfl; exact rfl; exact rfl; (first | exact rfl | assumption); exact rfl; exact rfl) | (refine AWP.cond _ (Rd.of rfl) (fun hc => ?_) (fun hc => ?_) <;> first | (exfalso; cases hc; done) | (have hc' := hc; (try simp only [sc, reduceCtorEq, cmpOf] at hc'); try (exfalso; omega)))
    | (
     apply AWP.drawA
     repeat' (first
       | (apply DL.cons; (try (apply OpLoc.on; exact rfl; exact rfl; exact rfl; exact rfl; (first | exact rfl | assumption))); apply ol_ev (τ := τ); exact rfl; (first | exact trim_ev _ | exact cmp_ev _ _); exact rfl; exact rfl) | (apply DL.cons; exact olA; exact rfl) | (apply DL.nil; kernel_rfl) | (refine DL.split rfl rfl rfl rfl (fun hb => ?_) (fun hb => ?_) <;> have hb' := hb <;> (try simp only [sc, reduceCtorEq, cmpOf] at hb') <;> try (exfalso; omega)))
     all_goals (fail_if_success apply DL.id))
    | (refine RunL.split rfl rfl rfl rfl (fun hb => ?_) (fun hb => ?_) <;> have hb' := hb <;> (try simp only [sc, reduceCtorEq, cmpOf] at hb') <;> try (exfalso; omega)) )
  · refine ⟨_, _, _, St.Le.of (by repeat' (first | exact all_nil | refine all_cons rfl ?_)) (by repeat' (first | exact all_nil | refine all_cons rfl ?_)), ⟨by omega, by omega, by omega, by omega, by simp [k5], ?_, ?_⟩, by omega⟩
    · exact k6.set (by omega)
    · simp only [Nat.zero_add]
      exact sub_step k1 (by omega) ⟨k3, k4⟩ hA hC k7 (by omega)
  · refine ⟨_, _, _, St.Le.of (by repeat' (first | exact all_nil | refine all_cons rfl ?_)) (by repeat' (first | exact all_nil | refine all_cons rfl ?_)), ⟨by omega, by omega, by omega, by omega, by simp [k5], ?_, ?_⟩, by omega⟩
    · exact k6.set (by omega)
    · simp only [Nat.zero_add]
      have := ix_beyond (l := C) (i := i) (by omega)
      exact sub_step k1 (by omega) ⟨k3, k4⟩ hA hC k7 (by omega)
  · apply Ends.mk (.cons (.tmp rfl) (.cons (.tmp rfl) .nil))
    have hi : i.toNat = A.length := by omega
    rw [hi, List.take_of_length_le (Nat.le_refl _), List.take_of_length_le hCA, List.take_of_length_le (by omega)] at k7
    have hl0 := val_lt k6
    have hc0 : c = 0 := by
      rcases Int.lt_or_eq_of_le k3 with h | h
      · exfalso
        have : c = 1 := by omega
        subst this
        rw [k5] at hl0
        omega
      · exact h.symm
    subst hc0
    have : val b ≤ val a := by omega
    simp only [pack, List.drop_zero]
    rw [List.take_of_length_le (by omega), show val l = val a - val b by rw [← eA, ← eC]; omega]
    simp [this]

theorem mul_ev (a b : List Int) (h1 : a.length + b.length ≤ 70368744177664) : Evals Tryd.prog 28 [.ints .u32 a, .ints .u32 b] (.ints .u32 (limbs (val a * val b))) := by
  refine evals_of_awp Tryd.func28 rfl (CallOK.of Tryd.func28 (by kernel_rfl) rfl) (Nat.le_of_ble_eq_true rfl) ?_
  rintro w R hR ⟨vs, hv⟩
  obtain ⟨hla, ha⟩ := hv.nat 0 rfl
  obtain ⟨hlb, hb⟩ := hv.nat 1 rfl
  have g1 := limbs_val_length a ha
  have g2 := limbs_val_length b hb
  have va := val_nonneg ha
  have vb := val_nonneg hb
  repeat' (first
    | (apply RunL.step; exact rfl; apply op_ev (τ := τ); exact rfl; (first | exact trim_ev _ | exact cmp_ev _ _); exact rfl) | (apply RunL.step; exact rfl; exact opA) | (apply RunL.hand; exact rfl; exact rfl; exact lenA; exact rfl) | (apply AWP.seq) | (apply AWP.region; exact rfl) | (apply AWP.block) | (apply AWP.skip) | (apply AWP.exit) | (apply AWP.retF; exact rfl; exact rfl; exact rfl; exact rfl; exact lenA; exact rfl) | (apply AWP.ret) | (apply RunL.nil) | (apply RunL.on; exact rfl; exact rfl; exact rfl; exact rfl; (first | exact rfl | assumption)) | (apply RunL.noU; exact rfl; exact rfl; exact rfl; exact rfl; exact rfl; exact rfl) | (apply RunL.no; exact rfl; exact rfl; exact rfl; exact rfl; (first | exact rfl | assumption); exact rfl; exact rfl) | (refine AWP.cond _ (Rd.of rfl) (fun hc => ?_) (fun hc => ?_) <;> first | (exfalso; cases hc; done) | (have hc' := hc; (try simp only [sc, reduceCtorEq, cmpOf] at hc'); try (exfalso; omega)))
    | (
     apply AWP.drawA
     repeat' (first
       | (apply DL.cons; (try (apply OpLoc.on; exact rfl; exact rfl; exact rfl; exact rfl; (first | exact rfl | assumption))); apply ol_ev (τ := τ); exact rfl; (first | exact trim_ev _ | exact cmp_ev _ _); exact rfl; exact rfl) | (apply DL.cons; exact olA; exact rfl) | (apply DL.nil; kernel_rfl) | (refine DL.split rfl rfl rfl rfl (fun hb => ?_) (fun hb => ?_) <;> have hb' := hb <;> (try simp only [sc, reduceCtorEq, cmpOf] at hb') <;> try (exfalso; omega)))
     all_goals (fail_if_success apply DL.id))
    | (refine RunL.split rfl rfl rfl rfl (fun hb => ?_) (fun hb => ?_) <;> have hb' := hb <;> (try simp only [sc, reduceCtorEq, cmpOf] at hb') <;> try (exfalso; omega)) )
  have hA := Lim.limbs (val a)
  have hC := Lim.limbs (val b)
  have eA := val_limbs va
  have eC := val_limbs vb
  generalize limbs (val a) = A at *
  generalize limbs (val b) = C at *
  refine AWP.loop2 (fun i l => ⟨[(0, .val (.ints .u32 A)), (1, .val (.ints .u32 C)), (5, .sb 21 0 (A.length + C.length) (A.length + C.length)), (22, .val (.ints .u32 A)), (23, .val (.int .i64 A.length)), (24, .val (.int .i64 i))], [(21, .row 34 .u32 l)]⟩)
    (fun i l => 0 ≤ i ∧ i ≤ A.length ∧ l.length = A.length + C.length ∧ Lim l ∧ val (l.take (i.toNat + C.length)) = val (A.take i.toNat) * val C)
    (fun i _ => A.length - i.toNat) 0 (List.replicate (A.length + C.length) 0) ⟨by simp, by simp, by simp, Lim.rep _, by simp [val, List.take_replicate, val_rep]⟩ (St.Le.of (by repeat' (first | exact all_nil | refine all_cons rfl ?_)) (by repeat' (first | exact all_nil | refine all_cons rfl ?_))) ?_
  rintro i l0 ⟨k1, k2, k3, k4, k5⟩
  have q1 := hA.ix i
  repeat' (first
    | (apply RunL.step; exact rfl; apply op_ev (τ := τ); exact rfl; (first | exact trim_ev _ | exact cmp_ev _ _); exact rfl) | (apply RunL.step; exact rfl; exact opA) | (apply RunL.hand; exact rfl; exact rfl; exact lenA; exact rfl) | (apply AWP.seq) | (apply AWP.region; exact rfl) | (apply AWP.block) | (apply AWP.skip) | (apply AWP.exit) | (apply AWP.retF; exact rfl; exact rfl; exact rfl; exact rfl; exact lenA; exact rfl) | (apply AWP.ret) | (apply RunL.nil) | (apply RunL.on; exact rfl; exact rfl; exact rfl; exact rfl; (first | exact rfl | assumption)) | (apply RunL.noU; exact rfl; exact rfl; exact rfl; exact rfl; exact rfl; exact rfl) | (apply RunL.no; exact rfl; exact rfl; exact rfl; exact rfl; (first | exact rfl | assumption); exact rfl; exact rfl) | (refine AWP.cond _ (Rd.of rfl) (fun hc => ?_) (fun hc => ?_) <;> first | (exfalso; cases hc; done) | (have hc' := hc; (try simp only [sc, reduceCtorEq, cmpOf] at hc'); try (exfalso; omega)))
    | (
     apply AWP.drawA
     repeat' (first
       | (apply DL.cons; (try (apply OpLoc.on; exact rfl; exact rfl; exact rfl; exact rfl; (first | exact rfl | assumption))); apply ol_ev (τ := τ); exact rfl; (first | exact trim_ev _ | exact cmp_ev _ _); exact rfl; exact rfl) | (apply DL.cons; exact olA; exact rfl) | (apply DL.nil; kernel_rfl) | (refine DL.split rfl rfl rfl rfl (fun hb => ?_) (fun hb => ?_) <;> have hb' := hb <;> (try simp only [sc, reduceCtorEq, cmpOf] at hb') <;> try (exfalso; omega)))
     all_goals (fail_if_success apply DL.id))
    | (refine RunL.split rfl rfl rfl rfl (fun hb => ?_) (fun hb => ?_) <;> have hb' := hb <;> (try simp only [sc, reduceCtorEq, cmpOf] at hb') <;> try (exfalso; omega)) )
  · refine AWP.loop3 (fun j l c => ⟨[(0, .val (.ints .u32 A)), (1, .val (.ints .u32 C)), (5, .sb 21 0 (A.length + C.length) (A.length + C.length)), (22, .val (.ints .u32 A)), (23, .val (.int .i64 A.length)), (24, .val (.int .i64 i)), (6, .val (.int .i64 i)), (7, .val (.int .u32 (ix A i))), (8, .val (.int .u64 c)), (29, .val (.ints .u32 C)), (30, .val (.int .i64 C.length)), (31, .val (.int .i64 j))], [(21, .row 34 .u32 l)]⟩)
      (fun j l c => 0 ≤ j ∧ j ≤ C.length ∧ 0 ≤ c ∧ c < 4294967296 ∧ l.length = A.length + C.length ∧ Lim l ∧ val (l.take (i.toNat + C.length)) + 4294967296 ^ (i + j).toNat * c = val (l0.take (i.toNat + C.length)) + 4294967296 ^ i.toNat * (ix A i * val (C.take j.toNat)))
      (fun j _ _ => C.length - j.toNat) 0 l0 0 ⟨by simp, by simp, by simp, by simp, k3, k4, by simp [val]⟩ (St.Le.of (by repeat' (first | exact all_nil | refine all_cons rfl ?_)) (by repeat' (first | exact all_nil | refine all_cons rfl ?_))) ?_
    rintro j l c ⟨m1, m2, m3, m4, m5, m6, m7⟩
    have q2 := hC.ix j
    have q3 := m6.ix ((0 + (i + j).toNat : Nat) : Int)
    have q4 := mul_bound q1 q2
    repeat' (first
      | (apply RunL.step; exact rfl; apply op_ev (τ := τ); exact rfl; (first | exact trim_ev _ | exact cmp_ev _ _); exact rfl) | (apply RunL.step; exact rfl; exact opA) | (apply RunL.hand; exact rfl; exact rfl; exact lenA; exact rfl) | (apply AWP.seq) | (apply AWP.region; exact rfl) | (apply AWP.block) | (apply AWP.skip) | (apply AWP.exit) | (apply AWP.retF; exact rfl; exact rfl; exact rfl; exact rfl; exact lenA; exact rfl) | (apply AWP.ret) | (apply RunL.nil) | (apply RunL.on; exact rfl; exact rfl; exact rfl; exact rfl; (first | exact rfl | assumption)) | (apply RunL.noU; exact rfl; exact rfl; exact rfl; exact rfl; exact rfl; exact rfl) | (apply RunL.no; exact rfl; exact rfl; exact rfl; exact rfl; (first | exact rfl | assumption); exact rfl; exact rfl) | (refine AWP.cond _ (Rd.of rfl) (fun hc => ?_) (fun hc => ?_) <;> first | (exfalso; cases hc; done) | (have hc' := hc; (try simp only [sc, reduceCtorEq, cmpOf] at hc'); try (exfalso; omega)))
      | (
       apply AWP.drawA
       repeat' (first
         | (apply DL.cons; (try (apply OpLoc.on; exact rfl; exact rfl; exact rfl; exact rfl; (first | exact rfl | assumption))); apply ol_ev (τ := τ); exact rfl; (first | exact trim_ev _ | exact cmp_ev _ _); exact rfl; exact rfl) | (apply DL.cons; exact olA; exact rfl) | (apply DL.nil; kernel_rfl) | (refine DL.split rfl rfl rfl rfl (fun hb => ?_) (fun hb => ?_) <;> have hb' := hb <;> (try simp only [sc, reduceCtorEq, cmpOf] at hb') <;> try (exfalso; omega)))
       all_goals (fail_if_success apply DL.id))
      | (refine RunL.split rfl rfl rfl rfl (fun hb => ?_) (fun hb => ?_) <;> have hb' := hb <;> (try simp only [sc, reduceCtorEq, cmpOf] at hb') <;> try (exfalso; omega)) )
    · refine ⟨_, _, _, St.Le.of (by repeat' (first | exact all_nil | refine all_cons rfl ?_)) (by repeat' (first | exact all_nil | refine all_cons rfl ?_)), ⟨by omega, by omega, by omega, by omega, by simp [m5], ?_, ?_⟩, by omega⟩
      · exact m6.set (by omega)
      · simp only [Nat.zero_add]
        have e : (((i + j).toNat : Nat) : Int) = i + j := by omega
        rw [e]
        exact mul_step k1 m1 (by omega) (by omega) m7 rfl
    · refine ⟨_, _, St.Le.of (by repeat' (first | exact all_nil | refine all_cons rfl ?_)) (by repeat' (first | exact all_nil | refine all_cons rfl ?_)), ⟨by omega, by omega, by simp [m5], ?_, ?_⟩, by omega⟩
      · exact m6.set (by omega)
      · have e : j.toNat = C.length := by omega
        have e2 : (i + j).toNat = (i + (C.length : Int)).toNat := by omega
        have e3 : (i + (C.length : Int)).toNat = i.toNat + C.length := by omega
        have e4 : (i + 1).toNat + C.length = i.toNat + C.length + 1 := by omega
        have e5 : (i + 1).toNat = i.toNat + 1 := by omega
        have e6 : ((i.toNat : Nat) : Int) = i := by omega
        rw [e, List.take_of_length_le (Nat.le_refl _), e2, e3] at m7
        simp only [Nat.zero_add]
        rw [e4, e3, val_take_set (by omega), m7, k5, e5, val_take_succ, e6]
        grind
  · apply Ends.mk (.cons (.tmp rfl) .nil)
    have e : i.toNat = A.length := by omega
    rw [e, List.take_of_length_le (by omega), List.take_of_length_le (Nat.le_refl _)] at k5
    simp only [pack, List.drop_zero]
    rw [List.take_of_length_le (by omega), k5, eA, eC]
end Go.Proofs.YtffcpgebgoineaaDoor.K
