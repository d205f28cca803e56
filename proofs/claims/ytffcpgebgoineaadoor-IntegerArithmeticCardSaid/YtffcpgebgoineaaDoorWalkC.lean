/- Walks: nat.divLimb, shiftLeft, shiftRight. -/
import Derived.Test.YtffcpgebgoineaaDoorWalkB
import Derived.Test.YtffcpgebgoineaaDoorOwn
namespace Go.Proofs.YtffcpgebgoineaaDoor.K
open Go
set_option linter.unusedVariables false
set_option linter.unusedSimpArgs false

theorem divLimb_ev (a : List Int) (d : Int) (hd : 0 < d) (h1 : a.length ≤ 70368744177664) : Evals Tryd.prog 43 [.ints .u32 a, .int .u32 d] (.tup [.ints .u32 (limbs (val a / d)), .int .u32 (val a % d)]) := by
  refine evals_of_awp Tryd.func43 rfl (CallOK.of Tryd.func43 (by kernel_rfl) rfl) (Nat.le_of_ble_eq_true rfl) ?_
  rintro w R hR ⟨vs, hv⟩
  obtain ⟨hla, ha⟩ := hv.nat 0 rfl
  have hdr := hv.int 1 rfl
  simp [InR, IntKind.min, IntKind.max, IntKind.bits, IntKind.signed] at hdr
  repeat' (first
    | (apply RunL.step; exact rfl; apply op_ev (τ := τ); exact rfl; (first | exact trim_ev _ | exact cmp_ev _ _); exact rfl) | (apply RunL.step; exact rfl; exact opA) | (apply RunL.hand; exact rfl; exact rfl; exact lenA; exact rfl) | (apply AWP.seq) | (apply AWP.region; exact rfl) | (apply AWP.block) | (apply AWP.skip) | (apply AWP.exit) | (apply AWP.retF; exact rfl; exact rfl; exact rfl; exact rfl; exact lenA; exact rfl) | (apply AWP.ret) | (apply RunL.nil) | (apply RunL.on; exact rfl; exact rfl; exact rfl; exact rfl; (first | exact rfl | assumption)) | (apply RunL.noU; exact rfl; exact rfl; exact rfl; exact rfl; exact rfl; exact rfl) | (apply RunL.no; exact rfl; exact rfl; exact rfl; exact rfl; (first | exact rfl | assumption); exact rfl; exact rfl) | (refine AWP.cond _ (Rd.of rfl) (fun hc => ?_) (fun hc => ?_) <;> first | (exfalso; cases hc; done) | (have hc' := hc; (try simp only [sc, reduceCtorEq, cmpOf] at hc'); try (exfalso; omega)))
    | (
     apply AWP.drawA
     repeat' (first
       | (apply DL.cons; (try (apply OpLoc.on; exact rfl; exact rfl; exact rfl; exact rfl; (first | exact rfl | assumption))); apply ol_ev (τ := τ); exact rfl; (first | exact trim_ev _ | exact cmp_ev _ _); exact rfl; exact rfl) | (apply DL.cons; exact olA; exact rfl) | (apply DL.nil; kernel_rfl) | (refine DL.split rfl rfl rfl rfl (fun hb => ?_) (fun hb => ?_) <;> have hb' := hb <;> (try simp only [sc, reduceCtorEq, cmpOf] at hb') <;> try (exfalso; omega)))
     all_goals (fail_if_success apply DL.id))
    | (refine RunL.split rfl rfl rfl rfl (fun hb => ?_) (fun hb => ?_) <;> have hb' := hb <;> (try simp only [sc, reduceCtorEq, cmpOf] at hb') <;> try (exfalso; omega)) )
  refine AWP.loop3 (fun i l r => ⟨[(0, .val (.ints .u32 a)), (1, .val (.int .u32 d)), (6, .sb 12 0 a.length a.length), (7, .val (.int .u64 r)), (8, .val (.int .i64 i))], [(12, .row 34 .u32 l)]⟩)
    (fun i l r => -1 ≤ i ∧ i < a.length ∧ 0 ≤ r ∧ r < d ∧ l.length = a.length ∧ Lim l ∧ val (a.drop (i + 1).toNat) = d * val (l.drop (i + 1).toNat) + r)
    (fun i _ _ => (i + 1).toNat) (a.length - 1) (List.replicate a.length 0) 0 ⟨by omega, by omega, by omega, hd, by simp, Lim.rep _, ?_⟩ (St.Le.of (by repeat' (first | exact all_nil | refine all_cons rfl ?_)) (by repeat' (first | exact all_nil | refine all_cons rfl ?_))) ?_
  · rw [List.drop_eq_nil_of_le (by omega), List.drop_eq_nil_of_le (by simp)]; simp [val]
  rintro i l r ⟨k1, k2, k3, k4, k5, k6, k7⟩
  have q1 := ha.ix i
  have q2 := limb_div k3 k4 q1
  repeat' (first
    | (apply RunL.step; exact rfl; apply op_ev (τ := τ); exact rfl; (first | exact trim_ev _ | exact cmp_ev _ _); exact rfl) | (apply RunL.step; exact rfl; exact opA) | (apply RunL.hand; exact rfl; exact rfl; exact lenA; exact rfl) | (apply AWP.seq) | (apply AWP.region; exact rfl) | (apply AWP.block) | (apply AWP.skip) | (apply AWP.exit) | (apply AWP.retF; exact rfl; exact rfl; exact rfl; exact rfl; exact lenA; exact rfl) | (apply AWP.ret) | (apply RunL.nil) | (apply RunL.on; exact rfl; exact rfl; exact rfl; exact rfl; (first | exact rfl | assumption)) | (apply RunL.noU; exact rfl; exact rfl; exact rfl; exact rfl; exact rfl; exact rfl) | (apply RunL.no; exact rfl; exact rfl; exact rfl; exact rfl; (first | exact rfl | assumption); exact rfl; exact rfl) | (refine AWP.cond _ (Rd.of rfl) (fun hc => ?_) (fun hc => ?_) <;> first | (exfalso; cases hc; done) | (have hc' := hc; (try simp only [sc, reduceCtorEq, cmpOf] at hc'); try (exfalso; omega)))
    | (
     apply AWP.drawA
     repeat' (first
       | (apply DL.cons; (try (apply OpLoc.on; exact rfl; exact rfl; exact rfl; exact rfl; (first | exact rfl | assumption))); apply ol_ev (τ := τ); exact rfl; (first | exact trim_ev _ | exact cmp_ev _ _); exact rfl; exact rfl) | (apply DL.cons; exact olA; exact rfl) | (apply DL.nil; kernel_rfl) | (refine DL.split rfl rfl rfl rfl (fun hb => ?_) (fun hb => ?_) <;> have hb' := hb <;> (try simp only [sc, reduceCtorEq, cmpOf] at hb') <;> try (exfalso; omega)))
     all_goals (fail_if_success apply DL.id))
    | (refine RunL.split rfl rfl rfl rfl (fun hb => ?_) (fun hb => ?_) <;> have hb' := hb <;> (try simp only [sc, reduceCtorEq, cmpOf] at hb') <;> try (exfalso; omega)) )
  · refine ⟨_, _, _, St.Le.of (by repeat' (first | exact all_nil | refine all_cons rfl ?_)) (by repeat' (first | exact all_nil | refine all_cons rfl ?_)), ⟨by omega, by omega, by omega, by omega, by simp [k5], ?_, ?_⟩, by omega⟩
    · exact k6.set (by omega)
    · simp only [Nat.zero_add]
      exact divLimb_step hc' (by omega) (by omega) k7
  · apply Ends.mk (.cons (.tmp rfl) (.cons (.tmp rfl) .nil))
    have e : (i + 1).toNat = 0 := by omega
    rw [e] at k7
    simp only [List.drop_zero] at k7
    obtain ⟨e1, e2⟩ := divmod_of k7 k3 k4
    simp only [pack, List.drop_zero]
    rw [List.take_of_length_le (by omega), e1, e2]

theorem shift_bound {x : Int} {k : Nat} (hx : 0 ≤ x ∧ x < 4294967296) (hk : k ≤ 31) : 0 ≤ x * 2 ^ k ∧ x * 2 ^ k < 9223372036854775808 ∧ 0 ≤ x * 2 ^ k / 4294967296 ∧ x * 2 ^ k / 4294967296 < 2 ^ k := by
  have h0 := pow2_pos k
  have h2 : (2 : Int) ^ k ≤ 2 ^ 31 := pow2_le hk
  have h3 : x * 2 ^ k ≤ x * 2 ^ 31 := Int.mul_le_mul_of_nonneg_left h2 hx.1
  have h4 : 0 ≤ x * 2 ^ k := Int.mul_nonneg hx.1 (Int.le_of_lt h0)
  have h5 : x * 2 ^ k < 4294967296 * 2 ^ k := Int.mul_lt_mul_of_pos_right hx.2 h0
  refine ⟨h4, by omega, by omega, ?_⟩
  apply Int.ediv_lt_of_lt_mul (by omega)
  rw [Int.mul_comm (2 ^ k)]; exact h5
theorem or_dvd {l h : Int} {k : Nat} (hk : k ≤ 31) (hl : 0 ≤ l ∧ l < 2 ^ k) (hh : 0 ≤ h ∧ h < 4294967296) : bitsOf .or .u32 l (h * 2 ^ k % 4294967296) = l + h * 2 ^ k % 4294967296 ∧ l + h * 2 ^ k % 4294967296 < 4294967296 := by
  obtain ⟨a, rfl⟩ := Int.eq_ofNat_of_zero_le hl.1
  obtain ⟨b, rfl⟩ := Int.eq_ofNat_of_zero_le hh.1
  have ha : a < 2 ^ k := by have := hl.2; exact_mod_cast this
  have e : (b : Int) * 2 ^ k % 4294967296 = ((2 ^ k * (b % 2 ^ (32 - k)) : Nat) : Int) := by
    have h1 : (4294967296 : Nat) = 2 ^ k * 2 ^ (32 - k) := by rw [← Nat.pow_add, show k + (32 - k) = 32 by omega]
    have h2 : b * 2 ^ k % 4294967296 = 2 ^ k * (b % 2 ^ (32 - k)) := by rw [h1, Nat.mul_comm b, Nat.mul_mod_mul_left]
    rw [← h2, Int.natCast_emod, Int.natCast_mul, Int.natCast_pow]
    rfl
  rw [e]
  have hp : 0 < 2 ^ k := Nat.two_pow_pos k
  have hlt : b % 2 ^ (32 - k) < 2 ^ (32 - k) := Nat.mod_lt _ (Nat.two_pow_pos _)
  have hsum : a + 2 ^ k * (b % 2 ^ (32 - k)) < 4294967296 := by
    have h1 : 2 ^ k * (b % 2 ^ (32 - k)) + 2 ^ k ≤ 2 ^ k * 2 ^ (32 - k) := by
      rw [← Nat.mul_succ]; exact Nat.mul_le_mul_left _ hlt
    rw [← Nat.pow_add, show k + (32 - k) = 32 by omega] at h1
    omega
  generalize b % 2 ^ (32 - k) = c at *
  have e3 : a ||| 2 ^ k * c = a + 2 ^ k * c := by rw [Nat.or_comm, ← Nat.two_pow_add_eq_or_of_lt ha]; omega
  generalize 2 ^ k * c = y at *
  refine ⟨?_, by omega⟩
  have e1 : (BitVec.ofInt IntKind.u32.bits (a : Int)).toNat = a := by
    rw [BitVec.toNat_ofInt]; simp only [IntKind.bits]; omega
  have e2 : (BitVec.ofInt IntKind.u32.bits (y : Int)).toNat = y := by
    rw [BitVec.toNat_ofInt]; simp only [IntKind.bits]; omega
  unfold bitsOf
  simp only [BitVec.toNat_or, e1, e2]
  rw [e3, wrap_u32' (by omega)]
  omega
theorem shl_step {A l : List Int} {i : Int} {k : Nat} (hk : k ≤ 31) (hA : Lim A) (hl : Lim l) (h0 : 0 ≤ i) (hi : i < (A.length : Int)) (hll : l.length = A.length + 1) (hlo : ix l i < 2 ^ k) (heq : val (l.take (i.toNat + 1)) = val (A.take i.toNat) * 2 ^ k) {n m : Nat} {x0 : Int} (hn : (n : Int) = i) (hm : (m : Int) = i + 1) (hx0 : x0 = ix l i) :
    let l' := (l.set n (bitsOf .or .u32 x0 (ix A i * 2 ^ k % 4294967296))).set m (ix A i * 2 ^ k / 4294967296)
    Lim l' ∧ ix l' (i + 1) < 2 ^ k ∧ val (l'.take ((i + 1).toNat + 1)) = val (A.take (i + 1).toNat) * 2 ^ k := by
  subst hx0
  have q1 := hA.ix i
  have q2 := shift_bound q1 hk
  have q3 := hl.ix i
  obtain ⟨q4, q5⟩ := or_dvd (l := ix l i) (h := ix A i) hk ⟨q3.1, hlo⟩ q1
  have q6 : (2 : Int) ^ k ≤ 2 ^ 31 := pow2_le hk
  obtain rfl : n = i.toNat := by omega
  obtain rfl : m = i.toNat + 1 := by omega
  have ei : ((i.toNat : Nat) : Int) = i := by omega
  have ei1 : ((i.toNat + 1 : Nat) : Int) = i + 1 := by omega
  have e1 : (i + 1).toNat = i.toNat + 1 := by omega
  rw [q4]
  refine ⟨(hl.set (by omega)).set (by omega), ?_, ?_⟩
  · rw [← ei1, ix_set_same (by simp; omega)]; exact q2.2.2.2
  · rw [e1, val_take_set (by simp; omega), val_take_set (by omega), val_take_succ A, Int.pow_succ, ei]
    rw [val_take_succ, ei] at heq
    have h5 := carry_step (4294967296 ^ i.toNat) (ix A i * 2 ^ k) (ix A i * 2 ^ k / 4294967296) (ix A i * 2 ^ k % 4294967296) (by omega)
    generalize ix A i * 2 ^ k / 4294967296 = u at *
    generalize ix A i * 2 ^ k % 4294967296 = v at *
    generalize (4294967296 : Int) ^ i.toNat = p at *
    generalize (2 : Int) ^ k = z at *
    grind

theorem shiftLeft_ev (a : List Int) (k : Nat) (hk : k ≤ 31) (h1 : a.length ≤ 70368744177663) : EvalsNew Tryd.prog 54 [.ints .u32 a, .int .i64 k] 34 .u32 (dig (a.length + 1) (val a * 2 ^ k)) := by
  refine evalsNew_of_awp Tryd.func54 rfl (CallOK.of Tryd.func54 (by kernel_rfl) rfl) (Nat.le_of_ble_eq_true rfl) ?_
  rintro w R hR ⟨vs, hv⟩
  obtain ⟨hla, ha⟩ := hv.nat 0 rfl
  repeat' (first
    | (apply RunL.step; exact rfl; apply op_ev (τ := τ); exact rfl; (first | exact trim_ev _ | exact cmp_ev _ _); exact rfl) | (apply RunL.step; exact rfl; exact opA) | (apply RunL.hand; exact rfl; exact rfl; exact lenA; exact rfl) | (apply AWP.seq) | (apply AWP.region; exact rfl) | (apply AWP.block) | (apply AWP.skip) | (apply AWP.exit) | (apply AWP.ret) | (apply RunL.nil) | (apply RunL.on; exact rfl; exact rfl; exact rfl; exact rfl; (first | exact rfl | assumption)) | (apply RunL.noU; exact rfl; exact rfl; exact rfl; exact rfl; exact rfl; exact rfl) | (apply RunL.no; exact rfl; exact rfl; exact rfl; exact rfl; (first | exact rfl | assumption); exact rfl; exact rfl) | (refine AWP.cond _ (Rd.of rfl) (fun hc => ?_) (fun hc => ?_) <;> first | (exfalso; cases hc; done) | (have hc' := hc; (try simp only [sc, reduceCtorEq, cmpOf] at hc'); try (exfalso; omega)))
    | (
     apply AWP.drawA
     repeat' (first
       | (apply DL.cons; (try (apply OpLoc.on; exact rfl; exact rfl; exact rfl; exact rfl; (first | exact rfl | assumption))); apply ol_ev (τ := τ); exact rfl; (first | exact trim_ev _ | exact cmp_ev _ _); exact rfl; exact rfl) | (apply DL.cons; exact olA; exact rfl) | (apply DL.nil; kernel_rfl) | (refine DL.split rfl rfl rfl rfl (fun hb => ?_) (fun hb => ?_) <;> have hb' := hb <;> (try simp only [sc, reduceCtorEq, cmpOf] at hb') <;> try (exfalso; omega)))
     all_goals (fail_if_success apply DL.id))
    | (refine RunL.split rfl rfl rfl rfl (fun hb => ?_) (fun hb => ?_) <;> have hb' := hb <;> (try simp only [sc, reduceCtorEq, cmpOf] at hb') <;> try (exfalso; omega)) )
  refine AWP.loop2 (fun i l => ⟨[(1, .val (.int .i64 k)), (5, .sb 12 0 (a.length + 1) (a.length + 1)), (13, .val (.ints .u32 a)), (14, .val (.int .i64 a.length)), (15, .val (.int .i64 i))], [(12, .row 34 .u32 l)]⟩)
    (fun i l => 0 ≤ i ∧ i ≤ a.length ∧ l.length = a.length + 1 ∧ Lim l ∧ ix l i < 2 ^ k ∧ val (l.take (i.toNat + 1)) = val (a.take i.toNat) * 2 ^ k)
    (fun i _ => a.length - i.toNat) 0 (List.replicate (a.length + 1) 0) ⟨by simp, by simp, by simp, Lim.rep _, ?_, by simp [val, List.replicate_succ]⟩ (St.Le.of (by repeat' (first | exact all_nil | refine all_cons rfl ?_)) (by repeat' (first | exact all_nil | refine all_cons rfl ?_))) ?_
  · have := pow2_pos k
    simp [ix]; exact this
  rintro i l ⟨k1, k2, k3, k4, k5, k6⟩
  have q1 := ha.ix i
  have q2 := shift_bound q1 hk
  repeat' (first
    | (apply RunL.step; exact rfl; apply op_ev (τ := τ); exact rfl; (first | exact trim_ev _ | exact cmp_ev _ _); exact rfl) | (apply RunL.step; exact rfl; exact opA) | (apply RunL.hand; exact rfl; exact rfl; exact lenA; exact rfl) | (apply AWP.seq) | (apply AWP.region; exact rfl) | (apply AWP.block) | (apply AWP.skip) | (apply AWP.exit) | (apply AWP.ret) | (apply RunL.nil) | (apply RunL.on; exact rfl; exact rfl; exact rfl; exact rfl; (first | exact rfl | assumption)) | (apply RunL.noU; exact rfl; exact rfl; exact rfl; exact rfl; exact rfl; exact rfl) | (apply RunL.no; exact rfl; exact rfl; exact rfl; exact rfl; (first | exact rfl | assumption); exact rfl; exact rfl) | (refine AWP.cond _ (Rd.of rfl) (fun hc => ?_) (fun hc => ?_) <;> first | (exfalso; cases hc; done) | (have hc' := hc; (try simp only [sc, reduceCtorEq, cmpOf] at hc'); try (exfalso; omega)))
    | (
     apply AWP.drawA
     repeat' (first
       | (apply DL.cons; (try (apply OpLoc.on; exact rfl; exact rfl; exact rfl; exact rfl; (first | exact rfl | assumption))); apply ol_ev (τ := τ); exact rfl; (first | exact trim_ev _ | exact cmp_ev _ _); exact rfl; exact rfl) | (apply DL.cons; exact olA; exact rfl) | (apply DL.nil; kernel_rfl) | (refine DL.split rfl rfl rfl rfl (fun hb => ?_) (fun hb => ?_) <;> have hb' := hb <;> (try simp only [sc, reduceCtorEq, cmpOf] at hb') <;> try (exfalso; omega)))
     all_goals (fail_if_success apply DL.id))
    | (refine RunL.split rfl rfl rfl rfl (fun hb => ?_) (fun hb => ?_) <;> have hb' := hb <;> (try simp only [sc, reduceCtorEq, cmpOf] at hb') <;> try (exfalso; omega)) )
  · have e0 : ((0 + i.toNat : Nat) : Int) = i := by omega
    have := shl_step hk ha k4 k1 (by omega) k3 k5 k6 (n := 0 + i.toNat) (m := 0 + (i + 1).toNat) (x0 := ix l ((0 + i.toNat : Nat) : Int)) (by omega) (by omega) (by rw [e0])
    refine ⟨_, _, St.Le.of (by repeat' (first | exact all_nil | refine all_cons rfl ?_)) (by repeat' (first | exact all_nil | refine all_cons rfl ?_)), ⟨by omega, by omega, by simp [k3], ?_, ?_, ?_⟩, by omega⟩
    · exact this.1
    · exact this.2.1
    · exact this.2.2
  · have e : i.toNat = a.length := by omega
    rw [e, List.take_of_length_le (by omega), List.take_of_length_le (Nat.le_refl _)] at k6
    have hl := dig_eq k4 k3 k6
    subst hl
    exact ⟨4, 12, rfl, by rw [dig_length]; rfl, rfl⟩

theorem shr_digit {A : List Int} (hA : Lim A) {i : Int} {k : Nat} (hk : k ≤ 31) (h0 : 0 ≤ i) (hi : i < (A.length : Int)) : val A / 2 ^ k / 4294967296 ^ i.toNat % 4294967296 = (ix A i + ix A (i + 1) * 4294967296) / 2 ^ k % 4294967296 := by
  have e1 : val A / 2 ^ k / 4294967296 ^ i.toNat = val (A.drop i.toNat) / 2 ^ k := by
    rw [Int.ediv_ediv_of_nonneg (Int.le_of_lt (pow2_pos k)), Int.mul_comm, ← Int.ediv_ediv_of_nonneg (Int.le_of_lt (pow_pos' _))]
    congr 1
    have h1 := val_split A i.toNat (by omega)
    have h2 := val_lt (hA.take i.toNat)
    have h3 := val_nonneg (hA.take i.toNat)
    have e : (A.take i.toNat).length = i.toNat := by simp; omega
    rw [e] at h2
    exact (divmod_of (d := 4294967296 ^ i.toNat) (q := val (A.drop i.toNat)) (r := val (A.take i.toNat)) (by omega) h3 h2).1
  have ei : ((i.toNat : Nat) : Int) = i := by omega
  have e2 : ∃ W, val (A.drop i.toNat) = ix A i + ix A (i + 1) * 4294967296 + 18446744073709551616 * W := by
    rw [val_drop A i.toNat (by omega), ei]
    by_cases h : i.toNat + 1 < A.length
    · refine ⟨val (A.drop (i.toNat + 1 + 1)), ?_⟩
      rw [val_drop A (i.toNat + 1) h, show ((i.toNat + 1 : Nat) : Int) = i + 1 by omega]
      omega
    · refine ⟨0, ?_⟩
      rw [List.drop_eq_nil_of_le (by omega), ix_beyond (l := A) (i := i + 1) (by omega)]
      simp [val]
  obtain ⟨W, hW⟩ := e2
  rw [e1, hW]
  have hz : (18446744073709551616 : Int) = 2 ^ k * (4294967296 * 2 ^ (32 - k)) := by
    have : (2 : Int) ^ k * 2 ^ (32 - k) = 4294967296 := by rw [← Int.pow_add, show k + (32 - k) = 32 by omega]; rfl
    have e : (2 : Int) ^ k * (4294967296 * 2 ^ (32 - k)) = 4294967296 * (2 ^ k * 2 ^ (32 - k)) := by grind
    rw [e, this]; rfl
  have hne : (2 : Int) ^ k ≠ 0 := by have := pow2_pos k; omega
  rw [hz, Int.mul_assoc, Int.add_mul_ediv_left _ _ hne, Int.mul_assoc, Int.add_mul_emod_self_left]

theorem shiftRight_ev (a : List Int) (k : Nat) (hk : k ≤ 31) (h1 : a.length ≤ 70368744177664) : Evals Tryd.prog 58 [.ints .u32 a, .int .i64 k] (.ints .u32 (dig a.length (val a / 2 ^ k))) := by
  refine evals_of_awp Tryd.func58 rfl (CallOK.of Tryd.func58 (by kernel_rfl) rfl) (Nat.le_of_ble_eq_true rfl) ?_
  rintro w R hR ⟨vs, hv⟩
  obtain ⟨hla, ha⟩ := hv.nat 0 rfl
  repeat' (first
    | (apply RunL.step; exact rfl; apply op_ev (τ := τ); exact rfl; (first | exact trim_ev _ | exact cmp_ev _ _); exact rfl) | (apply RunL.step; exact rfl; exact opA) | (apply RunL.hand; exact rfl; exact rfl; exact lenA; exact rfl) | (apply AWP.seq) | (apply AWP.region; exact rfl) | (apply AWP.block) | (apply AWP.skip) | (apply AWP.exit) | (apply AWP.retF; exact rfl; exact rfl; exact rfl; exact rfl; exact lenA; exact rfl) | (apply AWP.ret) | (apply RunL.nil) | (apply RunL.on; exact rfl; exact rfl; exact rfl; exact rfl; (first | exact rfl | assumption)) | (apply RunL.noU; exact rfl; exact rfl; exact rfl; exact rfl; exact rfl; exact rfl) | (apply RunL.no; exact rfl; exact rfl; exact rfl; exact rfl; (first | exact rfl | assumption); exact rfl; exact rfl) | (refine AWP.cond _ (Rd.of rfl) (fun hc => ?_) (fun hc => ?_) <;> first | (exfalso; cases hc; done) | (have hc' := hc; (try simp only [sc, reduceCtorEq, cmpOf] at hc'); try (exfalso; omega)))
    | (
     apply AWP.drawA
     repeat' (first
       | (apply DL.cons; (try (apply OpLoc.on; exact rfl; exact rfl; exact rfl; exact rfl; (first | exact rfl | assumption))); apply ol_ev (τ := τ); exact rfl; (first | exact trim_ev _ | exact cmp_ev _ _); exact rfl; exact rfl) | (apply DL.cons; exact olA; exact rfl) | (apply DL.nil; kernel_rfl) | (refine DL.split rfl rfl rfl rfl (fun hb => ?_) (fun hb => ?_) <;> have hb' := hb <;> (try simp only [sc, reduceCtorEq, cmpOf] at hb') <;> try (exfalso; omega)))
     all_goals (fail_if_success apply DL.id))
    | (refine RunL.split rfl rfl rfl rfl (fun hb => ?_) (fun hb => ?_) <;> have hb' := hb <;> (try simp only [sc, reduceCtorEq, cmpOf] at hb') <;> try (exfalso; omega)) )
  refine AWP.loop2 (fun i l => ⟨[(0, .val (.ints .u32 a)), (1, .val (.int .i64 k)), (5, .sb 11 0 a.length a.length), (12, .val (.ints .u32 a)), (13, .val (.int .i64 a.length)), (14, .val (.int .i64 i))], [(11, .row 34 .u32 l)]⟩)
    (fun i l => 0 ≤ i ∧ i ≤ a.length ∧ l.length = a.length ∧ l.take i.toNat = dig i.toNat (val a / 2 ^ k))
    (fun i _ => a.length - i.toNat) 0 (List.replicate a.length 0) ⟨by simp, by simp, by simp, by simp [dig]⟩ (St.Le.of (by repeat' (first | exact all_nil | refine all_cons rfl ?_)) (by repeat' (first | exact all_nil | refine all_cons rfl ?_))) ?_
  rintro i l ⟨k1, k2, k3, k4⟩
  have q1 := ha.ix i
  have q2 := ha.ix (i + 1)
  have step : ∀ (hi : i < a.length) (n : Nat) (v : Int), (n : Int) = i → v = (ix a i + ix a (i + 1) * 4294967296) / 2 ^ k % 4294967296 → (l.set n v).take (i + 1).toNat = dig (i + 1).toNat (val a / 2 ^ k) := by
    intro hi n v hn hv
    obtain rfl : n = i.toNat := by omega
    rw [show (i + 1).toNat = i.toNat + 1 by omega, dig_snoc, shr_digit ha hk k1 hi, ← hv, ← k4, List.take_add_one, take_set_same]
    congr 1
    rw [List.getElem?_set_self (by omega)]; rfl
  have q3 : 0 ≤ (ix a i + ix a (i + 1) * 4294967296) := by omega
  repeat' (first
    | (apply RunL.step; exact rfl; apply op_ev (τ := τ); exact rfl; (first | exact trim_ev _ | exact cmp_ev _ _); exact rfl) | (apply RunL.step; exact rfl; exact opA) | (apply RunL.hand; exact rfl; exact rfl; exact lenA; exact rfl) | (apply AWP.seq) | (apply AWP.region; exact rfl) | (apply AWP.block) | (apply AWP.skip) | (apply AWP.exit) | (apply AWP.retF; exact rfl; exact rfl; exact rfl; exact rfl; exact lenA; exact rfl) | (apply AWP.ret) | (apply RunL.nil) | (apply RunL.on; exact rfl; exact rfl; exact rfl; exact rfl; (first | exact rfl | assumption)) | (apply RunL.noU; exact rfl; exact rfl; exact rfl; exact rfl; exact rfl; exact rfl) | (apply RunL.no; exact rfl; exact rfl; exact rfl; exact rfl; (first | exact rfl | assumption); exact rfl; exact rfl) | (refine AWP.cond _ (Rd.of rfl) (fun hc => ?_) (fun hc => ?_) <;> first | (exfalso; cases hc; done) | (have hc' := hc; (try simp only [sc, reduceCtorEq, cmpOf] at hc'); try (exfalso; omega)))
    | (
     apply AWP.drawA
     repeat' (first
       | (apply DL.cons; (try (apply OpLoc.on; exact rfl; exact rfl; exact rfl; exact rfl; (first | exact rfl | assumption))); apply ol_ev (τ := τ); exact rfl; (first | exact trim_ev _ | exact cmp_ev _ _); exact rfl; exact rfl) | (apply DL.cons; exact olA; exact rfl) | (apply DL.nil; kernel_rfl) | (refine DL.split rfl rfl rfl rfl (fun hb => ?_) (fun hb => ?_) <;> have hb' := hb <;> (try simp only [sc, reduceCtorEq, cmpOf] at hb') <;> try (exfalso; omega)))
     all_goals (fail_if_success apply DL.id))
    | (refine RunL.split rfl rfl rfl rfl (fun hb => ?_) (fun hb => ?_) <;> have hb' := hb <;> (try simp only [sc, reduceCtorEq, cmpOf] at hb') <;> try (exfalso; omega)) )
  · refine ⟨_, _, St.Le.of (by repeat' (first | exact all_nil | refine all_cons rfl ?_)) (by repeat' (first | exact all_nil | refine all_cons rfl ?_)), ⟨by omega, by omega, by simp [k3], ?_⟩, by omega⟩
    exact step (by omega) _ _ (by omega) rfl
  · refine ⟨_, _, St.Le.of (by repeat' (first | exact all_nil | refine all_cons rfl ?_)) (by repeat' (first | exact all_nil | refine all_cons rfl ?_)), ⟨by omega, by omega, by simp [k3], ?_⟩, by omega⟩
    refine step (by omega) _ _ (by omega) ?_
    rw [ix_beyond (l := a) (i := i + 1) (by omega)]
    simp
  · have e : i.toNat = a.length := by omega
    rw [e, List.take_of_length_le (by omega)] at k4
    apply Ends.mk (.cons (.tmp rfl) .nil)
    simp only [pack, List.drop_zero]
    rw [List.take_of_length_le (by omega), k4]
end Go.Proofs.YtffcpgebgoineaaDoor.K
