/- Walks: the reference of layer 1 (examboardref01): Bits, short, Shift, half, DivMod, Gcd. -/
import Derived.Test.YtffcpgebgoineaaDoorWalkL
namespace Go.Proofs.YtffcpgebgoineaaDoor.K
open Go
set_option linter.unusedVariables false
set_option linter.unusedSimpArgs false

theorem bitlen_half {x : Int} (h : 0 < x) : bitlen x = bitlen (x / 2) + 1 := by
  by_cases h1 : 2 ≤ x
  · have := bitlen_shift (x := x) (k := 1) (by omega)
    simpa using this
  · have : x = 1 := by omega
    subst this; decide
theorem ix_rep (n : Nat) (i : Int) : ix (List.replicate n 0) i = 0 := by
  unfold ix
  rw [List.getD_eq_getElem?_getD, List.getElem?_replicate]
  split <;> rfl
theorem ix_drop (l : List Int) (q : Nat) (i : Int) (h : 0 ≤ i) : ix (l.drop q) i = ix l (q + i) := by
  unfold ix
  rw [List.getD_eq_getElem?_getD, List.getD_eq_getElem?_getD, List.getElem?_drop]
  congr 2; omega
theorem bitlen_eq_zero {x : Int} (h : 0 ≤ x) : bitlen x = 0 ↔ x = 0 := by
  constructor
  · intro h1
    rcases Int.lt_or_eq_of_le h with h2 | h2
    · have := (bitlen_bounds h2).1; omega
    · exact h2.symm
  · intro h1; subst h1; rfl
theorem bitlen_zero : bitlen 0 = 0 := rfl
theorem bitlen_top {x : Int} (h : 0 < (limbs x).length) : bitlen x = 32 * (((limbs x).length : Int) - 1) + bitlen (ix (limbs x) (((limbs x).length : Int) - 1)) := by
  have hx : 0 < x := by
    rcases Int.lt_or_le 0 x with h1 | h1
    · exact h1
    · rw [limbs_le h1] at h; simp at h
  have ht := limbs_top h
  obtain ⟨n, hn⟩ : ∃ n : Nat, (limbs x).length = n + 1 := ⟨(limbs x).length - 1, by omega⟩
  have hs := val_split (limbs x) n (by omega)
  rw [val_limbs (by omega)] at hs
  have hd := val_drop' (limbs x) n
  rw [List.drop_eq_nil_of_le (show (limbs x).length ≤ n + 1 by omega)] at hd
  simp only [val, Int.mul_zero, Int.add_zero] at hd
  rw [hn] at ht ⊢
  rw [show ((n + 1 : Nat) : Int) - 1 = n by omega] at ht ⊢
  rw [hd] at hs
  have h2 := val_lt ((Lim.limbs x).take n)
  have h3 := val_nonneg ((Lim.limbs x).take n)
  have e : ((limbs x).take n).length = n := by simp; omega
  rw [e] at h2
  have hp : (4294967296 : Int) ^ n = 2 ^ (32 * n) := by rw [Int.pow_mul]; rfl
  have hq : x / 2 ^ (32 * n) = ix (limbs x) n := by
    rw [← hp]
    exact (divmod_of (d := 4294967296 ^ n) (q := ix (limbs x) n) (r := val ((limbs x).take n)) (by omega) h3 h2).1
  have hle : (2 : Int) ^ (32 * n) ≤ x := by
    rw [← hp]
    have hpp := pow_pos' n
    have : (4294967296 : Int) ^ n * 1 ≤ 4294967296 ^ n * ix (limbs x) n := Int.mul_le_mul_of_nonneg_left ht (by omega)
    omega
  rw [bitlen_shift hle, hq]
  omega

section
variable {a b : List Int} {x y : Int} {k m : Nat}
theorem r1bits [h : NA a x k] (hk : k ≤ 70368744177660 := by first | omega | (simp only [List.length_cons, List.length_nil, List.length_set, List.length_replicate, List.length_append, List.length_take, List.length_drop]; omega)) : Evals Tryd.prog 47 [.ints .u32 a] (.int .i64 (bitlen x)) := by
  refine evals_of_awp Tryd.func47 rfl (CallOK.of Tryd.func47 (by kernel_rfl) rfl) (Nat.le_of_ble_eq_true rfl) ?_
  rintro w R hR ⟨vs, hv⟩
  obtain ⟨hla, ha⟩ := hv.nat 0 rfl
  have e1 := h.v
  have l1 := h.hl
  have g1 := limbs_val_length a ha
  rw [e1] at g1
  have ht := fun h => limbs_top (n := x) h
  have hb := fun h => bitlen_top (x := x) h
  have hx := val_nonneg ha
  rw [e1] at hx
  have h0 := limbs_nil hx
  have hi := (Lim.limbs x).ix (((limbs x).length : Int) - 1)
  repeat' (first
    | (apply RunL.step; exact rfl; apply op_ev (τ := τ); exact rfl; (first | exact r1norm | exact r1of _ | exact r1limb _ _ | exact r1cmp | exact r1sub | exact r1bits | exact r1half | exact r1short | exact r1shift); exact rfl) | (apply RunL.step; exact rfl; exact opA) | (apply RunL.hand; exact rfl; exact rfl; exact lenA; exact rfl) | (apply AWP.seq) | (apply AWP.region; exact rfl) | (apply AWP.block) | (apply AWP.skip) | (apply AWP.exit) | (apply AWP.retF; exact rfl; exact rfl; exact rfl; exact rfl; exact lenA; exact rfl) | (apply AWP.ret) | (apply RunL.nil) | (apply RunL.on; exact rfl; exact rfl; exact rfl; exact rfl; (first | exact rfl | assumption)) | (apply RunL.noU; exact rfl; exact rfl; exact rfl; exact rfl; exact rfl; exact rfl) | (apply RunL.no; exact rfl; exact rfl; exact rfl; exact rfl; (first | exact rfl | assumption); exact rfl; exact rfl) | (refine AWP.cond _ (Rd.of rfl) (fun hc => ?_) (fun hc => ?_) <;> first | (exfalso; cases hc; done) | (have hc' := hc; (try simp only [sc, reduceCtorEq, cmpOf] at hc'); try (exfalso; omega)))
    | (
     apply AWP.drawA
     repeat' (first
       | (apply DL.cons; (try (apply OpLoc.on; exact rfl; exact rfl; exact rfl; exact rfl; (first | exact rfl | assumption))); apply ol_ev (τ := τ); exact rfl; (first | exact r1norm | exact r1of _ | exact r1limb _ _ | exact r1cmp | exact r1sub | exact r1bits | exact r1half | exact r1short | exact r1shift); exact rfl; exact rfl) | (apply DL.cons; exact olA; exact rfl) | (apply DL.nil; kernel_rfl) | (refine DL.split rfl rfl rfl rfl (fun hb => ?_) (fun hb => ?_) <;> have hb' := hb <;> (try simp only [sc, reduceCtorEq, cmpOf] at hb') <;> try (exfalso; omega)))
     all_goals (fail_if_success apply DL.id))
    | (refine RunL.split rfl rfl rfl rfl (fun hb => ?_) (fun hb => ?_) <;> have hb' := hb <;> (try simp only [sc, reduceCtorEq, cmpOf] at hb') <;> try (exfalso; omega)) )
  · apply Ends.mk (.cons (.tmp rfl) .nil)
    have : x = 0 := by omega
    subst this; rfl
  clear h
  refine AWP.loop2 (fun n u => ⟨[(3, .val (.int .i64 n)), (4, .val (.int .u32 u))], []⟩) (fun n u => 0 ≤ u ∧ u < 4294967296 ∧ 0 ≤ n ∧ n ≤ 9000000000000000000 - bitlen u ∧ n + bitlen u = bitlen x) (fun _ u => u.toNat) (32 * (((limbs x).length : Int) - 1)) (ix (limbs x) (((limbs x).length : Int) - 1)) ⟨hi.1, hi.2, by omega, ?_, ?_⟩ (St.Le.of (by repeat' (first | exact all_nil | refine all_cons rfl ?_)) (by repeat' (first | exact all_nil | refine all_cons rfl ?_))) ?_
  · have := bitlen_le (x := ix (limbs x) (((limbs x).length : Int) - 1)) (k := 32) (by omega)
    omega
  · have := hb (by omega); omega
  rintro n u ⟨k1, k2, k3, k4, k5⟩
  have hh := fun h => bitlen_half (x := u) h
  have hn := bitlen_nonneg (u / 2)
  repeat' (first
    | (apply RunL.step; exact rfl; apply op_ev (τ := τ); exact rfl; (first | exact r1norm | exact r1of _ | exact r1limb _ _ | exact r1cmp | exact r1sub | exact r1bits | exact r1half | exact r1short | exact r1shift); exact rfl) | (apply RunL.step; exact rfl; exact opA) | (apply RunL.hand; exact rfl; exact rfl; exact lenA; exact rfl) | (apply AWP.seq) | (apply AWP.region; exact rfl) | (apply AWP.block) | (apply AWP.skip) | (apply AWP.exit) | (apply AWP.retF; exact rfl; exact rfl; exact rfl; exact rfl; exact lenA; exact rfl) | (apply AWP.ret) | (apply RunL.nil) | (apply RunL.on; exact rfl; exact rfl; exact rfl; exact rfl; (first | exact rfl | assumption)) | (apply RunL.noU; exact rfl; exact rfl; exact rfl; exact rfl; exact rfl; exact rfl) | (apply RunL.no; exact rfl; exact rfl; exact rfl; exact rfl; (first | exact rfl | assumption); exact rfl; exact rfl) | (refine AWP.cond _ (Rd.of rfl) (fun hc => ?_) (fun hc => ?_) <;> first | (exfalso; cases hc; done) | (have hc' := hc; (try simp only [sc, reduceCtorEq, cmpOf] at hc'); try (exfalso; omega)))
    | (
     apply AWP.drawA
     repeat' (first
       | (apply DL.cons; (try (apply OpLoc.on; exact rfl; exact rfl; exact rfl; exact rfl; (first | exact rfl | assumption))); apply ol_ev (τ := τ); exact rfl; (first | exact r1norm | exact r1of _ | exact r1limb _ _ | exact r1cmp | exact r1sub | exact r1bits | exact r1half | exact r1short | exact r1shift); exact rfl; exact rfl) | (apply DL.cons; exact olA; exact rfl) | (apply DL.nil; kernel_rfl) | (refine DL.split rfl rfl rfl rfl (fun hb => ?_) (fun hb => ?_) <;> have hb' := hb <;> (try simp only [sc, reduceCtorEq, cmpOf] at hb') <;> try (exfalso; omega)))
     all_goals (fail_if_success apply DL.id))
    | (refine RunL.split rfl rfl rfl rfl (fun hb => ?_) (fun hb => ?_) <;> have hb' := hb <;> (try simp only [sc, reduceCtorEq, cmpOf] at hb') <;> try (exfalso; omega)) )
  · have := hh (by omega)
    exact ⟨_, _, St.Le.of (by repeat' (first | exact all_nil | refine all_cons rfl ?_)) (by repeat' (first | exact all_nil | refine all_cons rfl ?_)), ⟨by omega, by omega, by omega, by omega, by omega⟩, by omega⟩
  · apply Ends.mk (.cons (.tmp rfl) .nil)
    have : u = 0 := by omega
    subst this
    rw [bitlen_zero] at k5
    simp only [pack]; congr 1; omega
theorem r1short [h : NA a x k] {d : Int} (hd : 0 < d := by first | assumption | omega) (hd2 : d < 4294967296 := by first | assumption | omega) (hk : k ≤ 70368744177660 := by first | omega | (simp only [List.length_cons, List.length_nil, List.length_set, List.length_replicate, List.length_append, List.length_take, List.length_drop]; omega)) : Evals Tryd.prog 45 [.ints .u32 a, .int .u64 d] (.tup [.ints .u32 (limbs (x / d)), .int .u64 (x % d)]) := by
  refine evals_of_awp Tryd.func45 rfl (CallOK.of Tryd.func45 (by kernel_rfl) rfl) (Nat.le_of_ble_eq_true rfl) ?_
  rintro w R hR ⟨vs, hv⟩
  obtain ⟨hla, ha⟩ := hv.nat 0 rfl
  have e1 := h.v
  have l1 := h.hl
  clear h
  repeat' (first
    | (apply RunL.step; exact rfl; apply op_ev (τ := τ); exact rfl; (first | exact r1norm | exact r1of _ | exact r1limb _ _ | exact r1cmp | exact r1sub | exact r1bits | exact r1half | exact r1short | exact r1shift); exact rfl) | (apply RunL.step; exact rfl; exact opA) | (apply RunL.hand; exact rfl; exact rfl; exact lenA; exact rfl) | (apply AWP.seq) | (apply AWP.region; exact rfl) | (apply AWP.block) | (apply AWP.skip) | (apply AWP.exit) | (apply AWP.retF; exact rfl; exact rfl; exact rfl; exact rfl; exact lenA; exact rfl) | (apply AWP.ret) | (apply RunL.nil) | (apply RunL.on; exact rfl; exact rfl; exact rfl; exact rfl; (first | exact rfl | assumption)) | (apply RunL.noU; exact rfl; exact rfl; exact rfl; exact rfl; exact rfl; exact rfl) | (apply RunL.no; exact rfl; exact rfl; exact rfl; exact rfl; (first | exact rfl | assumption); exact rfl; exact rfl) | (refine AWP.cond _ (Rd.of rfl) (fun hc => ?_) (fun hc => ?_) <;> first | (exfalso; cases hc; done) | (have hc' := hc; (try simp only [sc, reduceCtorEq, cmpOf] at hc'); try (exfalso; omega)))
    | (
     apply AWP.drawA
     repeat' (first
       | (apply DL.cons; (try (apply OpLoc.on; exact rfl; exact rfl; exact rfl; exact rfl; (first | exact rfl | assumption))); apply ol_ev (τ := τ); exact rfl; (first | exact r1norm | exact r1of _ | exact r1limb _ _ | exact r1cmp | exact r1sub | exact r1bits | exact r1half | exact r1short | exact r1shift); exact rfl; exact rfl) | (apply DL.cons; exact olA; exact rfl) | (apply DL.nil; kernel_rfl) | (refine DL.split rfl rfl rfl rfl (fun hb => ?_) (fun hb => ?_) <;> have hb' := hb <;> (try simp only [sc, reduceCtorEq, cmpOf] at hb') <;> try (exfalso; omega)))
     all_goals (fail_if_success apply DL.id))
    | (refine RunL.split rfl rfl rfl rfl (fun hb => ?_) (fun hb => ?_) <;> have hb' := hb <;> (try simp only [sc, reduceCtorEq, cmpOf] at hb') <;> try (exfalso; omega)) )
  refine AWP.loop3 (fun i l r => ⟨[(0, .val (.ints .u32 a)), (1, .val (.int .u64 d)), (6, .sb 12 0 a.length a.length), (7, .val (.int .u64 r)), (8, .val (.int .i64 i))], [(12, .row 34 .u32 l)]⟩)
    (fun i l r => -1 ≤ i ∧ i < a.length ∧ 0 ≤ r ∧ r < d ∧ l.length = a.length ∧ Lim l ∧ val (a.drop (i + 1).toNat) = d * val (l.drop (i + 1).toNat) + r)
    (fun i _ _ => (i + 1).toNat) (a.length - 1) (List.replicate a.length 0) 0 ⟨by omega, by omega, by omega, hd, by simp, Lim.rep _, ?_⟩ (St.Le.of (by repeat' (first | exact all_nil | refine all_cons rfl ?_)) (by repeat' (first | exact all_nil | refine all_cons rfl ?_))) ?_
  · rw [List.drop_eq_nil_of_le (by omega), List.drop_eq_nil_of_le (by simp)]; simp [val]
  rintro i l r ⟨k1, k2, k3, k4, k5, k6, k7⟩
  have q1 := ha.ix i
  have q2 := limb_div k3 k4 q1
  repeat' (first
    | (apply RunL.step; exact rfl; apply op_ev (τ := τ); exact rfl; (first | exact r1norm | exact r1of _ | exact r1limb _ _ | exact r1cmp | exact r1sub | exact r1bits | exact r1half | exact r1short | exact r1shift); exact rfl) | (apply RunL.step; exact rfl; exact opA) | (apply RunL.hand; exact rfl; exact rfl; exact lenA; exact rfl) | (apply AWP.seq) | (apply AWP.region; exact rfl) | (apply AWP.block) | (apply AWP.skip) | (apply AWP.exit) | (apply AWP.retF; exact rfl; exact rfl; exact rfl; exact rfl; exact lenA; exact rfl) | (apply AWP.ret) | (apply RunL.nil) | (apply RunL.on; exact rfl; exact rfl; exact rfl; exact rfl; (first | exact rfl | assumption)) | (apply RunL.noU; exact rfl; exact rfl; exact rfl; exact rfl; exact rfl; exact rfl) | (apply RunL.no; exact rfl; exact rfl; exact rfl; exact rfl; (first | exact rfl | assumption); exact rfl; exact rfl) | (refine AWP.cond _ (Rd.of rfl) (fun hc => ?_) (fun hc => ?_) <;> first | (exfalso; cases hc; done) | (have hc' := hc; (try simp only [sc, reduceCtorEq, cmpOf] at hc'); try (exfalso; omega)))
    | (
     apply AWP.drawA
     repeat' (first
       | (apply DL.cons; (try (apply OpLoc.on; exact rfl; exact rfl; exact rfl; exact rfl; (first | exact rfl | assumption))); apply ol_ev (τ := τ); exact rfl; (first | exact r1norm | exact r1of _ | exact r1limb _ _ | exact r1cmp | exact r1sub | exact r1bits | exact r1half | exact r1short | exact r1shift); exact rfl; exact rfl) | (apply DL.cons; exact olA; exact rfl) | (apply DL.nil; kernel_rfl) | (refine DL.split rfl rfl rfl rfl (fun hb => ?_) (fun hb => ?_) <;> have hb' := hb <;> (try simp only [sc, reduceCtorEq, cmpOf] at hb') <;> try (exfalso; omega)))
     all_goals (fail_if_success apply DL.id))
    | (refine RunL.split rfl rfl rfl rfl (fun hb => ?_) (fun hb => ?_) <;> have hb' := hb <;> (try simp only [sc, reduceCtorEq, cmpOf] at hb') <;> try (exfalso; omega)) )
  · refine ⟨_, _, _, St.Le.of (by repeat' (first | exact all_nil | refine all_cons rfl ?_)) (by repeat' (first | exact all_nil | refine all_cons rfl ?_)), ⟨by omega, by omega, by omega, by omega, by simp [k5], ?_, ?_⟩, by omega⟩
    · exact k6.set (by omega)
    · simp only [Nat.zero_add]
      exact divLimb_step hc' (by omega) (by omega) k7
  · apply Ends.mk (.cons (.tmp rfl) (.cons (.tmp rfl) .nil))
    have e : (i + 1).toNat = 0 := by omega
    rw [e] at k7
    simp only [List.drop_zero] at k7
    obtain ⟨e1', e2⟩ := divmod_of k7 k3 k4
    simp only [pack, List.drop_zero]
    rw [List.take_of_length_le (by omega), ← e1, e1', e2]
theorem r1half [h : NA a x k] (hk : k ≤ 70368744177660 := by first | omega | (simp only [List.length_cons, List.length_nil, List.length_set, List.length_replicate, List.length_append, List.length_take, List.length_drop]; omega)) : Evals Tryd.prog 49 [.ints .u32 a] (.ints .u32 (limbs (x / 2))) := by
  refine evals_of_awp Tryd.func49 rfl (CallOK.of Tryd.func49 (by kernel_rfl) rfl) (Nat.le_of_ble_eq_true rfl) ?_
  rintro w R hR ⟨vs, hv⟩
  obtain ⟨hla, ha⟩ := hv.nat 0 rfl
  have e1 := h.v
  have l1 := h.hl
  clear h
  repeat' (first
    | (apply RunL.step; exact rfl; apply op_ev (τ := τ); exact rfl; (first | exact r1norm | exact r1of _ | exact r1limb _ _ | exact r1cmp | exact r1sub | exact r1bits | exact r1half | exact r1short | exact r1shift); exact rfl) | (apply RunL.step; exact rfl; exact opA) | (apply RunL.hand; exact rfl; exact rfl; exact lenA; exact rfl) | (apply AWP.seq) | (apply AWP.region; exact rfl) | (apply AWP.block) | (apply AWP.skip) | (apply AWP.exit) | (apply AWP.retF; exact rfl; exact rfl; exact rfl; exact rfl; exact lenA; exact rfl) | (apply AWP.ret) | (apply RunL.nil) | (apply RunL.on; exact rfl; exact rfl; exact rfl; exact rfl; (first | exact rfl | assumption)) | (apply RunL.noU; exact rfl; exact rfl; exact rfl; exact rfl; exact rfl; exact rfl) | (apply RunL.no; exact rfl; exact rfl; exact rfl; exact rfl; (first | exact rfl | assumption); exact rfl; exact rfl) | (refine AWP.cond _ (Rd.of rfl) (fun hc => ?_) (fun hc => ?_) <;> first | (exfalso; cases hc; done) | (have hc' := hc; (try simp only [sc, reduceCtorEq, cmpOf] at hc'); try (exfalso; omega)))
    | (
     apply AWP.drawA
     repeat' (first
       | (apply DL.cons; (try (apply OpLoc.on; exact rfl; exact rfl; exact rfl; exact rfl; (first | exact rfl | assumption))); apply ol_ev (τ := τ); exact rfl; (first | exact r1norm | exact r1of _ | exact r1limb _ _ | exact r1cmp | exact r1sub | exact r1bits | exact r1half | exact r1short | exact r1shift); exact rfl; exact rfl) | (apply DL.cons; exact olA; exact rfl) | (apply DL.nil; kernel_rfl) | (refine DL.split rfl rfl rfl rfl (fun hb => ?_) (fun hb => ?_) <;> have hb' := hb <;> (try simp only [sc, reduceCtorEq, cmpOf] at hb') <;> try (exfalso; omega)))
     all_goals (fail_if_success apply DL.id))
    | (refine RunL.split rfl rfl rfl rfl (fun hb => ?_) (fun hb => ?_) <;> have hb' := hb <;> (try simp only [sc, reduceCtorEq, cmpOf] at hb') <;> try (exfalso; omega)) )
  refine AWP.loop2 (fun i l => ⟨[(0, .val (.ints .u32 a)), (3, .sb 7 0 a.length a.length), (4, .val (.int .i64 i))], [(7, .row 34 .u32 l)]⟩)
    (fun i l => 0 ≤ i ∧ i ≤ a.length ∧ l.length = a.length ∧ l.take i.toNat = dig i.toNat (val a / 2))
    (fun i _ => a.length - i.toNat) 0 (List.replicate a.length 0) ⟨by simp, by simp, by simp, by simp [dig]⟩ (St.Le.of (by repeat' (first | exact all_nil | refine all_cons rfl ?_)) (by repeat' (first | exact all_nil | refine all_cons rfl ?_))) ?_
  rintro i l ⟨k1, k2, k3, k4⟩
  have q1 := ha.ix i
  have q2 := ha.ix (i + 1)
  repeat' (first
    | (apply RunL.step; exact rfl; apply op_ev (τ := τ); exact rfl; (first | exact r1norm | exact r1of _ | exact r1limb _ _ | exact r1cmp | exact r1sub | exact r1bits | exact r1half | exact r1short | exact r1shift); exact rfl) | (apply RunL.step; exact rfl; exact opA) | (apply RunL.hand; exact rfl; exact rfl; exact lenA; exact rfl) | (apply AWP.seq) | (apply AWP.region; exact rfl) | (apply AWP.block) | (apply AWP.skip) | (apply AWP.exit) | (apply AWP.retF; exact rfl; exact rfl; exact rfl; exact rfl; exact lenA; exact rfl) | (apply AWP.ret) | (apply RunL.nil) | (apply RunL.on; exact rfl; exact rfl; exact rfl; exact rfl; (first | exact rfl | assumption)) | (apply RunL.noU; exact rfl; exact rfl; exact rfl; exact rfl; exact rfl; exact rfl) | (apply RunL.no; exact rfl; exact rfl; exact rfl; exact rfl; (first | exact rfl | assumption); exact rfl; exact rfl) | (refine AWP.cond _ (Rd.of rfl) (fun hc => ?_) (fun hc => ?_) <;> first | (exfalso; cases hc; done) | (have hc' := hc; (try simp only [sc, reduceCtorEq, cmpOf] at hc'); try (exfalso; omega)))
    | (
     apply AWP.drawA
     repeat' (first
       | (apply DL.cons; (try (apply OpLoc.on; exact rfl; exact rfl; exact rfl; exact rfl; (first | exact rfl | assumption))); apply ol_ev (τ := τ); exact rfl; (first | exact r1norm | exact r1of _ | exact r1limb _ _ | exact r1cmp | exact r1sub | exact r1bits | exact r1half | exact r1short | exact r1shift); exact rfl; exact rfl) | (apply DL.cons; exact olA; exact rfl) | (apply DL.nil; kernel_rfl) | (refine DL.split rfl rfl rfl rfl (fun hb => ?_) (fun hb => ?_) <;> have hb' := hb <;> (try simp only [sc, reduceCtorEq, cmpOf] at hb') <;> try (exfalso; omega)))
     all_goals (fail_if_success apply DL.id))
    | (refine RunL.split rfl rfl rfl rfl (fun hb => ?_) (fun hb => ?_) <;> have hb' := hb <;> (try simp only [sc, reduceCtorEq, cmpOf] at hb') <;> try (exfalso; omega)) )
  · refine ⟨_, _, St.Le.of (by repeat' (first | exact all_nil | refine all_cons rfl ?_)) (by repeat' (first | exact all_nil | refine all_cons rfl ?_)), ⟨by omega, by omega, by simp [k3], ?_⟩, by omega⟩
    have := shr_digit ha (k := 1) (by omega) k1 (show i < a.length by omega)
    rw [show (i + 1).toNat = i.toNat + 1 by omega, dig_snoc, ← k4, List.take_add_one]
    simp only [Nat.zero_add]
    rw [take_set_same]
    congr 1
    rw [List.getElem?_set_self (by omega)]
    rw [show (2 : Int) ^ 1 = 2 from rfl] at this
    rw [this, Int.add_comm]
    rfl
  · apply Ends.mk (.cons (.tmp rfl) .nil)
    have e : i.toNat = a.length := by omega
    rw [e, List.take_of_length_le (by omega)] at k4
    simp only [pack, List.drop_zero]
    have v1 := val_nonneg ha
    have v2 := val_lt ha
    rw [List.take_of_length_le (by omega), k4, val_dig _ _ (by omega) (by omega), e1]
theorem r1shift [h : NA a x k] {n : Int} (h0 : 0 ≤ n := by first | assumption | omega) (hn : n ≤ 2251799813685248 := by first | assumption | omega) (hk : (k : Int) + n / 32 ≤ 70368744177600 := by first | omega | (simp only [List.length_cons, List.length_nil, List.length_set, List.length_replicate, List.length_append, List.length_take, List.length_drop]; omega)) : Evals Tryd.prog 48 [.ints .u32 a, .int .i64 n] (.ints .u32 (limbs (x * 2 ^ n.toNat))) := by
  refine evals_of_awp Tryd.func48 rfl (CallOK.of Tryd.func48 (by kernel_rfl) rfl) (Nat.le_of_ble_eq_true rfl) ?_
  rintro w R hR ⟨vs, hv⟩
  obtain ⟨hla, ha⟩ := hv.nat 0 rfl
  have e1 := h.v
  have l1 := h.hl
  clear h
  obtain ⟨q, hq⟩ : ∃ q : Nat, (q : Int) = n / 32 := ⟨(n / 32).toNat, by omega⟩
  have hr31 : (n % 32).toNat ≤ 31 := by omega
  obtain ⟨N, hN⟩ : ∃ N : Nat, N = a.length + q + 1 := ⟨_, rfl⟩
  repeat' (first
    | (apply RunL.step; exact rfl; apply op_ev (τ := τ); exact rfl; (first | exact r1norm | exact r1of _ | exact r1limb _ _ | exact r1cmp | exact r1sub | exact r1bits | exact r1half | exact r1short | exact r1shift); exact rfl) | (apply RunL.step; exact rfl; exact opA) | (apply RunL.hand; exact rfl; exact rfl; exact lenA; exact rfl) | (apply AWP.seq) | (apply AWP.region; exact rfl) | (apply AWP.block) | (apply AWP.skip) | (apply AWP.exit) | (apply AWP.retF; exact rfl; exact rfl; exact rfl; exact rfl; exact lenA; exact rfl) | (apply AWP.ret) | (apply RunL.nil) | (apply RunL.on; exact rfl; exact rfl; exact rfl; exact rfl; (first | exact rfl | assumption)) | (apply RunL.noU; exact rfl; exact rfl; exact rfl; exact rfl; exact rfl; exact rfl) | (apply RunL.no; exact rfl; exact rfl; exact rfl; exact rfl; (first | exact rfl | assumption); exact rfl; exact rfl) | (refine AWP.cond _ (Rd.of rfl) (fun hc => ?_) (fun hc => ?_) <;> first | (exfalso; cases hc; done) | (have hc' := hc; (try simp only [sc, reduceCtorEq, cmpOf] at hc'); try (exfalso; omega)))
    | (
     apply AWP.drawA
     repeat' (first
       | (apply DL.cons; (try (apply OpLoc.on; exact rfl; exact rfl; exact rfl; exact rfl; (first | exact rfl | assumption))); apply ol_ev (τ := τ); exact rfl; (first | exact r1norm | exact r1of _ | exact r1limb _ _ | exact r1cmp | exact r1sub | exact r1bits | exact r1half | exact r1short | exact r1shift); exact rfl; exact rfl) | (apply DL.cons; exact olA; exact rfl) | (apply DL.nil; kernel_rfl) | (refine DL.split rfl rfl rfl rfl (fun hb => ?_) (fun hb => ?_) <;> have hb' := hb <;> (try simp only [sc, reduceCtorEq, cmpOf] at hb') <;> try (exfalso; omega)))
     all_goals (fail_if_success apply DL.id))
    | (refine RunL.split rfl rfl rfl rfl (fun hb => ?_) (fun hb => ?_) <;> have hb' := hb <;> (try simp only [sc, reduceCtorEq, cmpOf] at hb') <;> try (exfalso; omega)) )
  refine AWP.loop2 (fun i l => ⟨[(0, .val (.ints .u32 a)), (1, .val (.int .i64 n)), (5, .sb 14 0 N N), (6, .val (.int .i64 i))], [(14, .row 34 .u32 l)]⟩)
    (fun i l => 0 ≤ i ∧ i ≤ a.length ∧ l.length = N ∧ Lim l ∧ val (l.take q) = 0 ∧ ix (l.drop q) i < 2 ^ (n % 32).toNat ∧ val ((l.drop q).take (i.toNat + 1)) = val (a.take i.toNat) * 2 ^ (n % 32).toNat)
    (fun i _ => a.length - i.toNat) 0 (List.replicate N 0) ⟨by simp, by simp, by simp, Lim.rep _, ?_, ?_, ?_⟩ ?_ ?_
  · rw [List.take_replicate, val_rep]
  · have := pow2_pos (n % 32).toNat
    rw [List.drop_replicate, ix_rep]; exact this
  · rw [List.drop_replicate, List.take_replicate, val_rep]; simp [val]
  · have : ((a.length : Int) + n / 32 + 1).toNat = N := by omega
    rw [← this]; exact St.Le.of (by repeat' (first | exact all_nil | refine all_cons rfl ?_)) (by repeat' (first | exact all_nil | refine all_cons rfl ?_))
  rintro i l ⟨k1, k2, k3, k4, k5, k6, k7⟩
  have q1 := ha.ix i
  have q2 := shift_bound q1 hr31
  repeat' (first
    | (apply RunL.step; exact rfl; apply op_ev (τ := τ); exact rfl; (first | exact r1norm | exact r1of _ | exact r1limb _ _ | exact r1cmp | exact r1sub | exact r1bits | exact r1half | exact r1short | exact r1shift); exact rfl) | (apply RunL.step; exact rfl; exact opA) | (apply RunL.hand; exact rfl; exact rfl; exact lenA; exact rfl) | (apply AWP.seq) | (apply AWP.region; exact rfl) | (apply AWP.block) | (apply AWP.skip) | (apply AWP.exit) | (apply AWP.retF; exact rfl; exact rfl; exact rfl; exact rfl; exact lenA; exact rfl) | (apply AWP.ret) | (apply RunL.nil) | (apply RunL.on; exact rfl; exact rfl; exact rfl; exact rfl; (first | exact rfl | assumption)) | (apply RunL.noU; exact rfl; exact rfl; exact rfl; exact rfl; exact rfl; exact rfl) | (apply RunL.no; exact rfl; exact rfl; exact rfl; exact rfl; (first | exact rfl | assumption); exact rfl; exact rfl) | (refine AWP.cond _ (Rd.of rfl) (fun hc => ?_) (fun hc => ?_) <;> first | (exfalso; cases hc; done) | (have hc' := hc; (try simp only [sc, reduceCtorEq, cmpOf] at hc'); try (exfalso; omega)))
    | (
     apply AWP.drawA
     repeat' (first
       | (apply DL.cons; (try (apply OpLoc.on; exact rfl; exact rfl; exact rfl; exact rfl; (first | exact rfl | assumption))); apply ol_ev (τ := τ); exact rfl; (first | exact r1norm | exact r1of _ | exact r1limb _ _ | exact r1cmp | exact r1sub | exact r1bits | exact r1half | exact r1short | exact r1shift); exact rfl; exact rfl) | (apply DL.cons; exact olA; exact rfl) | (apply DL.nil; kernel_rfl) | (refine DL.split rfl rfl rfl rfl (fun hb => ?_) (fun hb => ?_) <;> have hb' := hb <;> (try simp only [sc, reduceCtorEq, cmpOf] at hb') <;> try (exfalso; omega)))
     all_goals (fail_if_success apply DL.id))
    | (refine RunL.split rfl rfl rfl rfl (fun hb => ?_) (fun hb => ?_) <;> have hb' := hb <;> (try simp only [sc, reduceCtorEq, cmpOf] at hb') <;> try (exfalso; omega)) )
  · have e0 : ix l ((0 + (i + n / 32).toNat : Nat) : Int) = ix (l.drop q) i := by
      rw [ix_drop l q i k1]; congr 1; omega
    have s := shl_step (l := l.drop q) hr31 ha (k4.drop q) k1 hc' (by simp; omega) k6 k7 (n := i.toNat) (m := i.toNat + 1) (x0 := ix l ((0 + (i + n / 32).toNat : Nat) : Int)) (by omega) (by omega) e0
    refine ⟨_, _, St.Le.of (by repeat' (first | exact all_nil | refine all_cons rfl ?_)) (by repeat' (first | exact all_nil | refine all_cons rfl ?_)), ⟨by omega, by omega, by simp [k3], ?_, ?_, ?_, ?_⟩, by omega⟩
    · refine (k4.set ?_).set (by omega)
      have h1 := k4.ix ((0 + (i + n / 32).toNat : Nat) : Int)
      have h2 := or_dvd (l := ix l ((0 + (i + n / 32).toNat : Nat) : Int)) (h := ix a i) hr31 ⟨h1.1, by rw [e0]; exact k6⟩ q1
      rw [h2.1]; omega
    · rw [List.take_set_of_le (by omega), List.take_set_of_le (by omega)]; exact k5
    · rw [List.drop_set, if_neg (by omega), List.drop_set, if_neg (by omega)]
      have := s.2.1
      rwa [show 0 + (i + n / 32).toNat - q = i.toNat by omega, show 0 + (i + n / 32 + 1).toNat - q = i.toNat + 1 by omega]
    · rw [List.drop_set, if_neg (by omega), List.drop_set, if_neg (by omega)]
      have := s.2.2
      rwa [show 0 + (i + n / 32).toNat - q = i.toNat by omega, show 0 + (i + n / 32 + 1).toNat - q = i.toNat + 1 by omega]
  · apply Ends.mk (.cons (.tmp rfl) .nil)
    have ei : i.toNat = a.length := by omega
    rw [ei, List.take_of_length_le (by simp; omega), List.take_of_length_le (Nat.le_refl _), e1] at k7
    simp only [pack, List.drop_zero]
    rw [List.take_of_length_le (by omega), val_split l q (by omega), k5, k7, Int.zero_add]
    have e2 : (4294967296 : Int) ^ q * (x * 2 ^ (n % 32).toNat) = x * 2 ^ n.toNat := by
      have : (2 : Int) ^ n.toNat = 2 ^ (32 * q) * 2 ^ (n % 32).toNat := by rw [← Int.pow_add]; congr 1; omega
      rw [this, Int.pow_mul, show (2 : Int) ^ 32 = 4294967296 from rfl]
      grind
    rw [e2]
theorem or_bit {L : Int} {k : Nat} (hk : k ≤ 31) (hL : 0 ≤ L ∧ L < 4294967296) (hd : (2 : Int) ^ (k + 1) ∣ L) : bitsOf .or .u32 L (2 ^ k) = L + 2 ^ k ∧ L + 2 ^ k < 4294967296 := by
  obtain ⟨c, hc⟩ := hd
  have hp := pow2_pos k
  have h31 := pow2_le hk
  have hc0 : 0 ≤ c := by
    rcases Int.lt_or_le c 0 with h | h
    · have h2 := Int.mul_le_mul_of_nonneg_left (show c ≤ -1 by omega) (Int.le_of_lt (pow2_pos (k + 1)))
      have := pow2_pos (k + 1)
      omega
    · exact h
  obtain ⟨n, rfl⟩ := Int.eq_ofNat_of_zero_le hc0
  have eL : L = ((2 ^ (k + 1) * n : Nat) : Int) := by rw [hc]; simp
  have e2 : (2 : Int) ^ k = ((2 ^ k : Nat) : Int) := by simp
  rw [e2] at *
  have hlt : 2 ^ (k + 1) * n + 2 ^ k < 4294967296 := by
    have h1 : (4294967296 : Nat) = 2 ^ (k + 1) * 2 ^ (31 - k) := by rw [← Nat.pow_add, show k + 1 + (31 - k) = 32 by omega]
    have h2 : 2 ^ (k + 1) * n < 2 ^ (k + 1) * 2 ^ (31 - k) := by rw [← h1]; omega
    have h3 : n < 2 ^ (31 - k) := Nat.lt_of_mul_lt_mul_left h2
    have h4 : 2 ^ (k + 1) * (n + 1) ≤ 2 ^ (k + 1) * 2 ^ (31 - k) := Nat.mul_le_mul_left _ h3
    rw [← h1, Nat.mul_add, Nat.mul_one] at h4
    have h5 : 2 ^ (k + 1) = 2 ^ k * 2 := Nat.pow_succ ..
    have h6 := Nat.two_pow_pos k
    omega
  have hor : (2 ^ (k + 1) * n) ||| 2 ^ k = 2 ^ (k + 1) * n + 2 ^ k := by
    rw [← Nat.two_pow_add_eq_or_of_lt (Nat.pow_lt_pow_right (by omega) (by omega))]
  rw [eL]
  generalize 2 ^ (k + 1) * n = u at *
  generalize 2 ^ k = v at *
  have e3 : (BitVec.ofInt IntKind.u32.bits (u : Int)).toNat = u := by rw [BitVec.toNat_ofInt]; simp only [IntKind.bits]; omega
  have e4 : (BitVec.ofInt IntKind.u32.bits (v : Int)).toNat = v := by rw [BitVec.toNat_ofInt]; simp only [IntKind.bits]; omega
  refine ⟨?_, by omega⟩
  unfold bitsOf
  simp only [BitVec.toNat_or, e3, e4]
  rw [hor, wrap_u32' (by omega)]
  omega
/-- the bit i of a row whose lower bits are 0 -/
theorem bit_step {l : List Int} (hl : Lim l) {i : Int} (h0 : 0 ≤ i) {j : Nat} (hj : (j : Int) = i / 32) (hjl : j < l.length) (hd : (2 : Int) ^ (i.toNat + 1) ∣ val l) :
    (2 : Int) ^ ((i % 32).toNat + 1) ∣ ix l j ∧ val (l.set j (ix l j + 2 ^ (i % 32).toNat)) = val l + 2 ^ i.toNat := by
  have hs := val_split l j (by omega)
  have hdr := val_drop l j hjl
  have ht1 := val_nonneg (hl.take j)
  have ht2 := val_lt (hl.take j)
  have e : (l.take j).length = j := by simp; omega
  rw [e] at ht2
  have hB : (4294967296 : Int) ^ j = 2 ^ (32 * j) := by rw [Int.pow_mul]; rfl
  have hi : i.toNat = 32 * j + (i % 32).toNat := by omega
  generalize hr : (i % 32).toNat = r at *
  have hr31 : r ≤ 31 := by omega
  have hB2 : (2 : Int) ^ (i.toNat + 1) = 4294967296 ^ j * 2 ^ (r + 1) := by rw [hB, ← Int.pow_add]; congr 1; omega
  have hp := pow_pos' j
  constructor
  · obtain ⟨c, hc⟩ := hd
    rw [hB2] at hc
    have t0 : val (l.take j) = 0 := by
      have h1 : (4294967296 : Int) ^ j ∣ val (l.take j) := by
        have : val (l.take j) = 4294967296 ^ j * (2 ^ (r + 1) * c - val (l.drop j)) := by rw [Int.mul_sub]; rw [← Int.mul_assoc]; omega
        exact ⟨_, this⟩
      have := Int.emod_eq_zero_of_dvd h1
      rwa [Int.emod_eq_of_lt ht1 ht2] at this
    have h2 : val (l.drop j) = 2 ^ (r + 1) * c := by
      have : 4294967296 ^ j * val (l.drop j) = 4294967296 ^ j * (2 ^ (r + 1) * c) := by rw [← Int.mul_assoc]; omega
      exact Int.eq_of_mul_eq_mul_left (by omega) this
    have h3 : (4294967296 : Int) = 2 ^ (r + 1) * 2 ^ (31 - r) := by rw [← Int.pow_add, show r + 1 + (31 - r) = 32 by omega]; rfl
    refine ⟨c - 2 ^ (31 - r) * val (l.drop (j + 1)), ?_⟩
    rw [Int.mul_sub, ← Int.mul_assoc, ← h3]; omega
  · have h1 := val_take_set_lt (l := l) (p := j) (n := l.length) (v := ix l j + 2 ^ r) hjl hjl
    rw [List.take_of_length_le (by simp), List.take_of_length_le (Nat.le_refl _)] at h1
    rw [h1, show i.toNat = 32 * j + r by omega, Int.pow_add, ← hB]
    grind

theorem bitlen_lt {x y : Int} (hx : 0 ≤ x) (h : bitlen x < bitlen y) : x < y := by
  have hy : 0 < y := by
    rcases Int.lt_or_le 0 y with h1 | h1
    · exact h1
    · have h2 : bitlen y = 0 := by unfold bitlen; rw [if_pos h1]
      have := bitlen_nonneg x
      omega
  obtain ⟨b1, b2, b3⟩ := bitlen_bounds hy
  rcases Int.lt_or_eq_of_le hx with h1 | h1
  · obtain ⟨c1, c2, c3⟩ := bitlen_bounds h1
    have := pow2_le (show (bitlen x).toNat ≤ (bitlen y - 1).toNat by omega)
    omega
  · omega
theorem div_init {x y : Int} (hx : 0 ≤ x) (hy : 0 < y) {n : Nat} (hn : (n : Int) = bitlen x - bitlen y) {k : Nat} (hk : bitlen x ≤ 32 * k) : x < y * 2 ^ (n + 1) ∧ y * 2 ^ n < 4294967296 ^ (k + 1) := by
  obtain ⟨b1, b2, b3⟩ := bitlen_bounds hy
  have hb := bitlen_nonneg x
  have hp := pow2_pos (n + 1)
  have hx2 : x < 2 ^ (bitlen x).toNat := by
    rcases Int.lt_or_eq_of_le hx with h1 | h1
    · exact (bitlen_bounds h1).2.2
    · rw [← h1]; exact pow2_pos _
  constructor
  · have h1 : (2 : Int) ^ (bitlen y - 1).toNat * 2 ^ (n + 1) ≤ y * 2 ^ (n + 1) := Int.mul_le_mul_of_nonneg_right b2 (by omega)
    rw [← Int.pow_add, show (bitlen y - 1).toNat + (n + 1) = (bitlen x).toNat by omega] at h1
    omega
  · have h1 : y * 2 ^ n < 2 ^ (bitlen y).toNat * 2 ^ n := Int.mul_lt_mul_of_pos_right b3 (pow2_pos n)
    rw [← Int.pow_add, show (bitlen y).toNat + n = (bitlen x).toNat by omega] at h1
    have h2 := pow2_le (show (bitlen x).toNat ≤ 32 * k by omega)
    rw [Int.pow_mul] at h2
    have h3 := pow_mono (Nat.le_succ k)
    simp only [Nat.succ_eq_add_one] at h3
    have : (2 : Int) ^ 32 = 4294967296 := rfl
    rw [this] at h2
    omega

theorem r1div [h : NA a x k] [g : NA b y m] (hk : k + m ≤ 70368744177000 := by first | omega | (simp only [List.length_cons, List.length_nil, List.length_set, List.length_replicate, List.length_append, List.length_take, List.length_drop]; omega)) : Evals Tryd.prog 33 [.ints .u32 a, .ints .u32 b] (.tup [.ints .u32 (limbs (x / y)), .ints .u32 (if y = 0 then [] else limbs (x % y)), .bool (decide (y ≠ 0))]) := by
  refine evals_of_awp Tryd.func33 rfl (CallOK.of Tryd.func33 (by kernel_rfl) rfl) (Nat.le_of_ble_eq_true rfl) ?_
  rintro w R hR ⟨vs, hv⟩
  obtain ⟨hla, ha⟩ := hv.nat 0 rfl
  obtain ⟨hlb, hb⟩ := hv.nat 1 rfl
  have e1 := h.v
  have e2 := g.v
  have l1 := h.hl
  have l2 := g.hl
  have hx := val_nonneg ha
  have hy := val_nonneg hb
  rw [e1] at hx
  rw [e2] at hy
  have s1 : SzN x a.length := ⟨hx, by have := val_lt ha; omega⟩
  have s2 : SzN y b.length := ⟨hy, by have := val_lt hb; omega⟩
  have g1 : (limbs x).length ≤ a.length := limbs_length_le s1.lt
  have g2 : (limbs y).length ≤ b.length := limbs_length_le s2.lt
  have f0 := limbs_nil hy
  have f1 := fun h => limbs_one hy h
  have q0 := (Lim.limbs y).ix 0
  have bx : bitlen x ≤ 32 * a.length := by
    have := bitlen_le (x := x) (k := 32 * a.length) (by have := s1.lt; rwa [Int.pow_mul])
    omega
  have byb : bitlen y ≤ 32 * b.length := by
    have := bitlen_le (x := y) (k := 32 * b.length) (by have := s2.lt; rwa [Int.pow_mul])
    omega
  have bx0 := bitlen_nonneg x
  have by0 := bitlen_nonneg y
  have f2 : y ≠ 0 → Int.emod x y < y ∧ 0 ≤ Int.emod x y := fun hn => ⟨Int.emod_lt_of_pos _ (by omega), Int.emod_nonneg _ hn⟩
  have q0' : ¬ (((limbs y).length : Int) = 0) → ((limbs y).length : Int) = 1 → 0 < ix (limbs y) 0 := fun h1 h2 => by
    rw [f1 (by omega)]; omega
  repeat' (first
    | (apply RunL.step; exact rfl; apply op_ev (τ := τ); exact rfl; (first | exact r1norm | exact r1of _ | exact r1limb _ _ | exact r1cmp | exact r1sub | exact r1bits | exact r1half | exact r1short | exact r1shift); exact rfl) | (apply RunL.step; exact rfl; exact opA) | (apply RunL.hand; exact rfl; exact rfl; exact lenA; exact rfl) | (apply AWP.seq) | (apply AWP.region; exact rfl) | (apply AWP.block) | (apply AWP.skip) | (apply AWP.exit) | (apply AWP.retF; exact rfl; exact rfl; exact rfl; exact rfl; exact lenA; exact rfl) | (apply AWP.ret) | (apply RunL.nil) | (apply RunL.on; exact rfl; exact rfl; exact rfl; exact rfl; (first | exact rfl | assumption)) | (apply RunL.noU; exact rfl; exact rfl; exact rfl; exact rfl; exact rfl; exact rfl) | (apply RunL.no; exact rfl; exact rfl; exact rfl; exact rfl; (first | exact rfl | assumption); exact rfl; exact rfl) | (refine AWP.cond _ (Rd.of rfl) (fun hc => ?_) (fun hc => ?_) <;> first | (exfalso; cases hc; done) | (have hc' := hc; (try simp only [sc, reduceCtorEq, cmpOf] at hc'); try (exfalso; omega)))
    | (
     apply AWP.drawA
     repeat' (first
       | (apply DL.cons; (try (apply OpLoc.on; exact rfl; exact rfl; exact rfl; exact rfl; (first | exact rfl | assumption))); apply ol_ev (τ := τ); exact rfl; (first | exact r1norm | exact r1of _ | exact r1limb _ _ | exact r1cmp | exact r1sub | exact r1bits | exact r1half | exact r1short | exact r1shift); exact rfl; exact rfl) | (apply DL.cons; exact olA; exact rfl) | (apply DL.nil; kernel_rfl) | (refine DL.split rfl rfl rfl rfl (fun hb => ?_) (fun hb => ?_) <;> have hb' := hb <;> (try simp only [sc, reduceCtorEq, cmpOf] at hb') <;> try (exfalso; omega)))
     all_goals (fail_if_success apply DL.id))
    | (refine RunL.split rfl rfl rfl rfl (fun hb => ?_) (fun hb => ?_) <;> have hb' := hb <;> (try simp only [sc, reduceCtorEq, cmpOf] at hb') <;> try (exfalso; omega)) )
  · apply Ends.mk (.cons (.tmp rfl) (.cons (.tmp rfl) (.cons (.tmp rfl) .nil)))
    have : y = 0 := by omega
    simp [pack, this, limbs_zero]
  · apply Ends.mk (.cons (.tmp rfl) (.cons (.tmp rfl) (.cons (.tmp rfl) .nil)))
    have h1 := f1 (by omega)
    have h2 : y ≠ 0 := by omega
    rw [h1]
    simp [pack, h2]
  · apply Ends.mk (.cons (.tmp rfl) (.cons (.tmp rfl) (.cons (.tmp rfl) .nil)))
    have h2 : y ≠ 0 := by omega
    have h3 := bitlen_lt (x := x) (y := y) hx (by omega)
    have e1 := Int.ediv_eq_zero_of_lt hx h3
    have e2 := Int.emod_eq_of_lt hx h3
    simp [pack, h2, e1, e2, limbs_zero]
  have y0 : 0 < y := by omega
  obtain ⟨n, hn⟩ : ∃ n : Nat, (n : Int) = bitlen x - bitlen y := ⟨(bitlen x - bitlen y).toNat, by omega⟩
  obtain ⟨b1, b2, b3⟩ := bitlen_bounds y0
  have yn : x < y * 2 ^ (n + 1) ∧ y * 2 ^ n < 4294967296 ^ (a.length + 1) := div_init hx y0 hn bx
  rw [← hn]
  have en : ((n : Int)).toNat = n := rfl
  refine AWP.loop4 (fun i A D l => ⟨[(0, .val (.ints .u32 (limbs A))), (10, .sb 46 0 ((n : Int) / 32 + 1).toNat ((n : Int) / 32 + 1).toNat), (11, .val (.ints .u32 (limbs D))), (12, .val (.int .i64 i))], [(46, .row 34 .u32 l)]⟩)
    (fun i A D l => -1 ≤ i ∧ i ≤ n ∧ 0 ≤ A ∧ A ≤ x ∧ 0 ≤ D ∧ D < 4294967296 ^ (a.length + 1) ∧ (0 ≤ i → D = y * 2 ^ i.toNat) ∧ val l * y + A = x ∧ A < y * 2 ^ (i + 1).toNat ∧ (2 : Int) ^ (i + 1).toNat ∣ val l ∧ l.length = ((n : Int) / 32 + 1).toNat ∧ Lim l)
    (fun i _ _ _ => (i + 1).toNat) n x (y * 2 ^ ((n : Int)).toNat) (List.replicate ((n : Int) / 32 + 1).toNat 0)
    ⟨by omega, by omega, hx, by omega, Int.mul_nonneg hy (Int.le_of_lt (pow2_pos _)), by rw [en]; exact yn.2, fun _ => rfl, by rw [val_rep]; omega, by rw [show ((n : Int) + 1).toNat = n + 1 by omega]; exact yn.1, by rw [val_rep]; exact ⟨0, by omega⟩, by simp, Lim.rep _⟩ (St.Le.of (by repeat' (first | exact all_nil | refine all_cons rfl ?_)) (by repeat' (first | exact all_nil | refine all_cons rfl ?_))) ?_
  rintro i A D l ⟨k1, k2, k3, k4, k5, k6, k7, k8, k9, k10, k11, k12⟩
  have s3 : SzN A a.length := ⟨k3, Int.lt_of_le_of_lt k4 s1.lt⟩
  have s4 : SzN D (a.length + 1) := ⟨k5, k6⟩
  have cc := cmpI_cases A D
  have hl0 := val_nonneg k12
  have hhalf : 0 ≤ D / 2 ∧ D / 2 < 4294967296 ^ (a.length + 1) := by omega
  have hD2 : 0 ≤ i → (0 ≤ i - 1 → D / 2 = y * 2 ^ (i - 1).toNat) := fun h1 h2 => by
    rw [k7 h1, show i.toNat = (i - 1).toNat + 1 by omega, Int.pow_succ, ← Int.mul_assoc, Int.mul_ediv_cancel _ (by omega)]
  have hbit : 0 ≤ i → _ := fun h1 => bit_step k12 h1 (j := (i / 32).toNat) (by omega) (by omega) (by rwa [show (i + 1).toNat = i.toNat + 1 by omega] at k10)
  have hp : 0 ≤ i → y * 2 ^ (i + 1).toNat = D + D ∧ y * 2 ^ i.toNat = D := fun h1 => by
    rw [k7 h1, show (i + 1).toNat = i.toNat + 1 by omega, Int.pow_succ]; exact ⟨by grind, rfl⟩
  repeat' (first
    | (apply RunL.step; exact rfl; apply op_ev (τ := τ); exact rfl; (first | exact r1norm | exact r1of _ | exact r1limb _ _ | exact r1cmp | exact r1sub | exact r1bits | exact r1half | exact r1short | exact r1shift); exact rfl) | (apply RunL.step; exact rfl; exact opA) | (apply RunL.hand; exact rfl; exact rfl; exact lenA; exact rfl) | (apply AWP.seq) | (apply AWP.region; exact rfl) | (apply AWP.block) | (apply AWP.skip) | (apply AWP.exit) | (apply AWP.retF; exact rfl; exact rfl; exact rfl; exact rfl; exact lenA; exact rfl) | (apply AWP.ret) | (apply RunL.nil) | (apply RunL.on; exact rfl; exact rfl; exact rfl; exact rfl; (first | exact rfl | assumption)) | (apply RunL.noU; exact rfl; exact rfl; exact rfl; exact rfl; exact rfl; exact rfl) | (apply RunL.no; exact rfl; exact rfl; exact rfl; exact rfl; (first | exact rfl | assumption); exact rfl; exact rfl) | (refine AWP.cond _ (Rd.of rfl) (fun hc => ?_) (fun hc => ?_) <;> first | (exfalso; cases hc; done) | (have hc' := hc; (try simp only [sc, reduceCtorEq, cmpOf] at hc'); try (exfalso; omega)))
    | (
     apply AWP.drawA
     repeat' (first
       | (apply DL.cons; (try (apply OpLoc.on; exact rfl; exact rfl; exact rfl; exact rfl; (first | exact rfl | assumption))); apply ol_ev (τ := τ); exact rfl; (first | exact r1norm | exact r1of _ | exact r1limb _ _ | exact r1cmp | exact r1sub | exact r1bits | exact r1half | exact r1short | exact r1shift); exact rfl; exact rfl) | (apply DL.cons; exact olA; exact rfl) | (apply DL.nil; kernel_rfl) | (refine DL.split rfl rfl rfl rfl (fun hb => ?_) (fun hb => ?_) <;> have hb' := hb <;> (try simp only [sc, reduceCtorEq, cmpOf] at hb') <;> try (exfalso; omega)))
     all_goals (fail_if_success apply DL.id))
    | (refine RunL.split rfl rfl rfl rfl (fun hb => ?_) (fun hb => ?_) <;> have hb' := hb <;> (try simp only [sc, reduceCtorEq, cmpOf] at hb') <;> try (exfalso; omega)) )
  · have h1 := hbit (by omega)
    have h2 := hp (by omega)
    have ej : ((0 + (i / 32).toNat : Nat) : Int) = ((i / 32).toNat : Nat) := by omega
    have e0 : 0 + (i / 32).toNat = (i / 32).toNat := by omega
    have h3 := or_bit (L := ix l ((i / 32).toNat : Nat)) (k := (i % 32).toNat) (by omega) (k12.ix _) h1.1
    refine ⟨_, _, _, _, St.Le.of (by repeat' (first | exact all_nil | refine all_cons rfl ?_)) (by repeat' (first | exact all_nil | refine all_cons rfl ?_)), ⟨by omega, by omega, by omega, by omega, hhalf.1, hhalf.2, hD2 (by omega), ?_, ?_, ?_, by simp [k11], ?_⟩, by omega⟩
    · rw [ej, e0, h3.1, h1.2, Int.add_mul, Int.mul_comm (2 ^ i.toNat), h2.2]; omega
    · rw [show (i - 1 + 1).toNat = i.toNat by omega, h2.2]; omega
    · rw [ej, e0, h3.1, h1.2, show (i - 1 + 1).toNat = i.toNat by omega]
      rw [show (i + 1).toNat = i.toNat + 1 by omega, Int.pow_succ] at k10
      obtain ⟨c, hc⟩ := k10
      exact ⟨2 * c + 1, by rw [hc]; grind⟩
    · rw [ej, e0]
      refine k12.set ?_
      rw [h3.1]
      have := k12.ix ((i / 32).toNat : Nat)
      have := pow2_pos (i % 32).toNat
      omega
  · have h2 := hp (by omega)
    refine ⟨_, _, _, _, St.Le.of (by repeat' (first | exact all_nil | refine all_cons rfl ?_)) (by repeat' (first | exact all_nil | refine all_cons rfl ?_)), ⟨by omega, by omega, k3, k4, hhalf.1, hhalf.2, hD2 (by omega), k8, ?_, ?_, k11, k12⟩, by omega⟩
    · rw [show (i - 1 + 1).toNat = i.toNat by omega, h2.2]; omega
    · rw [show (i - 1 + 1).toNat = i.toNat by omega]
      rw [show (i + 1).toNat = i.toNat + 1 by omega, Int.pow_succ] at k10
      exact Int.dvd_trans (Int.dvd_mul_right _ _) k10
  · apply Ends.mk (.cons (.tmp rfl) (.cons (.tmp rfl) (.cons (.tmp rfl) .nil)))
    rw [show (i + 1).toNat = 0 by omega] at k9
    obtain ⟨d1, d2⟩ := divmod_of (a := x) (d := y) (q := val l) (r := A) (by rw [Int.mul_comm]; omega) k3 (by omega)
    have h2 : y ≠ 0 := by omega
    simp only [pack, List.drop_zero]
    rw [List.take_of_length_le (by omega), d1, d2, if_neg h2, decide_eq_true h2]
theorem r1divp [h : NA a x k] [g : NA b y m] (hy : 0 < y := by first | assumption | omega) (hk : k + m ≤ 70368744177000 := by first | omega | (simp only [List.length_cons, List.length_nil, List.length_set, List.length_replicate, List.length_append, List.length_take, List.length_drop]; omega)) : Evals Tryd.prog 33 [.ints .u32 a, .ints .u32 b] (.tup [.ints .u32 (limbs (x / y)), .ints .u32 (limbs (x % y)), .bool true]) := by
  have := r1div (h := h) (g := g) hk
  rwa [if_neg (by omega), decide_eq_true (show y ≠ 0 by omega)] at this

end
end Go.Proofs.YtffcpgebgoineaaDoor.K
