/- Walks: the reference of layer 1 (examboardref01): Norm, Of, limb, Cmp, Add, Sub, Mul. -/
import Derived.Test.YtffcpgebgoineaaDoorSz
namespace Go.Proofs.YtffcpgebgoineaaDoor.K
open Go
set_option linter.unusedVariables false
set_option linter.unusedSimpArgs false

theorem trim_full {l : List Int} {n : Nat} (h : n ≤ l.length) (ht : trim (l.take n) = trim l) (hx : n = 0 ∨ ix l ((n : Int) - 1) ≠ 0) : l.take n = trim l := by
  rcases hx with h0 | h1
  · subst h0; rw [← ht]; rfl
  · by_cases h0 : n = 0
    · subst h0; rw [← ht]; rfl
    · rw [← ht]
      have e : ((l.take n).length : Int) = n := by simp; omega
      have hl : 0 < (l.take n).length := by omega
      have := trim_step hl
      rw [e] at this
      have e2 : ix (l.take n) ((n : Int) - 1) = ix l ((n : Int) - 1) := by
        unfold ix
        rw [List.getD_eq_getElem?_getD, List.getD_eq_getElem?_getD, List.getElem?_take, if_pos (by omega)]
      rw [e2, if_neg h1] at this
      exact this.symm
theorem trim_pop {l : List Int} {n : Nat} (h : n ≤ l.length) (h0 : 0 < n) (hx : ix l ((n : Int) - 1) = 0) : trim (l.take (n - 1)) = trim (l.take n) := by
  have e : ((l.take n).length : Int) = n := by simp; omega
  have hl : 0 < (l.take n).length := by omega
  have := trim_step hl
  rw [e] at this
  have e2 : ix (l.take n) ((n : Int) - 1) = ix l ((n : Int) - 1) := by
    unfold ix
    rw [List.getD_eq_getElem?_getD, List.getD_eq_getElem?_getD, List.getElem?_take, if_pos (by omega)]
  rw [e2, if_pos hx] at this
  rw [this, List.take_take]
  congr 2
  simp; omega

theorem copy_row {a : List Int} {n : Nat} (h : n ≤ a.length) : ((List.take 0 (List.replicate n (0 : Int)) ++ a.take (min a.length n) ++ (List.replicate n 0).drop (0 + min a.length n))).take n = a.take n := by
  rw [Nat.min_eq_right h]
  simp [List.take_take]

section
variable {a b : List Int} {x y : Int} {k m : Nat}
theorem r1norm [h : NA a x k] (hk : k ≤ 70368744177663 := by first | omega | (simp only [List.length_cons, List.length_nil, List.length_set, List.length_replicate, List.length_append, List.length_take, List.length_drop]; omega)) : Evals Tryd.prog 34 [.ints .u32 a] (.ints .u32 (limbs x)) := by
  refine evals_of_awp Tryd.func34 rfl (CallOK.of Tryd.func34 (by kernel_rfl) rfl) (Nat.le_of_ble_eq_true rfl) ?_
  rintro w R hR ⟨vs, hv⟩
  obtain ⟨hla, ha⟩ := hv.nat 0 rfl
  have h1 := h.hl
  have h2 := h.v
  clear h
  rw [← h2, ← trim_eq ha]
  repeat' (first
    | (apply RunL.step; exact rfl; exact opA) | (apply RunL.hand; exact rfl; exact rfl; exact lenA; exact rfl) | (apply AWP.seq) | (apply AWP.region; exact rfl) | (apply AWP.block) | (apply AWP.skip) | (apply AWP.exit) | (apply AWP.retF; exact rfl; exact rfl; exact rfl; exact rfl; exact lenA; exact rfl) | (apply AWP.ret) | (apply RunL.nil) | (apply RunL.on; exact rfl; exact rfl; exact rfl; exact rfl; (first | exact rfl | assumption)) | (apply RunL.noU; exact rfl; exact rfl; exact rfl; exact rfl; exact rfl; exact rfl) | (apply RunL.no; exact rfl; exact rfl; exact rfl; exact rfl; (first | exact rfl | assumption); exact rfl; exact rfl) | (refine AWP.cond _ (Rd.of rfl) (fun hc => ?_) (fun hc => ?_) <;> first | (exfalso; cases hc; done) | (have hc' := hc; (try simp only [sc, reduceCtorEq, cmpOf] at hc'); try (exfalso; omega)))
    | (
     apply AWP.drawA
     repeat' (first
       | (apply DL.cons; (try (apply OpLoc.on; exact rfl; exact rfl; exact rfl; exact rfl; (first | exact rfl | assumption))); apply ol_ev (τ := τ); exact rfl; (fail); exact rfl; exact rfl) | (apply DL.cons; exact olA; exact rfl) | (apply DL.nil; kernel_rfl) | (refine DL.split rfl rfl rfl rfl (fun hb => ?_) (fun hb => ?_) <;> have hb' := hb <;> (try simp only [sc, reduceCtorEq, cmpOf] at hb') <;> try (exfalso; omega)))
     all_goals (fail_if_success apply DL.id))
    | (refine RunL.split rfl rfl rfl rfl (fun hb => ?_) (fun hb => ?_) <;> have hb' := hb <;> (try simp only [sc, reduceCtorEq, cmpOf] at hb') <;> try (exfalso; omega)) )
  refine AWP.loop (ι := Int) (fun n => ⟨[(0, .val (.ints .u32 a)), (3, .val (.int .i64 n))], []⟩) (fun n => 0 ≤ n ∧ n ≤ a.length ∧ trim (a.take n.toNat) = trim a) (fun n => n.toNat) (a.length : Int) ⟨by omega, by omega, ?_⟩ (St.Le.of (by repeat' (first | exact all_nil | refine all_cons rfl ?_)) (by repeat' (first | exact all_nil | refine all_cons rfl ?_))) ?_
  · rw [List.take_of_length_le (by omega)]
  rintro n ⟨k1, k2, k3⟩
  have fin : n ≤ 0 ∨ ix a (n - 1) ≠ 0 → a.take n.toNat = trim a := fun hx => by
    refine trim_full (by omega) k3 ?_
    rw [show ((n.toNat : Nat) : Int) = n by omega]
    rcases hx with hx | hx
    · exact .inl (by omega)
    · exact .inr hx
  repeat' (first
    | (apply RunL.step; exact rfl; exact opA) | (apply RunL.hand; exact rfl; exact rfl; exact lenA; exact rfl) | (apply AWP.seq) | (apply AWP.region; exact rfl) | (apply AWP.block) | (apply AWP.skip) | (apply AWP.exit) | (apply AWP.retF; exact rfl; exact rfl; exact rfl; exact rfl; exact lenA; exact rfl) | (apply AWP.ret) | (apply RunL.nil) | (apply RunL.on; exact rfl; exact rfl; exact rfl; exact rfl; (first | exact rfl | assumption)) | (apply RunL.noU; exact rfl; exact rfl; exact rfl; exact rfl; exact rfl; exact rfl) | (apply RunL.no; exact rfl; exact rfl; exact rfl; exact rfl; (first | exact rfl | assumption); exact rfl; exact rfl) | (refine AWP.cond _ (Rd.of rfl) (fun hc => ?_) (fun hc => ?_) <;> first | (exfalso; cases hc; done) | (have hc' := hc; (try simp only [sc, reduceCtorEq, cmpOf] at hc'); try (exfalso; omega)))
    | (
     apply AWP.drawA
     repeat' (first
       | (apply DL.cons; (try (apply OpLoc.on; exact rfl; exact rfl; exact rfl; exact rfl; (first | exact rfl | assumption))); apply ol_ev (τ := τ); exact rfl; (fail); exact rfl; exact rfl) | (apply DL.cons; exact olA; exact rfl) | (apply DL.nil; kernel_rfl) | (refine DL.split rfl rfl rfl rfl (fun hb => ?_) (fun hb => ?_) <;> have hb' := hb <;> (try simp only [sc, reduceCtorEq, cmpOf] at hb') <;> try (exfalso; omega)))
     all_goals (fail_if_success apply DL.id))
    | (refine RunL.split rfl rfl rfl rfl (fun hb => ?_) (fun hb => ?_) <;> have hb' := hb <;> (try simp only [sc, reduceCtorEq, cmpOf] at hb') <;> try (exfalso; omega)) )
  · refine ⟨_, St.Le.of (by repeat' (first | exact all_nil | refine all_cons rfl ?_)) (by repeat' (first | exact all_nil | refine all_cons rfl ?_)), ⟨by omega, by omega, ?_⟩, by omega⟩
    rw [← k3, show (n - 1).toNat = n.toNat - 1 by omega]
    exact trim_pop (by omega) (by omega) (by rwa [show ((n.toNat : Nat) : Int) = n by omega])
  · apply Ends.mk (.cons (.tmp rfl) .nil)
    have := fin (.inr hc')
    simp only [pack, List.drop_zero]
    rw [copy_row (by omega), this]
  · apply Ends.mk (.cons (.tmp rfl) .nil)
    have := fin (.inl (by omega))
    simp only [pack, List.drop_zero]
    rw [copy_row (by omega), this]

theorem r1of (n : Int) : Evals Tryd.prog 46 [.int .u64 n] (.ints .u32 (limbs n)) := by
  refine evals_of_awp Tryd.func46 rfl (CallOK.of Tryd.func46 (by kernel_rfl) rfl) (Nat.le_of_ble_eq_true rfl) ?_
  rintro w R hR ⟨vs, hv⟩
  have hn := hv.int 0 rfl
  simp [InR, IntKind.min, IntKind.max, IntKind.bits, IntKind.signed] at hn
  repeat' (first
    | (apply RunL.step; exact rfl; apply op_ev (τ := τ); exact rfl; (first | exact r1norm | exact r1limb _ _ | exact r1cmp); exact rfl) | (apply RunL.step; exact rfl; exact opA) | (apply RunL.hand; exact rfl; exact rfl; exact lenA; exact rfl) | (apply AWP.seq) | (apply AWP.region; exact rfl) | (apply AWP.block) | (apply AWP.skip) | (apply AWP.exit) | (apply AWP.retF; exact rfl; exact rfl; exact rfl; exact rfl; exact lenA; exact rfl) | (apply AWP.ret) | (apply RunL.nil) | (apply RunL.on; exact rfl; exact rfl; exact rfl; exact rfl; (first | exact rfl | assumption)) | (apply RunL.noU; exact rfl; exact rfl; exact rfl; exact rfl; exact rfl; exact rfl) | (apply RunL.no; exact rfl; exact rfl; exact rfl; exact rfl; (first | exact rfl | assumption); exact rfl; exact rfl) | (refine AWP.cond _ (Rd.of rfl) (fun hc => ?_) (fun hc => ?_) <;> first | (exfalso; cases hc; done) | (have hc' := hc; (try simp only [sc, reduceCtorEq, cmpOf] at hc'); try (exfalso; omega)))
    | (
     apply AWP.drawA
     repeat' (first
       | (apply DL.cons; (try (apply OpLoc.on; exact rfl; exact rfl; exact rfl; exact rfl; (first | exact rfl | assumption))); apply ol_ev (τ := τ); exact rfl; (first | exact r1norm | exact r1limb _ _ | exact r1cmp); exact rfl; exact rfl) | (apply DL.cons; exact olA; exact rfl) | (apply DL.nil; kernel_rfl) | (refine DL.split rfl rfl rfl rfl (fun hb => ?_) (fun hb => ?_) <;> have hb' := hb <;> (try simp only [sc, reduceCtorEq, cmpOf] at hb') <;> try (exfalso; omega)))
     all_goals (fail_if_success apply DL.id))
    | (refine RunL.split rfl rfl rfl rfl (fun hb => ?_) (fun hb => ?_) <;> have hb' := hb <;> (try simp only [sc, reduceCtorEq, cmpOf] at hb') <;> try (exfalso; omega)) )
  apply Ends.mk (.cons (.tmp rfl) .nil)
  simp only [pack, val]
  congr 2
  omega
theorem r1limb (a : List Int) (i : Int) (h : 0 ≤ i := by first | assumption | omega) : Evals Tryd.prog 41 [.ints .u32 a, .int .i64 i] (.int .u64 (ix a i)) := by
  refine evals_of_awp Tryd.func41 rfl (CallOK.of Tryd.func41 (by kernel_rfl) rfl) (Nat.le_of_ble_eq_true rfl) ?_
  rintro w R hR ⟨vs, hv⟩
  obtain ⟨hla, ha⟩ := hv.nat 0 rfl
  have q := ha.ix i
  repeat' (first
    | (apply RunL.step; exact rfl; apply op_ev (τ := τ); exact rfl; (first | exact r1norm | exact r1limb _ _ | exact r1cmp); exact rfl) | (apply RunL.step; exact rfl; exact opA) | (apply RunL.hand; exact rfl; exact rfl; exact lenA; exact rfl) | (apply AWP.seq) | (apply AWP.region; exact rfl) | (apply AWP.block) | (apply AWP.skip) | (apply AWP.exit) | (apply AWP.retF; exact rfl; exact rfl; exact rfl; exact rfl; exact lenA; exact rfl) | (apply AWP.ret) | (apply RunL.nil) | (apply RunL.on; exact rfl; exact rfl; exact rfl; exact rfl; (first | exact rfl | assumption)) | (apply RunL.noU; exact rfl; exact rfl; exact rfl; exact rfl; exact rfl; exact rfl) | (apply RunL.no; exact rfl; exact rfl; exact rfl; exact rfl; (first | exact rfl | assumption); exact rfl; exact rfl) | (refine AWP.cond _ (Rd.of rfl) (fun hc => ?_) (fun hc => ?_) <;> first | (exfalso; cases hc; done) | (have hc' := hc; (try simp only [sc, reduceCtorEq, cmpOf] at hc'); try (exfalso; omega)))
    | (
     apply AWP.drawA
     repeat' (first
       | (apply DL.cons; (try (apply OpLoc.on; exact rfl; exact rfl; exact rfl; exact rfl; (first | exact rfl | assumption))); apply ol_ev (τ := τ); exact rfl; (first | exact r1norm | exact r1limb _ _ | exact r1cmp); exact rfl; exact rfl) | (apply DL.cons; exact olA; exact rfl) | (apply DL.nil; kernel_rfl) | (refine DL.split rfl rfl rfl rfl (fun hb => ?_) (fun hb => ?_) <;> have hb' := hb <;> (try simp only [sc, reduceCtorEq, cmpOf] at hb') <;> try (exfalso; omega)))
     all_goals (fail_if_success apply DL.id))
    | (refine RunL.split rfl rfl rfl rfl (fun hb => ?_) (fun hb => ?_) <;> have hb' := hb <;> (try simp only [sc, reduceCtorEq, cmpOf] at hb') <;> try (exfalso; omega)) )
  · apply Ends.mk (.cons (.tmp rfl) .nil)
    rfl
  · apply Ends.mk (.cons (.tmp rfl) .nil)
    rw [ix_beyond (by omega)]; rfl

theorem val_split' {l : List Int} (hl : Lim l) (n : Nat) : ∃ t, val l = t + 4294967296 ^ n * val (l.drop n) ∧ 0 ≤ t ∧ t < 4294967296 ^ n := by
  refine ⟨val (l.take n), ?_, val_nonneg (hl.take n), ?_⟩
  · by_cases h : n ≤ l.length
    · exact val_split l n h
    · rw [List.take_of_length_le (by omega), List.drop_eq_nil_of_le (by omega)]; simp [val]
  · have := val_lt (hl.take n)
    have h2 := pow_mono (show (l.take n).length ≤ n by simp; omega)
    omega
theorem drop_lt {a b : List Int} (ha : Lim a) (hb : Lim b) (n : Nat) (h : val (a.drop n) < val (b.drop n)) : val a < val b := by
  obtain ⟨t, h1, h2, h3⟩ := val_split' ha n
  obtain ⟨u, g1, g2, g3⟩ := val_split' hb n
  have hp := pow_pos' n
  have := Int.mul_le_mul_of_nonneg_left (show val (a.drop n) + 1 ≤ val (b.drop n) by omega) (Int.le_of_lt hp)
  rw [Int.mul_add, Int.mul_one] at this
  omega
theorem val_drop' (l : List Int) (n : Nat) : val (l.drop n) = ix l n + 4294967296 * val (l.drop (n + 1)) := by
  by_cases h : n < l.length
  · exact val_drop l n h
  · rw [List.drop_eq_nil_of_le (by omega), List.drop_eq_nil_of_le (by omega), ix_beyond (by omega)]; simp [val]

theorem r1cmp [h : NA a x k] [g : NA b y m] : Evals Tryd.prog 19 [.ints .u32 a, .ints .u32 b] (.int .i64 (cmpI x y)) := by
  refine evals_of_awp Tryd.func19 rfl (CallOK.of Tryd.func19 (by kernel_rfl) rfl) (Nat.le_of_ble_eq_true rfl) ?_
  rintro w R hR ⟨vs, hv⟩
  obtain ⟨hla, ha⟩ := hv.nat 0 rfl
  obtain ⟨hlb, hb⟩ := hv.nat 1 rfl
  have e1 := h.v
  have e2 := g.v
  clear h g
  repeat' (first
    | (apply RunL.step; exact rfl; apply op_ev (τ := τ); exact rfl; (first | exact r1norm | exact r1limb _ _ | exact r1cmp); exact rfl) | (apply RunL.step; exact rfl; exact opA) | (apply RunL.hand; exact rfl; exact rfl; exact lenA; exact rfl) | (apply AWP.seq) | (apply AWP.region; exact rfl) | (apply AWP.block) | (apply AWP.skip) | (apply AWP.exit) | (apply AWP.retF; exact rfl; exact rfl; exact rfl; exact rfl; exact lenA; exact rfl) | (apply AWP.ret) | (apply RunL.nil) | (apply RunL.on; exact rfl; exact rfl; exact rfl; exact rfl; (first | exact rfl | assumption)) | (apply RunL.noU; exact rfl; exact rfl; exact rfl; exact rfl; exact rfl; exact rfl) | (apply RunL.no; exact rfl; exact rfl; exact rfl; exact rfl; (first | exact rfl | assumption); exact rfl; exact rfl) | (refine AWP.cond _ (Rd.of rfl) (fun hc => ?_) (fun hc => ?_) <;> first | (exfalso; cases hc; done) | (have hc' := hc; (try simp only [sc, reduceCtorEq, cmpOf] at hc'); try (exfalso; omega)))
    | (
     apply AWP.drawA
     repeat' (first
       | (apply DL.cons; (try (apply OpLoc.on; exact rfl; exact rfl; exact rfl; exact rfl; (first | exact rfl | assumption))); apply ol_ev (τ := τ); exact rfl; (first | exact r1norm | exact r1limb _ _ | exact r1cmp); exact rfl; exact rfl) | (apply DL.cons; exact olA; exact rfl) | (apply DL.nil; kernel_rfl) | (refine DL.split rfl rfl rfl rfl (fun hb => ?_) (fun hb => ?_) <;> have hb' := hb <;> (try simp only [sc, reduceCtorEq, cmpOf] at hb') <;> try (exfalso; omega)))
     all_goals (fail_if_success apply DL.id))
    | (refine RunL.split rfl rfl rfl rfl (fun hb => ?_) (fun hb => ?_) <;> have hb' := hb <;> (try simp only [sc, reduceCtorEq, cmpOf] at hb') <;> try (exfalso; omega)) )
  refine AWP.loop (ι := Int) (fun i => ⟨[(0, .val (.ints .u32 a)), (1, .val (.ints .u32 b)), (5, .val (.int .i64 i))], []⟩)
    (fun i => -1 ≤ i ∧ i < 9223372036854775807 ∧ val (a.drop (i + 1).toNat) = val (b.drop (i + 1).toNat)) (fun i => (i + 1).toNat) (max (a.length : Int) b.length - 1) ⟨by omega, by omega, ?_⟩ (St.Le.of (by repeat' (first | exact all_nil | refine all_cons rfl ?_)) (by repeat' (first | exact all_nil | refine all_cons rfl ?_))) ?_
  · rw [List.drop_eq_nil_of_le (by omega), List.drop_eq_nil_of_le (by omega)]
  rintro i ⟨k1, k2, k3⟩
  have step : 0 ≤ i → val (a.drop i.toNat) = ix a i + 4294967296 * val (a.drop (i + 1).toNat) ∧ val (b.drop i.toNat) = ix b i + 4294967296 * val (b.drop (i + 1).toNat) := fun h0 => by
    have h1 := val_drop' a i.toNat
    have h2 := val_drop' b i.toNat
    rw [show i.toNat + 1 = (i + 1).toNat by omega, show ((i.toNat : Nat) : Int) = i by omega] at h1 h2
    exact ⟨h1, h2⟩
  repeat' (first
    | (apply RunL.step; exact rfl; apply op_ev (τ := τ); exact rfl; (first | exact r1norm | exact r1limb _ _ | exact r1cmp); exact rfl) | (apply RunL.step; exact rfl; exact opA) | (apply RunL.hand; exact rfl; exact rfl; exact lenA; exact rfl) | (apply AWP.seq) | (apply AWP.region; exact rfl) | (apply AWP.block) | (apply AWP.skip) | (apply AWP.exit) | (apply AWP.retF; exact rfl; exact rfl; exact rfl; exact rfl; exact lenA; exact rfl) | (apply AWP.ret) | (apply RunL.nil) | (apply RunL.on; exact rfl; exact rfl; exact rfl; exact rfl; (first | exact rfl | assumption)) | (apply RunL.noU; exact rfl; exact rfl; exact rfl; exact rfl; exact rfl; exact rfl) | (apply RunL.no; exact rfl; exact rfl; exact rfl; exact rfl; (first | exact rfl | assumption); exact rfl; exact rfl) | (refine AWP.cond _ (Rd.of rfl) (fun hc => ?_) (fun hc => ?_) <;> first | (exfalso; cases hc; done) | (have hc' := hc; (try simp only [sc, reduceCtorEq, cmpOf] at hc'); try (exfalso; omega)))
    | (
     apply AWP.drawA
     repeat' (first
       | (apply DL.cons; (try (apply OpLoc.on; exact rfl; exact rfl; exact rfl; exact rfl; (first | exact rfl | assumption))); apply ol_ev (τ := τ); exact rfl; (first | exact r1norm | exact r1limb _ _ | exact r1cmp); exact rfl; exact rfl) | (apply DL.cons; exact olA; exact rfl) | (apply DL.nil; kernel_rfl) | (refine DL.split rfl rfl rfl rfl (fun hb => ?_) (fun hb => ?_) <;> have hb' := hb <;> (try simp only [sc, reduceCtorEq, cmpOf] at hb') <;> try (exfalso; omega)))
     all_goals (fail_if_success apply DL.id))
    | (refine RunL.split rfl rfl rfl rfl (fun hb => ?_) (fun hb => ?_) <;> have hb' := hb <;> (try simp only [sc, reduceCtorEq, cmpOf] at hb') <;> try (exfalso; omega)) )
  · apply Ends.mk (.cons (.tmp rfl) .nil)
    obtain ⟨s1, s2⟩ := step (by omega)
    have := drop_lt ha hb i.toNat (by omega)
    simp only [pack, cmpI]
    rw [if_pos (by omega)]
  · apply Ends.mk (.cons (.tmp rfl) .nil)
    obtain ⟨s1, s2⟩ := step (by omega)
    have := drop_lt hb ha i.toNat (by omega)
    simp only [pack, cmpI]
    rw [if_neg (by omega), if_pos (by omega)]
  · obtain ⟨s1, s2⟩ := step (by omega)
    refine ⟨_, St.Le.of (by repeat' (first | exact all_nil | refine all_cons rfl ?_)) (by repeat' (first | exact all_nil | refine all_cons rfl ?_)), ⟨by omega, by omega, ?_⟩, by omega⟩
    rw [show (i - 1 + 1).toNat = i.toNat by omega]
    omega
  · apply Ends.mk (.cons (.tmp rfl) .nil)
    rw [show (i + 1).toNat = 0 by omega] at k3
    simp only [List.drop_zero] at k3
    simp only [pack, cmpI]
    rw [if_neg (by omega), if_neg (by omega)]

theorem val_take_of_lt {l : List Int} (hl : Lim l) {n : Nat} (h : val l < 4294967296 ^ n) : val (l.take n) = val l := by
  by_cases hn : n ≤ l.length
  · have h1 := val_split l n hn
    have h2 := val_nonneg (hl.take n)
    have h3 := val_nonneg (hl.drop n)
    have hp := pow_pos' n
    rcases Int.lt_or_eq_of_le h3 with h4 | h4
    · have : (4294967296 : Int) ^ n * 1 ≤ 4294967296 ^ n * val (l.drop n) := Int.mul_le_mul_of_nonneg_left (by omega) (by omega)
      omega
    · rw [← h4] at h1; omega
  · rw [List.take_of_length_le (by omega)]
theorem no_carry {a b l : List Int} {c : Int} {N : Nat} (ha : Lim a) (hb : Lim b) (hl : Lim l) (h0 : 0 ≤ c) (h1 : c ≤ 1) (h : val l + 4294967296 ^ N * c = val a + val b) (hn : a.length + 1 ≤ N) (hm : b.length + 1 ≤ N) : c = 0 := by
  rcases Int.lt_or_eq_of_le h0 with h2 | h2
  · exfalso
    have : c = 1 := by omega
    subst this
    have h3 := val_lt ha
    have h4 := val_lt hb
    have h5 := pow_mono (show a.length ≤ N - 1 by omega)
    have h6 := pow_mono (show b.length ≤ N - 1 by omega)
    have h7 := val_nonneg hl
    have h8 : (4294967296 : Int) ^ N = 4294967296 ^ (N - 1) * 4294967296 := by rw [← Int.pow_succ]; congr 1; omega
    have h9 := pow_pos' (N - 1)
    omega
  · exact h2.symm
theorem sub_step' {A C l : List Int} {i c c' t : Int} (h0 : 0 ≤ i) (hi : i < (l.length : Int)) (heq : val (l.take i.toNat) + val (C.take i.toNat) = val (A.take i.toNat) + 4294967296 ^ i.toNat * c) (ht : t + ix C i + c = ix A i + 4294967296 * c') :
    val ((l.set i.toNat t).take (i + 1).toNat) + val (C.take (i + 1).toNat) = val (A.take (i + 1).toNat) + 4294967296 ^ (i + 1).toNat * c' := by
  have e : (i + 1).toNat = i.toNat + 1 := by omega
  have ei : ((i.toNat : Nat) : Int) = i := by omega
  rw [e, val_take_set (by omega), val_take_succ, val_take_succ, Int.pow_succ, ei]
  generalize 4294967296 ^ i.toNat = p at *
  grind

theorem r1add [h : NA a x k] [g : NA b y m] (hk : k ≤ 70368744177660 ∧ m ≤ 70368744177660 := by first | omega | (simp only [List.length_cons, List.length_nil, List.length_set, List.length_replicate, List.length_append, List.length_take, List.length_drop]; omega)) : Evals Tryd.prog 24 [.ints .u32 a, .ints .u32 b] (.ints .u32 (limbs (x + y))) := by
  refine evals_of_awp Tryd.func24 rfl (CallOK.of Tryd.func24 (by kernel_rfl) rfl) (Nat.le_of_ble_eq_true rfl) ?_
  rintro w R hR ⟨vs, hv⟩
  obtain ⟨hla, ha⟩ := hv.nat 0 rfl
  obtain ⟨hlb, hb⟩ := hv.nat 1 rfl
  have e1 := h.v
  have e2 := g.v
  have l1 := h.hl
  have l2 := g.hl
  clear h g
  obtain ⟨N, hN⟩ : ∃ N : Nat, (N : Int) = max (a.length : Int) b.length + 1 := ⟨(max (a.length : Int) b.length + 1).toNat, by omega⟩
  repeat' (first
    | (apply RunL.step; exact rfl; apply op_ev (τ := τ); exact rfl; (first | exact r1norm | exact r1limb _ _ | exact r1cmp); exact rfl) | (apply RunL.step; exact rfl; exact opA) | (apply RunL.hand; exact rfl; exact rfl; exact lenA; exact rfl) | (apply AWP.seq) | (apply AWP.region; exact rfl) | (apply AWP.block) | (apply AWP.skip) | (apply AWP.exit) | (apply AWP.retF; exact rfl; exact rfl; exact rfl; exact rfl; exact lenA; exact rfl) | (apply AWP.ret) | (apply RunL.nil) | (apply RunL.on; exact rfl; exact rfl; exact rfl; exact rfl; (first | exact rfl | assumption)) | (apply RunL.noU; exact rfl; exact rfl; exact rfl; exact rfl; exact rfl; exact rfl) | (apply RunL.no; exact rfl; exact rfl; exact rfl; exact rfl; (first | exact rfl | assumption); exact rfl; exact rfl) | (refine AWP.cond _ (Rd.of rfl) (fun hc => ?_) (fun hc => ?_) <;> first | (exfalso; cases hc; done) | (have hc' := hc; (try simp only [sc, reduceCtorEq, cmpOf] at hc'); try (exfalso; omega)))
    | (
     apply AWP.drawA
     repeat' (first
       | (apply DL.cons; (try (apply OpLoc.on; exact rfl; exact rfl; exact rfl; exact rfl; (first | exact rfl | assumption))); apply ol_ev (τ := τ); exact rfl; (first | exact r1norm | exact r1limb _ _ | exact r1cmp); exact rfl; exact rfl) | (apply DL.cons; exact olA; exact rfl) | (apply DL.nil; kernel_rfl) | (refine DL.split rfl rfl rfl rfl (fun hb => ?_) (fun hb => ?_) <;> have hb' := hb <;> (try simp only [sc, reduceCtorEq, cmpOf] at hb') <;> try (exfalso; omega)))
     all_goals (fail_if_success apply DL.id))
    | (refine RunL.split rfl rfl rfl rfl (fun hb => ?_) (fun hb => ?_) <;> have hb' := hb <;> (try simp only [sc, reduceCtorEq, cmpOf] at hb') <;> try (exfalso; omega)) )
  refine AWP.loop3 (fun i l c => ⟨[(0, .val (.ints .u32 a)), (1, .val (.ints .u32 b)), (5, .sb 15 0 N N), (6, .val (.int .u64 c)), (7, .val (.int .i64 i))], [(15, .row 34 .u32 l)]⟩)
    (fun i l c => 0 ≤ i ∧ i ≤ N ∧ 0 ≤ c ∧ c ≤ 1 ∧ l.length = N ∧ Lim l ∧ val (l.take i.toNat) + 4294967296 ^ i.toNat * c = val (a.take i.toNat) + val (b.take i.toNat))
    (fun i _ _ => N - i.toNat) 0 (List.replicate N 0) 0 ⟨by simp, by simp, by simp, by simp, by simp, Lim.rep _, by simp [val]⟩ ?_ ?_
  · rw [← hN]; exact St.Le.of (by repeat' (first | exact all_nil | refine all_cons rfl ?_)) (by repeat' (first | exact all_nil | refine all_cons rfl ?_))
  rintro i l c ⟨k1, k2, k3, k4, k5, k6, k7⟩
  have q1 := ha.ix i
  have q2 := hb.ix i
  repeat' (first
    | (apply RunL.step; exact rfl; apply op_ev (τ := τ); exact rfl; (first | exact r1norm | exact r1limb _ _ | exact r1cmp); exact rfl) | (apply RunL.step; exact rfl; exact opA) | (apply RunL.hand; exact rfl; exact rfl; exact lenA; exact rfl) | (apply AWP.seq) | (apply AWP.region; exact rfl) | (apply AWP.block) | (apply AWP.skip) | (apply AWP.exit) | (apply AWP.retF; exact rfl; exact rfl; exact rfl; exact rfl; exact lenA; exact rfl) | (apply AWP.ret) | (apply RunL.nil) | (apply RunL.on; exact rfl; exact rfl; exact rfl; exact rfl; (first | exact rfl | assumption)) | (apply RunL.noU; exact rfl; exact rfl; exact rfl; exact rfl; exact rfl; exact rfl) | (apply RunL.no; exact rfl; exact rfl; exact rfl; exact rfl; (first | exact rfl | assumption); exact rfl; exact rfl) | (refine AWP.cond _ (Rd.of rfl) (fun hc => ?_) (fun hc => ?_) <;> first | (exfalso; cases hc; done) | (have hc' := hc; (try simp only [sc, reduceCtorEq, cmpOf] at hc'); try (exfalso; omega)))
    | (
     apply AWP.drawA
     repeat' (first
       | (apply DL.cons; (try (apply OpLoc.on; exact rfl; exact rfl; exact rfl; exact rfl; (first | exact rfl | assumption))); apply ol_ev (τ := τ); exact rfl; (first | exact r1norm | exact r1limb _ _ | exact r1cmp); exact rfl; exact rfl) | (apply DL.cons; exact olA; exact rfl) | (apply DL.nil; kernel_rfl) | (refine DL.split rfl rfl rfl rfl (fun hb => ?_) (fun hb => ?_) <;> have hb' := hb <;> (try simp only [sc, reduceCtorEq, cmpOf] at hb') <;> try (exfalso; omega)))
     all_goals (fail_if_success apply DL.id))
    | (refine RunL.split rfl rfl rfl rfl (fun hb => ?_) (fun hb => ?_) <;> have hb' := hb <;> (try simp only [sc, reduceCtorEq, cmpOf] at hb') <;> try (exfalso; omega)) )
  · refine ⟨_, _, _, St.Le.of (by repeat' (first | exact all_nil | refine all_cons rfl ?_)) (by repeat' (first | exact all_nil | refine all_cons rfl ?_)), ⟨by omega, by omega, by omega, by omega, by simp [k5], ?_, ?_⟩, by omega⟩
    · exact k6.set (by omega)
    · simp only [Nat.zero_add]
      exact add_step k1 (by omega) k7 (by omega)
  · apply Ends.mk (.cons (.tmp rfl) .nil)
    have ei : i.toNat = N := by omega
    rw [ei, List.take_of_length_le (by omega), List.take_of_length_le (by omega), List.take_of_length_le (by omega)] at k7
    have c0 : c = 0 := no_carry ha hb k6 k3 k4 k7 (show a.length + 1 ≤ N by omega) (by omega)
    simp only [pack, List.drop_zero]
    rw [List.take_of_length_le (by omega), ← e1, ← e2, ← k7, c0, Int.mul_zero, Int.add_zero]

theorem r1sub [h : NA a x k] [g : NA b y m] (hk : k ≤ 70368744177660 := by first | omega | (simp only [List.length_cons, List.length_nil, List.length_set, List.length_replicate, List.length_append, List.length_take, List.length_drop]; omega)) : Evals Tryd.prog 25 [.ints .u32 a, .ints .u32 b] (.tup [.ints .u32 (limbs (x - y)), .bool (decide (y ≤ x))]) := by
  refine evals_of_awp Tryd.func25 rfl (CallOK.of Tryd.func25 (by kernel_rfl) rfl) (Nat.le_of_ble_eq_true rfl) ?_
  rintro w R hR ⟨vs, hv⟩
  obtain ⟨hla, ha⟩ := hv.nat 0 rfl
  obtain ⟨hlb, hb⟩ := hv.nat 1 rfl
  have e1 := h.v
  have e2 := g.v
  have l1 := h.hl
  have l2 := g.hl
  have cc := cmpI_cases x y
  have vb := val_nonneg hb
  repeat' (first
    | (apply RunL.step; exact rfl; apply op_ev (τ := τ); exact rfl; (first | exact r1norm | exact r1limb _ _ | exact r1cmp); exact rfl) | (apply RunL.step; exact rfl; exact opA) | (apply RunL.hand; exact rfl; exact rfl; exact lenA; exact rfl) | (apply AWP.seq) | (apply AWP.region; exact rfl) | (apply AWP.block) | (apply AWP.skip) | (apply AWP.exit) | (apply AWP.retF; exact rfl; exact rfl; exact rfl; exact rfl; exact lenA; exact rfl) | (apply AWP.ret) | (apply RunL.nil) | (apply RunL.on; exact rfl; exact rfl; exact rfl; exact rfl; (first | exact rfl | assumption)) | (apply RunL.noU; exact rfl; exact rfl; exact rfl; exact rfl; exact rfl; exact rfl) | (apply RunL.no; exact rfl; exact rfl; exact rfl; exact rfl; (first | exact rfl | assumption); exact rfl; exact rfl) | (refine AWP.cond _ (Rd.of rfl) (fun hc => ?_) (fun hc => ?_) <;> first | (exfalso; cases hc; done) | (have hc' := hc; (try simp only [sc, reduceCtorEq, cmpOf] at hc'); try (exfalso; omega)))
    | (
     apply AWP.drawA
     repeat' (first
       | (apply DL.cons; (try (apply OpLoc.on; exact rfl; exact rfl; exact rfl; exact rfl; (first | exact rfl | assumption))); apply ol_ev (τ := τ); exact rfl; (first | exact r1norm | exact r1limb _ _ | exact r1cmp); exact rfl; exact rfl) | (apply DL.cons; exact olA; exact rfl) | (apply DL.nil; kernel_rfl) | (refine DL.split rfl rfl rfl rfl (fun hb => ?_) (fun hb => ?_) <;> have hb' := hb <;> (try simp only [sc, reduceCtorEq, cmpOf] at hb') <;> try (exfalso; omega)))
     all_goals (fail_if_success apply DL.id))
    | (refine RunL.split rfl rfl rfl rfl (fun hb => ?_) (fun hb => ?_) <;> have hb' := hb <;> (try simp only [sc, reduceCtorEq, cmpOf] at hb') <;> try (exfalso; omega)) )
  · apply Ends.mk (.cons (.tmp rfl) (.cons (.tmp rfl) .nil))
    have : ¬ y ≤ x := by omega
    simp [pack, this, limbs_le (show x - y ≤ 0 by omega)]
  clear h g
  refine AWP.loop3 (fun i l c => ⟨[(0, .val (.ints .u32 a)), (1, .val (.ints .u32 b)), (6, .sb 17 0 a.length a.length), (7, .val (.int .u64 c)), (8, .val (.int .i64 i))], [(17, .row 34 .u32 l)]⟩)
    (fun i l c => 0 ≤ i ∧ i ≤ a.length ∧ 0 ≤ c ∧ c ≤ 1 ∧ l.length = a.length ∧ Lim l ∧ val (l.take i.toNat) + val (b.take i.toNat) = val (a.take i.toNat) + 4294967296 ^ i.toNat * c)
    (fun i _ _ => a.length - i.toNat) 0 (List.replicate a.length 0) 0 ⟨by simp, by simp, by simp, by simp, by simp, Lim.rep _, by simp [val]⟩ (St.Le.of (by repeat' (first | exact all_nil | refine all_cons rfl ?_)) (by repeat' (first | exact all_nil | refine all_cons rfl ?_))) ?_
  rintro i l c ⟨k1, k2, k3, k4, k5, k6, k7⟩
  have q1 := ha.ix i
  have q2 := hb.ix i
  repeat' (first
    | (apply RunL.step; exact rfl; apply op_ev (τ := τ); exact rfl; (first | exact r1norm | exact r1limb _ _ | exact r1cmp); exact rfl) | (apply RunL.step; exact rfl; exact opA) | (apply RunL.hand; exact rfl; exact rfl; exact lenA; exact rfl) | (apply AWP.seq) | (apply AWP.region; exact rfl) | (apply AWP.block) | (apply AWP.skip) | (apply AWP.exit) | (apply AWP.retF; exact rfl; exact rfl; exact rfl; exact rfl; exact lenA; exact rfl) | (apply AWP.ret) | (apply RunL.nil) | (apply RunL.on; exact rfl; exact rfl; exact rfl; exact rfl; (first | exact rfl | assumption)) | (apply RunL.noU; exact rfl; exact rfl; exact rfl; exact rfl; exact rfl; exact rfl) | (apply RunL.no; exact rfl; exact rfl; exact rfl; exact rfl; (first | exact rfl | assumption); exact rfl; exact rfl) | (refine AWP.cond _ (Rd.of rfl) (fun hc => ?_) (fun hc => ?_) <;> first | (exfalso; cases hc; done) | (have hc' := hc; (try simp only [sc, reduceCtorEq, cmpOf] at hc'); try (exfalso; omega)))
    | (
     apply AWP.drawA
     repeat' (first
       | (apply DL.cons; (try (apply OpLoc.on; exact rfl; exact rfl; exact rfl; exact rfl; (first | exact rfl | assumption))); apply ol_ev (τ := τ); exact rfl; (first | exact r1norm | exact r1limb _ _ | exact r1cmp); exact rfl; exact rfl) | (apply DL.cons; exact olA; exact rfl) | (apply DL.nil; kernel_rfl) | (refine DL.split rfl rfl rfl rfl (fun hb => ?_) (fun hb => ?_) <;> have hb' := hb <;> (try simp only [sc, reduceCtorEq, cmpOf] at hb') <;> try (exfalso; omega)))
     all_goals (fail_if_success apply DL.id))
    | (refine RunL.split rfl rfl rfl rfl (fun hb => ?_) (fun hb => ?_) <;> have hb' := hb <;> (try simp only [sc, reduceCtorEq, cmpOf] at hb') <;> try (exfalso; omega)) )
  · refine ⟨_, _, _, St.Le.of (by repeat' (first | exact all_nil | refine all_cons rfl ?_)) (by repeat' (first | exact all_nil | refine all_cons rfl ?_)), ⟨by omega, by omega, by omega, by omega, by simp [k5], ?_, ?_⟩, by omega⟩
    · exact k6.set (by omega)
    · simp only [Nat.zero_add]
      exact sub_step' k1 (by omega) k7 (c' := 1) (by omega)
  · refine ⟨_, _, _, St.Le.of (by repeat' (first | exact all_nil | refine all_cons rfl ?_)) (by repeat' (first | exact all_nil | refine all_cons rfl ?_)), ⟨by omega, by omega, by omega, by omega, by simp [k5], ?_, ?_⟩, by omega⟩
    · exact k6.set (by omega)
    · simp only [Nat.zero_add]
      exact sub_step' k1 (by omega) k7 (c' := 0) (by omega)
  · apply Ends.mk (.cons (.tmp rfl) (.cons (.tmp rfl) .nil))
    have ei : i.toNat = a.length := by omega
    have yx : y ≤ x := by omega
    rw [ei, List.take_of_length_le (Nat.le_refl _), List.take_of_length_le (by omega)] at k7
    obtain ⟨t, h1, h2, h3⟩ := val_split' hb a.length
    have hp := pow_pos' a.length
    have hl := val_lt k6
    have ha2 := val_lt ha
    have hbb : val (b.take a.length) = val b := by
      obtain h9 := val_take_of_lt hb (n := a.length) (by omega)
      exact h9
    rw [hbb] at k7
    have c0 : c = 0 := by
      rcases Int.lt_or_eq_of_le k3 with h | h
      · exfalso
        have : c = 1 := by omega
        subst this
        rw [k5] at hl
        omega
      · exact h.symm
    subst c0
    simp only [pack, List.drop_zero]
    rw [List.take_of_length_le (by omega), show val l = x - y by omega]
    simp [yx]
theorem r1mul [h : NA a x k] [g : NA b y m] (hk : k + m ≤ 70368744177660 := by first | omega | (simp only [List.length_cons, List.length_nil, List.length_set, List.length_replicate, List.length_append, List.length_take, List.length_drop]; omega)) : Evals Tryd.prog 29 [.ints .u32 a, .ints .u32 b] (.ints .u32 (limbs (x * y))) := by
  refine evals_of_awp Tryd.func29 rfl (CallOK.of Tryd.func29 (by kernel_rfl) rfl) (Nat.le_of_ble_eq_true rfl) ?_
  rintro w R hR ⟨vs, hv⟩
  obtain ⟨hla, hA⟩ := hv.nat 0 rfl
  obtain ⟨hlb, hC⟩ := hv.nat 1 rfl
  have e1 := h.v
  have e2 := g.v
  have l1 := h.hl
  have l2 := g.hl
  clear h g
  obtain ⟨N, hN⟩ : ∃ N : Nat, N = a.length + b.length := ⟨_, rfl⟩
  repeat' (first
    | (apply RunL.step; exact rfl; apply op_ev (τ := τ); exact rfl; (first | exact r1norm | exact r1limb _ _ | exact r1cmp); exact rfl) | (apply RunL.step; exact rfl; exact opA) | (apply RunL.hand; exact rfl; exact rfl; exact lenA; exact rfl) | (apply AWP.seq) | (apply AWP.region; exact rfl) | (apply AWP.block) | (apply AWP.skip) | (apply AWP.exit) | (apply AWP.retF; exact rfl; exact rfl; exact rfl; exact rfl; exact lenA; exact rfl) | (apply AWP.ret) | (apply RunL.nil) | (apply RunL.on; exact rfl; exact rfl; exact rfl; exact rfl; (first | exact rfl | assumption)) | (apply RunL.noU; exact rfl; exact rfl; exact rfl; exact rfl; exact rfl; exact rfl) | (apply RunL.no; exact rfl; exact rfl; exact rfl; exact rfl; (first | exact rfl | assumption); exact rfl; exact rfl) | (refine AWP.cond _ (Rd.of rfl) (fun hc => ?_) (fun hc => ?_) <;> first | (exfalso; cases hc; done) | (have hc' := hc; (try simp only [sc, reduceCtorEq, cmpOf] at hc'); try (exfalso; omega)))
    | (
     apply AWP.drawA
     repeat' (first
       | (apply DL.cons; (try (apply OpLoc.on; exact rfl; exact rfl; exact rfl; exact rfl; (first | exact rfl | assumption))); apply ol_ev (τ := τ); exact rfl; (first | exact r1norm | exact r1limb _ _ | exact r1cmp); exact rfl; exact rfl) | (apply DL.cons; exact olA; exact rfl) | (apply DL.nil; kernel_rfl) | (refine DL.split rfl rfl rfl rfl (fun hb => ?_) (fun hb => ?_) <;> have hb' := hb <;> (try simp only [sc, reduceCtorEq, cmpOf] at hb') <;> try (exfalso; omega)))
     all_goals (fail_if_success apply DL.id))
    | (refine RunL.split rfl rfl rfl rfl (fun hb => ?_) (fun hb => ?_) <;> have hb' := hb <;> (try simp only [sc, reduceCtorEq, cmpOf] at hb') <;> try (exfalso; omega)) )
  refine AWP.loop2 (fun i l => ⟨[(0, .val (.ints .u32 a)), (1, .val (.ints .u32 b)), (5, .sb 15 0 N N), (6, .val (.int .i64 i))], [(15, .row 34 .u32 l)]⟩)
    (fun i l => 0 ≤ i ∧ i ≤ a.length ∧ l.length = a.length + b.length ∧ Lim l ∧ val (l.take (i.toNat + b.length)) = val (a.take i.toNat) * val b)
    (fun i _ => a.length - i.toNat) 0 (List.replicate N 0) ⟨by simp, by simp, by simp [hN], Lim.rep _, by simp [val, List.take_replicate, val_rep]⟩ ?_ ?_
  · have : ((a.length : Int) + b.length).toNat = N := by omega
    rw [← this]; exact St.Le.of (by repeat' (first | exact all_nil | refine all_cons rfl ?_)) (by repeat' (first | exact all_nil | refine all_cons rfl ?_))
  rintro i l0 ⟨k1, k2, k3, k4, k5⟩
  have q1 := hA.ix i
  repeat' (first
    | (apply RunL.step; exact rfl; apply op_ev (τ := τ); exact rfl; (first | exact r1norm | exact r1limb _ _ | exact r1cmp); exact rfl) | (apply RunL.step; exact rfl; exact opA) | (apply RunL.hand; exact rfl; exact rfl; exact lenA; exact rfl) | (apply AWP.seq) | (apply AWP.region; exact rfl) | (apply AWP.block) | (apply AWP.skip) | (apply AWP.exit) | (apply AWP.retF; exact rfl; exact rfl; exact rfl; exact rfl; exact lenA; exact rfl) | (apply AWP.ret) | (apply RunL.nil) | (apply RunL.on; exact rfl; exact rfl; exact rfl; exact rfl; (first | exact rfl | assumption)) | (apply RunL.noU; exact rfl; exact rfl; exact rfl; exact rfl; exact rfl; exact rfl) | (apply RunL.no; exact rfl; exact rfl; exact rfl; exact rfl; (first | exact rfl | assumption); exact rfl; exact rfl) | (refine AWP.cond _ (Rd.of rfl) (fun hc => ?_) (fun hc => ?_) <;> first | (exfalso; cases hc; done) | (have hc' := hc; (try simp only [sc, reduceCtorEq, cmpOf] at hc'); try (exfalso; omega)))
    | (
     apply AWP.drawA
     repeat' (first
       | (apply DL.cons; (try (apply OpLoc.on; exact rfl; exact rfl; exact rfl; exact rfl; (first | exact rfl | assumption))); apply ol_ev (τ := τ); exact rfl; (first | exact r1norm | exact r1limb _ _ | exact r1cmp); exact rfl; exact rfl) | (apply DL.cons; exact olA; exact rfl) | (apply DL.nil; kernel_rfl) | (refine DL.split rfl rfl rfl rfl (fun hb => ?_) (fun hb => ?_) <;> have hb' := hb <;> (try simp only [sc, reduceCtorEq, cmpOf] at hb') <;> try (exfalso; omega)))
     all_goals (fail_if_success apply DL.id))
    | (refine RunL.split rfl rfl rfl rfl (fun hb => ?_) (fun hb => ?_) <;> have hb' := hb <;> (try simp only [sc, reduceCtorEq, cmpOf] at hb') <;> try (exfalso; omega)) )
  · refine AWP.loop3 (fun j l c => ⟨[(0, .val (.ints .u32 a)), (1, .val (.ints .u32 b)), (5, .sb 15 0 N N), (6, .val (.int .i64 i)), (7, .val (.int .u64 c)), (8, .val (.int .i64 j))], [(15, .row 34 .u32 l)]⟩)
      (fun j l c => 0 ≤ j ∧ j ≤ b.length ∧ 0 ≤ c ∧ c < 4294967296 ∧ l.length = a.length + b.length ∧ Lim l ∧ val (l.take (i.toNat + b.length)) + 4294967296 ^ (i + j).toNat * c = val (l0.take (i.toNat + b.length)) + 4294967296 ^ i.toNat * (ix a i * val (b.take j.toNat)))
      (fun j _ _ => b.length - j.toNat) 0 l0 0 ⟨by simp, by simp, by simp, by simp, k3, k4, by simp [val]⟩ (St.Le.of (by repeat' (first | exact all_nil | refine all_cons rfl ?_)) (by repeat' (first | exact all_nil | refine all_cons rfl ?_))) ?_
    rintro j l c ⟨m1, m2, m3, m4, m5, m6, m7⟩
    have q2 := hC.ix j
    have q3 := m6.ix ((0 + (i + j).toNat : Nat) : Int)
    have q4 := mul_bound q1 q2
    repeat' (first
      | (apply RunL.step; exact rfl; apply op_ev (τ := τ); exact rfl; (first | exact r1norm | exact r1limb _ _ | exact r1cmp); exact rfl) | (apply RunL.step; exact rfl; exact opA) | (apply RunL.hand; exact rfl; exact rfl; exact lenA; exact rfl) | (apply AWP.seq) | (apply AWP.region; exact rfl) | (apply AWP.block) | (apply AWP.skip) | (apply AWP.exit) | (apply AWP.retF; exact rfl; exact rfl; exact rfl; exact rfl; exact lenA; exact rfl) | (apply AWP.ret) | (apply RunL.nil) | (apply RunL.on; exact rfl; exact rfl; exact rfl; exact rfl; (first | exact rfl | assumption)) | (apply RunL.noU; exact rfl; exact rfl; exact rfl; exact rfl; exact rfl; exact rfl) | (apply RunL.no; exact rfl; exact rfl; exact rfl; exact rfl; (first | exact rfl | assumption); exact rfl; exact rfl) | (refine AWP.cond _ (Rd.of rfl) (fun hc => ?_) (fun hc => ?_) <;> first | (exfalso; cases hc; done) | (have hc' := hc; (try simp only [sc, reduceCtorEq, cmpOf] at hc'); try (exfalso; omega)))
      | (
       apply AWP.drawA
       repeat' (first
         | (apply DL.cons; (try (apply OpLoc.on; exact rfl; exact rfl; exact rfl; exact rfl; (first | exact rfl | assumption))); apply ol_ev (τ := τ); exact rfl; (first | exact r1norm | exact r1limb _ _ | exact r1cmp); exact rfl; exact rfl) | (apply DL.cons; exact olA; exact rfl) | (apply DL.nil; kernel_rfl) | (refine DL.split rfl rfl rfl rfl (fun hb => ?_) (fun hb => ?_) <;> have hb' := hb <;> (try simp only [sc, reduceCtorEq, cmpOf] at hb') <;> try (exfalso; omega)))
       all_goals (fail_if_success apply DL.id))
      | (refine RunL.split rfl rfl rfl rfl (fun hb => ?_) (fun hb => ?_) <;> have hb' := hb <;> (try simp only [sc, reduceCtorEq, cmpOf] at hb') <;> try (exfalso; omega)) )
    · refine ⟨_, _, _, St.Le.of (by repeat' (first | exact all_nil | refine all_cons rfl ?_)) (by repeat' (first | exact all_nil | refine all_cons rfl ?_)), ⟨by omega, by omega, by omega, by omega, by simp [m5], ?_, ?_⟩, by omega⟩
      · exact m6.set (by omega)
      · simp only [Nat.zero_add]
        have e : (((i + j).toNat : Nat) : Int) = i + j := by omega
        rw [e]
        exact mul_step k1 m1 (by omega) (by omega) m7 (by omega)
    · refine ⟨_, _, St.Le.of (by repeat' (first | exact all_nil | refine all_cons rfl ?_)) (by repeat' (first | exact all_nil | refine all_cons rfl ?_)), ⟨by omega, by omega, by simp [m5], ?_, ?_⟩, by omega⟩
      · exact m6.set (by omega)
      · have e : j.toNat = b.length := by omega
        have e2 : (i + j).toNat = (i + (b.length : Int)).toNat := by omega
        have e3 : (i + (b.length : Int)).toNat = i.toNat + b.length := by omega
        have e4 : (i + 1).toNat + b.length = i.toNat + b.length + 1 := by omega
        have e5 : (i + 1).toNat = i.toNat + 1 := by omega
        have e6 : ((i.toNat : Nat) : Int) = i := by omega
        rw [e, List.take_of_length_le (Nat.le_refl _), e2, e3] at m7
        simp only [Nat.zero_add]
        rw [e4, e3, val_take_set (by omega), m7, k5, e5, val_take_succ, e6]
        grind
  · apply Ends.mk (.cons (.tmp rfl) .nil)
    have e : i.toNat = a.length := by omega
    rw [e, List.take_of_length_le (by omega), List.take_of_length_le (Nat.le_refl _)] at k5
    simp only [pack, List.drop_zero]
    rw [List.take_of_length_le (by omega), k5, e1, e2]
end
end Go.Proofs.YtffcpgebgoineaaDoor.K
