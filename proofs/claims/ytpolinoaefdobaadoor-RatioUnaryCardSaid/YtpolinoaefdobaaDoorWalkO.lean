/- Walks: the reference of layer 3 (examboardref03). -/
import Derived.Test.YtpolinoaefdobaaDoorWalkN
import Derived.Test.YtpolinoaefdobaaDoorWalkJ
namespace Go.Proofs.YtpolinoaefdobaaDoor.K
open Go
set_option linter.unusedVariables false
set_option linter.unusedSimpArgs false

instance (priority := low) RA.parts (u v : Int) (k m : Nat) [h : SzI u k] [g : SzN v m] : RA (decide (u < 0)) (limbs u.natAbs) (limbs v) (Rat.divInt u v) (k + m) :=
  ⟨by rw [sI_norm, val_limbs g.nn], Nat.le_trans (limbs_length_le h.lt) (by omega), Nat.le_trans (limbs_length_le g.lt) (by omega)⟩

/-- numerator and denominator: 0 and 1 if the denominator is 0 -/
def topV (s : Bool) (l d : List Int) : Int := if val d = 0 then 0 else sI s l
def lowV (d : List Int) : Int := if val d = 0 then 1 else val d
theorem RA.tl {s : Bool} {l d : List Int} {q : Rat} {k : Nat} (h : RA s l d q k) (hl : Lim l) (hd : Lim d) :
    Rat.divInt (topV s l d) (lowV d) = q ∧ 0 < lowV d ∧ SzI (topV s l d) k ∧ SzN (lowV d) (k + 1) := by
  have h0 := val_nonneg hd
  have h1 := val_lt hd
  have h2 := natAbs_sI (n := s) hl
  have h3 := pow_mono h.hl
  have h4 := pow_mono (show d.length ≤ k + 1 from Nat.le_succ_of_le h.hd)
  have h5 := pow_pos' k
  have h6 : (4294967296 : Int) ^ (k + 1) = 4294967296 ^ k * 4294967296 := Int.pow_succ ..
  unfold topV lowV
  by_cases hz : val d = 0
  · rw [if_pos hz, if_pos hz]
    refine ⟨?_, by omega, ⟨by simpa using h5⟩, ⟨by omega, by omega⟩⟩
    rw [← h.v, hz, Rat.divInt_zero, Rat.zero_divInt]
  · rw [if_neg hz, if_neg hz]
    exact ⟨h.v, by omega, ⟨by omega⟩, ⟨h0, by omega⟩⟩
theorem divInt_sign {u v : Int} {n : Bool} (h : n = decide (u < 0)) : sN n (u.natAbs : Nat) = u := by
  subst h; unfold sN
  by_cases h : u < 0 <;> simp [h] <;> omega

section
variable {s s' : Bool} {l d l' d' : List Int} {x y : Rat} {k m : Nat}
theorem r3zero : Evals Tryd.prog 52 [] (ratD 0) := by
  refine evals_of_awp Tryd.func52 rfl (CallOK.of Tryd.func52 (by kernel_rfl) rfl) (Nat.le_of_ble_eq_true rfl) ?_
  rintro w R hR ⟨vs, hv⟩
  repeat' (first
    | (apply RunL.step; exact rfl; apply op_ev (τ := τ); exact rfl; (first | exact r3zero | exact r3top | exact r3low | exact r3reduce | exact r3norm | exact r3neg | exact r3sign | exact r3cmp | exact r3add | exact r3sub | exact r3mul | exact r3make | exact r3div | exact r3abs | exact r3floor | exact r3of _ _ | exact r2norm | exact r2make | exact r2sign | exact r2cmp | exact r2neg | exact r2add | exact r2sub | exact r2mul | exact r2div | exact r2div0 | exact r2of _ | exact r1norm | exact r1cmp | exact r1add | exact r1sub | exact r1mul | exact r1bits | exact r1divp | exact r1div | exact r1gcd | exact r1of _ | exact r1limb _ _); exact rfl) | (apply RunL.step; exact rfl; exact opA) | (apply RunL.hand; exact rfl; exact rfl; exact lenA; exact rfl) | (apply AWP.seq) | (apply AWP.region; exact rfl) | (apply AWP.block) | (apply AWP.skip) | (apply AWP.exit) | (apply AWP.retF; exact rfl; exact rfl; exact rfl; exact rfl; exact lenA; exact rfl) | (apply AWP.ret) | (apply RunL.nil) | (apply RunL.on; exact rfl; exact rfl; exact rfl; exact rfl; (first | exact rfl | assumption)) | (apply RunL.noU; exact rfl; exact rfl; exact rfl; exact rfl; exact rfl; exact rfl) | (apply RunL.no; exact rfl; exact rfl; exact rfl; exact rfl; (first | exact rfl | assumption); exact rfl; exact rfl) | (refine AWP.cond _ (Rd.of rfl) (fun hc => ?_) (fun hc => ?_) <;> first | (exfalso; cases hc; done) | (have hc' := hc; (try simp only [sc, reduceCtorEq, cmpOf] at hc'); try (exfalso; omega)))
    | (
     apply AWP.drawA
     repeat' (first
       | (apply DL.cons; (try (apply OpLoc.on; exact rfl; exact rfl; exact rfl; exact rfl; (first | exact rfl | assumption))); apply ol_ev (τ := τ); exact rfl; (first | exact r3zero | exact r3top | exact r3low | exact r3reduce | exact r3norm | exact r3neg | exact r3sign | exact r3cmp | exact r3add | exact r3sub | exact r3mul | exact r3make | exact r3div | exact r3abs | exact r3floor | exact r3of _ _ | exact r2norm | exact r2make | exact r2sign | exact r2cmp | exact r2neg | exact r2add | exact r2sub | exact r2mul | exact r2div | exact r2div0 | exact r2of _ | exact r1norm | exact r1cmp | exact r1add | exact r1sub | exact r1mul | exact r1bits | exact r1divp | exact r1div | exact r1gcd | exact r1of _ | exact r1limb _ _); exact rfl; exact rfl) | (apply DL.cons; exact olA; exact rfl) | (apply DL.nil; kernel_rfl) | (refine DL.split rfl rfl rfl rfl (fun hb => ?_) (fun hb => ?_) <;> have hb' := hb <;> (try simp only [sc, reduceCtorEq, cmpOf] at hb') <;> try (exfalso; omega)))
     all_goals (fail_if_success apply DL.id))
    | (refine RunL.split rfl rfl rfl rfl (fun hb => ?_) (fun hb => ?_) <;> have hb' := hb <;> (try simp only [sc, reduceCtorEq, cmpOf] at hb') <;> try (exfalso; omega)) )
  apply Ends.mk (.cons (.cellA (τ := τ) rfl rfl rfl rfl rfl) .nil)
  simp [pack, limbs_zero]
  rfl
theorem r3top [h : RA s l d x k] (hk : k ≤ 70368744177660 := by first | omega | (simp only [List.length_cons, List.length_nil, List.length_set, List.length_replicate, List.length_append, List.length_take, List.length_drop]; omega)) : Evals Tryd.prog 23 [.agg [.bool s, .ints .u32 l, .ints .u32 d]] (intD (topV s l d)) := by
  refine evals_of_awp Tryd.func23 rfl (CallOK.of Tryd.func23 (by kernel_rfl) rfl) (Nat.le_of_ble_eq_true rfl) ?_
  rintro w R hR ⟨vs, hv⟩
  obtain ⟨⟨_, hl⟩, _, hd⟩ := hv.rat 0 rfl
  have l1 := h.hl
  have l2 := h.hd
  have vd := val_nonneg hd
  have b0 := bitlen_eq_zero vd
  repeat' (first
    | (apply RunL.step; exact rfl; apply op_ev (τ := τ); exact rfl; (first | exact r3zero | exact r3top | exact r3low | exact r3reduce | exact r3norm | exact r3neg | exact r3sign | exact r3cmp | exact r3add | exact r3sub | exact r3mul | exact r3make | exact r3div | exact r3abs | exact r3floor | exact r3of _ _ | exact r2norm | exact r2make | exact r2sign | exact r2cmp | exact r2neg | exact r2add | exact r2sub | exact r2mul | exact r2div | exact r2div0 | exact r2of _ | exact r1norm | exact r1cmp | exact r1add | exact r1sub | exact r1mul | exact r1bits | exact r1divp | exact r1div | exact r1gcd | exact r1of _ | exact r1limb _ _); exact rfl) | (apply RunL.step; exact rfl; exact opA) | (apply RunL.hand; exact rfl; exact rfl; exact lenA; exact rfl) | (apply AWP.seq) | (apply AWP.region; exact rfl) | (apply AWP.block) | (apply AWP.skip) | (apply AWP.exit) | (apply AWP.retF; exact rfl; exact rfl; exact rfl; exact rfl; exact lenA; exact rfl) | (apply AWP.ret) | (apply RunL.nil) | (apply RunL.on; exact rfl; exact rfl; exact rfl; exact rfl; (first | exact rfl | assumption)) | (apply RunL.noU; exact rfl; exact rfl; exact rfl; exact rfl; exact rfl; exact rfl) | (apply RunL.no; exact rfl; exact rfl; exact rfl; exact rfl; (first | exact rfl | assumption); exact rfl; exact rfl) | (refine AWP.cond _ (Rd.of rfl) (fun hc => ?_) (fun hc => ?_) <;> first | (exfalso; cases hc; done) | (have hc' := hc; (try simp only [sc, reduceCtorEq, cmpOf] at hc'); try (exfalso; omega)))
    | (
     apply AWP.drawA
     repeat' (first
       | (apply DL.cons; (try (apply OpLoc.on; exact rfl; exact rfl; exact rfl; exact rfl; (first | exact rfl | assumption))); apply ol_ev (τ := τ); exact rfl; (first | exact r3zero | exact r3top | exact r3low | exact r3reduce | exact r3norm | exact r3neg | exact r3sign | exact r3cmp | exact r3add | exact r3sub | exact r3mul | exact r3make | exact r3div | exact r3abs | exact r3floor | exact r3of _ _ | exact r2norm | exact r2make | exact r2sign | exact r2cmp | exact r2neg | exact r2add | exact r2sub | exact r2mul | exact r2div | exact r2div0 | exact r2of _ | exact r1norm | exact r1cmp | exact r1add | exact r1sub | exact r1mul | exact r1bits | exact r1divp | exact r1div | exact r1gcd | exact r1of _ | exact r1limb _ _); exact rfl; exact rfl) | (apply DL.cons; exact olA; exact rfl) | (apply DL.nil; kernel_rfl) | (refine DL.split rfl rfl rfl rfl (fun hb => ?_) (fun hb => ?_) <;> have hb' := hb <;> (try simp only [sc, reduceCtorEq, cmpOf] at hb') <;> try (exfalso; omega)))
     all_goals (fail_if_success apply DL.id))
    | (refine RunL.split rfl rfl rfl rfl (fun hb => ?_) (fun hb => ?_) <;> have hb' := hb <;> (try simp only [sc, reduceCtorEq, cmpOf] at hb') <;> try (exfalso; omega)) )
  · apply Ends.mk (.cons (.cellA (τ := τ) rfl rfl rfl rfl rfl) .nil)
    show intD 0 = _
    rw [topV, if_pos (b0.1 hc')]
  · apply Ends.mk (.cons (.cellA (τ := τ) rfl rfl rfl rfl rfl) .nil)
    show intD (sI s l) = _
    rw [topV, if_neg (fun h => hc' (b0.2 h))]
theorem r3low [h : RA s l d x k] (hk : k ≤ 70368744177660 := by first | omega | (simp only [List.length_cons, List.length_nil, List.length_set, List.length_replicate, List.length_append, List.length_take, List.length_drop]; omega)) : Evals Tryd.prog 25 [.agg [.bool s, .ints .u32 l, .ints .u32 d]] (.ints .u32 (limbs (lowV d))) := by
  refine evals_of_awp Tryd.func25 rfl (CallOK.of Tryd.func25 (by kernel_rfl) rfl) (Nat.le_of_ble_eq_true rfl) ?_
  rintro w R hR ⟨vs, hv⟩
  obtain ⟨⟨_, hl⟩, _, hd⟩ := hv.rat 0 rfl
  have l1 := h.hl
  have l2 := h.hd
  have vd := val_nonneg hd
  have b0 := bitlen_eq_zero vd
  repeat' (first
    | (apply RunL.step; exact rfl; apply op_ev (τ := τ); exact rfl; (first | exact r3zero | exact r3top | exact r3low | exact r3reduce | exact r3norm | exact r3neg | exact r3sign | exact r3cmp | exact r3add | exact r3sub | exact r3mul | exact r3make | exact r3div | exact r3abs | exact r3floor | exact r3of _ _ | exact r2norm | exact r2make | exact r2sign | exact r2cmp | exact r2neg | exact r2add | exact r2sub | exact r2mul | exact r2div | exact r2div0 | exact r2of _ | exact r1norm | exact r1cmp | exact r1add | exact r1sub | exact r1mul | exact r1bits | exact r1divp | exact r1div | exact r1gcd | exact r1of _ | exact r1limb _ _); exact rfl) | (apply RunL.step; exact rfl; exact opA) | (apply RunL.hand; exact rfl; exact rfl; exact lenA; exact rfl) | (apply AWP.seq) | (apply AWP.region; exact rfl) | (apply AWP.block) | (apply AWP.skip) | (apply AWP.exit) | (apply AWP.retF; exact rfl; exact rfl; exact rfl; exact rfl; exact lenA; exact rfl) | (apply AWP.ret) | (apply RunL.nil) | (apply RunL.on; exact rfl; exact rfl; exact rfl; exact rfl; (first | exact rfl | assumption)) | (apply RunL.noU; exact rfl; exact rfl; exact rfl; exact rfl; exact rfl; exact rfl) | (apply RunL.no; exact rfl; exact rfl; exact rfl; exact rfl; (first | exact rfl | assumption); exact rfl; exact rfl) | (refine AWP.cond _ (Rd.of rfl) (fun hc => ?_) (fun hc => ?_) <;> first | (exfalso; cases hc; done) | (have hc' := hc; (try simp only [sc, reduceCtorEq, cmpOf] at hc'); try (exfalso; omega)))
    | (
     apply AWP.drawA
     repeat' (first
       | (apply DL.cons; (try (apply OpLoc.on; exact rfl; exact rfl; exact rfl; exact rfl; (first | exact rfl | assumption))); apply ol_ev (τ := τ); exact rfl; (first | exact r3zero | exact r3top | exact r3low | exact r3reduce | exact r3norm | exact r3neg | exact r3sign | exact r3cmp | exact r3add | exact r3sub | exact r3mul | exact r3make | exact r3div | exact r3abs | exact r3floor | exact r3of _ _ | exact r2norm | exact r2make | exact r2sign | exact r2cmp | exact r2neg | exact r2add | exact r2sub | exact r2mul | exact r2div | exact r2div0 | exact r2of _ | exact r1norm | exact r1cmp | exact r1add | exact r1sub | exact r1mul | exact r1bits | exact r1divp | exact r1div | exact r1gcd | exact r1of _ | exact r1limb _ _); exact rfl; exact rfl) | (apply DL.cons; exact olA; exact rfl) | (apply DL.nil; kernel_rfl) | (refine DL.split rfl rfl rfl rfl (fun hb => ?_) (fun hb => ?_) <;> have hb' := hb <;> (try simp only [sc, reduceCtorEq, cmpOf] at hb') <;> try (exfalso; omega)))
     all_goals (fail_if_success apply DL.id))
    | (refine RunL.split rfl rfl rfl rfl (fun hb => ?_) (fun hb => ?_) <;> have hb' := hb <;> (try simp only [sc, reduceCtorEq, cmpOf] at hb') <;> try (exfalso; omega)) )
  · apply Ends.mk (.cons (.tmp rfl) .nil)
    rw [lowV, if_pos (b0.1 hc')]; rfl
  · apply Ends.mk (.cons (.tmp rfl) .nil)
    rw [lowV, if_neg (fun h => hc' (b0.2 h))]; rfl
theorem r3reduce {n : Bool} {l d : List Int} {u v : Int} {k m : Nat} [h : IA n l u k] [g : NA d v m] (hy : 0 < v := by first | assumption | omega) (hk : k + m ≤ 100000000000 := by first | omega | (simp only [List.length_cons, List.length_nil, List.length_set, List.length_replicate, List.length_append, List.length_take, List.length_drop]; omega)) : Evals Tryd.prog 27 [.agg [.bool n, .ints .u32 l], .ints .u32 d] (ratD (Rat.divInt u v)) := by
  refine evals_of_awp Tryd.func27 rfl (CallOK.of Tryd.func27 (by kernel_rfl) rfl) (Nat.le_of_ble_eq_true rfl) ?_
  rintro w R hR ⟨vs, hv⟩
  obtain ⟨hl, hl'⟩ := hv.sint 0 rfl
  obtain ⟨hd, hd'⟩ := hv.nat 1 rfl
  have l1 := h.hl
  have l2 := g.hl
  have s1 : SzI u l.length := by rw [← h.v]; exact SzI.sI hl'
  have s2 : SzN v d.length := by rw [← g.v]; exact SzN.val hd'
  have b0 := bitlen_eq_zero (show (0 : Int) ≤ u.natAbs by omega)
  have p1 : (0 : Int) < (Int.gcd (u.natAbs : Nat) v : Nat) := by
    have := Int.gcd_pos_of_ne_zero_right ((u.natAbs : Nat) : Int) (show v ≠ 0 by omega); omega
  repeat' (first
    | (apply RunL.step; exact rfl; apply op_ev (τ := τ); exact rfl; (first | exact r3zero | exact r3top | exact r3low | exact r3reduce | exact r3norm | exact r3neg | exact r3sign | exact r3cmp | exact r3add | exact r3sub | exact r3mul | exact r3make | exact r3div | exact r3abs | exact r3floor | exact r3of _ _ | exact r2norm | exact r2make | exact r2sign | exact r2cmp | exact r2neg | exact r2add | exact r2sub | exact r2mul | exact r2div | exact r2div0 | exact r2of _ | exact r1norm | exact r1cmp | exact r1add | exact r1sub | exact r1mul | exact r1bits | exact r1divp | exact r1div | exact r1gcd | exact r1of _ | exact r1limb _ _); exact rfl) | (apply RunL.step; exact rfl; exact opA) | (apply RunL.hand; exact rfl; exact rfl; exact lenA; exact rfl) | (apply AWP.seq) | (apply AWP.region; exact rfl) | (apply AWP.block) | (apply AWP.skip) | (apply AWP.exit) | (apply AWP.retF; exact rfl; exact rfl; exact rfl; exact rfl; exact lenA; exact rfl) | (apply AWP.ret) | (apply RunL.nil) | (apply RunL.on; exact rfl; exact rfl; exact rfl; exact rfl; (first | exact rfl | assumption)) | (apply RunL.noU; exact rfl; exact rfl; exact rfl; exact rfl; exact rfl; exact rfl) | (apply RunL.no; exact rfl; exact rfl; exact rfl; exact rfl; (first | exact rfl | assumption); exact rfl; exact rfl) | (refine AWP.cond _ (Rd.of rfl) (fun hc => ?_) (fun hc => ?_) <;> first | (exfalso; cases hc; done) | (have hc' := hc; (try simp only [sc, reduceCtorEq, cmpOf] at hc'); try (exfalso; omega)))
    | (
     apply AWP.drawA
     repeat' (first
       | (apply DL.cons; (try (apply OpLoc.on; exact rfl; exact rfl; exact rfl; exact rfl; (first | exact rfl | assumption))); apply ol_ev (τ := τ); exact rfl; (first | exact r3zero | exact r3top | exact r3low | exact r3reduce | exact r3norm | exact r3neg | exact r3sign | exact r3cmp | exact r3add | exact r3sub | exact r3mul | exact r3make | exact r3div | exact r3abs | exact r3floor | exact r3of _ _ | exact r2norm | exact r2make | exact r2sign | exact r2cmp | exact r2neg | exact r2add | exact r2sub | exact r2mul | exact r2div | exact r2div0 | exact r2of _ | exact r1norm | exact r1cmp | exact r1add | exact r1sub | exact r1mul | exact r1bits | exact r1divp | exact r1div | exact r1gcd | exact r1of _ | exact r1limb _ _); exact rfl; exact rfl) | (apply DL.cons; exact olA; exact rfl) | (apply DL.nil; kernel_rfl) | (refine DL.split rfl rfl rfl rfl (fun hb => ?_) (fun hb => ?_) <;> have hb' := hb <;> (try simp only [sc, reduceCtorEq, cmpOf] at hb') <;> try (exfalso; omega)))
     all_goals (fail_if_success apply DL.id))
    | (refine RunL.split rfl rfl rfl rfl (fun hb => ?_) (fun hb => ?_) <;> have hb' := hb <;> (try simp only [sc, reduceCtorEq, cmpOf] at hb') <;> try (exfalso; omega)) )
  · apply Ends.mk (.cons (.cellA (τ := τ) rfl rfl rfl rfl rfl) .nil)
    have : u = 0 := by omega
    subst this
    show ratD 0 = _
    rw [Rat.zero_divInt]
  · apply Ends.mk (.cons (.cellA (τ := τ) rfl rfl rfl rfl rfl) .nil)
    show D.agg [D.bool (decide (sN (decide (u < 0)) (((u.natAbs : Nat) : Int) / (Int.gcd (u.natAbs : Nat) v : Nat)) < 0)), D.ints .u32 (limbs (sN (decide (u < 0)) (((u.natAbs : Nat) : Int) / (Int.gcd (u.natAbs : Nat) v : Nat))).natAbs), D.ints .u32 (limbs (v / (Int.gcd (u.natAbs : Nat) v : Nat)))] = _
    obtain ⟨e1, e2⟩ := rat_of (u := u) (v := v) hy
    have e3 : Int.gcd (u.natAbs : Nat) v = Int.gcd v u := by simp [Int.gcd, Nat.gcd_comm]
    have e4 : sN (decide (u < 0)) (((u.natAbs : Nat) : Int) / (Int.gcd v u : Nat)) = u / (Int.gcd v u : Nat) := by
      have hg : ((Int.gcd v u : Nat) : Int) ∣ u := Int.gcd_dvd_right v u
      unfold sN
      by_cases h : u < 0
      · simp only [h, decide_true, if_true]
        rw [show ((u.natAbs : Nat) : Int) = -u by omega, Int.neg_ediv_of_dvd hg, Int.neg_neg]
      · simp only [h, decide_false]
        rw [show ((u.natAbs : Nat) : Int) = u by omega]
        rfl
    rw [e3, e4]
    unfold ratD
    rw [e1, e2]
theorem r3norm [h : RA s l d x k] (hk : k ≤ 10000000000 := by first | omega | (simp only [List.length_cons, List.length_nil, List.length_set, List.length_replicate, List.length_append, List.length_take, List.length_drop]; omega)) : Evals Tryd.prog 9 [.agg [.bool s, .ints .u32 l, .ints .u32 d]] (ratD x) := by
  refine evals_of_awp Tryd.func9 rfl (CallOK.of Tryd.func9 (by kernel_rfl) rfl) (Nat.le_of_ble_eq_true rfl) ?_
  rintro w R hR ⟨vs, hv⟩
  obtain ⟨⟨_, hl⟩, _, hd⟩ := hv.rat 0 rfl
  obtain ⟨a1, a2, a3, a4⟩ := h.tl hl hd
  repeat' (first
    | (apply RunL.step; exact rfl; apply op_ev (τ := τ); exact rfl; (first | exact r3zero | exact r3top | exact r3low | exact r3reduce | exact r3norm | exact r3neg | exact r3sign | exact r3cmp | exact r3add | exact r3sub | exact r3mul | exact r3make | exact r3div | exact r3abs | exact r3floor | exact r3of _ _ | exact r2norm | exact r2make | exact r2sign | exact r2cmp | exact r2neg | exact r2add | exact r2sub | exact r2mul | exact r2div | exact r2div0 | exact r2of _ | exact r1norm | exact r1cmp | exact r1add | exact r1sub | exact r1mul | exact r1bits | exact r1divp | exact r1div | exact r1gcd | exact r1of _ | exact r1limb _ _); exact rfl) | (apply RunL.step; exact rfl; exact opA) | (apply RunL.hand; exact rfl; exact rfl; exact lenA; exact rfl) | (apply AWP.seq) | (apply AWP.region; exact rfl) | (apply AWP.block) | (apply AWP.skip) | (apply AWP.exit) | (apply AWP.retF; exact rfl; exact rfl; exact rfl; exact rfl; exact lenA; exact rfl) | (apply AWP.ret) | (apply RunL.nil) | (apply RunL.on; exact rfl; exact rfl; exact rfl; exact rfl; (first | exact rfl | assumption)) | (apply RunL.noU; exact rfl; exact rfl; exact rfl; exact rfl; exact rfl; exact rfl) | (apply RunL.no; exact rfl; exact rfl; exact rfl; exact rfl; (first | exact rfl | assumption); exact rfl; exact rfl) | (refine AWP.cond _ (Rd.of rfl) (fun hc => ?_) (fun hc => ?_) <;> first | (exfalso; cases hc; done) | (have hc' := hc; (try simp only [sc, reduceCtorEq, cmpOf] at hc'); try (exfalso; omega)))
    | (
     apply AWP.drawA
     repeat' (first
       | (apply DL.cons; (try (apply OpLoc.on; exact rfl; exact rfl; exact rfl; exact rfl; (first | exact rfl | assumption))); apply ol_ev (τ := τ); exact rfl; (first | exact r3zero | exact r3top | exact r3low | exact r3reduce | exact r3norm | exact r3neg | exact r3sign | exact r3cmp | exact r3add | exact r3sub | exact r3mul | exact r3make | exact r3div | exact r3abs | exact r3floor | exact r3of _ _ | exact r2norm | exact r2make | exact r2sign | exact r2cmp | exact r2neg | exact r2add | exact r2sub | exact r2mul | exact r2div | exact r2div0 | exact r2of _ | exact r1norm | exact r1cmp | exact r1add | exact r1sub | exact r1mul | exact r1bits | exact r1divp | exact r1div | exact r1gcd | exact r1of _ | exact r1limb _ _); exact rfl; exact rfl) | (apply DL.cons; exact olA; exact rfl) | (apply DL.nil; kernel_rfl) | (refine DL.split rfl rfl rfl rfl (fun hb => ?_) (fun hb => ?_) <;> have hb' := hb <;> (try simp only [sc, reduceCtorEq, cmpOf] at hb') <;> try (exfalso; omega)))
     all_goals (fail_if_success apply DL.id))
    | (refine RunL.split rfl rfl rfl rfl (fun hb => ?_) (fun hb => ?_) <;> have hb' := hb <;> (try simp only [sc, reduceCtorEq, cmpOf] at hb') <;> try (exfalso; omega)) )
  apply Ends.mk (.cons (.cellA (τ := τ) rfl rfl rfl rfl rfl) .nil)
  show ratD _ = ratD _
  rw [a1]
theorem r3neg [h : RA s l d x k] (hk : k ≤ 10000000000 := by first | omega | (simp only [List.length_cons, List.length_nil, List.length_set, List.length_replicate, List.length_append, List.length_take, List.length_drop]; omega)) : Evals Tryd.prog 11 [.agg [.bool s, .ints .u32 l, .ints .u32 d]] (ratD (-x)) := by
  refine evals_of_awp Tryd.func11 rfl (CallOK.of Tryd.func11 (by kernel_rfl) rfl) (Nat.le_of_ble_eq_true rfl) ?_
  rintro w R hR ⟨vs, hv⟩
  obtain ⟨⟨_, hl⟩, _, hd⟩ := hv.rat 0 rfl
  obtain ⟨a1, a2, a3, a4⟩ := h.tl hl hd
  repeat' (first
    | (apply RunL.step; exact rfl; apply op_ev (τ := τ); exact rfl; (first | exact r3zero | exact r3top | exact r3low | exact r3reduce | exact r3norm | exact r3neg | exact r3sign | exact r3cmp | exact r3add | exact r3sub | exact r3mul | exact r3make | exact r3div | exact r3abs | exact r3floor | exact r3of _ _ | exact r2norm | exact r2make | exact r2sign | exact r2cmp | exact r2neg | exact r2add | exact r2sub | exact r2mul | exact r2div | exact r2div0 | exact r2of _ | exact r1norm | exact r1cmp | exact r1add | exact r1sub | exact r1mul | exact r1bits | exact r1divp | exact r1div | exact r1gcd | exact r1of _ | exact r1limb _ _); exact rfl) | (apply RunL.step; exact rfl; exact opA) | (apply RunL.hand; exact rfl; exact rfl; exact lenA; exact rfl) | (apply AWP.seq) | (apply AWP.region; exact rfl) | (apply AWP.block) | (apply AWP.skip) | (apply AWP.exit) | (apply AWP.retF; exact rfl; exact rfl; exact rfl; exact rfl; exact lenA; exact rfl) | (apply AWP.ret) | (apply RunL.nil) | (apply RunL.on; exact rfl; exact rfl; exact rfl; exact rfl; (first | exact rfl | assumption)) | (apply RunL.noU; exact rfl; exact rfl; exact rfl; exact rfl; exact rfl; exact rfl) | (apply RunL.no; exact rfl; exact rfl; exact rfl; exact rfl; (first | exact rfl | assumption); exact rfl; exact rfl) | (refine AWP.cond _ (Rd.of rfl) (fun hc => ?_) (fun hc => ?_) <;> first | (exfalso; cases hc; done) | (have hc' := hc; (try simp only [sc, reduceCtorEq, cmpOf] at hc'); try (exfalso; omega)))
    | (
     apply AWP.drawA
     repeat' (first
       | (apply DL.cons; (try (apply OpLoc.on; exact rfl; exact rfl; exact rfl; exact rfl; (first | exact rfl | assumption))); apply ol_ev (τ := τ); exact rfl; (first | exact r3zero | exact r3top | exact r3low | exact r3reduce | exact r3norm | exact r3neg | exact r3sign | exact r3cmp | exact r3add | exact r3sub | exact r3mul | exact r3make | exact r3div | exact r3abs | exact r3floor | exact r3of _ _ | exact r2norm | exact r2make | exact r2sign | exact r2cmp | exact r2neg | exact r2add | exact r2sub | exact r2mul | exact r2div | exact r2div0 | exact r2of _ | exact r1norm | exact r1cmp | exact r1add | exact r1sub | exact r1mul | exact r1bits | exact r1divp | exact r1div | exact r1gcd | exact r1of _ | exact r1limb _ _); exact rfl; exact rfl) | (apply DL.cons; exact olA; exact rfl) | (apply DL.nil; kernel_rfl) | (refine DL.split rfl rfl rfl rfl (fun hb => ?_) (fun hb => ?_) <;> have hb' := hb <;> (try simp only [sc, reduceCtorEq, cmpOf] at hb') <;> try (exfalso; omega)))
     all_goals (fail_if_success apply DL.id))
    | (refine RunL.split rfl rfl rfl rfl (fun hb => ?_) (fun hb => ?_) <;> have hb' := hb <;> (try simp only [sc, reduceCtorEq, cmpOf] at hb') <;> try (exfalso; omega)) )
  apply Ends.mk (.cons (.cellA (τ := τ) rfl rfl rfl rfl rfl) .nil)
  show ratD _ = ratD _
  rw [← a1, Rat.neg_divInt]
theorem r3sign [h : RA s l d x k] (hk : k ≤ 10000000000 := by first | omega | (simp only [List.length_cons, List.length_nil, List.length_set, List.length_replicate, List.length_append, List.length_take, List.length_drop]; omega)) : Evals Tryd.prog 15 [.agg [.bool s, .ints .u32 l, .ints .u32 d]] (.int .i64 (cmpQ x 0)) := by
  refine evals_of_awp Tryd.func15 rfl (CallOK.of Tryd.func15 (by kernel_rfl) rfl) (Nat.le_of_ble_eq_true rfl) ?_
  rintro w R hR ⟨vs, hv⟩
  obtain ⟨⟨_, hl⟩, _, hd⟩ := hv.rat 0 rfl
  obtain ⟨a1, a2, a3, a4⟩ := h.tl hl hd
  repeat' (first
    | (apply RunL.step; exact rfl; apply op_ev (τ := τ); exact rfl; (first | exact r3zero | exact r3top | exact r3low | exact r3reduce | exact r3norm | exact r3neg | exact r3sign | exact r3cmp | exact r3add | exact r3sub | exact r3mul | exact r3make | exact r3div | exact r3abs | exact r3floor | exact r3of _ _ | exact r2norm | exact r2make | exact r2sign | exact r2cmp | exact r2neg | exact r2add | exact r2sub | exact r2mul | exact r2div | exact r2div0 | exact r2of _ | exact r1norm | exact r1cmp | exact r1add | exact r1sub | exact r1mul | exact r1bits | exact r1divp | exact r1div | exact r1gcd | exact r1of _ | exact r1limb _ _); exact rfl) | (apply RunL.step; exact rfl; exact opA) | (apply RunL.hand; exact rfl; exact rfl; exact lenA; exact rfl) | (apply AWP.seq) | (apply AWP.region; exact rfl) | (apply AWP.block) | (apply AWP.skip) | (apply AWP.exit) | (apply AWP.retF; exact rfl; exact rfl; exact rfl; exact rfl; exact lenA; exact rfl) | (apply AWP.ret) | (apply RunL.nil) | (apply RunL.on; exact rfl; exact rfl; exact rfl; exact rfl; (first | exact rfl | assumption)) | (apply RunL.noU; exact rfl; exact rfl; exact rfl; exact rfl; exact rfl; exact rfl) | (apply RunL.no; exact rfl; exact rfl; exact rfl; exact rfl; (first | exact rfl | assumption); exact rfl; exact rfl) | (refine AWP.cond _ (Rd.of rfl) (fun hc => ?_) (fun hc => ?_) <;> first | (exfalso; cases hc; done) | (have hc' := hc; (try simp only [sc, reduceCtorEq, cmpOf] at hc'); try (exfalso; omega)))
    | (
     apply AWP.drawA
     repeat' (first
       | (apply DL.cons; (try (apply OpLoc.on; exact rfl; exact rfl; exact rfl; exact rfl; (first | exact rfl | assumption))); apply ol_ev (τ := τ); exact rfl; (first | exact r3zero | exact r3top | exact r3low | exact r3reduce | exact r3norm | exact r3neg | exact r3sign | exact r3cmp | exact r3add | exact r3sub | exact r3mul | exact r3make | exact r3div | exact r3abs | exact r3floor | exact r3of _ _ | exact r2norm | exact r2make | exact r2sign | exact r2cmp | exact r2neg | exact r2add | exact r2sub | exact r2mul | exact r2div | exact r2div0 | exact r2of _ | exact r1norm | exact r1cmp | exact r1add | exact r1sub | exact r1mul | exact r1bits | exact r1divp | exact r1div | exact r1gcd | exact r1of _ | exact r1limb _ _); exact rfl; exact rfl) | (apply DL.cons; exact olA; exact rfl) | (apply DL.nil; kernel_rfl) | (refine DL.split rfl rfl rfl rfl (fun hb => ?_) (fun hb => ?_) <;> have hb' := hb <;> (try simp only [sc, reduceCtorEq, cmpOf] at hb') <;> try (exfalso; omega)))
     all_goals (fail_if_success apply DL.id))
    | (refine RunL.split rfl rfl rfl rfl (fun hb => ?_) (fun hb => ?_) <;> have hb' := hb <;> (try simp only [sc, reduceCtorEq, cmpOf] at hb') <;> try (exfalso; omega)) )
  apply Ends.mk (.cons (.tmp rfl) .nil)
  show D.int .i64 _ = D.int .i64 _
  have := cmpQ_divInt (a := topV s l d) (c := 0) a2 (show (0 : Int) < 1 by omega)
  rw [a1, Rat.zero_divInt, Int.mul_one, Int.zero_mul] at this
  rw [this]
theorem r3abs [h : RA s l d x k] (hk : k ≤ 1000000000 := by first | omega | (simp only [List.length_cons, List.length_nil, List.length_set, List.length_replicate, List.length_append, List.length_take, List.length_drop]; omega)) : Evals Tryd.prog 13 [.agg [.bool s, .ints .u32 l, .ints .u32 d]] (ratD (if x < 0 then -x else x)) := by
  refine evals_of_awp Tryd.func13 rfl (CallOK.of Tryd.func13 (by kernel_rfl) rfl) (Nat.le_of_ble_eq_true rfl) ?_
  rintro w R hR ⟨vs, hv⟩
  have cc := cmpQ_cases x 0
  repeat' (first
    | (apply RunL.step; exact rfl; apply op_ev (τ := τ); exact rfl; (first | exact r3zero | exact r3top | exact r3low | exact r3reduce | exact r3norm | exact r3neg | exact r3sign | exact r3cmp | exact r3add | exact r3sub | exact r3mul | exact r3make | exact r3div | exact r3abs | exact r3floor | exact r3of _ _ | exact r2norm | exact r2make | exact r2sign | exact r2cmp | exact r2neg | exact r2add | exact r2sub | exact r2mul | exact r2div | exact r2div0 | exact r2of _ | exact r1norm | exact r1cmp | exact r1add | exact r1sub | exact r1mul | exact r1bits | exact r1divp | exact r1div | exact r1gcd | exact r1of _ | exact r1limb _ _); exact rfl) | (apply RunL.step; exact rfl; exact opA) | (apply RunL.hand; exact rfl; exact rfl; exact lenA; exact rfl) | (apply AWP.seq) | (apply AWP.region; exact rfl) | (apply AWP.block) | (apply AWP.skip) | (apply AWP.exit) | (apply AWP.retF; exact rfl; exact rfl; exact rfl; exact rfl; exact lenA; exact rfl) | (apply AWP.ret) | (apply RunL.nil) | (apply RunL.on; exact rfl; exact rfl; exact rfl; exact rfl; (first | exact rfl | assumption)) | (apply RunL.noU; exact rfl; exact rfl; exact rfl; exact rfl; exact rfl; exact rfl) | (apply RunL.no; exact rfl; exact rfl; exact rfl; exact rfl; (first | exact rfl | assumption); exact rfl; exact rfl) | (refine AWP.cond _ (Rd.of rfl) (fun hc => ?_) (fun hc => ?_) <;> first | (exfalso; cases hc; done) | (have hc' := hc; (try simp only [sc, reduceCtorEq, cmpOf] at hc'); try (exfalso; omega)))
    | (
     apply AWP.drawA
     repeat' (first
       | (apply DL.cons; (try (apply OpLoc.on; exact rfl; exact rfl; exact rfl; exact rfl; (first | exact rfl | assumption))); apply ol_ev (τ := τ); exact rfl; (first | exact r3zero | exact r3top | exact r3low | exact r3reduce | exact r3norm | exact r3neg | exact r3sign | exact r3cmp | exact r3add | exact r3sub | exact r3mul | exact r3make | exact r3div | exact r3abs | exact r3floor | exact r3of _ _ | exact r2norm | exact r2make | exact r2sign | exact r2cmp | exact r2neg | exact r2add | exact r2sub | exact r2mul | exact r2div | exact r2div0 | exact r2of _ | exact r1norm | exact r1cmp | exact r1add | exact r1sub | exact r1mul | exact r1bits | exact r1divp | exact r1div | exact r1gcd | exact r1of _ | exact r1limb _ _); exact rfl; exact rfl) | (apply DL.cons; exact olA; exact rfl) | (apply DL.nil; kernel_rfl) | (refine DL.split rfl rfl rfl rfl (fun hb => ?_) (fun hb => ?_) <;> have hb' := hb <;> (try simp only [sc, reduceCtorEq, cmpOf] at hb') <;> try (exfalso; omega)))
     all_goals (fail_if_success apply DL.id))
    | (refine RunL.split rfl rfl rfl rfl (fun hb => ?_) (fun hb => ?_) <;> have hb' := hb <;> (try simp only [sc, reduceCtorEq, cmpOf] at hb') <;> try (exfalso; omega)) )
  · apply Ends.mk (.cons (.cellA (τ := τ) rfl rfl rfl rfl rfl) .nil)
    have : x < 0 := by
      rcases cc with ⟨h1, h2⟩ | ⟨h1, h2⟩ | ⟨h1, h2⟩
      · exact h1
      · omega
      · omega
    rw [if_pos this]; rfl
  · apply Ends.mk (.cons (.cellA (τ := τ) rfl rfl rfl rfl rfl) .nil)
    have : ¬ x < 0 := by
      rcases cc with ⟨h1, h2⟩ | ⟨h1, h2⟩ | ⟨h1, h2⟩
      · omega
      · rw [h1]; exact Rat.lt_irrefl
      · rw [Rat.not_lt]; exact Rat.le_of_lt h1
    rw [if_neg this]; rfl
theorem r3floor [h : RA s l d x k] (hk : k ≤ 1000000000 := by first | omega | (simp only [List.length_cons, List.length_nil, List.length_set, List.length_replicate, List.length_append, List.length_take, List.length_drop]; omega)) : Evals Tryd.prog 6 [.agg [.bool s, .ints .u32 l, .ints .u32 d]] (intD x.floor) := by
  refine evals_of_awp Tryd.func6 rfl (CallOK.of Tryd.func6 (by kernel_rfl) rfl) (Nat.le_of_ble_eq_true rfl) ?_
  rintro w R hR ⟨vs, hv⟩
  obtain ⟨⟨_, hl⟩, _, hd⟩ := hv.rat 0 rfl
  obtain ⟨a1, a2, a3, a4⟩ := h.tl hl hd
  have a5 : 0 < sN false (lowV d) := a2
  have a6 : sN false (lowV d) ≠ 0 := by omega
  repeat' (first
    | (apply RunL.step; exact rfl; apply op_ev (τ := τ); exact rfl; (first | exact r3zero | exact r3top | exact r3low | exact r3reduce | exact r3norm | exact r3neg | exact r3sign | exact r3cmp | exact r3add | exact r3sub | exact r3mul | exact r3make | exact r3div | exact r3abs | exact r3floor | exact r3of _ _ | exact r2norm | exact r2make | exact r2sign | exact r2cmp | exact r2neg | exact r2add | exact r2sub | exact r2mul | exact r2div | exact r2div0 | exact r2of _ | exact r1norm | exact r1cmp | exact r1add | exact r1sub | exact r1mul | exact r1bits | exact r1divp | exact r1div | exact r1gcd | exact r1of _ | exact r1limb _ _); exact rfl) | (apply RunL.step; exact rfl; exact opA) | (apply RunL.hand; exact rfl; exact rfl; exact lenA; exact rfl) | (apply AWP.seq) | (apply AWP.region; exact rfl) | (apply AWP.block) | (apply AWP.skip) | (apply AWP.exit) | (apply AWP.retF; exact rfl; exact rfl; exact rfl; exact rfl; exact lenA; exact rfl) | (apply AWP.ret) | (apply RunL.nil) | (apply RunL.on; exact rfl; exact rfl; exact rfl; exact rfl; (first | exact rfl | assumption)) | (apply RunL.noU; exact rfl; exact rfl; exact rfl; exact rfl; exact rfl; exact rfl) | (apply RunL.no; exact rfl; exact rfl; exact rfl; exact rfl; (first | exact rfl | assumption); exact rfl; exact rfl) | (refine AWP.cond _ (Rd.of rfl) (fun hc => ?_) (fun hc => ?_) <;> first | (exfalso; cases hc; done) | (have hc' := hc; (try simp only [sc, reduceCtorEq, cmpOf] at hc'); try (exfalso; omega)))
    | (
     apply AWP.drawA
     repeat' (first
       | (apply DL.cons; (try (apply OpLoc.on; exact rfl; exact rfl; exact rfl; exact rfl; (first | exact rfl | assumption))); apply ol_ev (τ := τ); exact rfl; (first | exact r3zero | exact r3top | exact r3low | exact r3reduce | exact r3norm | exact r3neg | exact r3sign | exact r3cmp | exact r3add | exact r3sub | exact r3mul | exact r3make | exact r3div | exact r3abs | exact r3floor | exact r3of _ _ | exact r2norm | exact r2make | exact r2sign | exact r2cmp | exact r2neg | exact r2add | exact r2sub | exact r2mul | exact r2div | exact r2div0 | exact r2of _ | exact r1norm | exact r1cmp | exact r1add | exact r1sub | exact r1mul | exact r1bits | exact r1divp | exact r1div | exact r1gcd | exact r1of _ | exact r1limb _ _); exact rfl; exact rfl) | (apply DL.cons; exact olA; exact rfl) | (apply DL.nil; kernel_rfl) | (refine DL.split rfl rfl rfl rfl (fun hb => ?_) (fun hb => ?_) <;> have hb' := hb <;> (try simp only [sc, reduceCtorEq, cmpOf] at hb') <;> try (exfalso; omega)))
     all_goals (fail_if_success apply DL.id))
    | (refine RunL.split rfl rfl rfl rfl (fun hb => ?_) (fun hb => ?_) <;> have hb' := hb <;> (try simp only [sc, reduceCtorEq, cmpOf] at hb') <;> try (exfalso; omega)) )
  apply Ends.mk (.cons (.cellA (τ := τ) rfl rfl rfl rfl rfl) .nil)
  show intD _ = intD _
  rw [← a1, floor_divInt a2]; rfl
end
end Go.Proofs.YtpolinoaefdobaaDoor.K
