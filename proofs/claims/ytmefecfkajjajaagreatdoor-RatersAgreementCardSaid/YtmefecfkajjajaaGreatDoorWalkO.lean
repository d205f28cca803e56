/- Walks: the reference of layer 3 (examboardref03). -/
import Derived.Test.YtmefecfkajjajaaGreatDoorWalkN
import Derived.Test.YtmefecfkajjajaaGreatDoorWalkJ
namespace Go.Proofs.YtmefecfkajjajaaGreatDoor.K
open Go
set_option linter.unusedVariables false
set_option linter.unusedSimpArgs false

instance (priority := low) RA.parts (u v : Int) (k m : Nat) [h : SzI u k] [g : SzN v m] : RA (decide (u < 0)) (limbs u.natAbs) (limbs v) (Rat.divInt u v) (k + m) :=
  ⟨by rw [sI_norm, val_limbs g.nn], Nat.le_trans (limbs_length_le h.lt) (by omega), Nat.le_trans (limbs_length_le g.lt) (by omega)⟩

/-- numerator and denominator: 0 and 1 if the denominator is 0 -/
def topV (s : Bool) (l d : List Int) : Int := if val d = 0 then 0 else sI s l
def lowV (d : List Int) : Int := if val d = 0 then 1 else val d
theorem RA.tl {s : Bool} {l d : List Int} {q : Rat} {k : Nat} (h : RA s l d q k) (hl : Lim l) (hd : Lim d) :
    Rat.divInt (topV s l d) (lowV d) = q ∧ 0 < lowV d ∧ SzI (topV s l d) k ∧ SzN (lowV d) (k + 1) := by
  have h0 := val_nonneg hd
  have h1 := val_lt hd
  have h2 := natAbs_sI (n := s) hl
  have h3 := pow_mono h.hl
  have h4 := pow_mono (show d.length ≤ k + 1 from Nat.le_succ_of_le h.hd)
  have h5 := pow_pos' k
  have h6 : (4294967296 : Int) ^ (k + 1) = 4294967296 ^ k * 4294967296 := Int.pow_succ ..
  unfold topV lowV
  by_cases hz : val d = 0
  · rw [if_pos hz, if_pos hz]
    refine ⟨?_, by omega, ⟨by simpa using h5⟩, ⟨by omega, by omega⟩⟩
    rw [← h.v, hz, Rat.divInt_zero, Rat.zero_divInt]
  · rw [if_neg hz, if_neg hz]
    exact ⟨h.v, by omega, ⟨by omega⟩, ⟨h0, by omega⟩⟩
theorem divInt_sign {u v : Int} {n : Bool} (h : n = decide (u < 0)) : sN n (u.natAbs : Nat) = u := by
  subst h; unfold sN
  by_cases h : u < 0 <;> simp [h] <;> omega

section
variable {s s' : Bool} {l d l' d' : List Int} {x y : Rat} {k m : Nat}
theorem r3zero : Evals Tryz.prog 66 [] (ratD 0) := by
  refine evals_of_awp Tryz.func66 rfl (CallOK.of Tryz.func66 (by kernel_rfl) rfl) (Nat.le_of_ble_eq_true rfl) ?_
  rintro w R hR ⟨vs, hv⟩
  repeat' (first
    | (apply RunL.step; exact rfl; apply op_ev (τ := τ); exact rfl; (first | exact r3zero | exact r3top | exact r3low | exact r3reduce | exact r3norm | exact r3neg | exact r3sign | exact r3cmp | exact r3add | exact r3sub | exact r3mul | exact r3make | exact r3div | exact r3abs | exact r3floor | exact r3of _ _ | exact r2norm | exact r2make | exact r2sign | exact r2cmp | exact r2neg | exact r2add | exact r2sub | exact r2mul | exact r2div | exact r2div0 | exact r2of _ | exact r1norm | exact r1cmp | exact r1add | exact r1sub | exact r1mul | exact r1bits | exact r1divp | exact r1div | exact r1gcd | exact r1of _ | exact r1limb _ _); exact rfl) | (apply RunL.step; exact rfl; exact opA) | (apply RunL.hand; exact rfl; exact rfl; exact lenA; exact rfl) | (apply AWP.seq) | (apply AWP.region; exact rfl) | (apply AWP.block) | (apply AWP.skip) | (apply AWP.exit) | (apply AWP.retF; exact rfl; exact rfl; exact rfl; exact rfl; exact lenA; exact rfl) | (apply AWP.ret) | (apply RunL.nil) | (apply RunL.on; exact rfl; exact rfl; exact rfl; exact rfl; (first | exact rfl | assumption)) | (apply RunL.noU; exact rfl; exact rfl; exact rfl; exact rfl; exact rfl; exact rfl) | (apply RunL.no; exact rfl; exact rfl; exact rfl; exact rfl; (first | exact rfl | assumption); exact rfl; exact rfl) | (refine AWP.cond _ (Rd.of rfl) (fun hc => ?_) (fun hc => ?_) <;> first | (exfalso; cases hc; done) | (have hc' := hc; (try simp only [sc, reduceCtorEq, cmpOf] at hc'); try (exfalso; omega)))
    | (
     apply AWP.drawA
     repeat' (first
       | (apply DL.cons; (try (apply OpLoc.on; exact rfl; exact rfl; exact rfl; exact rfl; (first | exact rfl | assumption))); apply ol_ev (τ := τ); exact rfl; (first | exact r3zero | exact r3top | exact r3low | exact r3reduce | exact r3norm | exact r3neg | exact r3sign | exact r3cmp | exact r3add | exact r3sub | exact r3mul | exact r3make | exact r3div | exact r3abs | exact r3floor | exact r3of _ _ | exact r2norm | exact r2make | exact r2sign | exact r2cmp | exact r2neg | exact r2add | exact r2sub | exact r2mul | exact r2div | exact r2div0 | exact r2of _ | exact r1norm | exact r1cmp | exact r1add | exact r1sub | exact r1mul | exact r1bits | exact r1divp | exact r1div | exact r1gcd | exact r1of _ | exact r1limb _ _); exact rfl; exact rfl) | (apply DL.cons; exact olA; exact rfl) | (apply DL.nil; kernel_rfl) | (refine DL.split rfl rfl rfl rfl (fun hb => ?_) (fun hb => ?_) <;> have hb' := hb <;> (try simp only [sc, reduceCtorEq, cmpOf] at hb') <;> try (exfalso; omega)))
     all_goals (fail_if_success apply DL.id))
    | (refine RunL.split rfl rfl rfl rfl (fun hb => ?_) (fun hb => ?_) <;> have hb' := hb <;> (try simp only [sc, reduceCtorEq, cmpOf] at hb') <;> try (exfalso; omega)) )
  apply Ends.mk (.cons (.cellA (τ := τ) rfl rfl rfl rfl rfl) .nil)
  simp [pack, limbs_zero]
  rfl
theorem r3reduce {n : Bool} {l d : List Int} {u v : Int} {k m : Nat} [h : IA n l u k] [g : NA d v m] (hy : 0 < v := by first | assumption | omega) (hk : k + m ≤ 100000000000 := by first | omega | (simp only [List.length_cons, List.length_nil, List.length_set, List.length_replicate, List.length_append, List.length_take, List.length_drop]; omega)) : Evals Tryz.prog 68 [.agg [.bool n, .ints .u32 l], .ints .u32 d] (ratD (Rat.divInt u v)) := by
  refine evals_of_awp Tryz.func68 rfl (CallOK.of Tryz.func68 (by kernel_rfl) rfl) (Nat.le_of_ble_eq_true rfl) ?_
  rintro w R hR ⟨vs, hv⟩
  obtain ⟨hl, hl'⟩ := hv.sint 0 rfl
  obtain ⟨hd, hd'⟩ := hv.nat 1 rfl
  have l1 := h.hl
  have l2 := g.hl
  have s1 : SzI u l.length := by rw [← h.v]; exact SzI.sI hl'
  have s2 : SzN v d.length := by rw [← g.v]; exact SzN.val hd'
  have b0 := bitlen_eq_zero (show (0 : Int) ≤ u.natAbs by omega)
  have p1 : (0 : Int) < (Int.gcd (u.natAbs : Nat) v : Nat) := by
    have := Int.gcd_pos_of_ne_zero_right ((u.natAbs : Nat) : Int) (show v ≠ 0 by omega); omega
  repeat' (first
    | (apply RunL.step; exact rfl; apply op_ev (τ := τ); exact rfl; (first | exact r3zero | exact r3top | exact r3low | exact r3reduce | exact r3norm | exact r3neg | exact r3sign | exact r3cmp | exact r3add | exact r3sub | exact r3mul | exact r3make | exact r3div | exact r3abs | exact r3floor | exact r3of _ _ | exact r2norm | exact r2make | exact r2sign | exact r2cmp | exact r2neg | exact r2add | exact r2sub | exact r2mul | exact r2div | exact r2div0 | exact r2of _ | exact r1norm | exact r1cmp | exact r1add | exact r1sub | exact r1mul | exact r1bits | exact r1divp | exact r1div | exact r1gcd | exact r1of _ | exact r1limb _ _); exact rfl) | (apply RunL.step; exact rfl; exact opA) | (apply RunL.hand; exact rfl; exact rfl; exact lenA; exact rfl) | (apply AWP.seq) | (apply AWP.region; exact rfl) | (apply AWP.block) | (apply AWP.skip) | (apply AWP.exit) | (apply AWP.retF; exact rfl; exact rfl; exact rfl; exact rfl; exact lenA; exact rfl) | (apply AWP.ret) | (apply RunL.nil) | (apply RunL.on; exact rfl; exact rfl; exact rfl; exact rfl; (first | exact rfl | assumption)) | (apply RunL.noU; exact rfl; exact rfl; exact rfl; exact rfl; exact rfl; exact rfl) | (apply RunL.no; exact rfl; exact rfl; exact rfl; exact rfl; (first | exact rfl | assumption); exact rfl; exact rfl) | (refine AWP.cond _ (Rd.of rfl) (fun hc => ?_) (fun hc => ?_) <;> first | (exfalso; cases hc; done) | (have hc' := hc; (try simp only [sc, reduceCtorEq, cmpOf] at hc'); try (exfalso; omega)))
    | (
     apply AWP.drawA
     repeat' (first
       | (apply DL.cons; (try (apply OpLoc.on; exact rfl; exact rfl; exact rfl; exact rfl; (first | exact rfl | assumption))); apply ol_ev (τ := τ); exact rfl; (first | exact r3zero | exact r3top | exact r3low | exact r3reduce | exact r3norm | exact r3neg | exact r3sign | exact r3cmp | exact r3add | exact r3sub | exact r3mul | exact r3make | exact r3div | exact r3abs | exact r3floor | exact r3of _ _ | exact r2norm | exact r2make | exact r2sign | exact r2cmp | exact r2neg | exact r2add | exact r2sub | exact r2mul | exact r2div | exact r2div0 | exact r2of _ | exact r1norm | exact r1cmp | exact r1add | exact r1sub | exact r1mul | exact r1bits | exact r1divp | exact r1div | exact r1gcd | exact r1of _ | exact r1limb _ _); exact rfl; exact rfl) | (apply DL.cons; exact olA; exact rfl) | (apply DL.nil; kernel_rfl) | (refine DL.split rfl rfl rfl rfl (fun hb => ?_) (fun hb => ?_) <;> have hb' := hb <;> (try simp only [sc, reduceCtorEq, cmpOf] at hb') <;> try (exfalso; omega)))
     all_goals (fail_if_success apply DL.id))
    | (refine RunL.split rfl rfl rfl rfl (fun hb => ?_) (fun hb => ?_) <;> have hb' := hb <;> (try simp only [sc, reduceCtorEq, cmpOf] at hb') <;> try (exfalso; omega)) )
  · apply Ends.mk (.cons (.cellA (τ := τ) rfl rfl rfl rfl rfl) .nil)
    have : u = 0 := by omega
    subst this
    show ratD 0 = _
    rw [Rat.zero_divInt]
  · apply Ends.mk (.cons (.cellA (τ := τ) rfl rfl rfl rfl rfl) .nil)
    show D.agg [D.bool (decide (sN (decide (u < 0)) (((u.natAbs : Nat) : Int) / (Int.gcd (u.natAbs : Nat) v : Nat)) < 0)), D.ints .u32 (limbs (sN (decide (u < 0)) (((u.natAbs : Nat) : Int) / (Int.gcd (u.natAbs : Nat) v : Nat))).natAbs), D.ints .u32 (limbs (v / (Int.gcd (u.natAbs : Nat) v : Nat)))] = _
    obtain ⟨e1, e2⟩ := rat_of (u := u) (v := v) hy
    have e3 : Int.gcd (u.natAbs : Nat) v = Int.gcd v u := by simp [Int.gcd, Nat.gcd_comm]
    have e4 : sN (decide (u < 0)) (((u.natAbs : Nat) : Int) / (Int.gcd v u : Nat)) = u / (Int.gcd v u : Nat) := by
      have hg : ((Int.gcd v u : Nat) : Int) ∣ u := Int.gcd_dvd_right v u
      unfold sN
      by_cases h : u < 0
      · simp only [h, decide_true, if_true]
        rw [show ((u.natAbs : Nat) : Int) = -u by omega, Int.neg_ediv_of_dvd hg, Int.neg_neg]
      · simp only [h, decide_false]
        rw [show ((u.natAbs : Nat) : Int) = u by omega]
        rfl
    rw [e3, e4]
    unfold ratD
    rw [e1, e2]
theorem r3make {p q : Bool} {a b : List Int} {u v : Int} {i j : Nat} [h : IA p a u i] [h' : IA q b v j] (hk : i + j ≤ 10000000000 := by first | omega | (simp only [List.length_cons, List.length_nil, List.length_set, List.length_replicate, List.length_append, List.length_take, List.length_drop]; omega)) : Evals Tryz.prog 50 [.agg [.bool p, .ints .u32 a], .agg [.bool q, .ints .u32 b]] (.tup [ratD (Rat.divInt u v), .bool (decide (v ≠ 0))]) := by
  refine evals_of_awp Tryz.func50 rfl (CallOK.of Tryz.func50 (by kernel_rfl) rfl) (Nat.le_of_ble_eq_true rfl) ?_
  rintro w R hR ⟨vs, hv⟩
  obtain ⟨_, ha⟩ := hv.sint 0 rfl
  obtain ⟨_, hb⟩ := hv.sint 1 rfl
  have g1 := h.hl
  have g2 := h'.hl
  have s1 : SzI u a.length := by rw [← h.v]; exact SzI.sI ha
  have s2 : SzI v b.length := by rw [← h'.v]; exact SzI.sI hb
  have b0 := bitlen_eq_zero (show (0 : Int) ≤ v.natAbs by omega)
  have pz : v ≠ 0 → (0 : Int) < v.natAbs := by omega
  repeat' (first
    | (apply RunL.step; exact rfl; apply op_ev (τ := τ); exact rfl; (first | exact r3zero | exact r3top | exact r3low | exact r3reduce | exact r3norm | exact r3neg | exact r3sign | exact r3cmp | exact r3add | exact r3sub | exact r3mul | exact r3make | exact r3div | exact r3abs | exact r3floor | exact r3of _ _ | exact r2norm | exact r2make | exact r2sign | exact r2cmp | exact r2neg | exact r2add | exact r2sub | exact r2mul | exact r2div | exact r2div0 | exact r2of _ | exact r1norm | exact r1cmp | exact r1add | exact r1sub | exact r1mul | exact r1bits | exact r1divp | exact r1div | exact r1gcd | exact r1of _ | exact r1limb _ _); exact rfl) | (apply RunL.step; exact rfl; exact opA) | (apply RunL.hand; exact rfl; exact rfl; exact lenA; exact rfl) | (apply AWP.seq) | (apply AWP.region; exact rfl) | (apply AWP.block) | (apply AWP.skip) | (apply AWP.exit) | (apply AWP.retF; exact rfl; exact rfl; exact rfl; exact rfl; exact lenA; exact rfl) | (apply AWP.ret) | (apply RunL.nil) | (apply RunL.on; exact rfl; exact rfl; exact rfl; exact rfl; (first | exact rfl | assumption)) | (apply RunL.noU; exact rfl; exact rfl; exact rfl; exact rfl; exact rfl; exact rfl) | (apply RunL.no; exact rfl; exact rfl; exact rfl; exact rfl; (first | exact rfl | assumption); exact rfl; exact rfl) | (refine AWP.cond _ (Rd.of rfl) (fun hc => ?_) (fun hc => ?_) <;> first | (exfalso; cases hc; done) | (have hc' := hc; (try simp only [sc, reduceCtorEq, cmpOf] at hc'); try (exfalso; omega)))
    | (
     apply AWP.drawA
     repeat' (first
       | (apply DL.cons; (try (apply OpLoc.on; exact rfl; exact rfl; exact rfl; exact rfl; (first | exact rfl | assumption))); apply ol_ev (τ := τ); exact rfl; (first | exact r3zero | exact r3top | exact r3low | exact r3reduce | exact r3norm | exact r3neg | exact r3sign | exact r3cmp | exact r3add | exact r3sub | exact r3mul | exact r3make | exact r3div | exact r3abs | exact r3floor | exact r3of _ _ | exact r2norm | exact r2make | exact r2sign | exact r2cmp | exact r2neg | exact r2add | exact r2sub | exact r2mul | exact r2div | exact r2div0 | exact r2of _ | exact r1norm | exact r1cmp | exact r1add | exact r1sub | exact r1mul | exact r1bits | exact r1divp | exact r1div | exact r1gcd | exact r1of _ | exact r1limb _ _); exact rfl; exact rfl) | (apply DL.cons; exact olA; exact rfl) | (apply DL.nil; kernel_rfl) | (refine DL.split rfl rfl rfl rfl (fun hb => ?_) (fun hb => ?_) <;> have hb' := hb <;> (try simp only [sc, reduceCtorEq, cmpOf] at hb') <;> try (exfalso; omega)))
     all_goals (fail_if_success apply DL.id))
    | (refine RunL.split rfl rfl rfl rfl (fun hb => ?_) (fun hb => ?_) <;> have hb' := hb <;> (try simp only [sc, reduceCtorEq, cmpOf] at hb') <;> try (exfalso; omega)) )
  · apply Ends.mk (.cons (.cellA (τ := τ) rfl rfl rfl rfl rfl) (.cons (.tmp rfl) .nil))
    have h0 : v = 0 := by omega
    subst h0
    show D.tup [ratD 0, .bool false] = _
    simp only [Rat.divInt_zero, ne_eq, not_true, decide_false]
  · apply Ends.mk (.cons (.cellA (τ := τ) rfl rfl rfl rfl rfl) (.cons (.tmp rfl) .nil))
    show D.tup [ratD (Rat.divInt (-u) (v.natAbs : Nat)), .bool true] = _
    rw [decide_eq_true (show v ≠ 0 by omega), show ((v.natAbs : Nat) : Int) = -v by omega, Rat.divInt_neg', Int.neg_neg]
  · apply Ends.mk (.cons (.cellA (τ := τ) rfl rfl rfl rfl rfl) (.cons (.tmp rfl) .nil))
    show D.tup [ratD (Rat.divInt u (v.natAbs : Nat)), .bool true] = _
    rw [decide_eq_true (show v ≠ 0 by omega), show ((v.natAbs : Nat) : Int) = v by omega]
theorem r3of (a b : Int) : Evals Tryz.prog 30 [.int .i64 a, .int .i64 b] (.tup [ratD (Rat.divInt a b), .bool (decide (b ≠ 0))]) := by
  refine evals_of_awp Tryz.func30 rfl (CallOK.of Tryz.func30 (by kernel_rfl) rfl) (Nat.le_of_ble_eq_true rfl) ?_
  rintro w R hR ⟨vs, hv⟩
  have ha := hv.int 0 rfl
  have hb := hv.int 1 rfl
  simp [InR, IntKind.min, IntKind.max, IntKind.bits, IntKind.signed] at ha hb
  have s1 := SzI.i64 ha
  have s2 := SzI.i64 hb
  repeat' (first
    | (apply RunL.step; exact rfl; apply op_ev (τ := τ); exact rfl; (first | exact r3zero | exact r3top | exact r3low | exact r3reduce | exact r3norm | exact r3neg | exact r3sign | exact r3cmp | exact r3add | exact r3sub | exact r3mul | exact r3make | exact r3div | exact r3abs | exact r3floor | exact r3of _ _ | exact r2norm | exact r2make | exact r2sign | exact r2cmp | exact r2neg | exact r2add | exact r2sub | exact r2mul | exact r2div | exact r2div0 | exact r2of _ | exact r1norm | exact r1cmp | exact r1add | exact r1sub | exact r1mul | exact r1bits | exact r1divp | exact r1div | exact r1gcd | exact r1of _ | exact r1limb _ _); exact rfl) | (apply RunL.step; exact rfl; exact opA) | (apply RunL.hand; exact rfl; exact rfl; exact lenA; exact rfl) | (apply AWP.seq) | (apply AWP.region; exact rfl) | (apply AWP.block) | (apply AWP.skip) | (apply AWP.exit) | (apply AWP.retF; exact rfl; exact rfl; exact rfl; exact rfl; exact lenA; exact rfl) | (apply AWP.ret) | (apply RunL.nil) | (apply RunL.on; exact rfl; exact rfl; exact rfl; exact rfl; (first | exact rfl | assumption)) | (apply RunL.noU; exact rfl; exact rfl; exact rfl; exact rfl; exact rfl; exact rfl) | (apply RunL.no; exact rfl; exact rfl; exact rfl; exact rfl; (first | exact rfl | assumption); exact rfl; exact rfl) | (refine AWP.cond _ (Rd.of rfl) (fun hc => ?_) (fun hc => ?_) <;> first | (exfalso; cases hc; done) | (have hc' := hc; (try simp only [sc, reduceCtorEq, cmpOf] at hc'); try (exfalso; omega)))
    | (
     apply AWP.drawA
     repeat' (first
       | (apply DL.cons; (try (apply OpLoc.on; exact rfl; exact rfl; exact rfl; exact rfl; (first | exact rfl | assumption))); apply ol_ev (τ := τ); exact rfl; (first | exact r3zero | exact r3top | exact r3low | exact r3reduce | exact r3norm | exact r3neg | exact r3sign | exact r3cmp | exact r3add | exact r3sub | exact r3mul | exact r3make | exact r3div | exact r3abs | exact r3floor | exact r3of _ _ | exact r2norm | exact r2make | exact r2sign | exact r2cmp | exact r2neg | exact r2add | exact r2sub | exact r2mul | exact r2div | exact r2div0 | exact r2of _ | exact r1norm | exact r1cmp | exact r1add | exact r1sub | exact r1mul | exact r1bits | exact r1divp | exact r1div | exact r1gcd | exact r1of _ | exact r1limb _ _); exact rfl; exact rfl) | (apply DL.cons; exact olA; exact rfl) | (apply DL.nil; kernel_rfl) | (refine DL.split rfl rfl rfl rfl (fun hb => ?_) (fun hb => ?_) <;> have hb' := hb <;> (try simp only [sc, reduceCtorEq, cmpOf] at hb') <;> try (exfalso; omega)))
     all_goals (fail_if_success apply DL.id))
    | (refine RunL.split rfl rfl rfl rfl (fun hb => ?_) (fun hb => ?_) <;> have hb' := hb <;> (try simp only [sc, reduceCtorEq, cmpOf] at hb') <;> try (exfalso; omega)) )
  apply Ends.mk (.cons (.cellA (τ := τ) rfl rfl rfl rfl rfl) (.cons (.tmp rfl) .nil))
  rfl
end
end Go.Proofs.YtmefecfkajjajaaGreatDoor.K
