/- Walks: package ratio, the parts of a number, the normal form. -/
import Derived.Test.YtmefecfkajjajaaDoorRat
namespace Go.Proofs.YtmefecfkajjajaaDoor.K
open Go
set_option linter.unusedVariables false
set_option linter.unusedSimpArgs false

theorem HoldsAll.rat {R : Nat → Prop} {w : World} {ds : List D} {vs : Array Value} (i : Nat) {s : Bool} {l d : List Int} (h : HoldsAll R w ds vs) (hi : ds[i]? = some (.agg [.bool s, .ints .u32 l, .ints .u32 d])) : (l.length ≤ 9223372036854775807 ∧ Lim l) ∧ d.length ≤ 9223372036854775807 ∧ Lim d := by
  obtain ⟨us, hu⟩ := h.agg i hi
  exact ⟨hu.nat 1 rfl, hu.nat 2 rfl⟩

/-- the parts of a number: 0 and 1 if the denominator is 0 -/
def partS (s : Bool) (d : List Int) : Bool := if val d = 0 then false else s
def partL (l d : List Int) : List Int := if val d = 0 then [] else l
def partD (d : List Int) : List Int := if val d = 0 then limbs 1 else d

theorem cmpI_zero {x : Int} (h : 0 ≤ x) : (cmpI x 0 = 0) ↔ x = 0 := by unfold cmpI; split <;> (try split) <;> omega

theorem parts_ev (s : Bool) (l d : List Int) : Evals Tryd.prog 63 [.agg [.bool s, .ints .u32 l, .ints .u32 d]] (.tup [.agg [.bool (partS s d), .ints .u32 (partL l d)], .ints .u32 (partD d)]) := by
  refine evals_of_awp Tryd.func63 rfl (CallOK.of Tryd.func63 (by kernel_rfl) rfl) (Nat.le_of_ble_eq_true rfl) ?_
  rintro w R hR ⟨vs, hv⟩
  obtain ⟨⟨hl, hl'⟩, hd, hd'⟩ := hv.rat 0 rfl
  have vd := val_nonneg hd'
  have z := cmpI_zero vd
  have e0 : val [] = 0 := rfl
  repeat' (first
    | (apply RunL.step; exact rfl; apply op_ev (τ := τ); exact rfl; (first | exact cnorm | exact ctrim | exact ccmp | exact of_ev _ | exact cadd | exact csub | exact cmul | exact cdiv | exact cdiv0 | exact cgcd | exact cmake | exact cineg | exact cisign | exact cicmp | exact ciadd | exact cimul | exact cidiv | exact cidiv0 | exact iof_ev _); exact rfl) | (apply RunL.step; exact rfl; exact opA) | (apply RunL.hand; exact rfl; exact rfl; exact lenA; exact rfl) | (apply AWP.seq) | (apply AWP.region; exact rfl) | (apply AWP.block) | (apply AWP.skip) | (apply AWP.exit) | (apply AWP.retF; exact rfl; exact rfl; exact rfl; exact rfl; exact lenA; exact rfl) | (apply AWP.ret) | (apply RunL.nil) | (apply RunL.on; exact rfl; exact rfl; exact rfl; exact rfl; (first | exact rfl | assumption)) | (apply RunL.noU; exact rfl; exact rfl; exact rfl; exact rfl; exact rfl; exact rfl) | (apply RunL.no; exact rfl; exact rfl; exact rfl; exact rfl; (first | exact rfl | assumption); exact rfl; exact rfl) | (refine AWP.cond _ (Rd.of rfl) (fun hc => ?_) (fun hc => ?_) <;> first | (exfalso; cases hc; done) | (have hc' := hc; (try simp only [sc, reduceCtorEq, cmpOf] at hc'); try (exfalso; omega)))
    | (
     apply AWP.drawA
     repeat' (first
       | (apply DL.cons; (try (apply OpLoc.on; exact rfl; exact rfl; exact rfl; exact rfl; (first | exact rfl | assumption))); apply ol_ev (τ := τ); exact rfl; (first | exact cnorm | exact ctrim | exact ccmp | exact of_ev _ | exact cadd | exact csub | exact cmul | exact cdiv | exact cdiv0 | exact cgcd | exact cmake | exact cineg | exact cisign | exact cicmp | exact ciadd | exact cimul | exact cidiv | exact cidiv0 | exact iof_ev _); exact rfl; exact rfl) | (apply DL.cons; exact olA; exact rfl) | (apply DL.nil; kernel_rfl) | (refine DL.split rfl rfl rfl rfl (fun hb => ?_) (fun hb => ?_) <;> have hb' := hb <;> (try simp only [sc, reduceCtorEq, cmpOf] at hb') <;> try (exfalso; omega)))
     all_goals (fail_if_success apply DL.id))
    | (refine RunL.split rfl rfl rfl rfl (fun hb => ?_) (fun hb => ?_) <;> have hb' := hb <;> (try simp only [sc, reduceCtorEq, cmpOf] at hb') <;> try (exfalso; omega)) )
  · rw [e0] at hc'
    have h0 : val d = 0 := z.1 hc'
    apply Ends.mk (.cons (.cellA (τ := τ) rfl rfl rfl rfl rfl) (.cons (.tmp rfl) .nil))
    simp only [pack, partS, partL, partD, h0, if_true]
    rfl
  · rw [e0] at hc'
    have h0 : val d ≠ 0 := fun h => hc' (z.2 h)
    apply Ends.mk (.cons (.cellA (τ := τ) rfl rfl rfl rfl rfl) (.cons (.tmp rfl) .nil))
    simp only [pack, partS, partL, partD, if_neg h0]
    rfl

/-- what is to be known of the parts -/
theorem part_facts {s : Bool} {l d : List Int} (hl : Lim l) (hd : Lim d) : Lim (partL l d) ∧ Lim (partD d) ∧ 0 < val (partD d) ∧ (partL l d).length ≤ l.length ∧ (partD d).length ≤ d.length + 1 ∧ Rat.divInt (sI (partS s d) (partL l d)) (val (partD d)) = Rat.divInt (sI s l) (val d) := by
  have h0 := val_nonneg hd
  unfold partL partD partS
  by_cases h : val d = 0
  · simp only [h, if_true]
    refine ⟨Lim.nil, Lim.limbs 1, by rw [val_limbs (by omega)]; omega, by simp, ?_, ?_⟩
    · have := limbs_length_le (n := 1) (k := 1) (by omega); omega
    · rw [Rat.divInt_zero]; simp [sI, val]
  · simp only [if_neg h]
    exact ⟨hl, hd, by omega, Nat.le_refl _, by omega, by first | rfl | trivial⟩

theorem zero_ev : Evals Tryd.prog 86 [] (ratD 0) := by
  refine evals_of_awp Tryd.func86 rfl (CallOK.of Tryd.func86 (by kernel_rfl) rfl) (Nat.le_of_ble_eq_true rfl) ?_
  rintro w R hR ⟨vs, hv⟩
  repeat' (first
    | (apply RunL.step; exact rfl; apply op_ev (τ := τ); exact rfl; (first | exact cnorm | exact ctrim | exact ccmp | exact of_ev _ | exact cadd | exact csub | exact cmul | exact cdiv | exact cdiv0 | exact cgcd | exact cmake | exact cineg | exact cisign | exact cicmp | exact ciadd | exact cimul | exact cidiv | exact cidiv0 | exact iof_ev _); exact rfl) | (apply RunL.step; exact rfl; exact opA) | (apply RunL.hand; exact rfl; exact rfl; exact lenA; exact rfl) | (apply AWP.seq) | (apply AWP.region; exact rfl) | (apply AWP.block) | (apply AWP.skip) | (apply AWP.exit) | (apply AWP.retF; exact rfl; exact rfl; exact rfl; exact rfl; exact lenA; exact rfl) | (apply AWP.ret) | (apply RunL.nil) | (apply RunL.on; exact rfl; exact rfl; exact rfl; exact rfl; (first | exact rfl | assumption)) | (apply RunL.noU; exact rfl; exact rfl; exact rfl; exact rfl; exact rfl; exact rfl) | (apply RunL.no; exact rfl; exact rfl; exact rfl; exact rfl; (first | exact rfl | assumption); exact rfl; exact rfl) | (refine AWP.cond _ (Rd.of rfl) (fun hc => ?_) (fun hc => ?_) <;> first | (exfalso; cases hc; done) | (have hc' := hc; (try simp only [sc, reduceCtorEq, cmpOf] at hc'); try (exfalso; omega)))
    | (
     apply AWP.drawA
     repeat' (first
       | (apply DL.cons; (try (apply OpLoc.on; exact rfl; exact rfl; exact rfl; exact rfl; (first | exact rfl | assumption))); apply ol_ev (τ := τ); exact rfl; (first | exact cnorm | exact ctrim | exact ccmp | exact of_ev _ | exact cadd | exact csub | exact cmul | exact cdiv | exact cdiv0 | exact cgcd | exact cmake | exact cineg | exact cisign | exact cicmp | exact ciadd | exact cimul | exact cidiv | exact cidiv0 | exact iof_ev _); exact rfl; exact rfl) | (apply DL.cons; exact olA; exact rfl) | (apply DL.nil; kernel_rfl) | (refine DL.split rfl rfl rfl rfl (fun hb => ?_) (fun hb => ?_) <;> have hb' := hb <;> (try simp only [sc, reduceCtorEq, cmpOf] at hb') <;> try (exfalso; omega)))
     all_goals (fail_if_success apply DL.id))
    | (refine RunL.split rfl rfl rfl rfl (fun hb => ?_) (fun hb => ?_) <;> have hb' := hb <;> (try simp only [sc, reduceCtorEq, cmpOf] at hb') <;> try (exfalso; omega)) )
  apply Ends.mk (.cons (.cellA (τ := τ) rfl rfl rfl rfl rfl) .nil)
  simp [pack, limbs_zero]
  rfl
theorem whole_ev {l : List Int} {x : Int} {k : Nat} [h : NA l x k] (hk : k ≤ 70368744177663 := by first | omega | (simp only [List.length_cons, List.length_nil, List.length_set, List.length_replicate, List.length_append, List.length_take, List.length_drop]; omega)) : Evals Tryd.prog 66 [.ints .u32 l] (intD x) := by
  refine evals_of_awp Tryd.func66 rfl (CallOK.of Tryd.func66 (by kernel_rfl) rfl) (Nat.le_of_ble_eq_true rfl) ?_
  rintro w R hR ⟨vs, hv⟩
  have := h.hl
  repeat' (first
    | (apply RunL.step; exact rfl; apply op_ev (τ := τ); exact rfl; (first | exact cnorm | exact ctrim | exact ccmp | exact of_ev _ | exact cadd | exact csub | exact cmul | exact cdiv | exact cdiv0 | exact cgcd | exact cmake | exact cineg | exact cisign | exact cicmp | exact ciadd | exact cimul | exact cidiv | exact cidiv0 | exact iof_ev _); exact rfl) | (apply RunL.step; exact rfl; exact opA) | (apply RunL.hand; exact rfl; exact rfl; exact lenA; exact rfl) | (apply AWP.seq) | (apply AWP.region; exact rfl) | (apply AWP.block) | (apply AWP.skip) | (apply AWP.exit) | (apply AWP.retF; exact rfl; exact rfl; exact rfl; exact rfl; exact lenA; exact rfl) | (apply AWP.ret) | (apply RunL.nil) | (apply RunL.on; exact rfl; exact rfl; exact rfl; exact rfl; (first | exact rfl | assumption)) | (apply RunL.noU; exact rfl; exact rfl; exact rfl; exact rfl; exact rfl; exact rfl) | (apply RunL.no; exact rfl; exact rfl; exact rfl; exact rfl; (first | exact rfl | assumption); exact rfl; exact rfl) | (refine AWP.cond _ (Rd.of rfl) (fun hc => ?_) (fun hc => ?_) <;> first | (exfalso; cases hc; done) | (have hc' := hc; (try simp only [sc, reduceCtorEq, cmpOf] at hc'); try (exfalso; omega)))
    | (
     apply AWP.drawA
     repeat' (first
       | (apply DL.cons; (try (apply OpLoc.on; exact rfl; exact rfl; exact rfl; exact rfl; (first | exact rfl | assumption))); apply ol_ev (τ := τ); exact rfl; (first | exact cnorm | exact ctrim | exact ccmp | exact of_ev _ | exact cadd | exact csub | exact cmul | exact cdiv | exact cdiv0 | exact cgcd | exact cmake | exact cineg | exact cisign | exact cicmp | exact ciadd | exact cimul | exact cidiv | exact cidiv0 | exact iof_ev _); exact rfl; exact rfl) | (apply DL.cons; exact olA; exact rfl) | (apply DL.nil; kernel_rfl) | (refine DL.split rfl rfl rfl rfl (fun hb => ?_) (fun hb => ?_) <;> have hb' := hb <;> (try simp only [sc, reduceCtorEq, cmpOf] at hb') <;> try (exfalso; omega)))
     all_goals (fail_if_success apply DL.id))
    | (refine RunL.split rfl rfl rfl rfl (fun hb => ?_) (fun hb => ?_) <;> have hb' := hb <;> (try simp only [sc, reduceCtorEq, cmpOf] at hb') <;> try (exfalso; omega)) )
  apply Ends.mk (.cons (.cellA (τ := τ) rfl rfl rfl rfl rfl) .nil)
  show intD (sI false l) = _
  rw [sI_false, h.v]

theorem sN_div {n : Bool} {l : List Int} {g : Nat} (hl : Lim l) (hg : (g : Int) ∣ val l) : sN n (val l / g) = sI n l / g := by
  cases n
  · simp [sI, sN]
  · simp [sI, sN, Int.neg_ediv_of_dvd hg]
theorem gcd_sI (n : Bool) (l : List Int) (y : Int) : Int.gcd y (sI n l) = Int.gcd (val l) y := by
  cases n
  · simp [sI, Int.gcd_comm]
  · simp [sI, Int.gcd_neg, Int.gcd_comm]
theorem reduce_ev {n : Bool} {l d : List Int} {x y : Int} {k m : Nat} [h : IA n l x k] [g : NA d y m] (hy : 0 < y := by first | assumption | omega) (hk : k + m ≤ 1000000000000 := by first | omega | (simp only [List.length_cons, List.length_nil, List.length_set, List.length_replicate, List.length_append, List.length_take, List.length_drop]; omega)) : Evals Tryd.prog 69 [.agg [.bool n, .ints .u32 l], .ints .u32 d] (ratD (Rat.divInt x y)) := by
  refine evals_of_awp Tryd.func69 rfl (CallOK.of Tryd.func69 (by kernel_rfl) rfl) (Nat.le_of_ble_eq_true rfl) ?_
  rintro w R hR ⟨vs, hv⟩
  obtain ⟨hl, hl'⟩ := hv.sint 0 rfl
  obtain ⟨hd, hd'⟩ := hv.nat 1 rfl
  have := h.hl
  have := g.hl
  have s1 := SzN.val hl'
  have s2 := SzN.val hd'
  have hv1 := h.v
  have hv2 := g.v
  have p1 : (0 : Int) < (Int.gcd (val l) (val d) : Nat) := by
    have := Int.gcd_pos_of_ne_zero_right (val l) (show val d ≠ 0 by omega); omega
  clear h g
  repeat' (first
    | (apply RunL.step; exact rfl; apply op_ev (τ := τ); exact rfl; (first | exact cnorm | exact ctrim | exact ccmp | exact of_ev _ | exact cadd | exact csub | exact cmul | exact cdiv | exact cdiv0 | exact cgcd | exact cmake | exact cineg | exact cisign | exact cicmp | exact ciadd | exact cimul | exact cidiv | exact cidiv0 | exact iof_ev _); exact rfl) | (apply RunL.step; exact rfl; exact opA) | (apply RunL.hand; exact rfl; exact rfl; exact lenA; exact rfl) | (apply AWP.seq) | (apply AWP.region; exact rfl) | (apply AWP.block) | (apply AWP.skip) | (apply AWP.exit) | (apply AWP.retF; exact rfl; exact rfl; exact rfl; exact rfl; exact lenA; exact rfl) | (apply AWP.ret) | (apply RunL.nil) | (apply RunL.on; exact rfl; exact rfl; exact rfl; exact rfl; (first | exact rfl | assumption)) | (apply RunL.noU; exact rfl; exact rfl; exact rfl; exact rfl; exact rfl; exact rfl) | (apply RunL.no; exact rfl; exact rfl; exact rfl; exact rfl; (first | exact rfl | assumption); exact rfl; exact rfl) | (refine AWP.cond _ (Rd.of rfl) (fun hc => ?_) (fun hc => ?_) <;> first | (exfalso; cases hc; done) | (have hc' := hc; (try simp only [sc, reduceCtorEq, cmpOf] at hc'); try (exfalso; omega)))
    | (
     apply AWP.drawA
     repeat' (first
       | (apply DL.cons; (try (apply OpLoc.on; exact rfl; exact rfl; exact rfl; exact rfl; (first | exact rfl | assumption))); apply ol_ev (τ := τ); exact rfl; (first | exact cnorm | exact ctrim | exact ccmp | exact of_ev _ | exact cadd | exact csub | exact cmul | exact cdiv | exact cdiv0 | exact cgcd | exact cmake | exact cineg | exact cisign | exact cicmp | exact ciadd | exact cimul | exact cidiv | exact cidiv0 | exact iof_ev _); exact rfl; exact rfl) | (apply DL.cons; exact olA; exact rfl) | (apply DL.nil; kernel_rfl) | (refine DL.split rfl rfl rfl rfl (fun hb => ?_) (fun hb => ?_) <;> have hb' := hb <;> (try simp only [sc, reduceCtorEq, cmpOf] at hb') <;> try (exfalso; omega)))
     all_goals (fail_if_success apply DL.id))
    | (refine RunL.split rfl rfl rfl rfl (fun hb => ?_) (fun hb => ?_) <;> have hb' := hb <;> (try simp only [sc, reduceCtorEq, cmpOf] at hb') <;> try (exfalso; omega)) )
  apply Ends.mk (.cons (.cellA (τ := τ) rfl rfl rfl rfl rfl) .nil)
  show D.agg [D.bool (decide (sN n (val l / (Int.gcd (val l) (val d) : Nat)) < 0)), D.ints .u32 (limbs (sN n (val l / (Int.gcd (val l) (val d) : Nat))).natAbs), D.ints .u32 (limbs (val d / (Int.gcd (val l) (val d) : Nat)))] = _
  obtain ⟨e1, e2⟩ := rat_of (u := x) (v := y) hy
  rw [sN_div hl' (Int.gcd_dvd_left _ _)]
  unfold ratD
  rw [e1, e2, ← hv1, ← hv2, gcd_sI]
end Go.Proofs.YtmefecfkajjajaaDoor.K
namespace Go.Proofs.YtmefecfkajjajaaDoor.K
open Go
set_option linter.unusedVariables false
set_option linter.unusedSimpArgs false

/-- the parts of a number in any form, by its value -/
theorem RA.part {s : Bool} {l d : List Int} {q : Rat} {k : Nat} (h : RA s l d q k) (hl : Lim l) (hd : Lim d) :
    Rat.divInt (sI (partS s d) (partL l d)) (val (partD d)) = q ∧ 0 < val (partD d) ∧ (partL l d).length ≤ k ∧ (partD d).length ≤ k + 1 ∧ (∀ b, SzI (sI b (partL l d)) (partL l d).length) ∧ SzN (val (partD d)) (partD d).length ∧ SzN (val (partL l d)) (partL l d).length := by
  obtain ⟨h1, h2, h3, h4, h5, h6⟩ := part_facts (s := s) hl hd
  have := h.hl
  have := h.hd
  exact ⟨h6.trans h.v, h3, by omega, by omega, fun b => SzI.sI h1, SzN.val h2, SzN.val h1⟩

theorem sI_ne (p q : Bool) (a b : List Int) : Rat.divInt (sI (p != q) a) (val b) = Rat.divInt (sI p a) (sI q b) := by
  cases p <;> cases q <;> simp only [sI, bne_self_eq_false, Bool.false_eq_true, if_false, if_true, Bool.true_bne, Bool.false_bne, Bool.not_false, Bool.not_true, Rat.divInt_neg', Int.neg_neg] <;> rfl
theorem abs_divInt {n : Bool} {l : List Int} {v : Int} (hv : 0 < v) (hl : 0 ≤ val l) : Rat.divInt (val l) v = if Rat.divInt (sI n l) v < 0 then -(Rat.divInt (sI n l) v) else Rat.divInt (sI n l) v := by
  have key : ∀ u : Int, (Rat.divInt u v < 0 ↔ u < 0) := fun u => by
    have := Rat.divInt_nonneg_iff_of_pos_right (a := u) hv
    rw [← Rat.not_le, this]; omega
  rw [Rat.neg_divInt]
  simp only [key]
  cases n
  · simp only [sI, Bool.false_eq_true, if_false]
    rw [if_neg (by omega)]
  · simp only [sI, if_true, Int.neg_neg]
    split
    · rfl
    · have : val l = 0 := by omega
      rw [this]; rfl
theorem div_divInt {a b c d : Int} (hb : 0 < b) (hd : 0 < d) : Rat.divInt (a * d) (c * b) = Rat.divInt a b / Rat.divInt c d := by
  rw [Rat.div_def, Rat.inv_divInt, Rat.divInt_mul_divInt, Int.mul_comm b c]
theorem div_zero {b c d : Int} (hb : 0 < b) (hd : 0 < d) : c * b ≠ 0 ↔ Rat.divInt c d ≠ 0 := by
  have : Rat.divInt c d = 0 ↔ c = 0 := by
    rw [show (0 : Rat) = Rat.divInt 0 1 from rfl, Rat.divInt_eq_divInt_iff (by omega) (by omega)]; omega
  rw [ne_eq, ne_eq, this, Int.mul_eq_zero]; omega
theorem floor_divInt {a b : Int} (hb : 0 < b) : (Rat.divInt a b).floor = Int.fdiv a b := by
  rw [Int.fdiv_eq_ediv_of_nonneg _ (by omega), Rat.floor_def, (rat_of hb).1, (rat_of (u := a) hb).2]
  have hg : (0 : Int) < (Int.gcd b a : Nat) := by
    have := Int.gcd_pos_of_ne_zero_left a (show b ≠ 0 by omega); omega
  obtain ⟨u, hu⟩ := Int.gcd_dvd_right b a
  obtain ⟨v, hv⟩ := Int.gcd_dvd_left b a
  generalize (Int.gcd b a : Nat) = g at *
  subst hu hv
  rw [Int.mul_ediv_cancel_left _ (by omega), Int.mul_ediv_cancel_left _ (by omega), Int.mul_ediv_mul_of_pos _ _ hg]

section
variable {s s' : Bool} {l d l' d' : List Int} {x y : Rat} {k m : Nat}
theorem rnorm [h : RA s l d x k] (hk : k ≤ 100000000000 := by first | omega | (simp only [List.length_cons, List.length_nil, List.length_set, List.length_replicate, List.length_append, List.length_take, List.length_drop]; omega)) : Evals Tryd.prog 55 [.agg [.bool s, .ints .u32 l, .ints .u32 d]] (ratD x) := by
  refine evals_of_awp Tryd.func55 rfl (CallOK.of Tryd.func55 (by kernel_rfl) rfl) (Nat.le_of_ble_eq_true rfl) ?_
  rintro w R hR ⟨vs, hv⟩
  obtain ⟨⟨_, hl⟩, _, hd⟩ := hv.rat 0 rfl
  obtain ⟨a1, a2, a3, a4, a5, a6, a7⟩ := h.part hl hd
  clear h
  repeat' (first
    | (apply RunL.step; exact rfl; apply op_ev (τ := τ); exact rfl; (first | exact parts_ev _ _ _ | exact zero_ev | exact whole_ev | exact reduce_ev | exact rnorm | exact rneg | exact rsign | exact rcmp | exact radd | exact rsub | exact rmul | exact rmake | exact rdiv | exact rabs | exact rfloor | exact rof _ _ | exact cnorm | exact ctrim | exact ccmp | exact of_ev _ | exact cadd | exact csub | exact cmul | exact cdiv | exact cdiv0 | exact cgcd | exact cmake | exact cineg | exact cisign | exact cicmp | exact ciadd | exact cimul | exact cidiv | exact cidiv0 | exact iof_ev _); exact rfl) | (apply RunL.step; exact rfl; exact opA) | (apply RunL.hand; exact rfl; exact rfl; exact lenA; exact rfl) | (apply AWP.seq) | (apply AWP.region; exact rfl) | (apply AWP.block) | (apply AWP.skip) | (apply AWP.exit) | (apply AWP.retF; exact rfl; exact rfl; exact rfl; exact rfl; exact lenA; exact rfl) | (apply AWP.ret) | (apply RunL.nil) | (apply RunL.on; exact rfl; exact rfl; exact rfl; exact rfl; (first | exact rfl | assumption)) | (apply RunL.noU; exact rfl; exact rfl; exact rfl; exact rfl; exact rfl; exact rfl) | (apply RunL.no; exact rfl; exact rfl; exact rfl; exact rfl; (first | exact rfl | assumption); exact rfl; exact rfl) | (refine AWP.cond _ (Rd.of rfl) (fun hc => ?_) (fun hc => ?_) <;> first | (exfalso; cases hc; done) | (have hc' := hc; (try simp only [sc, reduceCtorEq, cmpOf] at hc'); try (exfalso; omega)))
    | (
     apply AWP.drawA
     repeat' (first
       | (apply DL.cons; (try (apply OpLoc.on; exact rfl; exact rfl; exact rfl; exact rfl; (first | exact rfl | assumption))); apply ol_ev (τ := τ); exact rfl; (first | exact parts_ev _ _ _ | exact zero_ev | exact whole_ev | exact reduce_ev | exact rnorm | exact rneg | exact rsign | exact rcmp | exact radd | exact rsub | exact rmul | exact rmake | exact rdiv | exact rabs | exact rfloor | exact rof _ _ | exact cnorm | exact ctrim | exact ccmp | exact of_ev _ | exact cadd | exact csub | exact cmul | exact cdiv | exact cdiv0 | exact cgcd | exact cmake | exact cineg | exact cisign | exact cicmp | exact ciadd | exact cimul | exact cidiv | exact cidiv0 | exact iof_ev _); exact rfl; exact rfl) | (apply DL.cons; exact olA; exact rfl) | (apply DL.nil; kernel_rfl) | (refine DL.split rfl rfl rfl rfl (fun hb => ?_) (fun hb => ?_) <;> have hb' := hb <;> (try simp only [sc, reduceCtorEq, cmpOf] at hb') <;> try (exfalso; omega)))
     all_goals (fail_if_success apply DL.id))
    | (refine RunL.split rfl rfl rfl rfl (fun hb => ?_) (fun hb => ?_) <;> have hb' := hb <;> (try simp only [sc, reduceCtorEq, cmpOf] at hb') <;> try (exfalso; omega)) )
  apply Ends.mk (.cons (.cellA (τ := τ) rfl rfl rfl rfl rfl) .nil)
  show ratD _ = ratD _
  rw [a1]
theorem rcmp [h : RA s l d x k] [h' : RA s' l' d' y m] (hk : k + m ≤ 100000000000 := by first | omega | (simp only [List.length_cons, List.length_nil, List.length_set, List.length_replicate, List.length_append, List.length_take, List.length_drop]; omega)) : Evals Tryd.prog 40 [.agg [.bool s, .ints .u32 l, .ints .u32 d], .agg [.bool s', .ints .u32 l', .ints .u32 d']] (.int .i64 (cmpQ x y)) := by
  refine evals_of_awp Tryd.func40 rfl (CallOK.of Tryd.func40 (by kernel_rfl) rfl) (Nat.le_of_ble_eq_true rfl) ?_
  rintro w R hR ⟨vs, hv⟩
  obtain ⟨⟨_, hl⟩, _, hd⟩ := hv.rat 0 rfl
  obtain ⟨a1, a2, a3, a4, a5, a6, a7⟩ := h.part hl hd
  obtain ⟨⟨_, hl'⟩, _, hd'⟩ := hv.rat 1 rfl
  obtain ⟨b1, b2, b3, b4, b5, b6, b7⟩ := h'.part hl' hd'
  clear h h'
  repeat' (first
    | (apply RunL.step; exact rfl; apply op_ev (τ := τ); exact rfl; (first | exact parts_ev _ _ _ | exact zero_ev | exact whole_ev | exact reduce_ev | exact rnorm | exact rneg | exact rsign | exact rcmp | exact radd | exact rsub | exact rmul | exact rmake | exact rdiv | exact rabs | exact rfloor | exact rof _ _ | exact cnorm | exact ctrim | exact ccmp | exact of_ev _ | exact cadd | exact csub | exact cmul | exact cdiv | exact cdiv0 | exact cgcd | exact cmake | exact cineg | exact cisign | exact cicmp | exact ciadd | exact cimul | exact cidiv | exact cidiv0 | exact iof_ev _); exact rfl) | (apply RunL.step; exact rfl; exact opA) | (apply RunL.hand; exact rfl; exact rfl; exact lenA; exact rfl) | (apply AWP.seq) | (apply AWP.region; exact rfl) | (apply AWP.block) | (apply AWP.skip) | (apply AWP.exit) | (apply AWP.retF; exact rfl; exact rfl; exact rfl; exact rfl; exact lenA; exact rfl) | (apply AWP.ret) | (apply RunL.nil) | (apply RunL.on; exact rfl; exact rfl; exact rfl; exact rfl; (first | exact rfl | assumption)) | (apply RunL.noU; exact rfl; exact rfl; exact rfl; exact rfl; exact rfl; exact rfl) | (apply RunL.no; exact rfl; exact rfl; exact rfl; exact rfl; (first | exact rfl | assumption); exact rfl; exact rfl) | (refine AWP.cond _ (Rd.of rfl) (fun hc => ?_) (fun hc => ?_) <;> first | (exfalso; cases hc; done) | (have hc' := hc; (try simp only [sc, reduceCtorEq, cmpOf] at hc'); try (exfalso; omega)))
    | (
     apply AWP.drawA
     repeat' (first
       | (apply DL.cons; (try (apply OpLoc.on; exact rfl; exact rfl; exact rfl; exact rfl; (first | exact rfl | assumption))); apply ol_ev (τ := τ); exact rfl; (first | exact parts_ev _ _ _ | exact zero_ev | exact whole_ev | exact reduce_ev | exact rnorm | exact rneg | exact rsign | exact rcmp | exact radd | exact rsub | exact rmul | exact rmake | exact rdiv | exact rabs | exact rfloor | exact rof _ _ | exact cnorm | exact ctrim | exact ccmp | exact of_ev _ | exact cadd | exact csub | exact cmul | exact cdiv | exact cdiv0 | exact cgcd | exact cmake | exact cineg | exact cisign | exact cicmp | exact ciadd | exact cimul | exact cidiv | exact cidiv0 | exact iof_ev _); exact rfl; exact rfl) | (apply DL.cons; exact olA; exact rfl) | (apply DL.nil; kernel_rfl) | (refine DL.split rfl rfl rfl rfl (fun hb => ?_) (fun hb => ?_) <;> have hb' := hb <;> (try simp only [sc, reduceCtorEq, cmpOf] at hb') <;> try (exfalso; omega)))
     all_goals (fail_if_success apply DL.id))
    | (refine RunL.split rfl rfl rfl rfl (fun hb => ?_) (fun hb => ?_) <;> have hb' := hb <;> (try simp only [sc, reduceCtorEq, cmpOf] at hb') <;> try (exfalso; omega)) )
  apply Ends.mk (.cons (.tmp rfl) .nil)
  show D.int .i64 _ = D.int .i64 _
  have := cmpQ_divInt (a := sI (partS s d) (partL l d)) (c := sI (partS s' d') (partL l' d')) a2 b2
  rw [a1, b1] at this
  rw [this]
theorem rmake {p q : Bool} {a b : List Int} {u v : Int} {i j : Nat} [h : IA p a u i] [h' : IA q b v j] (hk : i + j ≤ 100000000000 := by first | omega | (simp only [List.length_cons, List.length_nil, List.length_set, List.length_replicate, List.length_append, List.length_take, List.length_drop]; omega)) : Evals Tryd.prog 75 [.agg [.bool p, .ints .u32 a], .agg [.bool q, .ints .u32 b]] (.tup [ratD (Rat.divInt u v), .bool (decide (v ≠ 0))]) := by
  refine evals_of_awp Tryd.func75 rfl (CallOK.of Tryd.func75 (by kernel_rfl) rfl) (Nat.le_of_ble_eq_true rfl) ?_
  rintro w R hR ⟨vs, hv⟩
  obtain ⟨_, ha⟩ := hv.sint 0 rfl
  obtain ⟨_, hb⟩ := hv.sint 1 rfl
  have e1 := h.v
  have e2 := h'.v
  have g1 := h.hl
  have g2 := h'.hl
  have s1 : ∀ n, SzI (sI n a) a.length := fun n => SzI.sI ha
  have s2 := SzN.val hb
  have vb := val_nonneg hb
  have z := cmpI_cases v 0
  have z2 : v = 0 ↔ val b = 0 := by rw [← e2]; unfold sI; split <;> omega
  clear h
  repeat' (first
    | (apply RunL.step; exact rfl; apply op_ev (τ := τ); exact rfl; (first | exact parts_ev _ _ _ | exact zero_ev | exact whole_ev | exact reduce_ev | exact rnorm | exact rneg | exact rsign | exact rcmp | exact radd | exact rsub | exact rmul | exact rmake | exact rdiv | exact rabs | exact rfloor | exact rof _ _ | exact cnorm | exact ctrim | exact ccmp | exact of_ev _ | exact cadd | exact csub | exact cmul | exact cdiv | exact cdiv0 | exact cgcd | exact cmake | exact cineg | exact cisign | exact cicmp | exact ciadd | exact cimul | exact cidiv | exact cidiv0 | exact iof_ev _); exact rfl) | (apply RunL.step; exact rfl; exact opA) | (apply RunL.hand; exact rfl; exact rfl; exact lenA; exact rfl) | (apply AWP.seq) | (apply AWP.region; exact rfl) | (apply AWP.block) | (apply AWP.skip) | (apply AWP.exit) | (apply AWP.retF; exact rfl; exact rfl; exact rfl; exact rfl; exact lenA; exact rfl) | (apply AWP.ret) | (apply RunL.nil) | (apply RunL.on; exact rfl; exact rfl; exact rfl; exact rfl; (first | exact rfl | assumption)) | (apply RunL.noU; exact rfl; exact rfl; exact rfl; exact rfl; exact rfl; exact rfl) | (apply RunL.no; exact rfl; exact rfl; exact rfl; exact rfl; (first | exact rfl | assumption); exact rfl; exact rfl) | (refine AWP.cond _ (Rd.of rfl) (fun hc => ?_) (fun hc => ?_) <;> first | (exfalso; cases hc; done) | (have hc' := hc; (try simp only [sc, reduceCtorEq, cmpOf] at hc'); try (exfalso; omega)))
    | (
     apply AWP.drawA
     repeat' (first
       | (apply DL.cons; (try (apply OpLoc.on; exact rfl; exact rfl; exact rfl; exact rfl; (first | exact rfl | assumption))); apply ol_ev (τ := τ); exact rfl; (first | exact parts_ev _ _ _ | exact zero_ev | exact whole_ev | exact reduce_ev | exact rnorm | exact rneg | exact rsign | exact rcmp | exact radd | exact rsub | exact rmul | exact rmake | exact rdiv | exact rabs | exact rfloor | exact rof _ _ | exact cnorm | exact ctrim | exact ccmp | exact of_ev _ | exact cadd | exact csub | exact cmul | exact cdiv | exact cdiv0 | exact cgcd | exact cmake | exact cineg | exact cisign | exact cicmp | exact ciadd | exact cimul | exact cidiv | exact cidiv0 | exact iof_ev _); exact rfl; exact rfl) | (apply DL.cons; exact olA; exact rfl) | (apply DL.nil; kernel_rfl) | (refine DL.split rfl rfl rfl rfl (fun hb => ?_) (fun hb => ?_) <;> have hb' := hb <;> (try simp only [sc, reduceCtorEq, cmpOf] at hb') <;> try (exfalso; omega)))
     all_goals (fail_if_success apply DL.id))
    | (refine RunL.split rfl rfl rfl rfl (fun hb => ?_) (fun hb => ?_) <;> have hb' := hb <;> (try simp only [sc, reduceCtorEq, cmpOf] at hb') <;> try (exfalso; omega)) )
  · apply Ends.mk (.cons (.cellA (τ := τ) rfl rfl rfl rfl rfl) (.cons (.tmp rfl) .nil))
    have h0 : v = 0 := by omega
    subst h0
    show D.tup [ratD 0, .bool false] = _
    simp only [Rat.divInt_zero, ne_eq, not_true, decide_false]
  · apply Ends.mk (.cons (.cellA (τ := τ) rfl rfl rfl rfl rfl) (.cons (.tmp rfl) .nil))
    have h0 : v ≠ 0 := by omega
    show D.tup [ratD (Rat.divInt (sI (p != q) a) (val b)), .bool true] = _
    rw [show decide (v ≠ 0) = true from decide_eq_true h0, ← e1, ← e2, sI_ne]
theorem rof (a b : Int) : Evals Tryd.prog 60 [.int .i64 a, .int .i64 b] (.tup [ratD (Rat.divInt a b), .bool (decide (b ≠ 0))]) := by
  refine evals_of_awp Tryd.func60 rfl (CallOK.of Tryd.func60 (by kernel_rfl) rfl) (Nat.le_of_ble_eq_true rfl) ?_
  rintro w R hR ⟨vs, hv⟩
  have ha := hv.int 0 rfl
  have hb := hv.int 1 rfl
  simp [InR, IntKind.min, IntKind.max, IntKind.bits, IntKind.signed] at ha hb
  have s1 := SzI.i64 ha
  have s2 := SzI.i64 hb
  repeat' (first
    | (apply RunL.step; exact rfl; apply op_ev (τ := τ); exact rfl; (first | exact parts_ev _ _ _ | exact zero_ev | exact whole_ev | exact reduce_ev | exact rnorm | exact rneg | exact rsign | exact rcmp | exact radd | exact rsub | exact rmul | exact rmake | exact rdiv | exact rabs | exact rfloor | exact rof _ _ | exact cnorm | exact ctrim | exact ccmp | exact of_ev _ | exact cadd | exact csub | exact cmul | exact cdiv | exact cdiv0 | exact cgcd | exact cmake | exact cineg | exact cisign | exact cicmp | exact ciadd | exact cimul | exact cidiv | exact cidiv0 | exact iof_ev _); exact rfl) | (apply RunL.step; exact rfl; exact opA) | (apply RunL.hand; exact rfl; exact rfl; exact lenA; exact rfl) | (apply AWP.seq) | (apply AWP.region; exact rfl) | (apply AWP.block) | (apply AWP.skip) | (apply AWP.exit) | (apply AWP.retF; exact rfl; exact rfl; exact rfl; exact rfl; exact lenA; exact rfl) | (apply AWP.ret) | (apply RunL.nil) | (apply RunL.on; exact rfl; exact rfl; exact rfl; exact rfl; (first | exact rfl | assumption)) | (apply RunL.noU; exact rfl; exact rfl; exact rfl; exact rfl; exact rfl; exact rfl) | (apply RunL.no; exact rfl; exact rfl; exact rfl; exact rfl; (first | exact rfl | assumption); exact rfl; exact rfl) | (refine AWP.cond _ (Rd.of rfl) (fun hc => ?_) (fun hc => ?_) <;> first | (exfalso; cases hc; done) | (have hc' := hc; (try simp only [sc, reduceCtorEq, cmpOf] at hc'); try (exfalso; omega)))
    | (
     apply AWP.drawA
     repeat' (first
       | (apply DL.cons; (try (apply OpLoc.on; exact rfl; exact rfl; exact rfl; exact rfl; (first | exact rfl | assumption))); apply ol_ev (τ := τ); exact rfl; (first | exact parts_ev _ _ _ | exact zero_ev | exact whole_ev | exact reduce_ev | exact rnorm | exact rneg | exact rsign | exact rcmp | exact radd | exact rsub | exact rmul | exact rmake | exact rdiv | exact rabs | exact rfloor | exact rof _ _ | exact cnorm | exact ctrim | exact ccmp | exact of_ev _ | exact cadd | exact csub | exact cmul | exact cdiv | exact cdiv0 | exact cgcd | exact cmake | exact cineg | exact cisign | exact cicmp | exact ciadd | exact cimul | exact cidiv | exact cidiv0 | exact iof_ev _); exact rfl; exact rfl) | (apply DL.cons; exact olA; exact rfl) | (apply DL.nil; kernel_rfl) | (refine DL.split rfl rfl rfl rfl (fun hb => ?_) (fun hb => ?_) <;> have hb' := hb <;> (try simp only [sc, reduceCtorEq, cmpOf] at hb') <;> try (exfalso; omega)))
     all_goals (fail_if_success apply DL.id))
    | (refine RunL.split rfl rfl rfl rfl (fun hb => ?_) (fun hb => ?_) <;> have hb' := hb <;> (try simp only [sc, reduceCtorEq, cmpOf] at hb') <;> try (exfalso; omega)) )
  apply Ends.mk (.cons (.cellA (τ := τ) rfl rfl rfl rfl rfl) (.cons (.tmp rfl) .nil))
  rfl
end
end Go.Proofs.YtmefecfkajjajaaDoor.K
