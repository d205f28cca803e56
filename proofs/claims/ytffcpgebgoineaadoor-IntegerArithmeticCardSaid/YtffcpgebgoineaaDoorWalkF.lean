/- Walks: nat.Gcd. -/
import Derived.Test.YtffcpgebgoineaaDoorWalkE
namespace Go.Proofs.YtffcpgebgoineaaDoor.K
open Go
set_option linter.unusedVariables false
set_option linter.unusedSimpArgs false

theorem gcd_step {x y : Int} (hx : 0 ≤ x) (hy : 0 < y) : Int.gcd y (x % y) = Int.gcd x y := by
  obtain ⟨m, rfl⟩ := Int.eq_ofNat_of_zero_le hx
  obtain ⟨n, rfl⟩ := Int.eq_ofNat_of_zero_le (Int.le_of_lt hy)
  rw [← Int.natCast_emod, Int.gcd_natCast_natCast, Int.gcd_natCast_natCast, Nat.gcd_comm m n, Nat.gcd_rec n m, Nat.gcd_comm]

end Go.Proofs.YtffcpgebgoineaaDoor.K
namespace Go.Proofs.YtffcpgebgoineaaDoor.K
open Go
set_option linter.unusedVariables false
set_option linter.unusedSimpArgs false

/-- the integer that a sign and limbs name -/
def sI (n : Bool) (l : List Int) : Int := if n then - val l else val l
/-- the datum of an integer, in normal form -/
abbrev intD (x : Int) : D := .agg [.bool (decide (x < 0)), .ints .u32 (limbs x.natAbs)]
theorem sI_natAbs {n : Bool} {l : List Int} (h : Lim l) : (((sI n l).natAbs : Nat) : Int) = val l := by
  have := val_nonneg h
  unfold sI; split <;> omega
theorem sI_norm (x : Int) : sI (decide (x < 0)) (limbs x.natAbs) = x := by
  unfold sI
  rw [val_limbs (by omega)]
  by_cases h : x < 0
  · simp [h]; omega
  · simp [h]; omega
theorem sI_neg {n : Bool} {l : List Int} (h : Lim l) : (n && decide (0 < val l)) = decide (sI n l < 0) := by
  have := val_nonneg h
  rw [Bool.eq_iff_iff]
  simp [sI]
  cases n <;> simp <;> omega

theorem make_ev (n : Bool) (l : List Int) (x : Int) (hx : sI n l = x) (h1 : l.length ≤ 70368744177663) : Evals Tryd.prog 20 [.bool n, .ints .u32 l] (intD x) := by
  subst hx
  refine evals_of_awp Tryd.func20 rfl (CallOK.of Tryd.func20 (by kernel_rfl) rfl) (Nat.le_of_ble_eq_true rfl) ?_
  rintro w R hR ⟨vs, hv⟩
  obtain ⟨hla, ha⟩ := hv.nat 1 rfl
  have va := val_nonneg ha
  have f0 := limbs_nil va
  have e1 := sI_neg (n := n) ha
  have e2 := sI_natAbs (n := n) ha
  have e3 : cmpOf .gtr ((limbs (val l)).length : Int) 0 = decide (0 < val l) := by
    simp only [cmpOf]; rw [decide_eq_decide]; omega
  cases n
  · repeat' (first
    | (apply RunL.step; exact rfl; apply op_ev (τ := τ); exact rfl; (exact norm_ev _ (by omega)); exact rfl) | (apply RunL.step; exact rfl; exact opA) | (apply RunL.hand; exact rfl; exact rfl; exact lenA; exact rfl) | (apply AWP.seq) | (apply AWP.region; exact rfl) | (apply AWP.block) | (apply AWP.skip) | (apply AWP.exit) | (apply AWP.retF; exact rfl; exact rfl; exact rfl; exact rfl; exact lenA; exact rfl) | (apply AWP.ret) | (apply RunL.nil) | (apply RunL.on; exact rfl; exact rfl; exact rfl; exact rfl; (first | exact rfl | assumption)) | (apply RunL.noU; exact rfl; exact rfl; exact rfl; exact rfl; exact rfl; exact rfl) | (apply RunL.no; exact rfl; exact rfl; exact rfl; exact rfl; (first | exact rfl | assumption); exact rfl; exact rfl) | (refine AWP.cond _ (Rd.of rfl) (fun hc => ?_) (fun hc => ?_) <;> first | (exfalso; cases hc; done) | (have hc' := hc; (try simp only [sc, reduceCtorEq, cmpOf] at hc'); try (exfalso; omega)))
    | (
     apply AWP.drawA
     repeat' (first
       | (apply DL.cons; (try (apply OpLoc.on; exact rfl; exact rfl; exact rfl; exact rfl; (first | exact rfl | assumption))); apply ol_ev (τ := τ); exact rfl; (exact norm_ev _ (by omega)); exact rfl; exact rfl) | (apply DL.cons; exact olA; exact rfl) | (apply DL.nil; kernel_rfl) | (refine DL.split rfl rfl rfl rfl (fun hb => ?_) (fun hb => ?_) <;> have hb' := hb <;> (try simp only [sc, reduceCtorEq, cmpOf] at hb') <;> try (exfalso; omega)))
     all_goals (fail_if_success apply DL.id))
    | (refine RunL.split rfl rfl rfl rfl (fun hb => ?_) (fun hb => ?_) <;> have hb' := hb <;> (try simp only [sc, reduceCtorEq, cmpOf] at hb') <;> try (exfalso; omega)) )
    apply Ends.mk (.cons (.cellA (τ := τ) rfl rfl rfl rfl rfl) .nil)
    show _ = D.agg [.bool (decide (sI false l < 0)), .ints .u32 (limbs (sI false l).natAbs)]
    rw [← e1, e2]; rfl
  · repeat' (first
    | (apply RunL.step; exact rfl; apply op_ev (τ := τ); exact rfl; (exact norm_ev _ (by omega)); exact rfl) | (apply RunL.step; exact rfl; exact opA) | (apply RunL.hand; exact rfl; exact rfl; exact lenA; exact rfl) | (apply AWP.seq) | (apply AWP.region; exact rfl) | (apply AWP.block) | (apply AWP.skip) | (apply AWP.exit) | (apply AWP.retF; exact rfl; exact rfl; exact rfl; exact rfl; exact lenA; exact rfl) | (apply AWP.ret) | (apply RunL.nil) | (apply RunL.on; exact rfl; exact rfl; exact rfl; exact rfl; (first | exact rfl | assumption)) | (apply RunL.noU; exact rfl; exact rfl; exact rfl; exact rfl; exact rfl; exact rfl) | (apply RunL.no; exact rfl; exact rfl; exact rfl; exact rfl; (first | exact rfl | assumption); exact rfl; exact rfl) | (refine AWP.cond _ (Rd.of rfl) (fun hc => ?_) (fun hc => ?_) <;> first | (exfalso; cases hc; done) | (have hc' := hc; (try simp only [sc, reduceCtorEq, cmpOf] at hc'); try (exfalso; omega)))
    | (
     apply AWP.drawA
     repeat' (first
       | (apply DL.cons; (try (apply OpLoc.on; exact rfl; exact rfl; exact rfl; exact rfl; (first | exact rfl | assumption))); apply ol_ev (τ := τ); exact rfl; (exact norm_ev _ (by omega)); exact rfl; exact rfl) | (apply DL.cons; exact olA; exact rfl) | (apply DL.nil; kernel_rfl) | (refine DL.split rfl rfl rfl rfl (fun hb => ?_) (fun hb => ?_) <;> have hb' := hb <;> (try simp only [sc, reduceCtorEq, cmpOf] at hb') <;> try (exfalso; omega)))
     all_goals (fail_if_success apply DL.id))
    | (refine RunL.split rfl rfl rfl rfl (fun hb => ?_) (fun hb => ?_) <;> have hb' := hb <;> (try simp only [sc, reduceCtorEq, cmpOf] at hb') <;> try (exfalso; omega)) )
    apply Ends.mk (.cons (.cellA (τ := τ) rfl rfl rfl rfl rfl) .nil)
    show _ = D.agg [.bool (decide (sI true l < 0)), .ints .u32 (limbs (sI true l).natAbs)]
    rw [← e1, e2, ← e3]; rfl

theorem len_u64 {x : Int} (h : x < 18446744073709551616) : (limbs x).length ≤ 70368744177663 := by
  have := limbs_length_le (n := x) (k := 2) (by omega)
  omega
theorem sI_false {l : List Int} : sI false l = val l := rfl
theorem sI_true {l : List Int} : sI true l = - val l := rfl
theorem iof_ev (n : Int) : Evals Tryd.prog 36 [.int .i64 n] (intD n) := by
  refine evals_of_awp Tryd.func36 rfl (CallOK.of Tryd.func36 (by kernel_rfl) rfl) (Nat.le_of_ble_eq_true rfl) ?_
  rintro w R hR ⟨vs, hv⟩
  have hn := hv.int 0 rfl
  simp [InR, IntKind.min, IntKind.max, IntKind.bits, IntKind.signed] at hn
  repeat' (first
    | (apply RunL.step; exact rfl; apply op_ev (τ := τ); exact rfl; (first | exact of_ev _ | (apply make_ev; (first | exact sI_norm _ | exact rfl); (first | omega | exact len_u64 (by omega))) | exact cmp_ev _ _); exact rfl) | (apply RunL.step; exact rfl; exact opA) | (apply RunL.hand; exact rfl; exact rfl; exact lenA; exact rfl) | (apply AWP.seq) | (apply AWP.region; exact rfl) | (apply AWP.block) | (apply AWP.skip) | (apply AWP.exit) | (apply AWP.retF; exact rfl; exact rfl; exact rfl; exact rfl; exact lenA; exact rfl) | (apply AWP.ret) | (apply RunL.nil) | (apply RunL.on; exact rfl; exact rfl; exact rfl; exact rfl; (first | exact rfl | assumption)) | (apply RunL.noU; exact rfl; exact rfl; exact rfl; exact rfl; exact rfl; exact rfl) | (apply RunL.no; exact rfl; exact rfl; exact rfl; exact rfl; (first | exact rfl | assumption); exact rfl; exact rfl) | (refine AWP.cond _ (Rd.of rfl) (fun hc => ?_) (fun hc => ?_) <;> first | (exfalso; cases hc; done) | (have hc' := hc; (try simp only [sc, reduceCtorEq, cmpOf] at hc'); try (exfalso; omega)))
    | (
     apply AWP.drawA
     repeat' (first
       | (apply DL.cons; (try (apply OpLoc.on; exact rfl; exact rfl; exact rfl; exact rfl; (first | exact rfl | assumption))); apply ol_ev (τ := τ); exact rfl; (first | exact of_ev _ | (apply make_ev; (first | exact sI_norm _ | exact rfl); (first | omega | exact len_u64 (by omega))) | exact cmp_ev _ _); exact rfl; exact rfl) | (apply DL.cons; exact olA; exact rfl) | (apply DL.nil; kernel_rfl) | (refine DL.split rfl rfl rfl rfl (fun hb => ?_) (fun hb => ?_) <;> have hb' := hb <;> (try simp only [sc, reduceCtorEq, cmpOf] at hb') <;> try (exfalso; omega)))
     all_goals (fail_if_success apply DL.id))
    | (refine RunL.split rfl rfl rfl rfl (fun hb => ?_) (fun hb => ?_) <;> have hb' := hb <;> (try simp only [sc, reduceCtorEq, cmpOf] at hb') <;> try (exfalso; omega)) )
  · apply Ends.mk (.cons (.cellA (τ := τ) rfl rfl rfl rfl rfl) .nil)
    show intD (sI true (limbs (-(n % 18446744073709551616) % 18446744073709551616))) = _
    rw [sI_true, val_limbs (by omega)]
    congr 1; omega
  · apply Ends.mk (.cons (.cellA (τ := τ) rfl rfl rfl rfl rfl) .nil)
    show intD (sI false (limbs n)) = _
    rw [sI_false, val_limbs (by omega)]

theorem ineg_ev (n : Bool) (l : List Int) (x : Int) (hx : sI n l = x) (h1 : l.length ≤ 70368744177663) : Evals Tryd.prog 26 [.agg [.bool n, .ints .u32 l]] (intD (-x)) := by
  subst hx
  refine evals_of_awp Tryd.func26 rfl (CallOK.of Tryd.func26 (by kernel_rfl) rfl) (Nat.le_of_ble_eq_true rfl) ?_
  rintro w R hR ⟨vs, hv⟩
  repeat' (first
    | (apply RunL.step; exact rfl; apply op_ev (τ := τ); exact rfl; (first | exact of_ev _ | (apply make_ev; (first | exact sI_norm _ | exact rfl); (first | omega | exact len_u64 (by omega))) | exact cmp_ev _ _); exact rfl) | (apply RunL.step; exact rfl; exact opA) | (apply RunL.hand; exact rfl; exact rfl; exact lenA; exact rfl) | (apply AWP.seq) | (apply AWP.region; exact rfl) | (apply AWP.block) | (apply AWP.skip) | (apply AWP.exit) | (apply AWP.retF; exact rfl; exact rfl; exact rfl; exact rfl; exact lenA; exact rfl) | (apply AWP.ret) | (apply RunL.nil) | (apply RunL.on; exact rfl; exact rfl; exact rfl; exact rfl; (first | exact rfl | assumption)) | (apply RunL.noU; exact rfl; exact rfl; exact rfl; exact rfl; exact rfl; exact rfl) | (apply RunL.no; exact rfl; exact rfl; exact rfl; exact rfl; (first | exact rfl | assumption); exact rfl; exact rfl) | (refine AWP.cond _ (Rd.of rfl) (fun hc => ?_) (fun hc => ?_) <;> first | (exfalso; cases hc; done) | (have hc' := hc; (try simp only [sc, reduceCtorEq, cmpOf] at hc'); try (exfalso; omega)))
    | (
     apply AWP.drawA
     repeat' (first
       | (apply DL.cons; (try (apply OpLoc.on; exact rfl; exact rfl; exact rfl; exact rfl; (first | exact rfl | assumption))); apply ol_ev (τ := τ); exact rfl; (first | exact of_ev _ | (apply make_ev; (first | exact sI_norm _ | exact rfl); (first | omega | exact len_u64 (by omega))) | exact cmp_ev _ _); exact rfl; exact rfl) | (apply DL.cons; exact olA; exact rfl) | (apply DL.nil; kernel_rfl) | (refine DL.split rfl rfl rfl rfl (fun hb => ?_) (fun hb => ?_) <;> have hb' := hb <;> (try simp only [sc, reduceCtorEq, cmpOf] at hb') <;> try (exfalso; omega)))
     all_goals (fail_if_success apply DL.id))
    | (refine RunL.split rfl rfl rfl rfl (fun hb => ?_) (fun hb => ?_) <;> have hb' := hb <;> (try simp only [sc, reduceCtorEq, cmpOf] at hb') <;> try (exfalso; omega)) )
  apply Ends.mk (.cons (.cellA (τ := τ) rfl rfl rfl rfl rfl) .nil)
  show intD (sI (!n) l) = _
  cases n <;> simp [sI]

theorem cmpI_bound (x y : Int) : -1 ≤ cmpI x y ∧ cmpI x y ≤ 1 := by unfold cmpI; split <;> (try split) <;> omega
theorem cmpI_neg (x y : Int) : cmpI (-x) (-y) = - cmpI x y := by unfold cmpI; split <;> (try split) <;> (try split) <;> omega
theorem isign_ev (n : Bool) (l : List Int) (x : Int) (hx : sI n l = x) : Evals Tryd.prog 16 [.agg [.bool n, .ints .u32 l]] (.int .i64 (cmpI x 0)) := by
  subst hx
  refine evals_of_awp Tryd.func16 rfl (CallOK.of Tryd.func16 (by kernel_rfl) rfl) (Nat.le_of_ble_eq_true rfl) ?_
  rintro w R hR ⟨vs, hv⟩
  have hb := cmpI_bound (val l) (val [])
  repeat' (first
    | (apply RunL.step; exact rfl; apply op_ev (τ := τ); exact rfl; (first | exact of_ev _ | (apply make_ev; (first | exact sI_norm _ | exact rfl); (first | omega | exact len_u64 (by omega))) | exact cmp_ev _ _); exact rfl) | (apply RunL.step; exact rfl; exact opA) | (apply RunL.hand; exact rfl; exact rfl; exact lenA; exact rfl) | (apply AWP.seq) | (apply AWP.region; exact rfl) | (apply AWP.block) | (apply AWP.skip) | (apply AWP.exit) | (apply AWP.retF; exact rfl; exact rfl; exact rfl; exact rfl; exact lenA; exact rfl) | (apply AWP.ret) | (apply RunL.nil) | (apply RunL.on; exact rfl; exact rfl; exact rfl; exact rfl; (first | exact rfl | assumption)) | (apply RunL.noU; exact rfl; exact rfl; exact rfl; exact rfl; exact rfl; exact rfl) | (apply RunL.no; exact rfl; exact rfl; exact rfl; exact rfl; (first | exact rfl | assumption); exact rfl; exact rfl) | (refine AWP.cond _ (Rd.of rfl) (fun hc => ?_) (fun hc => ?_) <;> first | (exfalso; cases hc; done) | (have hc' := hc; (try simp only [sc, reduceCtorEq, cmpOf] at hc'); try (exfalso; omega)))
    | (
     apply AWP.drawA
     repeat' (first
       | (apply DL.cons; (try (apply OpLoc.on; exact rfl; exact rfl; exact rfl; exact rfl; (first | exact rfl | assumption))); apply ol_ev (τ := τ); exact rfl; (first | exact of_ev _ | (apply make_ev; (first | exact sI_norm _ | exact rfl); (first | omega | exact len_u64 (by omega))) | exact cmp_ev _ _); exact rfl; exact rfl) | (apply DL.cons; exact olA; exact rfl) | (apply DL.nil; kernel_rfl) | (refine DL.split rfl rfl rfl rfl (fun hb => ?_) (fun hb => ?_) <;> have hb' := hb <;> (try simp only [sc, reduceCtorEq, cmpOf] at hb') <;> try (exfalso; omega)))
     all_goals (fail_if_success apply DL.id))
    | (refine RunL.split rfl rfl rfl rfl (fun hb => ?_) (fun hb => ?_) <;> have hb' := hb <;> (try simp only [sc, reduceCtorEq, cmpOf] at hb') <;> try (exfalso; omega)) )
  · apply Ends.mk (.cons (.tmp rfl) .nil)
    subst hc'
    show D.int .i64 (-cmpI (val l) 0) = D.int .i64 (cmpI (-val l) 0)
    rw [← cmpI_neg]; rfl
  · apply Ends.mk (.cons (.tmp rfl) .nil)
    subst hc'
    rfl
end Go.Proofs.YtffcpgebgoineaaDoor.K
namespace Go.Proofs.YtffcpgebgoineaaDoor.K
open Go
set_option linter.unusedVariables false
set_option linter.unusedSimpArgs false

theorem HoldsAll.agg {R : Nat → Prop} {w : World} {ds : List D} {vs : Array Value} (i : Nat) {es : List D} (h : HoldsAll R w ds vs) (hi : ds[i]? = some (.agg es)) : ∃ us, HoldsAll R w es us := by
  have h1 : i < vs.size := by have := (List.getElem?_eq_some_iff.1 hi).1; have := h.1; omega
  have h2 := h.2 i _ vs[i] hi (by simp [h1])
  generalize vs[i] = v at h2
  cases h2 with
  | agg _ cs hs hh => exact ⟨cs, hs, hh⟩
theorem HoldsAll.sint {R : Nat → Prop} {w : World} {ds : List D} {vs : Array Value} (i : Nat) {n : Bool} {l : List Int} (h : HoldsAll R w ds vs) (hi : ds[i]? = some (.agg [.bool n, .ints .u32 l])) : l.length ≤ 9223372036854775807 ∧ Lim l := by
  obtain ⟨us, hu⟩ := h.agg i hi
  exact hu.nat 1 rfl

theorem cmpI_cases (x y : Int) : (x < y ∧ cmpI x y = -1) ∨ (x = y ∧ cmpI x y = 0) ∨ (y < x ∧ cmpI x y = 1) := by unfold cmpI; split <;> (try split) <;> omega
theorem icmp_eq {n m : Bool} {v u : Int} (hv : 0 ≤ v) (hu : 0 ≤ u) (h1 : cmpI (if n then -v else v) 0 = cmpI (if m then -u else u) 0) :
    cmpI (if n then -v else v) 0 * cmpI v u = cmpI (if n then -v else v) (if m then -u else u) := by
  rcases cmpI_cases (if n then -v else v) 0 with ⟨a1, a2⟩ | ⟨a1, a2⟩ | ⟨a1, a2⟩ <;>
  rcases cmpI_cases (if m then -u else u) 0 with ⟨b1, b2⟩ | ⟨b1, b2⟩ | ⟨b1, b2⟩ <;>
  rcases cmpI_cases v u with ⟨c1, c2⟩ | ⟨c1, c2⟩ | ⟨c1, c2⟩ <;>
  rcases cmpI_cases (if n then -v else v) (if m then -u else u) with ⟨d1, d2⟩ | ⟨d1, d2⟩ | ⟨d1, d2⟩ <;>
  (rw [a2, c2, d2]) <;> (first | rfl | (exfalso; rw [a2, b2] at h1; cases n <;> cases m <;> simp at * <;> omega))
theorem icmp_ev (n : Bool) (l : List Int) (m : Bool) (k : List Int) (x y : Int) (hx : sI n l = x) (hy : sI m k = y) : Evals Tryd.prog 4 [.agg [.bool n, .ints .u32 l], .agg [.bool m, .ints .u32 k]] (.int .i64 (cmpI x y)) := by
  subst hx hy
  refine evals_of_awp Tryd.func4 rfl (CallOK.of Tryd.func4 (by kernel_rfl) rfl) (Nat.le_of_ble_eq_true rfl) ?_
  rintro w R hR ⟨vs, hv⟩
  obtain ⟨hl, hl'⟩ := hv.sint 0 rfl
  obtain ⟨hk, hk'⟩ := hv.sint 1 rfl
  have vl := val_nonneg hl'
  have vk := val_nonneg hk'
  have b1 := cmpI_bound (sI n l) 0
  have b2 := cmpI_bound (sI m k) 0
  have b3 := cmpI_bound (val l) (val k)
  have b4 : -1 ≤ cmpI (sI n l) 0 * cmpI (val l) (val k) ∧ cmpI (sI n l) 0 * cmpI (val l) (val k) ≤ 1 := by
    rcases cmpI_cases (sI n l) 0 with ⟨_, h⟩ | ⟨_, h⟩ | ⟨_, h⟩ <;> rw [h] <;> omega
  have c1 := cmpI_cases (sI n l) 0
  have c2 := cmpI_cases (sI m k) 0
  have c3 := cmpI_cases (sI n l) (sI m k)
  repeat' (first
    | (apply RunL.step; exact rfl; apply op_ev (τ := τ); exact rfl; (first | exact cmp_ev _ _ | exact add_ev _ _ (by omega) (by omega) | exact sub_ev _ _ (by omega) | exact mul_ev _ _ (by omega) | (apply isign_ev; first | exact sI_norm _ | exact rfl) | (apply make_ev; (first | exact sI_norm _ | exact rfl); (first | omega | exact len_u64 (by omega))) | (apply ineg_ev; (first | exact sI_norm _ | exact rfl); omega)); exact rfl) | (apply RunL.step; exact rfl; exact opA) | (apply RunL.hand; exact rfl; exact rfl; exact lenA; exact rfl) | (apply AWP.seq) | (apply AWP.region; exact rfl) | (apply AWP.block) | (apply AWP.skip) | (apply AWP.exit) | (apply AWP.retF; exact rfl; exact rfl; exact rfl; exact rfl; exact lenA; exact rfl) | (apply AWP.ret) | (apply RunL.nil) | (apply RunL.on; exact rfl; exact rfl; exact rfl; exact rfl; (first | exact rfl | assumption)) | (apply RunL.noU; exact rfl; exact rfl; exact rfl; exact rfl; exact rfl; exact rfl) | (apply RunL.no; exact rfl; exact rfl; exact rfl; exact rfl; (first | exact rfl | assumption); exact rfl; exact rfl) | (refine AWP.cond _ (Rd.of rfl) (fun hc => ?_) (fun hc => ?_) <;> first | (exfalso; cases hc; done) | (have hc' := hc; (try simp only [sc, reduceCtorEq, cmpOf] at hc'); try (exfalso; omega)))
    | (
     apply AWP.drawA
     repeat' (first
       | (apply DL.cons; (try (apply OpLoc.on; exact rfl; exact rfl; exact rfl; exact rfl; (first | exact rfl | assumption))); apply ol_ev (τ := τ); exact rfl; (first | exact cmp_ev _ _ | exact add_ev _ _ (by omega) (by omega) | exact sub_ev _ _ (by omega) | exact mul_ev _ _ (by omega) | (apply isign_ev; first | exact sI_norm _ | exact rfl) | (apply make_ev; (first | exact sI_norm _ | exact rfl); (first | omega | exact len_u64 (by omega))) | (apply ineg_ev; (first | exact sI_norm _ | exact rfl); omega)); exact rfl; exact rfl) | (apply DL.cons; exact olA; exact rfl) | (apply DL.nil; kernel_rfl) | (refine DL.split rfl rfl rfl rfl (fun hb => ?_) (fun hb => ?_) <;> have hb' := hb <;> (try simp only [sc, reduceCtorEq, cmpOf] at hb') <;> try (exfalso; omega)))
     all_goals (fail_if_success apply DL.id))
    | (refine RunL.split rfl rfl rfl rfl (fun hb => ?_) (fun hb => ?_) <;> have hb' := hb <;> (try simp only [sc, reduceCtorEq, cmpOf] at hb') <;> try (exfalso; omega)) )
  · apply Ends.mk (.cons (.tmp rfl) .nil)
    simp only [pack]; congr 1; omega
  · apply Ends.mk (.cons (.tmp rfl) .nil)
    simp only [pack]; congr 1; omega
  · apply Ends.mk (.cons (.tmp rfl) .nil)
    simp only [pack]; congr 1
    exact icmp_eq vl vk (show cmpI (sI n l) 0 = cmpI (sI m k) 0 by omega)

theorem limbs_add_length {l k : List Int} (hl : Lim l) (hk : Lim k) : (limbs (val l + val k)).length ≤ l.length + k.length + 1 := by
  refine limbs_length_le ?_
  have h1 := val_lt hl
  have h2 := val_lt hk
  have h3 := pow_pos' l.length
  have h4 := pow_pos' k.length
  have h5 : (4294967296 : Int) ^ l.length * 1 ≤ 4294967296 ^ l.length * 4294967296 ^ k.length := Int.mul_le_mul_of_nonneg_left (by omega) (by omega)
  have h6 : 1 * (4294967296 : Int) ^ k.length ≤ 4294967296 ^ l.length * 4294967296 ^ k.length := Int.mul_le_mul_of_nonneg_right (by omega) (by omega)
  rw [Int.pow_succ, Int.pow_add]
  omega
theorem limbs_mul_length {l k : List Int} (hl : Lim l) (hk : Lim k) : (limbs (val l * val k)).length ≤ l.length + k.length := by
  refine limbs_length_le ?_
  rw [Int.pow_add]
  have h1 := val_lt hl
  have h2 := val_lt hk
  have h3 := val_nonneg hl
  have h4 := val_nonneg hk
  have h5 := pow_pos' k.length
  have h6 : val l * val k ≤ val l * 4294967296 ^ k.length := Int.mul_le_mul_of_nonneg_left (by omega) h3
  have h7 := Int.mul_lt_mul_of_pos_right h1 h5
  omega
theorem limbs_sub_length {l k : List Int} (hl : Lim l) (hk : Lim k) : (limbs (val l - val k)).length ≤ l.length := by
  have h1 := limbs_mono (show val l - val k ≤ val l by have := val_nonneg hk; omega)
  have h2 := limbs_val_length l hl
  omega

theorem powB_mono {k m : Nat} (h : k ≤ m) : (4294967296 : Int) ^ k ≤ 4294967296 ^ m := by
  obtain ⟨d, rfl⟩ := Nat.exists_eq_add_of_le h
  rw [Int.pow_add]
  have h1 := pow_pos' k
  have h2 := pow_pos' d
  have h3 : (4294967296 : Int) ^ k * 1 ≤ 4294967296 ^ k * 4294967296 ^ d := Int.mul_le_mul_of_nonneg_left (by omega) (by omega)
  omega
theorem limbs_add_max {l k : List Int} (hl : Lim l) (hk : Lim k) : (limbs (val l + val k)).length ≤ max l.length k.length + 1 := by
  refine limbs_length_le ?_
  have h1 := val_lt hl
  have h2 := val_lt hk
  have h3 := val_nonneg hl
  have h4 := val_nonneg hk
  have e1 : (4294967296 : Int) ^ l.length ≤ 4294967296 ^ (max l.length k.length) := powB_mono (by omega)
  have e2 : (4294967296 : Int) ^ k.length ≤ 4294967296 ^ (max l.length k.length) := powB_mono (by omega)
  have e3 : (4294967296 : Int) ^ (max l.length k.length + 1) = 4294967296 ^ (max l.length k.length) * 4294967296 := Int.pow_succ _ _
  omega
theorem iadd_ev (n : Bool) (l : List Int) (m : Bool) (k : List Int) (x y : Int) (hx : sI n l = x) (hy : sI m k = y) (hlen : l.length ≤ 70368744177660 ∧ k.length ≤ 70368744177660) : Evals Tryd.prog 7 [.agg [.bool n, .ints .u32 l], .agg [.bool m, .ints .u32 k]] (intD (x + y)) := by
  subst hx hy
  refine evals_of_awp Tryd.func7 rfl (CallOK.of Tryd.func7 (by kernel_rfl) rfl) (Nat.le_of_ble_eq_true rfl) ?_
  rintro w R hR ⟨vs, hv⟩
  obtain ⟨hl, hl'⟩ := hv.sint 0 rfl
  obtain ⟨hk, hk'⟩ := hv.sint 1 rfl
  have vl := val_nonneg hl'
  have vk := val_nonneg hk'
  have g1 := limbs_add_max hl' hk'
  have g2 := limbs_sub_length hl' hk'
  have g3 := limbs_sub_length hk' hl'
  repeat' (first
    | (apply RunL.step; exact rfl; apply op_ev (τ := τ); exact rfl; (first | exact cmp_ev _ _ | exact add_ev _ _ (by omega) (by omega) | exact sub_ev _ _ (by omega) | exact mul_ev _ _ (by omega) | (apply isign_ev; first | exact sI_norm _ | exact rfl) | (apply make_ev; (first | exact sI_norm _ | exact rfl); (first | omega | exact len_u64 (by omega))) | (apply ineg_ev; (first | exact sI_norm _ | exact rfl); omega)); exact rfl) | (apply RunL.step; exact rfl; exact opA) | (apply RunL.hand; exact rfl; exact rfl; exact lenA; exact rfl) | (apply AWP.seq) | (apply AWP.region; exact rfl) | (apply AWP.block) | (apply AWP.skip) | (apply AWP.exit) | (apply AWP.retF; exact rfl; exact rfl; exact rfl; exact rfl; exact lenA; exact rfl) | (apply AWP.ret) | (apply RunL.nil) | (apply RunL.on; exact rfl; exact rfl; exact rfl; exact rfl; (first | exact rfl | assumption)) | (apply RunL.noU; exact rfl; exact rfl; exact rfl; exact rfl; exact rfl; exact rfl) | (apply RunL.no; exact rfl; exact rfl; exact rfl; exact rfl; (first | exact rfl | assumption); exact rfl; exact rfl) | (refine AWP.cond _ (Rd.of rfl) (fun hc => ?_) (fun hc => ?_) <;> first | (exfalso; cases hc; done) | (have hc' := hc; (try simp only [sc, reduceCtorEq, cmpOf] at hc'); try (exfalso; omega)))
    | (
     apply AWP.drawA
     repeat' (first
       | (apply DL.cons; (try (apply OpLoc.on; exact rfl; exact rfl; exact rfl; exact rfl; (first | exact rfl | assumption))); apply ol_ev (τ := τ); exact rfl; (first | exact cmp_ev _ _ | exact add_ev _ _ (by omega) (by omega) | exact sub_ev _ _ (by omega) | exact mul_ev _ _ (by omega) | (apply isign_ev; first | exact sI_norm _ | exact rfl) | (apply make_ev; (first | exact sI_norm _ | exact rfl); (first | omega | exact len_u64 (by omega))) | (apply ineg_ev; (first | exact sI_norm _ | exact rfl); omega)); exact rfl; exact rfl) | (apply DL.cons; exact olA; exact rfl) | (apply DL.nil; kernel_rfl) | (refine DL.split rfl rfl rfl rfl (fun hb => ?_) (fun hb => ?_) <;> have hb' := hb <;> (try simp only [sc, reduceCtorEq, cmpOf] at hb') <;> try (exfalso; omega)))
     all_goals (fail_if_success apply DL.id))
    | (refine RunL.split rfl rfl rfl rfl (fun hb => ?_) (fun hb => ?_) <;> have hb' := hb <;> (try simp only [sc, reduceCtorEq, cmpOf] at hb') <;> try (exfalso; omega)) )
  · apply Ends.mk (.cons (.cellA (τ := τ) rfl rfl rfl rfl rfl) .nil)
    show intD (sI n (limbs (val l + val k))) = _
    subst hc'
    congr 1
    cases n <;> simp only [sI, val_limbs (show 0 ≤ val l + val k by omega)] <;> simp <;> omega
  · apply Ends.mk (.cons (.cellA (τ := τ) rfl rfl rfl rfl rfl) .nil)
    show intD (sI n (limbs (val l - val k))) = _
    congr 1
    cases n <;> cases m <;> simp at * <;> simp only [sI, val_limbs (show 0 ≤ val l - val k by omega)] <;> simp <;> omega
  · apply Ends.mk (.cons (.cellA (τ := τ) rfl rfl rfl rfl rfl) .nil)
    show intD (sI m (limbs (val k - val l))) = _
    congr 1
    cases n <;> cases m <;> simp at * <;> simp only [sI, val_limbs (show 0 ≤ val k - val l by omega)] <;> simp <;> omega
theorem imul_ev (n : Bool) (l : List Int) (m : Bool) (k : List Int) (x y : Int) (hx : sI n l = x) (hy : sI m k = y) (hlen : l.length + k.length ≤ 70368744177660) : Evals Tryd.prog 11 [.agg [.bool n, .ints .u32 l], .agg [.bool m, .ints .u32 k]] (intD (x * y)) := by
  subst hx hy
  refine evals_of_awp Tryd.func11 rfl (CallOK.of Tryd.func11 (by kernel_rfl) rfl) (Nat.le_of_ble_eq_true rfl) ?_
  rintro w R hR ⟨vs, hv⟩
  obtain ⟨hl, hl'⟩ := hv.sint 0 rfl
  obtain ⟨hk, hk'⟩ := hv.sint 1 rfl
  have vl := val_nonneg hl'
  have vk := val_nonneg hk'
  have g1 := limbs_mul_length hl' hk'
  repeat' (first
    | (apply RunL.step; exact rfl; apply op_ev (τ := τ); exact rfl; (first | exact cmp_ev _ _ | exact add_ev _ _ (by omega) (by omega) | exact sub_ev _ _ (by omega) | exact mul_ev _ _ (by omega) | (apply isign_ev; first | exact sI_norm _ | exact rfl) | (apply make_ev; (first | exact sI_norm _ | exact rfl); (first | omega | exact len_u64 (by omega))) | (apply ineg_ev; (first | exact sI_norm _ | exact rfl); omega)); exact rfl) | (apply RunL.step; exact rfl; exact opA) | (apply RunL.hand; exact rfl; exact rfl; exact lenA; exact rfl) | (apply AWP.seq) | (apply AWP.region; exact rfl) | (apply AWP.block) | (apply AWP.skip) | (apply AWP.exit) | (apply AWP.retF; exact rfl; exact rfl; exact rfl; exact rfl; exact lenA; exact rfl) | (apply AWP.ret) | (apply RunL.nil) | (apply RunL.on; exact rfl; exact rfl; exact rfl; exact rfl; (first | exact rfl | assumption)) | (apply RunL.noU; exact rfl; exact rfl; exact rfl; exact rfl; exact rfl; exact rfl) | (apply RunL.no; exact rfl; exact rfl; exact rfl; exact rfl; (first | exact rfl | assumption); exact rfl; exact rfl) | (refine AWP.cond _ (Rd.of rfl) (fun hc => ?_) (fun hc => ?_) <;> first | (exfalso; cases hc; done) | (have hc' := hc; (try simp only [sc, reduceCtorEq, cmpOf] at hc'); try (exfalso; omega)))
    | (
     apply AWP.drawA
     repeat' (first
       | (apply DL.cons; (try (apply OpLoc.on; exact rfl; exact rfl; exact rfl; exact rfl; (first | exact rfl | assumption))); apply ol_ev (τ := τ); exact rfl; (first | exact cmp_ev _ _ | exact add_ev _ _ (by omega) (by omega) | exact sub_ev _ _ (by omega) | exact mul_ev _ _ (by omega) | (apply isign_ev; first | exact sI_norm _ | exact rfl) | (apply make_ev; (first | exact sI_norm _ | exact rfl); (first | omega | exact len_u64 (by omega))) | (apply ineg_ev; (first | exact sI_norm _ | exact rfl); omega)); exact rfl; exact rfl) | (apply DL.cons; exact olA; exact rfl) | (apply DL.nil; kernel_rfl) | (refine DL.split rfl rfl rfl rfl (fun hb => ?_) (fun hb => ?_) <;> have hb' := hb <;> (try simp only [sc, reduceCtorEq, cmpOf] at hb') <;> try (exfalso; omega)))
     all_goals (fail_if_success apply DL.id))
    | (refine RunL.split rfl rfl rfl rfl (fun hb => ?_) (fun hb => ?_) <;> have hb' := hb <;> (try simp only [sc, reduceCtorEq, cmpOf] at hb') <;> try (exfalso; omega)) )
  apply Ends.mk (.cons (.cellA (τ := τ) rfl rfl rfl rfl rfl) .nil)
  show intD (sI (n != m) (limbs (val l * val k))) = _
  congr 1
  have := Int.mul_nonneg vl vk
  cases n <;> cases m <;> simp [sI, val_limbs this, Int.neg_mul_neg, Int.neg_mul, Int.mul_neg]

end Go.Proofs.YtffcpgebgoineaaDoor.K
namespace Go.Proofs.YtffcpgebgoineaaDoor.K
open Go
set_option linter.unusedVariables false
set_option linter.unusedSimpArgs false

theorem fdiv_unique {x v q r : Int} (h : x = v * q + r) (h0 : 0 ≤ r) (h1 : r < v) : x.fdiv v = q ∧ x.fmod v = r ∧ (-x).fdiv (-v) = q ∧ (-x).fmod (-v) = -r := by
  have h2 := divmod_of h h0 h1
  have e1 : x.fdiv v = q := by rw [Int.fdiv_eq_ediv_of_nonneg _ (by omega)]; exact h2.1
  have e2 : (-x).fdiv (-v) = q := by rw [Int.neg_fdiv_neg]; exact e1
  refine ⟨e1, ?_, e2, ?_⟩
  · rw [Int.fmod_def, e1]; omega
  · rw [Int.fmod_def, e2, Int.neg_mul]; omega
theorem fdiv_eq {u v : Int} (hu : 0 ≤ u) (hv : 0 < v) {n m : Bool} (h : n = m ∨ u % v = 0) :
    Int.fdiv (if n then -u else u) (if m then -v else v) = (if (n != m) then -(u / v) else u / v) ∧ Int.fmod (if n then -u else u) (if m then -v else v) = (if n then -(u % v) else u % v) := by
  have h1 := Int.mul_ediv_add_emod u v
  have h2 := Int.emod_nonneg u (show v ≠ 0 by omega)
  have h3 := Int.emod_lt_of_pos u hv
  have k1 := fdiv_unique h1.symm h2 h3
  cases n <;> cases m <;> simp at h ⊢
  · exact ⟨k1.1, k1.2.1⟩
  · have k2 := fdiv_unique (x := -u) (v := v) (q := -(u / v)) (r := 0) (by rw [Int.mul_neg]; omega) (by omega) hv
    rw [Int.neg_neg] at k2
    exact ⟨k2.2.2.1, by rw [k2.2.2.2, h]; rfl⟩
  · have k2 := fdiv_unique (x := -u) (v := v) (q := -(u / v)) (r := 0) (by rw [Int.mul_neg]; omega) (by omega) hv
    exact ⟨k2.1, by rw [k2.2.1, h]; rfl⟩
  · exact ⟨k1.1, k1.2.1⟩
theorem fdiv_ne {u v : Int} (hu : 0 ≤ u) (hv : 0 < v) {n m : Bool} (h : n ≠ m) (hr : u % v ≠ 0) :
    Int.fdiv (if n then -u else u) (if m then -v else v) = -(u / v + 1) ∧ Int.fmod (if n then -u else u) (if m then -v else v) = (if m then -(v - u % v) else v - u % v) := by
  have h1 := Int.mul_ediv_add_emod u v
  have h2 := Int.emod_nonneg u (show v ≠ 0 by omega)
  have h3 := Int.emod_lt_of_pos u hv
  have k2 := fdiv_unique (x := -u) (v := v) (q := -(u / v + 1)) (r := v - u % v) (by rw [Int.mul_neg, Int.mul_add]; omega) (by omega) (by omega)
  cases n <;> cases m <;> simp at h ⊢
  · rw [Int.neg_neg] at k2
    exact ⟨by rw [k2.2.2.1], by rw [k2.2.2.2]⟩
  · exact ⟨by rw [k2.1], k2.2.1⟩

theorem intD_zero : intD 0 = .agg [.bool false, .ints .u32 []] := by simp [intD, limbs_zero]

theorem idivMod_ev (n : Bool) (l : List Int) (m : Bool) (k : List Int) (x y : Int) (hx : sI n l = x) (hy : sI m k = y) (hlen : l.length + k.length ≤ 70368744177660) : Evals Tryd.prog 13 [.agg [.bool n, .ints .u32 l], .agg [.bool m, .ints .u32 k]] (.tup [intD (Int.fdiv x y), intD (if y = 0 then 0 else Int.fmod x y), .bool (decide (y ≠ 0))]) := by
  subst hx hy
  refine evals_of_awp Tryd.func13 rfl (CallOK.of Tryd.func13 (by kernel_rfl) rfl) (Nat.le_of_ble_eq_true rfl) ?_
  rintro w R hR ⟨vs, hv⟩
  obtain ⟨hl, hl'⟩ := hv.sint 0 rfl
  obtain ⟨hk, hk'⟩ := hv.sint 1 rfl
  have vl := val_nonneg hl'
  have vk := val_nonneg hk'
  have hy : sI m k = 0 ↔ val k = 0 := by unfold sI; split <;> omega
  have g1 := limbs_mono (show val l / val k ≤ val l from Int.ediv_le_self _ vl)
  have g2 := limbs_val_length l hl'
  have g3 := limbs_val_length k hk'
  rcases Int.lt_or_eq_of_le vk with h0 | h0
  · have hne : val k ≠ 0 := by omega
    have r1 := Int.emod_nonneg (val l) hne
    have r2 := Int.emod_lt_of_pos (val l) h0
    have g4 := limbs_mono (show val l % val k ≤ val k by omega)
    have g5 := limbs_nil r1
    have hdm := divMod_ev l k (by omega)
    rw [if_neg hne, show decide (val k ≠ 0) = true by simp [hne]] at hdm
    have hyn : sI m k ≠ 0 := fun h => hne (hy.1 h)
    have g6 : val k - val (limbs (val l % val k)) = val k - val l % val k := by rw [val_limbs r1]
    have g7 := limbs_mono (show val k - val l % val k ≤ val k by omega)
    rw [← g6] at g7
    have g8 : val (limbs (val l / val k)) + val (limbs 1) = val l / val k + 1 := by rw [val_limbs (Int.ediv_nonneg vl vk), val_limbs (by omega)]
    have g9 := limbs_add_length (Lim.limbs (val l / val k)) (Lim.limbs 1)
    have g10 := limbs_length_le (n := 1) (k := 1) (by omega)
    have vq := Int.ediv_nonneg vl vk
    repeat' (first
      | (apply RunL.step; exact rfl; apply op_ev (τ := τ); exact rfl; (first | exact hdm | exact of_ev _ | exact add_ev _ _ (by omega) (by first | omega | exact len_u64 (by omega)) | exact sub_ev _ _ (by omega) | (apply make_ev; (first | exact sI_norm _ | exact rfl); (first | omega | exact len_u64 (by omega)))); exact rfl) | (apply RunL.step; exact rfl; exact opA) | (apply RunL.hand; exact rfl; exact rfl; exact lenA; exact rfl) | (apply AWP.seq) | (apply AWP.region; exact rfl) | (apply AWP.block) | (apply AWP.skip) | (apply AWP.exit) | (apply AWP.retF; exact rfl; exact rfl; exact rfl; exact rfl; exact lenA; exact rfl) | (apply AWP.ret) | (apply RunL.nil) | (apply RunL.on; exact rfl; exact rfl; exact rfl; exact rfl; (first | exact rfl | assumption)) | (apply RunL.noU; exact rfl; exact rfl; exact rfl; exact rfl; exact rfl; exact rfl) | (apply RunL.no; exact rfl; exact rfl; exact rfl; exact rfl; (first | exact rfl | assumption); exact rfl; exact rfl) | (refine AWP.cond _ (Rd.of rfl) (fun hc => ?_) (fun hc => ?_) <;> first | (exfalso; cases hc; done) | (have hc' := hc; (try simp only [sc, reduceCtorEq, cmpOf] at hc'); try (exfalso; omega)))
      | (
       apply AWP.drawA
       repeat' (first
         | (apply DL.cons; (try (apply OpLoc.on; exact rfl; exact rfl; exact rfl; exact rfl; (first | exact rfl | assumption))); apply ol_ev (τ := τ); exact rfl; (first | exact hdm | exact of_ev _ | exact add_ev _ _ (by omega) (by first | omega | exact len_u64 (by omega)) | exact sub_ev _ _ (by omega) | (apply make_ev; (first | exact sI_norm _ | exact rfl); (first | omega | exact len_u64 (by omega)))); exact rfl; exact rfl) | (apply DL.cons; exact olA; exact rfl) | (apply DL.nil; kernel_rfl) | (refine DL.split rfl rfl rfl rfl (fun hb => ?_) (fun hb => ?_) <;> have hb' := hb <;> (try simp only [sc, reduceCtorEq, cmpOf] at hb') <;> try (exfalso; omega)))
       all_goals (fail_if_success apply DL.id))
      | (refine RunL.split rfl rfl rfl rfl (fun hb => ?_) (fun hb => ?_) <;> have hb' := hb <;> (try simp only [sc, reduceCtorEq, cmpOf] at hb') <;> try (exfalso; omega)) )
    · apply Ends.mk (.cons (.cellA (τ := τ) rfl rfl rfl rfl rfl) (.cons (.cellA (τ := τ) rfl rfl rfl rfl rfl) (.cons (.tmp rfl) .nil)))
      show D.tup [intD (sI (n != m) (limbs (val l / val k))), intD (sI n (limbs (val l % val k))), D.bool true] = _
      have h1 := fdiv_eq vl h0 (n := n) (m := m) (.inr (by omega))
      rw [if_neg hyn]
      simp only [sI] at h1 hyn ⊢
      rw [h1.1, h1.2, val_limbs vq, val_limbs r1]
      simp [hyn]
    · apply Ends.mk (.cons (.cellA (τ := τ) rfl rfl rfl rfl rfl) (.cons (.cellA (τ := τ) rfl rfl rfl rfl rfl) (.cons (.tmp rfl) .nil)))
      show D.tup [intD (sI true (limbs (val (limbs (val l / val k)) + val (limbs 1)))), intD (sI m (limbs (val k - val (limbs (val l % val k))))), D.bool true] = _
      have h1 := fdiv_ne vl h0 (n := n) (m := m) hb' (by omega)
      rw [if_neg hyn, g6, g8]
      simp only [sI] at h1 hyn ⊢
      rw [h1.1, h1.2, val_limbs (by omega), val_limbs (by omega)]
      simp [hyn]
    · apply Ends.mk (.cons (.cellA (τ := τ) rfl rfl rfl rfl rfl) (.cons (.cellA (τ := τ) rfl rfl rfl rfl rfl) (.cons (.tmp rfl) .nil)))
      show D.tup [intD (sI (n != m) (limbs (val l / val k))), intD (sI n (limbs (val l % val k))), D.bool true] = _
      have h1 := fdiv_eq vl h0 (n := n) (m := m) (.inl hb')
      rw [if_neg hyn]
      simp only [sI] at h1 hyn ⊢
      rw [h1.1, h1.2, val_limbs vq, val_limbs r1]
      simp [hyn]
  · have hke : val k = 0 := h0.symm
    have hdm := divMod_ev l k (by omega)
    rw [if_pos hke, show decide (val k ≠ 0) = false by simp [hke], hke, Int.ediv_zero, limbs_zero] at hdm
    have hy0 := hy.2 hke
    repeat' (first
      | (apply RunL.step; exact rfl; apply op_ev (τ := τ); exact rfl; (first | exact hdm | exact of_ev _ | exact add_ev _ _ (by omega) (by first | omega | exact len_u64 (by omega)) | exact sub_ev _ _ (by omega) | (apply make_ev; (first | exact sI_norm _ | exact rfl); (first | omega | exact len_u64 (by omega)))); exact rfl) | (apply RunL.step; exact rfl; exact opA) | (apply RunL.hand; exact rfl; exact rfl; exact lenA; exact rfl) | (apply AWP.seq) | (apply AWP.region; exact rfl) | (apply AWP.block) | (apply AWP.skip) | (apply AWP.exit) | (apply AWP.retF; exact rfl; exact rfl; exact rfl; exact rfl; exact lenA; exact rfl) | (apply AWP.ret) | (apply RunL.nil) | (apply RunL.on; exact rfl; exact rfl; exact rfl; exact rfl; (first | exact rfl | assumption)) | (apply RunL.noU; exact rfl; exact rfl; exact rfl; exact rfl; exact rfl; exact rfl) | (apply RunL.no; exact rfl; exact rfl; exact rfl; exact rfl; (first | exact rfl | assumption); exact rfl; exact rfl) | (refine AWP.cond _ (Rd.of rfl) (fun hc => ?_) (fun hc => ?_) <;> first | (exfalso; cases hc; done) | (have hc' := hc; (try simp only [sc, reduceCtorEq, cmpOf] at hc'); try (exfalso; omega)))
      | (
       apply AWP.drawA
       repeat' (first
         | (apply DL.cons; (try (apply OpLoc.on; exact rfl; exact rfl; exact rfl; exact rfl; (first | exact rfl | assumption))); apply ol_ev (τ := τ); exact rfl; (first | exact hdm | exact of_ev _ | exact add_ev _ _ (by omega) (by first | omega | exact len_u64 (by omega)) | exact sub_ev _ _ (by omega) | (apply make_ev; (first | exact sI_norm _ | exact rfl); (first | omega | exact len_u64 (by omega)))); exact rfl; exact rfl) | (apply DL.cons; exact olA; exact rfl) | (apply DL.nil; kernel_rfl) | (refine DL.split rfl rfl rfl rfl (fun hb => ?_) (fun hb => ?_) <;> have hb' := hb <;> (try simp only [sc, reduceCtorEq, cmpOf] at hb') <;> try (exfalso; omega)))
       all_goals (fail_if_success apply DL.id))
      | (refine RunL.split rfl rfl rfl rfl (fun hb => ?_) (fun hb => ?_) <;> have hb' := hb <;> (try simp only [sc, reduceCtorEq, cmpOf] at hb') <;> try (exfalso; omega)) )
    apply Ends.mk (.cons (.cellA (τ := τ) rfl rfl rfl rfl rfl) (.cons (.cellA (τ := τ) rfl rfl rfl rfl rfl) (.cons (.tmp rfl) .nil)))
    rw [hy0]
    simp only [pack, Int.fdiv_zero, if_true, ne_eq, not_true, decide_false]
    rw [intD_zero]; rfl
end Go.Proofs.YtffcpgebgoineaaDoor.K
