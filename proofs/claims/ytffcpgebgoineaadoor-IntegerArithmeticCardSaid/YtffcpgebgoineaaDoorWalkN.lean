/- Walks: the reference of layer 2 (examboardref02). -/
import Derived.Test.YtffcpgebgoineaaDoorWalkM
namespace Go.Proofs.YtffcpgebgoineaaDoor.K
open Go
set_option linter.unusedVariables false
set_option linter.unusedSimpArgs false

section
variable {p q : Bool} {a b : List Int} {x y : Int} {k m : Nat}
theorem r2norm [h : IA p a x k] (hk : k ≤ 70368744177660 := by first | omega | (simp only [List.length_cons, List.length_nil, List.length_set, List.length_replicate, List.length_append, List.length_take, List.length_drop]; omega)) : Evals Tryd.prog 32 [.agg [.bool p, .ints .u32 a]] (intD x) := by
  refine evals_of_awp Tryd.func32 rfl (CallOK.of Tryd.func32 (by kernel_rfl) rfl) (Nat.le_of_ble_eq_true rfl) ?_
  rintro w R hR ⟨vs, hv⟩
  obtain ⟨hla, ha⟩ := hv.sint 0 rfl
  have e1 := h.v
  have l1 := h.hl
  have va := val_nonneg ha
  have f0 := limbs_nil va
  have e2 := sI_neg (n := p) ha
  have e3 := sI_natAbs (n := p) ha
  have e4 : cmpOf .gtr ((limbs (val a)).length : Int) 0 = decide (0 < val a) := by
    simp only [cmpOf]; rw [decide_eq_decide]; omega
  subst e1
  cases p
  · repeat' (first
    | (apply RunL.step; exact rfl; apply op_ev (τ := τ); exact rfl; (first | exact r2norm | exact r2make | exact r2sign | exact r2cmp | exact r2neg | exact r2add | exact r2sub | exact r2mul | exact r2div | exact r2div0 | exact r2of _ | exact r1norm | exact r1cmp | exact r1add | exact r1sub | exact r1mul | exact r1bits | exact r1divp | exact r1div | exact r1gcd | exact r1of _ | exact r1limb _ _); exact rfl) | (apply RunL.step; exact rfl; exact opA) | (apply RunL.hand; exact rfl; exact rfl; exact lenA; exact rfl) | (apply AWP.seq) | (apply AWP.region; exact rfl) | (apply AWP.block) | (apply AWP.skip) | (apply AWP.exit) | (apply AWP.retF; exact rfl; exact rfl; exact rfl; exact rfl; exact lenA; exact rfl) | (apply AWP.ret) | (apply RunL.nil) | (apply RunL.on; exact rfl; exact rfl; exact rfl; exact rfl; (first | exact rfl | assumption)) | (apply RunL.noU; exact rfl; exact rfl; exact rfl; exact rfl; exact rfl; exact rfl) | (apply RunL.no; exact rfl; exact rfl; exact rfl; exact rfl; (first | exact rfl | assumption); exact rfl; exact rfl) | (refine AWP.cond _ (Rd.of rfl) (fun hc => ?_) (fun hc => ?_) <;> first | (exfalso; cases hc; done) | (have hc' := hc; (try simp only [sc, reduceCtorEq, cmpOf] at hc'); try (exfalso; omega)))
    | (
     apply AWP.drawA
     repeat' (first
       | (apply DL.cons; (try (apply OpLoc.on; exact rfl; exact rfl; exact rfl; exact rfl; (first | exact rfl | assumption))); apply ol_ev (τ := τ); exact rfl; (first | exact r2norm | exact r2make | exact r2sign | exact r2cmp | exact r2neg | exact r2add | exact r2sub | exact r2mul | exact r2div | exact r2div0 | exact r2of _ | exact r1norm | exact r1cmp | exact r1add | exact r1sub | exact r1mul | exact r1bits | exact r1divp | exact r1div | exact r1gcd | exact r1of _ | exact r1limb _ _); exact rfl; exact rfl) | (apply DL.cons; exact olA; exact rfl) | (apply DL.nil; kernel_rfl) | (refine DL.split rfl rfl rfl rfl (fun hb => ?_) (fun hb => ?_) <;> have hb' := hb <;> (try simp only [sc, reduceCtorEq, cmpOf] at hb') <;> try (exfalso; omega)))
     all_goals (fail_if_success apply DL.id))
    | (refine RunL.split rfl rfl rfl rfl (fun hb => ?_) (fun hb => ?_) <;> have hb' := hb <;> (try simp only [sc, reduceCtorEq, cmpOf] at hb') <;> try (exfalso; omega)) )
    apply Ends.mk (.cons (.cellA (τ := τ) rfl rfl rfl rfl rfl) .nil)
    show _ = D.agg [.bool (decide (sI false a < 0)), .ints .u32 (limbs (sI false a).natAbs)]
    rw [← e2, e3]; rfl
  · repeat' (first
    | (apply RunL.step; exact rfl; apply op_ev (τ := τ); exact rfl; (first | exact r2norm | exact r2make | exact r2sign | exact r2cmp | exact r2neg | exact r2add | exact r2sub | exact r2mul | exact r2div | exact r2div0 | exact r2of _ | exact r1norm | exact r1cmp | exact r1add | exact r1sub | exact r1mul | exact r1bits | exact r1divp | exact r1div | exact r1gcd | exact r1of _ | exact r1limb _ _); exact rfl) | (apply RunL.step; exact rfl; exact opA) | (apply RunL.hand; exact rfl; exact rfl; exact lenA; exact rfl) | (apply AWP.seq) | (apply AWP.region; exact rfl) | (apply AWP.block) | (apply AWP.skip) | (apply AWP.exit) | (apply AWP.retF; exact rfl; exact rfl; exact rfl; exact rfl; exact lenA; exact rfl) | (apply AWP.ret) | (apply RunL.nil) | (apply RunL.on; exact rfl; exact rfl; exact rfl; exact rfl; (first | exact rfl | assumption)) | (apply RunL.noU; exact rfl; exact rfl; exact rfl; exact rfl; exact rfl; exact rfl) | (apply RunL.no; exact rfl; exact rfl; exact rfl; exact rfl; (first | exact rfl | assumption); exact rfl; exact rfl) | (refine AWP.cond _ (Rd.of rfl) (fun hc => ?_) (fun hc => ?_) <;> first | (exfalso; cases hc; done) | (have hc' := hc; (try simp only [sc, reduceCtorEq, cmpOf] at hc'); try (exfalso; omega)))
    | (
     apply AWP.drawA
     repeat' (first
       | (apply DL.cons; (try (apply OpLoc.on; exact rfl; exact rfl; exact rfl; exact rfl; (first | exact rfl | assumption))); apply ol_ev (τ := τ); exact rfl; (first | exact r2norm | exact r2make | exact r2sign | exact r2cmp | exact r2neg | exact r2add | exact r2sub | exact r2mul | exact r2div | exact r2div0 | exact r2of _ | exact r1norm | exact r1cmp | exact r1add | exact r1sub | exact r1mul | exact r1bits | exact r1divp | exact r1div | exact r1gcd | exact r1of _ | exact r1limb _ _); exact rfl; exact rfl) | (apply DL.cons; exact olA; exact rfl) | (apply DL.nil; kernel_rfl) | (refine DL.split rfl rfl rfl rfl (fun hb => ?_) (fun hb => ?_) <;> have hb' := hb <;> (try simp only [sc, reduceCtorEq, cmpOf] at hb') <;> try (exfalso; omega)))
     all_goals (fail_if_success apply DL.id))
    | (refine RunL.split rfl rfl rfl rfl (fun hb => ?_) (fun hb => ?_) <;> have hb' := hb <;> (try simp only [sc, reduceCtorEq, cmpOf] at hb') <;> try (exfalso; omega)) )
    apply Ends.mk (.cons (.cellA (τ := τ) rfl rfl rfl rfl rfl) .nil)
    show _ = D.agg [.bool (decide (sI true a < 0)), .ints .u32 (limbs (sI true a).natAbs)]
    rw [← e2, e3, ← e4]; rfl
theorem r2make [h : IA p a x k] (hk : k ≤ 70368744177660 := by first | omega | (simp only [List.length_cons, List.length_nil, List.length_set, List.length_replicate, List.length_append, List.length_take, List.length_drop]; omega)) : Evals Tryd.prog 23 [.bool p, .ints .u32 a] (intD x) := by
  refine evals_of_awp Tryd.func23 rfl (CallOK.of Tryd.func23 (by kernel_rfl) rfl) (Nat.le_of_ble_eq_true rfl) ?_
  rintro w R hR ⟨vs, hv⟩
  have l1 := h.hl
  repeat' (first
    | (apply RunL.step; exact rfl; apply op_ev (τ := τ); exact rfl; (first | exact r2norm | exact r2make | exact r2sign | exact r2cmp | exact r2neg | exact r2add | exact r2sub | exact r2mul | exact r2div | exact r2div0 | exact r2of _ | exact r1norm | exact r1cmp | exact r1add | exact r1sub | exact r1mul | exact r1bits | exact r1divp | exact r1div | exact r1gcd | exact r1of _ | exact r1limb _ _); exact rfl) | (apply RunL.step; exact rfl; exact opA) | (apply RunL.hand; exact rfl; exact rfl; exact lenA; exact rfl) | (apply AWP.seq) | (apply AWP.region; exact rfl) | (apply AWP.block) | (apply AWP.skip) | (apply AWP.exit) | (apply AWP.retF; exact rfl; exact rfl; exact rfl; exact rfl; exact lenA; exact rfl) | (apply AWP.ret) | (apply RunL.nil) | (apply RunL.on; exact rfl; exact rfl; exact rfl; exact rfl; (first | exact rfl | assumption)) | (apply RunL.noU; exact rfl; exact rfl; exact rfl; exact rfl; exact rfl; exact rfl) | (apply RunL.no; exact rfl; exact rfl; exact rfl; exact rfl; (first | exact rfl | assumption); exact rfl; exact rfl) | (refine AWP.cond _ (Rd.of rfl) (fun hc => ?_) (fun hc => ?_) <;> first | (exfalso; cases hc; done) | (have hc' := hc; (try simp only [sc, reduceCtorEq, cmpOf] at hc'); try (exfalso; omega)))
    | (
     apply AWP.drawA
     repeat' (first
       | (apply DL.cons; (try (apply OpLoc.on; exact rfl; exact rfl; exact rfl; exact rfl; (first | exact rfl | assumption))); apply ol_ev (τ := τ); exact rfl; (first | exact r2norm | exact r2make | exact r2sign | exact r2cmp | exact r2neg | exact r2add | exact r2sub | exact r2mul | exact r2div | exact r2div0 | exact r2of _ | exact r1norm | exact r1cmp | exact r1add | exact r1sub | exact r1mul | exact r1bits | exact r1divp | exact r1div | exact r1gcd | exact r1of _ | exact r1limb _ _); exact rfl; exact rfl) | (apply DL.cons; exact olA; exact rfl) | (apply DL.nil; kernel_rfl) | (refine DL.split rfl rfl rfl rfl (fun hb => ?_) (fun hb => ?_) <;> have hb' := hb <;> (try simp only [sc, reduceCtorEq, cmpOf] at hb') <;> try (exfalso; omega)))
     all_goals (fail_if_success apply DL.id))
    | (refine RunL.split rfl rfl rfl rfl (fun hb => ?_) (fun hb => ?_) <;> have hb' := hb <;> (try simp only [sc, reduceCtorEq, cmpOf] at hb') <;> try (exfalso; omega)) )
  apply Ends.mk (.cons (.cellA (τ := τ) rfl rfl rfl rfl rfl) .nil)
  rfl
theorem r2of (n : Int) : Evals Tryd.prog 35 [.int .i64 n] (intD n) := by
  refine evals_of_awp Tryd.func35 rfl (CallOK.of Tryd.func35 (by kernel_rfl) rfl) (Nat.le_of_ble_eq_true rfl) ?_
  rintro w R hR ⟨vs, hv⟩
  have hn := hv.int 0 rfl
  simp [InR, IntKind.min, IntKind.max, IntKind.bits, IntKind.signed] at hn
  have s1 : n < 0 → SzN (-n) 2 := fun h => SzN.u64 (by omega)
  have s2 : 0 ≤ n → SzN n 2 := fun h => SzN.u64 (by omega)
  by_cases h0 : n < 0
  · have s3 := s1 h0
    have s4 : SzN (-(n + 1) + 1) 2 := SzN.u64 (by omega)
    repeat' (first
      | (apply RunL.step; exact rfl; apply op_ev (τ := τ); exact rfl; (first | exact r2norm | exact r2make | exact r2sign | exact r2cmp | exact r2neg | exact r2add | exact r2sub | exact r2mul | exact r2div | exact r2div0 | exact r2of _ | exact r1norm | exact r1cmp | exact r1add | exact r1sub | exact r1mul | exact r1bits | exact r1divp | exact r1div | exact r1gcd | exact r1of _ | exact r1limb _ _); exact rfl) | (apply RunL.step; exact rfl; exact opA) | (apply RunL.hand; exact rfl; exact rfl; exact lenA; exact rfl) | (apply AWP.seq) | (apply AWP.region; exact rfl) | (apply AWP.block) | (apply AWP.skip) | (apply AWP.exit) | (apply AWP.retF; exact rfl; exact rfl; exact rfl; exact rfl; exact lenA; exact rfl) | (apply AWP.ret) | (apply RunL.nil) | (apply RunL.on; exact rfl; exact rfl; exact rfl; exact rfl; (first | exact rfl | assumption)) | (apply RunL.noU; exact rfl; exact rfl; exact rfl; exact rfl; exact rfl; exact rfl) | (apply RunL.no; exact rfl; exact rfl; exact rfl; exact rfl; (first | exact rfl | assumption); exact rfl; exact rfl) | (refine AWP.cond _ (Rd.of rfl) (fun hc => ?_) (fun hc => ?_) <;> first | (exfalso; cases hc; done) | (have hc' := hc; (try simp only [sc, reduceCtorEq, cmpOf] at hc'); try (exfalso; omega)))
      | (
       apply AWP.drawA
       repeat' (first
         | (apply DL.cons; (try (apply OpLoc.on; exact rfl; exact rfl; exact rfl; exact rfl; (first | exact rfl | assumption))); apply ol_ev (τ := τ); exact rfl; (first | exact r2norm | exact r2make | exact r2sign | exact r2cmp | exact r2neg | exact r2add | exact r2sub | exact r2mul | exact r2div | exact r2div0 | exact r2of _ | exact r1norm | exact r1cmp | exact r1add | exact r1sub | exact r1mul | exact r1bits | exact r1divp | exact r1div | exact r1gcd | exact r1of _ | exact r1limb _ _); exact rfl; exact rfl) | (apply DL.cons; exact olA; exact rfl) | (apply DL.nil; kernel_rfl) | (refine DL.split rfl rfl rfl rfl (fun hb => ?_) (fun hb => ?_) <;> have hb' := hb <;> (try simp only [sc, reduceCtorEq, cmpOf] at hb') <;> try (exfalso; omega)))
       all_goals (fail_if_success apply DL.id))
      | (refine RunL.split rfl rfl rfl rfl (fun hb => ?_) (fun hb => ?_) <;> have hb' := hb <;> (try simp only [sc, reduceCtorEq, cmpOf] at hb') <;> try (exfalso; omega)) )
    apply Ends.mk (.cons (.cellA (τ := τ) rfl rfl rfl rfl rfl) .nil)
    show intD (sN true (-(n + 1) + 1)) = _
    simp only [sN, if_true]; congr 1; omega
  · have s3 := s2 (by omega)
    repeat' (first
      | (apply RunL.step; exact rfl; apply op_ev (τ := τ); exact rfl; (first | exact r2norm | exact r2make | exact r2sign | exact r2cmp | exact r2neg | exact r2add | exact r2sub | exact r2mul | exact r2div | exact r2div0 | exact r2of _ | exact r1norm | exact r1cmp | exact r1add | exact r1sub | exact r1mul | exact r1bits | exact r1divp | exact r1div | exact r1gcd | exact r1of _ | exact r1limb _ _); exact rfl) | (apply RunL.step; exact rfl; exact opA) | (apply RunL.hand; exact rfl; exact rfl; exact lenA; exact rfl) | (apply AWP.seq) | (apply AWP.region; exact rfl) | (apply AWP.block) | (apply AWP.skip) | (apply AWP.exit) | (apply AWP.retF; exact rfl; exact rfl; exact rfl; exact rfl; exact lenA; exact rfl) | (apply AWP.ret) | (apply RunL.nil) | (apply RunL.on; exact rfl; exact rfl; exact rfl; exact rfl; (first | exact rfl | assumption)) | (apply RunL.noU; exact rfl; exact rfl; exact rfl; exact rfl; exact rfl; exact rfl) | (apply RunL.no; exact rfl; exact rfl; exact rfl; exact rfl; (first | exact rfl | assumption); exact rfl; exact rfl) | (refine AWP.cond _ (Rd.of rfl) (fun hc => ?_) (fun hc => ?_) <;> first | (exfalso; cases hc; done) | (have hc' := hc; (try simp only [sc, reduceCtorEq, cmpOf] at hc'); try (exfalso; omega)))
      | (
       apply AWP.drawA
       repeat' (first
         | (apply DL.cons; (try (apply OpLoc.on; exact rfl; exact rfl; exact rfl; exact rfl; (first | exact rfl | assumption))); apply ol_ev (τ := τ); exact rfl; (first | exact r2norm | exact r2make | exact r2sign | exact r2cmp | exact r2neg | exact r2add | exact r2sub | exact r2mul | exact r2div | exact r2div0 | exact r2of _ | exact r1norm | exact r1cmp | exact r1add | exact r1sub | exact r1mul | exact r1bits | exact r1divp | exact r1div | exact r1gcd | exact r1of _ | exact r1limb _ _); exact rfl; exact rfl) | (apply DL.cons; exact olA; exact rfl) | (apply DL.nil; kernel_rfl) | (refine DL.split rfl rfl rfl rfl (fun hb => ?_) (fun hb => ?_) <;> have hb' := hb <;> (try simp only [sc, reduceCtorEq, cmpOf] at hb') <;> try (exfalso; omega)))
       all_goals (fail_if_success apply DL.id))
      | (refine RunL.split rfl rfl rfl rfl (fun hb => ?_) (fun hb => ?_) <;> have hb' := hb <;> (try simp only [sc, reduceCtorEq, cmpOf] at hb') <;> try (exfalso; omega)) )
    apply Ends.mk (.cons (.cellA (τ := τ) rfl rfl rfl rfl rfl) .nil)
    show intD (sN false n) = _
    simp only [sN]; rfl
theorem r2sign [h : IA p a x k] (hk : k ≤ 70368744177660 := by first | omega | (simp only [List.length_cons, List.length_nil, List.length_set, List.length_replicate, List.length_append, List.length_take, List.length_drop]; omega)) : Evals Tryd.prog 18 [.agg [.bool p, .ints .u32 a]] (.int .i64 (cmpI x 0)) := by
  refine evals_of_awp Tryd.func18 rfl (CallOK.of Tryd.func18 (by kernel_rfl) rfl) (Nat.le_of_ble_eq_true rfl) ?_
  rintro w R hR ⟨vs, hv⟩
  have cc := cmpI_cases x 0
  have f0 := limbs_nil (show (0 : Int) ≤ x.natAbs by omega)
  repeat' (first
    | (apply RunL.step; exact rfl; apply op_ev (τ := τ); exact rfl; (first | exact r2norm | exact r2make | exact r2sign | exact r2cmp | exact r2neg | exact r2add | exact r2sub | exact r2mul | exact r2div | exact r2div0 | exact r2of _ | exact r1norm | exact r1cmp | exact r1add | exact r1sub | exact r1mul | exact r1bits | exact r1divp | exact r1div | exact r1gcd | exact r1of _ | exact r1limb _ _); exact rfl) | (apply RunL.step; exact rfl; exact opA) | (apply RunL.hand; exact rfl; exact rfl; exact lenA; exact rfl) | (apply AWP.seq) | (apply AWP.region; exact rfl) | (apply AWP.block) | (apply AWP.skip) | (apply AWP.exit) | (apply AWP.retF; exact rfl; exact rfl; exact rfl; exact rfl; exact lenA; exact rfl) | (apply AWP.ret) | (apply RunL.nil) | (apply RunL.on; exact rfl; exact rfl; exact rfl; exact rfl; (first | exact rfl | assumption)) | (apply RunL.noU; exact rfl; exact rfl; exact rfl; exact rfl; exact rfl; exact rfl) | (apply RunL.no; exact rfl; exact rfl; exact rfl; exact rfl; (first | exact rfl | assumption); exact rfl; exact rfl) | (refine AWP.cond _ (Rd.of rfl) (fun hc => ?_) (fun hc => ?_) <;> first | (exfalso; cases hc; done) | (have hc' := hc; (try simp only [sc, reduceCtorEq, cmpOf] at hc'); try (exfalso; omega)))
    | (
     apply AWP.drawA
     repeat' (first
       | (apply DL.cons; (try (apply OpLoc.on; exact rfl; exact rfl; exact rfl; exact rfl; (first | exact rfl | assumption))); apply ol_ev (τ := τ); exact rfl; (first | exact r2norm | exact r2make | exact r2sign | exact r2cmp | exact r2neg | exact r2add | exact r2sub | exact r2mul | exact r2div | exact r2div0 | exact r2of _ | exact r1norm | exact r1cmp | exact r1add | exact r1sub | exact r1mul | exact r1bits | exact r1divp | exact r1div | exact r1gcd | exact r1of _ | exact r1limb _ _); exact rfl; exact rfl) | (apply DL.cons; exact olA; exact rfl) | (apply DL.nil; kernel_rfl) | (refine DL.split rfl rfl rfl rfl (fun hb => ?_) (fun hb => ?_) <;> have hb' := hb <;> (try simp only [sc, reduceCtorEq, cmpOf] at hb') <;> try (exfalso; omega)))
     all_goals (fail_if_success apply DL.id))
    | (refine RunL.split rfl rfl rfl rfl (fun hb => ?_) (fun hb => ?_) <;> have hb' := hb <;> (try simp only [sc, reduceCtorEq, cmpOf] at hb') <;> try (exfalso; omega)) )
  · apply Ends.mk (.cons (.tmp rfl) .nil)
    simp only [pack]; congr 1; omega
  · apply Ends.mk (.cons (.tmp rfl) .nil)
    have := of_decide_eq_true hc
    simp only [pack]; congr 1; omega
  · apply Ends.mk (.cons (.tmp rfl) .nil)
    have := of_decide_eq_false hc
    simp only [pack]; congr 1; omega
theorem r2cmp [h : IA p a x k] [g : IA q b y m] (hk : k + m ≤ 70368744177660 := by first | omega | (simp only [List.length_cons, List.length_nil, List.length_set, List.length_replicate, List.length_append, List.length_take, List.length_drop]; omega)) : Evals Tryd.prog 5 [.agg [.bool p, .ints .u32 a], .agg [.bool q, .ints .u32 b]] (.int .i64 (cmpI x y)) := by
  refine evals_of_awp Tryd.func5 rfl (CallOK.of Tryd.func5 (by kernel_rfl) rfl) (Nat.le_of_ble_eq_true rfl) ?_
  rintro w R hR ⟨vs, hv⟩
  obtain ⟨hla, ha⟩ := hv.sint 0 rfl
  obtain ⟨hlb, hb⟩ := hv.sint 1 rfl
  have e1 := h.v
  have e2 := g.v
  have va := val_nonneg ha
  have vb := val_nonneg hb
  have c1 := cmpI_cases x 0
  have c2 := cmpI_cases y 0
  have c3 := cmpI_cases x y
  have c4 := cmpI_cases (val a) (val b)
  have c5 := cmpI_cases (val b) (val a)
  unfold sI at e1 e2
  repeat' (first
    | (apply RunL.step; exact rfl; apply op_ev (τ := τ); exact rfl; (first | exact r2norm | exact r2make | exact r2sign | exact r2cmp | exact r2neg | exact r2add | exact r2sub | exact r2mul | exact r2div | exact r2div0 | exact r2of _ | exact r1norm | exact r1cmp | exact r1add | exact r1sub | exact r1mul | exact r1bits | exact r1divp | exact r1div | exact r1gcd | exact r1of _ | exact r1limb _ _); exact rfl) | (apply RunL.step; exact rfl; exact opA) | (apply RunL.hand; exact rfl; exact rfl; exact lenA; exact rfl) | (apply AWP.seq) | (apply AWP.region; exact rfl) | (apply AWP.block) | (apply AWP.skip) | (apply AWP.exit) | (apply AWP.retF; exact rfl; exact rfl; exact rfl; exact rfl; exact lenA; exact rfl) | (apply AWP.ret) | (apply RunL.nil) | (apply RunL.on; exact rfl; exact rfl; exact rfl; exact rfl; (first | exact rfl | assumption)) | (apply RunL.noU; exact rfl; exact rfl; exact rfl; exact rfl; exact rfl; exact rfl) | (apply RunL.no; exact rfl; exact rfl; exact rfl; exact rfl; (first | exact rfl | assumption); exact rfl; exact rfl) | (refine AWP.cond _ (Rd.of rfl) (fun hc => ?_) (fun hc => ?_) <;> first | (exfalso; cases hc; done) | (have hc' := hc; (try simp only [sc, reduceCtorEq, cmpOf] at hc'); try (exfalso; omega)))
    | (
     apply AWP.drawA
     repeat' (first
       | (apply DL.cons; (try (apply OpLoc.on; exact rfl; exact rfl; exact rfl; exact rfl; (first | exact rfl | assumption))); apply ol_ev (τ := τ); exact rfl; (first | exact r2norm | exact r2make | exact r2sign | exact r2cmp | exact r2neg | exact r2add | exact r2sub | exact r2mul | exact r2div | exact r2div0 | exact r2of _ | exact r1norm | exact r1cmp | exact r1add | exact r1sub | exact r1mul | exact r1bits | exact r1divp | exact r1div | exact r1gcd | exact r1of _ | exact r1limb _ _); exact rfl; exact rfl) | (apply DL.cons; exact olA; exact rfl) | (apply DL.nil; kernel_rfl) | (refine DL.split rfl rfl rfl rfl (fun hb => ?_) (fun hb => ?_) <;> have hb' := hb <;> (try simp only [sc, reduceCtorEq, cmpOf] at hb') <;> try (exfalso; omega)))
     all_goals (fail_if_success apply DL.id))
    | (refine RunL.split rfl rfl rfl rfl (fun hb => ?_) (fun hb => ?_) <;> have hb' := hb <;> (try simp only [sc, reduceCtorEq, cmpOf] at hb') <;> try (exfalso; omega)) )
  all_goals
    apply Ends.mk (.cons (.tmp rfl) .nil)
    simp only [pack]; congr 1
    cases p <;> cases q <;> simp at e1 e2 <;> omega
theorem r2neg [h : IA p a x k] (hk : k ≤ 70368744177660 := by first | omega | (simp only [List.length_cons, List.length_nil, List.length_set, List.length_replicate, List.length_append, List.length_take, List.length_drop]; omega)) : Evals Tryd.prog 27 [.agg [.bool p, .ints .u32 a]] (intD (-x)) := by
  refine evals_of_awp Tryd.func27 rfl (CallOK.of Tryd.func27 (by kernel_rfl) rfl) (Nat.le_of_ble_eq_true rfl) ?_
  rintro w R hR ⟨vs, hv⟩
  have e1 := h.v
  have l1 := h.hl
  repeat' (first
    | (apply RunL.step; exact rfl; apply op_ev (τ := τ); exact rfl; (first | exact r2norm | exact r2make | exact r2sign | exact r2cmp | exact r2neg | exact r2add | exact r2sub | exact r2mul | exact r2div | exact r2div0 | exact r2of _ | exact r1norm | exact r1cmp | exact r1add | exact r1sub | exact r1mul | exact r1bits | exact r1divp | exact r1div | exact r1gcd | exact r1of _ | exact r1limb _ _); exact rfl) | (apply RunL.step; exact rfl; exact opA) | (apply RunL.hand; exact rfl; exact rfl; exact lenA; exact rfl) | (apply AWP.seq) | (apply AWP.region; exact rfl) | (apply AWP.block) | (apply AWP.skip) | (apply AWP.exit) | (apply AWP.retF; exact rfl; exact rfl; exact rfl; exact rfl; exact lenA; exact rfl) | (apply AWP.ret) | (apply RunL.nil) | (apply RunL.on; exact rfl; exact rfl; exact rfl; exact rfl; (first | exact rfl | assumption)) | (apply RunL.noU; exact rfl; exact rfl; exact rfl; exact rfl; exact rfl; exact rfl) | (apply RunL.no; exact rfl; exact rfl; exact rfl; exact rfl; (first | exact rfl | assumption); exact rfl; exact rfl) | (refine AWP.cond _ (Rd.of rfl) (fun hc => ?_) (fun hc => ?_) <;> first | (exfalso; cases hc; done) | (have hc' := hc; (try simp only [sc, reduceCtorEq, cmpOf] at hc'); try (exfalso; omega)))
    | (
     apply AWP.drawA
     repeat' (first
       | (apply DL.cons; (try (apply OpLoc.on; exact rfl; exact rfl; exact rfl; exact rfl; (first | exact rfl | assumption))); apply ol_ev (τ := τ); exact rfl; (first | exact r2norm | exact r2make | exact r2sign | exact r2cmp | exact r2neg | exact r2add | exact r2sub | exact r2mul | exact r2div | exact r2div0 | exact r2of _ | exact r1norm | exact r1cmp | exact r1add | exact r1sub | exact r1mul | exact r1bits | exact r1divp | exact r1div | exact r1gcd | exact r1of _ | exact r1limb _ _); exact rfl; exact rfl) | (apply DL.cons; exact olA; exact rfl) | (apply DL.nil; kernel_rfl) | (refine DL.split rfl rfl rfl rfl (fun hb => ?_) (fun hb => ?_) <;> have hb' := hb <;> (try simp only [sc, reduceCtorEq, cmpOf] at hb') <;> try (exfalso; omega)))
     all_goals (fail_if_success apply DL.id))
    | (refine RunL.split rfl rfl rfl rfl (fun hb => ?_) (fun hb => ?_) <;> have hb' := hb <;> (try simp only [sc, reduceCtorEq, cmpOf] at hb') <;> try (exfalso; omega)) )
  apply Ends.mk (.cons (.cellA (τ := τ) rfl rfl rfl rfl rfl) .nil)
  show intD (sI (!p) a) = _
  subst e1
  cases p <;> simp [sI]
theorem r2add [h : IA p a x k] [g : IA q b y m] (hk : k ≤ 70368744177600 ∧ m ≤ 70368744177600 := by first | omega | (simp only [List.length_cons, List.length_nil, List.length_set, List.length_replicate, List.length_append, List.length_take, List.length_drop]; omega)) : Evals Tryd.prog 8 [.agg [.bool p, .ints .u32 a], .agg [.bool q, .ints .u32 b]] (intD (x + y)) := by
  refine evals_of_awp Tryd.func8 rfl (CallOK.of Tryd.func8 (by kernel_rfl) rfl) (Nat.le_of_ble_eq_true rfl) ?_
  rintro w R hR ⟨vs, hv⟩
  obtain ⟨hl, hl'⟩ := hv.sint 0 rfl
  obtain ⟨hk, hk'⟩ := hv.sint 1 rfl
  have e1 := h.v
  have e2 := g.v
  have l1 := h.hl
  have l2 := g.hl
  have vl := val_nonneg hl'
  have vk := val_nonneg hk'
  have s1 := SzN.val hl'
  have s2 := SzN.val hk'
  have g2 := limbs_sub_length hl' hk'
  have g3 := limbs_sub_length hk' hl'
  have s3 : SzN (val a + val b) (max a.length b.length + 1) := ⟨by omega, by
    have t1 := pow_mono (show a.length ≤ max a.length b.length by omega)
    have t2 := pow_mono (show b.length ≤ max a.length b.length by omega)
    have t3 := s1.lt
    have t4 := s2.lt
    have t5 : (4294967296 : Int) ^ (max a.length b.length + 1) = 4294967296 ^ (max a.length b.length) * 4294967296 := Int.pow_succ _ _
    omega⟩
  clear h g
  repeat' (first
    | (apply RunL.step; exact rfl; apply op_ev (τ := τ); exact rfl; (first | exact r2norm | exact r2make | exact r2sign | exact r2cmp | exact r2neg | exact r2add | exact r2sub | exact r2mul | exact r2div | exact r2div0 | exact r2of _ | exact r1norm | exact r1cmp | exact r1add | exact r1sub | exact r1mul | exact r1bits | exact r1divp | exact r1div | exact r1gcd | exact r1of _ | exact r1limb _ _); exact rfl) | (apply RunL.step; exact rfl; exact opA) | (apply RunL.hand; exact rfl; exact rfl; exact lenA; exact rfl) | (apply AWP.seq) | (apply AWP.region; exact rfl) | (apply AWP.block) | (apply AWP.skip) | (apply AWP.exit) | (apply AWP.retF; exact rfl; exact rfl; exact rfl; exact rfl; exact lenA; exact rfl) | (apply AWP.ret) | (apply RunL.nil) | (apply RunL.on; exact rfl; exact rfl; exact rfl; exact rfl; (first | exact rfl | assumption)) | (apply RunL.noU; exact rfl; exact rfl; exact rfl; exact rfl; exact rfl; exact rfl) | (apply RunL.no; exact rfl; exact rfl; exact rfl; exact rfl; (first | exact rfl | assumption); exact rfl; exact rfl) | (refine AWP.cond _ (Rd.of rfl) (fun hc => ?_) (fun hc => ?_) <;> first | (exfalso; cases hc; done) | (have hc' := hc; (try simp only [sc, reduceCtorEq, cmpOf] at hc'); try (exfalso; omega)))
    | (
     apply AWP.drawA
     repeat' (first
       | (apply DL.cons; (try (apply OpLoc.on; exact rfl; exact rfl; exact rfl; exact rfl; (first | exact rfl | assumption))); apply ol_ev (τ := τ); exact rfl; (first | exact r2norm | exact r2make | exact r2sign | exact r2cmp | exact r2neg | exact r2add | exact r2sub | exact r2mul | exact r2div | exact r2div0 | exact r2of _ | exact r1norm | exact r1cmp | exact r1add | exact r1sub | exact r1mul | exact r1bits | exact r1divp | exact r1div | exact r1gcd | exact r1of _ | exact r1limb _ _); exact rfl; exact rfl) | (apply DL.cons; exact olA; exact rfl) | (apply DL.nil; kernel_rfl) | (refine DL.split rfl rfl rfl rfl (fun hb => ?_) (fun hb => ?_) <;> have hb' := hb <;> (try simp only [sc, reduceCtorEq, cmpOf] at hb') <;> try (exfalso; omega)))
     all_goals (fail_if_success apply DL.id))
    | (refine RunL.split rfl rfl rfl rfl (fun hb => ?_) (fun hb => ?_) <;> have hb' := hb <;> (try simp only [sc, reduceCtorEq, cmpOf] at hb') <;> try (exfalso; omega)) )
  · apply Ends.mk (.cons (.cellA (τ := τ) rfl rfl rfl rfl rfl) .nil)
    show intD (sN p (val a + val b)) = _
    subst hc' e1 e2
    congr 1
    cases p <;> simp [sI, sN] <;> omega
  · apply Ends.mk (.cons (.cellA (τ := τ) rfl rfl rfl rfl rfl) .nil)
    show intD (sI p (limbs (val a - val b))) = _
    subst e1 e2
    congr 1
    cases p <;> cases q <;> simp at * <;> simp only [sI, val_limbs (show 0 ≤ val a - val b by omega)] <;> simp <;> omega
  · apply Ends.mk (.cons (.cellA (τ := τ) rfl rfl rfl rfl rfl) .nil)
    show intD (sI q (limbs (val b - val a))) = _
    subst e1 e2
    congr 1
    cases p <;> cases q <;> simp at * <;> simp only [sI, val_limbs (show 0 ≤ val b - val a by omega)] <;> simp <;> omega
theorem r2sub [h : IA p a x k] [g : IA q b y m] (hk : k ≤ 70368744177600 ∧ m ≤ 70368744177600 := by first | omega | (simp only [List.length_cons, List.length_nil, List.length_set, List.length_replicate, List.length_append, List.length_take, List.length_drop]; omega)) : Evals Tryd.prog 10 [.agg [.bool p, .ints .u32 a], .agg [.bool q, .ints .u32 b]] (intD (x - y)) := by
  refine evals_of_awp Tryd.func10 rfl (CallOK.of Tryd.func10 (by kernel_rfl) rfl) (Nat.le_of_ble_eq_true rfl) ?_
  rintro w R hR ⟨vs, hv⟩
  obtain ⟨hk, hk'⟩ := hv.sint 1 rfl
  have e2 := g.v
  have l2 := g.hl
  have s2 : SzI y b.length := by rw [← e2]; exact SzI.sI hk'
  repeat' (first
    | (apply RunL.step; exact rfl; apply op_ev (τ := τ); exact rfl; (first | exact r2norm | exact r2make | exact r2sign | exact r2cmp | exact r2neg | exact r2add | exact r2sub | exact r2mul | exact r2div | exact r2div0 | exact r2of _ | exact r1norm | exact r1cmp | exact r1add | exact r1sub | exact r1mul | exact r1bits | exact r1divp | exact r1div | exact r1gcd | exact r1of _ | exact r1limb _ _); exact rfl) | (apply RunL.step; exact rfl; exact opA) | (apply RunL.hand; exact rfl; exact rfl; exact lenA; exact rfl) | (apply AWP.seq) | (apply AWP.region; exact rfl) | (apply AWP.block) | (apply AWP.skip) | (apply AWP.exit) | (apply AWP.retF; exact rfl; exact rfl; exact rfl; exact rfl; exact lenA; exact rfl) | (apply AWP.ret) | (apply RunL.nil) | (apply RunL.on; exact rfl; exact rfl; exact rfl; exact rfl; (first | exact rfl | assumption)) | (apply RunL.noU; exact rfl; exact rfl; exact rfl; exact rfl; exact rfl; exact rfl) | (apply RunL.no; exact rfl; exact rfl; exact rfl; exact rfl; (first | exact rfl | assumption); exact rfl; exact rfl) | (refine AWP.cond _ (Rd.of rfl) (fun hc => ?_) (fun hc => ?_) <;> first | (exfalso; cases hc; done) | (have hc' := hc; (try simp only [sc, reduceCtorEq, cmpOf] at hc'); try (exfalso; omega)))
    | (
     apply AWP.drawA
     repeat' (first
       | (apply DL.cons; (try (apply OpLoc.on; exact rfl; exact rfl; exact rfl; exact rfl; (first | exact rfl | assumption))); apply ol_ev (τ := τ); exact rfl; (first | exact r2norm | exact r2make | exact r2sign | exact r2cmp | exact r2neg | exact r2add | exact r2sub | exact r2mul | exact r2div | exact r2div0 | exact r2of _ | exact r1norm | exact r1cmp | exact r1add | exact r1sub | exact r1mul | exact r1bits | exact r1divp | exact r1div | exact r1gcd | exact r1of _ | exact r1limb _ _); exact rfl; exact rfl) | (apply DL.cons; exact olA; exact rfl) | (apply DL.nil; kernel_rfl) | (refine DL.split rfl rfl rfl rfl (fun hb => ?_) (fun hb => ?_) <;> have hb' := hb <;> (try simp only [sc, reduceCtorEq, cmpOf] at hb') <;> try (exfalso; omega)))
     all_goals (fail_if_success apply DL.id))
    | (refine RunL.split rfl rfl rfl rfl (fun hb => ?_) (fun hb => ?_) <;> have hb' := hb <;> (try simp only [sc, reduceCtorEq, cmpOf] at hb') <;> try (exfalso; omega)) )
  apply Ends.mk (.cons (.cellA (τ := τ) rfl rfl rfl rfl rfl) .nil)
  show intD (x + -y) = _
  rw [← Int.sub_eq_add_neg]
theorem r2mul [h : IA p a x k] [g : IA q b y m] (hk : k + m ≤ 70368744177000 := by first | omega | (simp only [List.length_cons, List.length_nil, List.length_set, List.length_replicate, List.length_append, List.length_take, List.length_drop]; omega)) : Evals Tryd.prog 12 [.agg [.bool p, .ints .u32 a], .agg [.bool q, .ints .u32 b]] (intD (x * y)) := by
  refine evals_of_awp Tryd.func12 rfl (CallOK.of Tryd.func12 (by kernel_rfl) rfl) (Nat.le_of_ble_eq_true rfl) ?_
  rintro w R hR ⟨vs, hv⟩
  obtain ⟨hl, hl'⟩ := hv.sint 0 rfl
  obtain ⟨hk, hk'⟩ := hv.sint 1 rfl
  have e1 := h.v
  have e2 := g.v
  have l1 := h.hl
  have l2 := g.hl
  have s1 := SzN.val hl'
  have s2 := SzN.val hk'
  clear h g
  repeat' (first
    | (apply RunL.step; exact rfl; apply op_ev (τ := τ); exact rfl; (first | exact r2norm | exact r2make | exact r2sign | exact r2cmp | exact r2neg | exact r2add | exact r2sub | exact r2mul | exact r2div | exact r2div0 | exact r2of _ | exact r1norm | exact r1cmp | exact r1add | exact r1sub | exact r1mul | exact r1bits | exact r1divp | exact r1div | exact r1gcd | exact r1of _ | exact r1limb _ _); exact rfl) | (apply RunL.step; exact rfl; exact opA) | (apply RunL.hand; exact rfl; exact rfl; exact lenA; exact rfl) | (apply AWP.seq) | (apply AWP.region; exact rfl) | (apply AWP.block) | (apply AWP.skip) | (apply AWP.exit) | (apply AWP.retF; exact rfl; exact rfl; exact rfl; exact rfl; exact lenA; exact rfl) | (apply AWP.ret) | (apply RunL.nil) | (apply RunL.on; exact rfl; exact rfl; exact rfl; exact rfl; (first | exact rfl | assumption)) | (apply RunL.noU; exact rfl; exact rfl; exact rfl; exact rfl; exact rfl; exact rfl) | (apply RunL.no; exact rfl; exact rfl; exact rfl; exact rfl; (first | exact rfl | assumption); exact rfl; exact rfl) | (refine AWP.cond _ (Rd.of rfl) (fun hc => ?_) (fun hc => ?_) <;> first | (exfalso; cases hc; done) | (have hc' := hc; (try simp only [sc, reduceCtorEq, cmpOf] at hc'); try (exfalso; omega)))
    | (
     apply AWP.drawA
     repeat' (first
       | (apply DL.cons; (try (apply OpLoc.on; exact rfl; exact rfl; exact rfl; exact rfl; (first | exact rfl | assumption))); apply ol_ev (τ := τ); exact rfl; (first | exact r2norm | exact r2make | exact r2sign | exact r2cmp | exact r2neg | exact r2add | exact r2sub | exact r2mul | exact r2div | exact r2div0 | exact r2of _ | exact r1norm | exact r1cmp | exact r1add | exact r1sub | exact r1mul | exact r1bits | exact r1divp | exact r1div | exact r1gcd | exact r1of _ | exact r1limb _ _); exact rfl; exact rfl) | (apply DL.cons; exact olA; exact rfl) | (apply DL.nil; kernel_rfl) | (refine DL.split rfl rfl rfl rfl (fun hb => ?_) (fun hb => ?_) <;> have hb' := hb <;> (try simp only [sc, reduceCtorEq, cmpOf] at hb') <;> try (exfalso; omega)))
     all_goals (fail_if_success apply DL.id))
    | (refine RunL.split rfl rfl rfl rfl (fun hb => ?_) (fun hb => ?_) <;> have hb' := hb <;> (try simp only [sc, reduceCtorEq, cmpOf] at hb') <;> try (exfalso; omega)) )
  apply Ends.mk (.cons (.cellA (τ := τ) rfl rfl rfl rfl rfl) .nil)
  show intD (sN (p != q) (val a * val b)) = _
  subst e1 e2
  congr 1
  cases p <;> cases q <;> simp [sI, sN, Int.neg_mul_neg, Int.neg_mul, Int.mul_neg]
theorem fdiv_signs {x y : Int} (hy : y ≠ 0) :
    (decide (x < 0) ≠ decide (y < 0) → (x.natAbs : Int) % y.natAbs ≠ 0 → x.fdiv y = sN (decide (x < 0) != decide (y < 0)) ((x.natAbs : Int) / y.natAbs) - 1) ∧
    (decide (x < 0) = decide (y < 0) ∨ (x.natAbs : Int) % y.natAbs = 0 → x.fdiv y = sN (decide (x < 0) != decide (y < 0)) ((x.natAbs : Int) / y.natAbs)) := by
  have ex : (if decide (x < 0) then -(x.natAbs : Int) else x.natAbs) = x := by
    by_cases h : x < 0 <;> simp [h] <;> omega
  have ey : (if decide (y < 0) then -(y.natAbs : Int) else y.natAbs) = y := by
    by_cases h : y < 0 <;> simp [h] <;> omega
  have hu : 0 ≤ (x.natAbs : Int) := by omega
  have hv : 0 < (y.natAbs : Int) := by omega
  constructor
  · intro h1 h2
    have h3 := (fdiv_ne hu hv h1 h2).1
    rw [ex, ey] at h3
    rw [h3, sN, if_pos (bne_iff_ne.2 h1)]
    omega
  · intro h
    have h3 := (fdiv_eq hu hv h).1
    rw [ex, ey] at h3
    rw [h3, sN]
theorem r2div0 [h : IA p a x k] [g : IA q b y m] (hk : k + m ≤ 70368744176000 := by first | omega | (simp only [List.length_cons, List.length_nil, List.length_set, List.length_replicate, List.length_append, List.length_take, List.length_drop]; omega)) : Evals Tryd.prog 14 [.agg [.bool p, .ints .u32 a], .agg [.bool q, .ints .u32 b]] (.tup [intD (Int.fdiv x y), intD (if y = 0 then 0 else Int.fmod x y), .bool (decide (y ≠ 0))]) := by
  refine evals_of_awp Tryd.func14 rfl (CallOK.of Tryd.func14 (by kernel_rfl) rfl) (Nat.le_of_ble_eq_true rfl) ?_
  rintro w R hR ⟨vs, hv⟩
  obtain ⟨hl, hl'⟩ := hv.sint 0 rfl
  obtain ⟨hk, hk'⟩ := hv.sint 1 rfl
  have e1 := h.v
  have e2 := g.v
  have l1 := h.hl
  have l2 := g.hl
  have s1 : SzI x a.length := by rw [← e1]; exact SzI.sI hl'
  have s2 : SzI y b.length := by rw [← e2]; exact SzI.sI hk'
  have hdm := r1div (a := limbs x.natAbs) (b := limbs y.natAbs) (hk := by omega)
  by_cases hy : y = 0
  · subst hy
    rw [if_pos (by rfl), show decide (((0 : Int).natAbs : Int) ≠ 0) = false from rfl] at hdm
    rw [if_pos rfl, Int.fdiv_zero, show decide ((0 : Int) ≠ 0) = false from rfl, intD_zero]
    repeat' (first
      | (apply RunL.step; exact rfl; apply op_ev (τ := τ); exact rfl; (first | exact hdm | exact r2norm | exact r2make | exact r2sign | exact r2cmp | exact r2neg | exact r2add | exact r2sub | exact r2mul | exact r2div | exact r2div0 | exact r2of _ | exact r1norm | exact r1cmp | exact r1add | exact r1sub | exact r1mul | exact r1bits | exact r1divp | exact r1div | exact r1gcd | exact r1of _ | exact r1limb _ _); exact rfl) | (apply RunL.step; exact rfl; exact opA) | (apply RunL.hand; exact rfl; exact rfl; exact lenA; exact rfl) | (apply AWP.seq) | (apply AWP.region; exact rfl) | (apply AWP.block) | (apply AWP.skip) | (apply AWP.exit) | (apply AWP.retF; exact rfl; exact rfl; exact rfl; exact rfl; exact lenA; exact rfl) | (apply AWP.ret) | (apply RunL.nil) | (apply RunL.on; exact rfl; exact rfl; exact rfl; exact rfl; (first | exact rfl | assumption)) | (apply RunL.noU; exact rfl; exact rfl; exact rfl; exact rfl; exact rfl; exact rfl) | (apply RunL.no; exact rfl; exact rfl; exact rfl; exact rfl; (first | exact rfl | assumption); exact rfl; exact rfl) | (refine AWP.cond _ (Rd.of rfl) (fun hc => ?_) (fun hc => ?_) <;> first | (exfalso; cases hc; done) | (have hc' := hc; (try simp only [sc, reduceCtorEq, cmpOf] at hc'); try (exfalso; omega)))
      | (
       apply AWP.drawA
       repeat' (first
         | (apply DL.cons; (try (apply OpLoc.on; exact rfl; exact rfl; exact rfl; exact rfl; (first | exact rfl | assumption))); apply ol_ev (τ := τ); exact rfl; (first | exact hdm | exact r2norm | exact r2make | exact r2sign | exact r2cmp | exact r2neg | exact r2add | exact r2sub | exact r2mul | exact r2div | exact r2div0 | exact r2of _ | exact r1norm | exact r1cmp | exact r1add | exact r1sub | exact r1mul | exact r1bits | exact r1divp | exact r1div | exact r1gcd | exact r1of _ | exact r1limb _ _); exact rfl; exact rfl) | (apply DL.cons; exact olA; exact rfl) | (apply DL.nil; kernel_rfl) | (refine DL.split rfl rfl rfl rfl (fun hb => ?_) (fun hb => ?_) <;> have hb' := hb <;> (try simp only [sc, reduceCtorEq, cmpOf] at hb') <;> try (exfalso; omega)))
       all_goals (fail_if_success apply DL.id))
      | (refine RunL.split rfl rfl rfl rfl (fun hb => ?_) (fun hb => ?_) <;> have hb' := hb <;> (try simp only [sc, reduceCtorEq, cmpOf] at hb') <;> try (exfalso; omega)) )
    apply Ends.mk (.cons (.cellA (τ := τ) rfl rfl rfl rfl rfl) (.cons (.cellA (τ := τ) rfl rfl rfl rfl rfl) (.cons (.tmp rfl) .nil)))
    rfl
  · have hy' : 0 < (y.natAbs : Int) := by omega
    rw [if_neg (by omega), show decide ((y.natAbs : Int) ≠ 0) = true from decide_eq_true (by omega)] at hdm
    rw [if_neg hy, show decide (y ≠ 0) = true from decide_eq_true hy, Int.fmod_def]
    obtain ⟨f1, f2⟩ := fdiv_signs (x := x) hy
    have r1 := Int.emod_nonneg (x.natAbs : Int) (show (y.natAbs : Int) ≠ 0 by omega)
    have g5 := limbs_nil r1
    repeat' (first
      | (apply RunL.step; exact rfl; apply op_ev (τ := τ); exact rfl; (first | exact hdm | exact r2norm | exact r2make | exact r2sign | exact r2cmp | exact r2neg | exact r2add | exact r2sub | exact r2mul | exact r2div | exact r2div0 | exact r2of _ | exact r1norm | exact r1cmp | exact r1add | exact r1sub | exact r1mul | exact r1bits | exact r1divp | exact r1div | exact r1gcd | exact r1of _ | exact r1limb _ _); exact rfl) | (apply RunL.step; exact rfl; exact opA) | (apply RunL.hand; exact rfl; exact rfl; exact lenA; exact rfl) | (apply AWP.seq) | (apply AWP.region; exact rfl) | (apply AWP.block) | (apply AWP.skip) | (apply AWP.exit) | (apply AWP.retF; exact rfl; exact rfl; exact rfl; exact rfl; exact lenA; exact rfl) | (apply AWP.ret) | (apply RunL.nil) | (apply RunL.on; exact rfl; exact rfl; exact rfl; exact rfl; (first | exact rfl | assumption)) | (apply RunL.noU; exact rfl; exact rfl; exact rfl; exact rfl; exact rfl; exact rfl) | (apply RunL.no; exact rfl; exact rfl; exact rfl; exact rfl; (first | exact rfl | assumption); exact rfl; exact rfl) | (refine AWP.cond _ (Rd.of rfl) (fun hc => ?_) (fun hc => ?_) <;> first | (exfalso; cases hc; done) | (have hc' := hc; (try simp only [sc, reduceCtorEq, cmpOf] at hc'); try (exfalso; omega)))
      | (
       apply AWP.drawA
       repeat' (first
         | (apply DL.cons; (try (apply OpLoc.on; exact rfl; exact rfl; exact rfl; exact rfl; (first | exact rfl | assumption))); apply ol_ev (τ := τ); exact rfl; (first | exact hdm | exact r2norm | exact r2make | exact r2sign | exact r2cmp | exact r2neg | exact r2add | exact r2sub | exact r2mul | exact r2div | exact r2div0 | exact r2of _ | exact r1norm | exact r1cmp | exact r1add | exact r1sub | exact r1mul | exact r1bits | exact r1divp | exact r1div | exact r1gcd | exact r1of _ | exact r1limb _ _); exact rfl; exact rfl) | (apply DL.cons; exact olA; exact rfl) | (apply DL.nil; kernel_rfl) | (refine DL.split rfl rfl rfl rfl (fun hb => ?_) (fun hb => ?_) <;> have hb' := hb <;> (try simp only [sc, reduceCtorEq, cmpOf] at hb') <;> try (exfalso; omega)))
       all_goals (fail_if_success apply DL.id))
      | (refine RunL.split rfl rfl rfl rfl (fun hb => ?_) (fun hb => ?_) <;> have hb' := hb <;> (try simp only [sc, reduceCtorEq, cmpOf] at hb') <;> try (exfalso; omega)) )
    · rw [f1 hb' (by omega)]
      apply Ends.mk (.cons (.cellA (τ := τ) rfl rfl rfl rfl rfl) (.cons (.cellA (τ := τ) rfl rfl rfl rfl rfl) (.cons (.tmp rfl) .nil)))
      rfl
    · rw [f2 (.inr (by omega))]
      apply Ends.mk (.cons (.cellA (τ := τ) rfl rfl rfl rfl rfl) (.cons (.cellA (τ := τ) rfl rfl rfl rfl rfl) (.cons (.tmp rfl) .nil)))
      rfl
    · rw [f2 (.inl hb')]
      apply Ends.mk (.cons (.cellA (τ := τ) rfl rfl rfl rfl rfl) (.cons (.cellA (τ := τ) rfl rfl rfl rfl rfl) (.cons (.tmp rfl) .nil)))
      rfl
theorem r2div [h : IA p a x k] [g : IA q b y m] (hy : y ≠ 0 := by first | assumption | omega) (hk : k + m ≤ 70368744176000 := by first | omega | (simp only [List.length_cons, List.length_nil, List.length_set, List.length_replicate, List.length_append, List.length_take, List.length_drop]; omega)) : Evals Tryd.prog 14 [.agg [.bool p, .ints .u32 a], .agg [.bool q, .ints .u32 b]] (.tup [intD (Int.fdiv x y), intD (Int.fmod x y), .bool true]) := by
  have := r2div0 (a := a) (b := b) (p := p) (q := q) (hk := hk)
  rwa [if_neg hy, show decide (y ≠ 0) = true from decide_eq_true hy] at this
end
end Go.Proofs.YtffcpgebgoineaaDoor.K
