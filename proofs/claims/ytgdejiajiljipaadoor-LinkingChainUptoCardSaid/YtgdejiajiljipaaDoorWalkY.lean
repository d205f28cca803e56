/- Walks: package linking and its reference, without the loops. -/
import Derived.Test.YtgdejiajiljipaaDoorLnk
import Derived.Test.YtgdejiajiljipaaDoorVecG
import Derived.Test.YtgdejiajiljipaaDoorWalkO
import Derived.Test.YtgdejiajiljipaaDoorLawR
namespace Go.Proofs.YtgdejiajiljipaaDoor.K
open Go
set_option linter.unusedVariables false
set_option linter.unusedSimpArgs false

theorem divInt_one (n : Int) : Rat.divInt n 1 = (n : Rat) := by rw [Rat.divInt_eq_div, Rat.intCast_one]; grind
theorem SzR.i64 {n : Int} (h : -9223372036854775808 ≤ n ∧ n ≤ 9223372036854775807) : SzR (n : Rat) 2 := SzR.int n 1 (by omega)
theorem HoldsAll.link {R : Nat → Prop} {w : World} {ds : List D} {vs : Array Value} (i : Nat) {s : Bool} {l d : List Int} {s' : Bool} {l' d' : List Int} (h : HoldsAll R w ds vs) (hi : ds[i]? = some (.agg [.bool s, .ints .u32 l, .ints .u32 d, .bool s', .ints .u32 l', .ints .u32 d'])) : Lim l ∧ Lim d ∧ Lim l' ∧ Lim d' := by
  obtain ⟨us, hu⟩ := h.agg i hi
  exact ⟨(hu.nat 1 rfl).2, (hu.nat 2 rfl).2, (hu.nat 4 rfl).2, (hu.nat 5 rfl).2⟩
/-- the datum of a link, in normal form -/
abbrev linkD (p q : Rat) : D := .agg [.bool (decide (p.num < 0)), .ints .u32 (limbs p.num.natAbs), .ints .u32 (limbs p.den), .bool (decide (q.num < 0)), .ints .u32 (limbs q.num.natAbs), .ints .u32 (limbs q.den)]
/-- the link of two zero members, as a composite literal writes it -/
abbrev link0 : D := .agg [.bool false, .ints .u32 [], .ints .u32 [], .bool false, .ints .u32 [], .ints .u32 []]
section
variable {s s' t t' : Bool} {l d l' d' u e u' e' : List Int} {x y z w : Rat} {k m i j : Nat}
theorem kwhole (n : Int) : Evals Tryd.prog 30 [.int .i64 n] (ratD (n : Rat)) := by
  refine evals_of_awp Tryd.func30 rfl (CallOK.of Tryd.func30 (by kernel_rfl) rfl) (Nat.le_of_ble_eq_true rfl) ?_
  rintro w R hR ⟨vs, hv⟩
  rw [← divInt_one]
  repeat' (first
    | (apply RunL.step; exact rfl; apply op_ev (τ := τ); exact rfl; (first | exact rof _ _); exact rfl) | (apply RunL.step; exact rfl; exact opA) | (apply RunL.hand; exact rfl; exact rfl; exact lenA; exact rfl) | (apply AWP.seq) | (apply AWP.region; exact rfl) | (apply AWP.block) | (apply AWP.skip) | (apply AWP.exit) | (apply AWP.retF; exact rfl; exact rfl; exact rfl; exact rfl; exact lenA; exact rfl) | (apply AWP.ret) | (apply RunL.nil) | (apply RunL.on; exact rfl; exact rfl; exact rfl; exact rfl; (first | exact rfl | assumption)) | (apply RunL.noU; exact rfl; exact rfl; exact rfl; exact rfl; exact rfl; exact rfl) | (apply RunL.no; exact rfl; exact rfl; exact rfl; exact rfl; (first | exact rfl | assumption); exact rfl; exact rfl) | (refine AWP.cond _ (Rd.of rfl) (fun hc => ?_) (fun hc => ?_) <;> first | (exfalso; cases hc; done) | (have hc' := hc; (try simp only [sc, reduceCtorEq, cmpOf] at hc'); try (exfalso; omega)))
    | (
     apply AWP.drawA
     repeat' (first
       | (apply DL.cons; (try (apply OpLoc.on; exact rfl; exact rfl; exact rfl; exact rfl; (first | exact rfl | assumption))); apply ol_ev (τ := τ); exact rfl; (first | exact rof _ _); exact rfl; exact rfl) | (apply DL.cons; exact olA; exact rfl) | (apply DL.nil; kernel_rfl) | (refine DL.split rfl rfl rfl rfl (fun hb => ?_) (fun hb => ?_) <;> have hb' := hb <;> (try simp only [sc, reduceCtorEq, cmpOf] at hb') <;> try (exfalso; omega)))
     all_goals (fail_if_success apply DL.id))
    | (refine RunL.split rfl rfl rfl rfl (fun hb => ?_) (fun hb => ?_) <;> have hb' := hb <;> (try simp only [sc, reduceCtorEq, cmpOf] at hb') <;> try (exfalso; omega)) )
  apply Ends.mk (.cons (.cellA (τ := τ) rfl rfl rfl rfl rfl) .nil)
  rfl
theorem kvalid [h : RA s l d x k] [h' : RA s' l' d' y m] (hk : k ≤ 10000000000 := by first | omega | (simp only [List.length_cons, List.length_nil, List.length_set, List.length_replicate, List.length_append, List.length_take, List.length_drop]; omega)) : Evals Tryd.prog 12 [.agg [.bool s, .ints .u32 l, .ints .u32 d, .bool s', .ints .u32 l', .ints .u32 d']] (.bool (decide (0 < cmpQ x 0))) := by
  refine evals_of_awp Tryd.func12 rfl (CallOK.of Tryd.func12 (by kernel_rfl) rfl) (Nat.le_of_ble_eq_true rfl) ?_
  rintro w R hR ⟨vs, hv⟩
  repeat' (first
    | (apply RunL.step; exact rfl; apply op_ev (τ := τ); exact rfl; (first | exact rnorm | exact rneg | exact rsign | exact rcmp | exact radd | exact rsub | exact rmul | exact rmake | exact rdiv | exact rabs | exact rfloor | exact rof _ _); exact rfl) | (apply RunL.step; exact rfl; exact opA) | (apply RunL.hand; exact rfl; exact rfl; exact lenA; exact rfl) | (apply AWP.seq) | (apply AWP.region; exact rfl) | (apply AWP.block) | (apply AWP.skip) | (apply AWP.exit) | (apply AWP.retF; exact rfl; exact rfl; exact rfl; exact rfl; exact lenA; exact rfl) | (apply AWP.ret) | (apply RunL.nil) | (apply RunL.on; exact rfl; exact rfl; exact rfl; exact rfl; (first | exact rfl | assumption)) | (apply RunL.noU; exact rfl; exact rfl; exact rfl; exact rfl; exact rfl; exact rfl) | (apply RunL.no; exact rfl; exact rfl; exact rfl; exact rfl; (first | exact rfl | assumption); exact rfl; exact rfl) | (refine AWP.cond _ (Rd.of rfl) (fun hc => ?_) (fun hc => ?_) <;> first | (exfalso; cases hc; done) | (have hc' := hc; (try simp only [sc, reduceCtorEq, cmpOf] at hc'); try (exfalso; omega)))
    | (
     apply AWP.drawA
     repeat' (first
       | (apply DL.cons; (try (apply OpLoc.on; exact rfl; exact rfl; exact rfl; exact rfl; (first | exact rfl | assumption))); apply ol_ev (τ := τ); exact rfl; (first | exact rnorm | exact rneg | exact rsign | exact rcmp | exact radd | exact rsub | exact rmul | exact rmake | exact rdiv | exact rabs | exact rfloor | exact rof _ _); exact rfl; exact rfl) | (apply DL.cons; exact olA; exact rfl) | (apply DL.nil; kernel_rfl) | (refine DL.split rfl rfl rfl rfl (fun hb => ?_) (fun hb => ?_) <;> have hb' := hb <;> (try simp only [sc, reduceCtorEq, cmpOf] at hb') <;> try (exfalso; omega)))
     all_goals (fail_if_success apply DL.id))
    | (refine RunL.split rfl rfl rfl rfl (fun hb => ?_) (fun hb => ?_) <;> have hb' := hb <;> (try simp only [sc, reduceCtorEq, cmpOf] at hb') <;> try (exfalso; omega)) )
  apply Ends.mk (.cons (.tmp rfl) .nil)
  rfl
theorem kapply [h : RA s l d x k] [h' : RA s' l' d' y m] [g : RA t u e z i] (hk : k + m + i ≤ 1000000000 := by first | omega | (simp only [List.length_cons, List.length_nil, List.length_set, List.length_replicate, List.length_append, List.length_take, List.length_drop]; omega)) : Evals Tryd.prog 9 [.agg [.bool s, .ints .u32 l, .ints .u32 d, .bool s', .ints .u32 l', .ints .u32 d'], .agg [.bool t, .ints .u32 u, .ints .u32 e]] (ratD (x * z + y)) := by
  refine evals_of_awp Tryd.func9 rfl (CallOK.of Tryd.func9 (by kernel_rfl) rfl) (Nat.le_of_ble_eq_true rfl) ?_
  rintro w R hR ⟨vs, hv⟩
  obtain ⟨a1, a2, a3, a4⟩ := hv.link 0 rfl
  obtain ⟨⟨_, b1⟩, _, b2⟩ := hv.rat 1 rfl
  have z1 := h.sz a1 a2
  have z2 := h'.sz a3 a4
  have z3 := g.sz b1 b2
  repeat' (first
    | (apply RunL.step; exact rfl; apply op_ev (τ := τ); exact rfl; (first | exact rnorm | exact rneg | exact rsign | exact rcmp | exact radd | exact rsub | exact rmul | exact rmake | exact rdiv | exact rabs | exact rfloor | exact rof _ _); exact rfl) | (apply RunL.step; exact rfl; exact opA) | (apply RunL.hand; exact rfl; exact rfl; exact lenA; exact rfl) | (apply AWP.seq) | (apply AWP.region; exact rfl) | (apply AWP.block) | (apply AWP.skip) | (apply AWP.exit) | (apply AWP.retF; exact rfl; exact rfl; exact rfl; exact rfl; exact lenA; exact rfl) | (apply AWP.ret) | (apply RunL.nil) | (apply RunL.on; exact rfl; exact rfl; exact rfl; exact rfl; (first | exact rfl | assumption)) | (apply RunL.noU; exact rfl; exact rfl; exact rfl; exact rfl; exact rfl; exact rfl) | (apply RunL.no; exact rfl; exact rfl; exact rfl; exact rfl; (first | exact rfl | assumption); exact rfl; exact rfl) | (refine AWP.cond _ (Rd.of rfl) (fun hc => ?_) (fun hc => ?_) <;> first | (exfalso; cases hc; done) | (have hc' := hc; (try simp only [sc, reduceCtorEq, cmpOf] at hc'); try (exfalso; omega)))
    | (
     apply AWP.drawA
     repeat' (first
       | (apply DL.cons; (try (apply OpLoc.on; exact rfl; exact rfl; exact rfl; exact rfl; (first | exact rfl | assumption))); apply ol_ev (τ := τ); exact rfl; (first | exact rnorm | exact rneg | exact rsign | exact rcmp | exact radd | exact rsub | exact rmul | exact rmake | exact rdiv | exact rabs | exact rfloor | exact rof _ _); exact rfl; exact rfl) | (apply DL.cons; exact olA; exact rfl) | (apply DL.nil; kernel_rfl) | (refine DL.split rfl rfl rfl rfl (fun hb => ?_) (fun hb => ?_) <;> have hb' := hb <;> (try simp only [sc, reduceCtorEq, cmpOf] at hb') <;> try (exfalso; omega)))
     all_goals (fail_if_success apply DL.id))
    | (refine RunL.split rfl rfl rfl rfl (fun hb => ?_) (fun hb => ?_) <;> have hb' := hb <;> (try simp only [sc, reduceCtorEq, cmpOf] at hb') <;> try (exfalso; omega)) )
  apply Ends.mk (.cons (.cellA (τ := τ) rfl rfl rfl rfl rfl) .nil)
  rfl
theorem kcompose [h : RA s l d x k] [h' : RA s' l' d' y m] [g : RA t u e z i] [g' : RA t' u' e' w j] (hk : k + m + i + j ≤ 1000000000 := by first | omega | (simp only [List.length_cons, List.length_nil, List.length_set, List.length_replicate, List.length_append, List.length_take, List.length_drop]; omega)) : Evals Tryd.prog 7 [.agg [.bool s, .ints .u32 l, .ints .u32 d, .bool s', .ints .u32 l', .ints .u32 d'], .agg [.bool t, .ints .u32 u, .ints .u32 e, .bool t', .ints .u32 u', .ints .u32 e']] (linkD (z * x) (z * y + w)) := by
  refine evals_of_awp Tryd.func7 rfl (CallOK.of Tryd.func7 (by kernel_rfl) rfl) (Nat.le_of_ble_eq_true rfl) ?_
  rintro w R hR ⟨vs, hv⟩
  obtain ⟨a1, a2, a3, a4⟩ := hv.link 0 rfl
  obtain ⟨b1, b2, b3, b4⟩ := hv.link 1 rfl
  have z1 := h.sz a1 a2
  have z2 := h'.sz a3 a4
  have z3 := g.sz b1 b2
  have z4 := g'.sz b3 b4
  repeat' (first
    | (apply RunL.step; exact rfl; apply op_ev (τ := τ); exact rfl; (first | exact kapply | exact rnorm | exact rneg | exact rsign | exact rcmp | exact radd | exact rsub | exact rmul | exact rmake | exact rdiv | exact rabs | exact rfloor | exact rof _ _); exact rfl) | (apply RunL.step; exact rfl; exact opA) | (apply RunL.hand; exact rfl; exact rfl; exact lenA; exact rfl) | (apply AWP.seq) | (apply AWP.region; exact rfl) | (apply AWP.block) | (apply AWP.skip) | (apply AWP.exit) | (apply AWP.retF; exact rfl; exact rfl; exact rfl; exact rfl; exact lenA; exact rfl) | (apply AWP.ret) | (apply RunL.nil) | (apply RunL.on; exact rfl; exact rfl; exact rfl; exact rfl; (first | exact rfl | assumption)) | (apply RunL.noU; exact rfl; exact rfl; exact rfl; exact rfl; exact rfl; exact rfl) | (apply RunL.no; exact rfl; exact rfl; exact rfl; exact rfl; (first | exact rfl | assumption); exact rfl; exact rfl) | (refine AWP.cond _ (Rd.of rfl) (fun hc => ?_) (fun hc => ?_) <;> first | (exfalso; cases hc; done) | (have hc' := hc; (try simp only [sc, reduceCtorEq, cmpOf] at hc'); try (exfalso; omega)))
    | (
     apply AWP.drawA
     repeat' (first
       | (apply DL.cons; (try (apply OpLoc.on; exact rfl; exact rfl; exact rfl; exact rfl; (first | exact rfl | assumption))); apply ol_ev (τ := τ); exact rfl; (first | exact kapply | exact rnorm | exact rneg | exact rsign | exact rcmp | exact radd | exact rsub | exact rmul | exact rmake | exact rdiv | exact rabs | exact rfloor | exact rof _ _); exact rfl; exact rfl) | (apply DL.cons; exact olA; exact rfl) | (apply DL.nil; kernel_rfl) | (refine DL.split rfl rfl rfl rfl (fun hb => ?_) (fun hb => ?_) <;> have hb' := hb <;> (try simp only [sc, reduceCtorEq, cmpOf] at hb') <;> try (exfalso; omega)))
     all_goals (fail_if_success apply DL.id))
    | (refine RunL.split rfl rfl rfl rfl (fun hb => ?_) (fun hb => ?_) <;> have hb' := hb <;> (try simp only [sc, reduceCtorEq, cmpOf] at hb') <;> try (exfalso; omega)) )
  apply Ends.mk (.cons (.cellA (τ := τ) rfl rfl rfl rfl rfl) .nil)
  rfl
/-- the inverse of a link -/
def invA (x : Rat) : Rat := 1 / x
def invB (x y : Rat) : Rat := -y / x
theorem kinvert1 [h : RA s l d x k] [h' : RA s' l' d' y m] (hp : 0 < x := by first | assumption | omega) (hk : k + m ≤ 1000000000 := by first | omega | (simp only [List.length_cons, List.length_nil, List.length_set, List.length_replicate, List.length_append, List.length_take, List.length_drop]; omega)) : Evals Tryd.prog 11 [.agg [.bool s, .ints .u32 l, .ints .u32 d, .bool s', .ints .u32 l', .ints .u32 d']] (.tup [linkD (invA x) (invB x y), .int .i64 0]) := by
  refine evals_of_awp Tryd.func11 rfl (CallOK.of Tryd.func11 (by kernel_rfl) rfl) (Nat.le_of_ble_eq_true rfl) ?_
  rintro w R hR ⟨vs, hv⟩
  obtain ⟨a1, a2, a3, a4⟩ := hv.link 0 rfl
  have z1 := h.sz a1 a2
  have z2 := h'.sz a3 a4
  have h0 : x ≠ 0 := by grind
  have hc : 0 < cmpQ x 0 := by rcases cmpQ_cases x 0 with ⟨g1, g2⟩ | ⟨g1, g2⟩ | ⟨g1, g2⟩ <;> first | omega | (exfalso; grind)
  have s1 : SzR ((1 : Int) : Rat) 2 := SzR.i64 (by omega)
  repeat' (first
    | (apply RunL.step; exact rfl; apply op_ev (τ := τ); exact rfl; (first | exact kvalid | exact rdivN | exact kwhole _ | exact rnorm | exact rneg | exact rsign | exact rcmp | exact radd | exact rsub | exact rmul | exact rmake | exact rdiv | exact rabs | exact rfloor | exact rof _ _); exact rfl) | (apply RunL.step; exact rfl; exact opA) | (apply RunL.hand; exact rfl; exact rfl; exact lenA; exact rfl) | (apply AWP.seq) | (apply AWP.region; exact rfl) | (apply AWP.block) | (apply AWP.skip) | (apply AWP.exit) | (apply AWP.retF; exact rfl; exact rfl; exact rfl; exact rfl; exact lenA; exact rfl) | (apply AWP.ret) | (apply RunL.nil) | (apply RunL.on; exact rfl; exact rfl; exact rfl; exact rfl; (first | exact rfl | assumption)) | (apply RunL.noU; exact rfl; exact rfl; exact rfl; exact rfl; exact rfl; exact rfl) | (apply RunL.no; exact rfl; exact rfl; exact rfl; exact rfl; (first | exact rfl | assumption); exact rfl; exact rfl) | (refine AWP.cond _ (Rd.of rfl) (fun hc => ?_) (fun hc => ?_) <;> first | (exfalso; cases hc; done) | (have hc' := hc; (try simp only [sc, reduceCtorEq, cmpOf] at hc'); try (exfalso; omega)))
    | (
     apply AWP.drawA
     repeat' (first
       | (apply DL.cons; (try (apply OpLoc.on; exact rfl; exact rfl; exact rfl; exact rfl; (first | exact rfl | assumption))); apply ol_ev (τ := τ); exact rfl; (first | exact kvalid | exact rdivN | exact kwhole _ | exact rnorm | exact rneg | exact rsign | exact rcmp | exact radd | exact rsub | exact rmul | exact rmake | exact rdiv | exact rabs | exact rfloor | exact rof _ _); exact rfl; exact rfl) | (apply DL.cons; exact olA; exact rfl) | (apply DL.nil; kernel_rfl) | (refine DL.split rfl rfl rfl rfl (fun hb => ?_) (fun hb => ?_) <;> have hb' := hb <;> (try simp only [sc, reduceCtorEq, cmpOf] at hb') <;> try (exfalso; omega)))
     all_goals (fail_if_success apply DL.id))
    | (refine RunL.split rfl rfl rfl rfl (fun hb => ?_) (fun hb => ?_) <;> have hb' := hb <;> (try simp only [sc, reduceCtorEq, cmpOf] at hb') <;> try (exfalso; omega)) )
  apply Ends.mk (.cons (.cellA (τ := τ) rfl rfl rfl rfl rfl) (.cons (.tmp rfl) .nil))
  rfl
theorem kinvert0 [h : RA s l d x k] [h' : RA s' l' d' y m] (hp : ¬ 0 < x := by first | assumption | omega) (hk : k + m ≤ 1000000000 := by first | omega | (simp only [List.length_cons, List.length_nil, List.length_set, List.length_replicate, List.length_append, List.length_take, List.length_drop]; omega)) : Evals Tryd.prog 11 [.agg [.bool s, .ints .u32 l, .ints .u32 d, .bool s', .ints .u32 l', .ints .u32 d']] (.tup [link0, .int .i64 1]) := by
  refine evals_of_awp Tryd.func11 rfl (CallOK.of Tryd.func11 (by kernel_rfl) rfl) (Nat.le_of_ble_eq_true rfl) ?_
  rintro w R hR ⟨vs, hv⟩
  have hc : ¬ 0 < cmpQ x 0 := by rcases cmpQ_cases x 0 with ⟨g1, g2⟩ | ⟨g1, g2⟩ | ⟨g1, g2⟩ <;> first | omega | (exfalso; grind)
  repeat' (first
    | (apply RunL.step; exact rfl; apply op_ev (τ := τ); exact rfl; (first | exact kvalid | exact rdivN | exact kwhole _ | exact rnorm | exact rneg | exact rsign | exact rcmp | exact radd | exact rsub | exact rmul | exact rmake | exact rdiv | exact rabs | exact rfloor | exact rof _ _); exact rfl) | (apply RunL.step; exact rfl; exact opA) | (apply RunL.hand; exact rfl; exact rfl; exact lenA; exact rfl) | (apply AWP.seq) | (apply AWP.region; exact rfl) | (apply AWP.block) | (apply AWP.skip) | (apply AWP.exit) | (apply AWP.retF; exact rfl; exact rfl; exact rfl; exact rfl; exact lenA; exact rfl) | (apply AWP.ret) | (apply RunL.nil) | (apply RunL.on; exact rfl; exact rfl; exact rfl; exact rfl; (first | exact rfl | assumption)) | (apply RunL.noU; exact rfl; exact rfl; exact rfl; exact rfl; exact rfl; exact rfl) | (apply RunL.no; exact rfl; exact rfl; exact rfl; exact rfl; (first | exact rfl | assumption); exact rfl; exact rfl) | (refine AWP.cond _ (Rd.of rfl) (fun hc => ?_) (fun hc => ?_) <;> first | (exfalso; cases hc; done) | (have hc' := hc; (try simp only [sc, reduceCtorEq, cmpOf] at hc'); try (exfalso; omega)))
    | (
     apply AWP.drawA
     repeat' (first
       | (apply DL.cons; (try (apply OpLoc.on; exact rfl; exact rfl; exact rfl; exact rfl; (first | exact rfl | assumption))); apply ol_ev (τ := τ); exact rfl; (first | exact kvalid | exact rdivN | exact kwhole _ | exact rnorm | exact rneg | exact rsign | exact rcmp | exact radd | exact rsub | exact rmul | exact rmake | exact rdiv | exact rabs | exact rfloor | exact rof _ _); exact rfl; exact rfl) | (apply DL.cons; exact olA; exact rfl) | (apply DL.nil; kernel_rfl) | (refine DL.split rfl rfl rfl rfl (fun hb => ?_) (fun hb => ?_) <;> have hb' := hb <;> (try simp only [sc, reduceCtorEq, cmpOf] at hb') <;> try (exfalso; omega)))
     all_goals (fail_if_success apply DL.id))
    | (refine RunL.split rfl rfl rfl rfl (fun hb => ?_) (fun hb => ?_) <;> have hb' := hb <;> (try simp only [sc, reduceCtorEq, cmpOf] at hb') <;> try (exfalso; omega)) )
  apply Ends.mk (.cons (.cellA (τ := τ) rfl rfl rfl rfl rfl) (.cons (.tmp rfl) .nil))
  rfl
theorem invB_ref {x y : Rat} (hx : x ≠ 0) : -(y * (1 / x)) = invB x y := by
  unfold invB
  rw [Rat.div_def, Rat.div_def]; grind
end
end Go.Proofs.YtgdejiajiljipaaDoor.K
namespace Go.Proofs.YtgdejiajiljipaaDoor.K
open Go
set_option linter.unusedVariables false
set_option linter.unusedSimpArgs false

theorem HoldsAll.intsJ {R : Nat → Prop} {w : World} {ds : List D} {vs : Array Value} (i : Nat) {l : List Int} (h : HoldsAll R w ds vs) (hi : ds[i]? = some (.ints .i64 l)) : l.length ≤ 9223372036854775807 ∧ ∀ i : Int, -9223372036854775808 ≤ ix l i ∧ ix l i ≤ 9223372036854775807 := by
  obtain ⟨h1, h2⟩ := h.ints i hi
  refine ⟨h1, fun i => ?_⟩
  unfold ix
  rw [List.getD_eq_getElem?_getD]
  cases e : l[i.toNat]? with
  | none => simp
  | some n =>
    have := h2 n (List.mem_of_getElem? e)
    simpa [InR, IntKind.min, IntKind.max, IntKind.bits, IntKind.signed] using this
/-- the numbers of a list, as a function -/
abbrev fn (l : List Int) : Nat → Int := fun i => ix l i
theorem coef_ix {l : List Int} (h : coefOK l) (i : Int) : -1000000 ≤ ix l i ∧ ix l i ≤ 1000000 := by
  unfold ix
  rw [List.getD_eq_getElem?_getD]
  cases e : l[i.toNat]? with
  | none => simp
  | some n => exact h n (List.mem_of_getElem? e)
/-- the sum of a list within the limits -/
theorem sum_bound {l : List Int} (h : coefOK l) (n : Nat) (hn : n ≤ 60) : -60000000 ≤ sumZ (fn l) n ∧ sumZ (fn l) n ≤ 60000000 := by
  have := sumZ_bound (f := fn l) (c := 1000000) (fun i => by have := coef_ix h i; exact this) n
  omega
theorem sumZ_step {f : Nat → Int} {i : Int} (h : 0 ≤ i) : sumZ f (i + 1).toNat = sumZ f i.toNat + f i.toNat := by
  rw [show (i + 1).toNat = i.toNat + 1 by omega, sumZ]
theorem sumF_step {f : Nat → Rat} {i : Int} (h : 0 ≤ i) : sumF f (i + 1).toNat = sumF f i.toNat + f i.toNat := by
  rw [show (i + 1).toNat = i.toNat + 1 by omega, sumF]
abbrev ratC0 : List D := [.bool false, .ints .u32 [], .ints .u32 []]
abbrev ratCl (q : Rat) : List D := [.bool (decide (q.num < 0)), .ints .u32 (limbs q.num.natAbs), .ints .u32 (limbs q.den)]
theorem kmean (l : List Int) (hc : coefOK l) (h1 : 0 < l.length) (h2 : l.length ≤ 60) : Evals Tryd.prog 36 [.ints .i64 l] (ratD (meanQ (fn l) l.length)) := by
  refine evals_of_awp Tryd.func36 rfl (CallOK.of Tryd.func36 (by kernel_rfl) rfl) (Nat.le_of_ble_eq_true rfl) ?_
  rintro w R hR ⟨vs, hv⟩
  obtain ⟨_, hx⟩ := hv.intsJ 0 rfl
  repeat' (first
    | (apply RunL.step; exact rfl; apply op_ev (τ := τ); exact rfl; (first | exact rof _ _); exact rfl) | (apply RunL.step; exact rfl; exact opA) | (apply RunL.hand; exact rfl; exact rfl; exact lenA; exact rfl) | (apply AWP.seq) | (apply AWP.region; exact rfl) | (apply AWP.block) | (apply AWP.skip) | (apply AWP.exit) | (apply AWP.retF; exact rfl; exact rfl; exact rfl; exact rfl; exact lenA; exact rfl) | (apply AWP.ret) | (apply RunL.nil) | (apply RunL.on; exact rfl; exact rfl; exact rfl; exact rfl; (first | exact rfl | assumption)) | (apply RunL.noU; exact rfl; exact rfl; exact rfl; exact rfl; exact rfl; exact rfl) | (apply RunL.no; exact rfl; exact rfl; exact rfl; exact rfl; (first | exact rfl | assumption); exact rfl; exact rfl) | (refine AWP.cond _ (Rd.of rfl) (fun hc => ?_) (fun hc => ?_) <;> first | (exfalso; cases hc; done) | (have hc' := hc; (try simp only [sc, reduceCtorEq, cmpOf] at hc'); try (exfalso; omega)))
    | (
     apply AWP.drawA
     repeat' (first
       | (apply DL.cons; (try (apply OpLoc.on; exact rfl; exact rfl; exact rfl; exact rfl; (first | exact rfl | assumption))); apply ol_ev (τ := τ); exact rfl; (first | exact rof _ _); exact rfl; exact rfl) | (apply DL.cons; exact olA; exact rfl) | (apply DL.nil; kernel_rfl) | (refine DL.split rfl rfl rfl rfl (fun hb => ?_) (fun hb => ?_) <;> have hb' := hb <;> (try simp only [sc, reduceCtorEq, cmpOf] at hb') <;> try (exfalso; omega)))
     all_goals (fail_if_success apply DL.id))
    | (refine RunL.split rfl rfl rfl rfl (fun hb => ?_) (fun hb => ?_) <;> have hb' := hb <;> (try simp only [sc, reduceCtorEq, cmpOf] at hb') <;> try (exfalso; omega)) )
  refine AWP.loop2 (fun i n : Int => ⟨[(0, .val (.ints .i64 l)), (2, .pb 2 0), (3, .val (.int .i64 n)), (8, .val (.ints .i64 l)), (9, .val (.int .i64 l.length)), (10, .val (.int .i64 i))], [(2, .cells 27 ratC0)]⟩) (fun i n => 0 ≤ i ∧ i ≤ l.length ∧ n = sumZ (fn l) i.toNat) (fun i _ => (l.length - i).toNat) 0 0 ⟨by omega, by omega, rfl⟩ (St.Le.of (by repeat' (first | exact all_nil | refine all_cons rfl ?_)) (by repeat' (first | exact all_nil | refine all_cons rfl ?_))) ?_
  rintro i n ⟨k1, k2, k3⟩
  have hs := sum_bound hc i.toNat (by omega)
  rw [← k3] at hs
  by_cases hi : i < l.length
  · have hci := coef_ix hc i
    have hst := sumZ_step (f := fn l) k1
    rw [← k3] at hst
    simp only [fn, show ((i.toNat : Nat) : Int) = i by omega] at hst
    repeat' (first
      | (apply RunL.step; exact rfl; apply op_ev (τ := τ); exact rfl; (first | exact rof _ _); exact rfl) | (apply RunL.step; exact rfl; exact opA) | (apply RunL.hand; exact rfl; exact rfl; exact lenA; exact rfl) | (apply AWP.seq) | (apply AWP.region; exact rfl) | (apply AWP.block) | (apply AWP.skip) | (apply AWP.exit) | (apply AWP.retF; exact rfl; exact rfl; exact rfl; exact rfl; exact lenA; exact rfl) | (apply AWP.ret) | (apply RunL.nil) | (apply RunL.on; exact rfl; exact rfl; exact rfl; exact rfl; (first | exact rfl | assumption)) | (apply RunL.noU; exact rfl; exact rfl; exact rfl; exact rfl; exact rfl; exact rfl) | (apply RunL.no; exact rfl; exact rfl; exact rfl; exact rfl; (first | exact rfl | assumption); exact rfl; exact rfl) | (refine AWP.cond _ (Rd.of rfl) (fun hc => ?_) (fun hc => ?_) <;> first | (exfalso; cases hc; done) | (have hc' := hc; (try simp only [sc, reduceCtorEq, cmpOf] at hc'); try (exfalso; omega)))
      | (
       apply AWP.drawA
       repeat' (first
         | (apply DL.cons; (try (apply OpLoc.on; exact rfl; exact rfl; exact rfl; exact rfl; (first | exact rfl | assumption))); apply ol_ev (τ := τ); exact rfl; (first | exact rof _ _); exact rfl; exact rfl) | (apply DL.cons; exact olA; exact rfl) | (apply DL.nil; kernel_rfl) | (refine DL.split rfl rfl rfl rfl (fun hb => ?_) (fun hb => ?_) <;> have hb' := hb <;> (try simp only [sc, reduceCtorEq, cmpOf] at hb') <;> try (exfalso; omega)))
       all_goals (fail_if_success apply DL.id))
      | (refine RunL.split rfl rfl rfl rfl (fun hb => ?_) (fun hb => ?_) <;> have hb' := hb <;> (try simp only [sc, reduceCtorEq, cmpOf] at hb') <;> try (exfalso; omega)) )
    exact ⟨_, _, St.Le.of (by repeat' (first | exact all_nil | refine all_cons rfl ?_)) (by repeat' (first | exact all_nil | refine all_cons rfl ?_)), ⟨by omega, by omega, hst.symm⟩, by omega⟩
  · rw [show i.toNat = l.length by omega] at k3
    repeat' (first
      | (apply RunL.step; exact rfl; apply op_ev (τ := τ); exact rfl; (first | exact rof _ _); exact rfl) | (apply RunL.step; exact rfl; exact opA) | (apply RunL.hand; exact rfl; exact rfl; exact lenA; exact rfl) | (apply AWP.seq) | (apply AWP.region; exact rfl) | (apply AWP.block) | (apply AWP.skip) | (apply AWP.exit) | (apply AWP.retF; exact rfl; exact rfl; exact rfl; exact rfl; exact lenA; exact rfl) | (apply AWP.ret) | (apply RunL.nil) | (apply RunL.on; exact rfl; exact rfl; exact rfl; exact rfl; (first | exact rfl | assumption)) | (apply RunL.noU; exact rfl; exact rfl; exact rfl; exact rfl; exact rfl; exact rfl) | (apply RunL.no; exact rfl; exact rfl; exact rfl; exact rfl; (first | exact rfl | assumption); exact rfl; exact rfl) | (refine AWP.cond _ (Rd.of rfl) (fun hc => ?_) (fun hc => ?_) <;> first | (exfalso; cases hc; done) | (have hc' := hc; (try simp only [sc, reduceCtorEq, cmpOf] at hc'); try (exfalso; omega)))
      | (
       apply AWP.drawA
       repeat' (first
         | (apply DL.cons; (try (apply OpLoc.on; exact rfl; exact rfl; exact rfl; exact rfl; (first | exact rfl | assumption))); apply ol_ev (τ := τ); exact rfl; (first | exact rof _ _); exact rfl; exact rfl) | (apply DL.cons; exact olA; exact rfl) | (apply DL.nil; kernel_rfl) | (refine DL.split rfl rfl rfl rfl (fun hb => ?_) (fun hb => ?_) <;> have hb' := hb <;> (try simp only [sc, reduceCtorEq, cmpOf] at hb') <;> try (exfalso; omega)))
       all_goals (fail_if_success apply DL.id))
      | (refine RunL.split rfl rfl rfl rfl (fun hb => ?_) (fun hb => ?_) <;> have hb' := hb <;> (try simp only [sc, reduceCtorEq, cmpOf] at hb') <;> try (exfalso; omega)) )
    apply Ends.mk (.cons (.cellA (τ := τ) rfl rfl rfl rfl rfl) .nil)
    rw [k3]; rfl
theorem mean_sz {l : List Int} (hc : coefOK l) (h2 : l.length ≤ 60) : SzR (meanQ (fn l) l.length) 5 := by
  have hs := sum_bound hc l.length h2
  have s1 : SzI (sumZ (fn l) l.length) 2 := SzI.i64 (by omega)
  have s2 : SzI (l.length : Int) 2 := SzI.i64 (by omega)
  exact SzR.di _ _ 2 2
theorem dev_sz {l : List Int} (hc : coefOK l) (h2 : l.length ≤ 60) : SzR (devQ (fn l) l.length) 600 := by
  have zm := mean_sz hc h2
  refine (sz_sumF (fun i => absQ ((fn l i : Rat) - meanQ (fn l) l.length)) 8 (fun i => ?_) l.length).mono (by omega)
  have hi := coef_ix hc i
  have zi : SzR ((ix l i : Int) : Rat) 2 := SzR.i64 (by omega)
  have := SzR.sub _ _ 2 5 (h := zi) (g := zm)
  exact SzR.abs _ 8 (h := this)
set_option maxHeartbeats 1000000 in
theorem kdev (l : List Int) (hc : coefOK l) (h1 : 0 < l.length) (h2 : l.length ≤ 60) : Evals Tryd.prog 47 [.ints .i64 l] (ratD (devQ (fn l) l.length)) := by
  have hmean0 := kmean l hc h1 h2
  refine evals_of_awp Tryd.func47 rfl (CallOK.of Tryd.func47 (by kernel_rfl) rfl) (Nat.le_of_ble_eq_true rfl) ?_
  rintro w R hR ⟨vs, hv⟩
  obtain ⟨_, hx⟩ := hv.intsJ 0 rfl
  have zm := mean_sz hc h2
  obtain ⟨mq, hm⟩ : ∃ mq, meanQ (fn l) l.length = mq := ⟨_, rfl⟩
  have hmean := hmean0
  unfold devQ
  rw [hm] at zm hmean ⊢
  have zw0 : SzR ((0 : Int) : Rat) 2 := SzR.i64 (by omega)
  repeat' (first
    | (apply RunL.step; exact rfl; apply op_ev (τ := τ); exact rfl; (first | exact hmean | exact kwhole _ | exact radd | exact rabs | exact rsub); exact rfl) | (apply RunL.step; exact rfl; exact opA) | (apply RunL.hand; exact rfl; exact rfl; exact lenA; exact rfl) | (apply AWP.seq) | (apply AWP.region; exact rfl) | (apply AWP.block) | (apply AWP.skip) | (apply AWP.exit) | (apply AWP.retF; exact rfl; exact rfl; exact rfl; exact rfl; exact lenA; exact rfl) | (apply AWP.ret) | (apply RunL.nil) | (apply RunL.on; exact rfl; exact rfl; exact rfl; exact rfl; (first | exact rfl | assumption)) | (apply RunL.noU; exact rfl; exact rfl; exact rfl; exact rfl; exact rfl; exact rfl) | (apply RunL.no; exact rfl; exact rfl; exact rfl; exact rfl; (first | exact rfl | assumption); exact rfl; exact rfl) | (refine AWP.cond _ (Rd.of rfl) (fun hc => ?_) (fun hc => ?_) <;> first | (exfalso; cases hc; done) | (have hc' := hc; (try simp only [sc, reduceCtorEq, cmpOf] at hc'); try (exfalso; omega)))
    | (
     apply AWP.drawA
     repeat' (first
       | (apply DL.cons; (try (apply OpLoc.on; exact rfl; exact rfl; exact rfl; exact rfl; (first | exact rfl | assumption))); apply ol_ev (τ := τ); exact rfl; (first | exact hmean | exact kwhole _ | exact radd | exact rabs | exact rsub); exact rfl; exact rfl) | (apply DL.cons; exact olA; exact rfl) | (apply DL.nil; kernel_rfl) | (refine DL.split rfl rfl rfl rfl (fun hb => ?_) (fun hb => ?_) <;> have hb' := hb <;> (try simp only [sc, reduceCtorEq, cmpOf] at hb') <;> try (exfalso; omega)))
     all_goals (fail_if_success apply DL.id))
    | (refine RunL.split rfl rfl rfl rfl (fun hb => ?_) (fun hb => ?_) <;> have hb' := hb <;> (try simp only [sc, reduceCtorEq, cmpOf] at hb') <;> try (exfalso; omega)) )
  refine AWP.loop2 (fun (i : Int) (q : Rat) => ⟨[(2, .pb 2 0), (3, .pb 3 0), (4, .pb 4 0), (10, .val (.ints .i64 l)), (11, .val (.int .i64 l.length)), (12, .val (.int .i64 i))], [(2, .cells 27 ratC0), (3, .cells 27 (ratCl mq)), (4, .cells 27 (ratCl q))]⟩) (fun i q => 0 ≤ i ∧ i ≤ l.length ∧ q = sumF (fun i => absQ ((fn l i : Rat) - mq)) i.toNat ∧ SzR q (i.toNat * 9 + 2)) (fun i _ => (l.length - i).toNat) 0 ((0 : Int) : Rat) ⟨by omega, by omega, rfl, by simpa using zw0⟩ (St.Le.of (by repeat' (first | exact all_nil | refine all_cons rfl ?_)) (by repeat' (first | exact all_nil | refine all_cons rfl ?_))) ?_
  rintro i q ⟨k1, k2, k3, k4⟩
  by_cases hi : i < l.length
  · have hci := coef_ix hc i
    have zi : SzR ((ix l i : Int) : Rat) 2 := SzR.i64 (by omega)
    have hst := sumF_step (f := fun i => absQ ((fn l i : Rat) - mq)) k1
    simp only [fn, show ((i.toNat : Nat) : Int) = i by omega] at hst
    have zs := SzR.sub _ _ 2 5 (h := zi) (g := zm)
    have za := SzR.abs _ _ (h := zs)
    have zt := SzR.add _ _ _ _ (h := k4) (g := za)
    repeat' (first
      | (apply RunL.step; exact rfl; apply op_ev (τ := τ); exact rfl; (first | exact hmean | exact kwhole _ | exact radd | exact rabs | exact rsub); exact rfl) | (apply RunL.step; exact rfl; exact opA) | (apply RunL.hand; exact rfl; exact rfl; exact lenA; exact rfl) | (apply AWP.seq) | (apply AWP.region; exact rfl) | (apply AWP.block) | (apply AWP.skip) | (apply AWP.exit) | (apply AWP.retF; exact rfl; exact rfl; exact rfl; exact rfl; exact lenA; exact rfl) | (apply AWP.ret) | (apply RunL.nil) | (apply RunL.on; exact rfl; exact rfl; exact rfl; exact rfl; (first | exact rfl | assumption)) | (apply RunL.noU; exact rfl; exact rfl; exact rfl; exact rfl; exact rfl; exact rfl) | (apply RunL.no; exact rfl; exact rfl; exact rfl; exact rfl; (first | exact rfl | assumption); exact rfl; exact rfl) | (refine AWP.cond _ (Rd.of rfl) (fun hc => ?_) (fun hc => ?_) <;> first | (exfalso; cases hc; done) | (have hc' := hc; (try simp only [sc, reduceCtorEq, cmpOf] at hc'); try (exfalso; omega)))
      | (
       apply AWP.drawA
       repeat' (first
         | (apply DL.cons; (try (apply OpLoc.on; exact rfl; exact rfl; exact rfl; exact rfl; (first | exact rfl | assumption))); apply ol_ev (τ := τ); exact rfl; (first | exact hmean | exact kwhole _ | exact radd | exact rabs | exact rsub); exact rfl; exact rfl) | (apply DL.cons; exact olA; exact rfl) | (apply DL.nil; kernel_rfl) | (refine DL.split rfl rfl rfl rfl (fun hb => ?_) (fun hb => ?_) <;> have hb' := hb <;> (try simp only [sc, reduceCtorEq, cmpOf] at hb') <;> try (exfalso; omega)))
       all_goals (fail_if_success apply DL.id))
      | (refine RunL.split rfl rfl rfl rfl (fun hb => ?_) (fun hb => ?_) <;> have hb' := hb <;> (try simp only [sc, reduceCtorEq, cmpOf] at hb') <;> try (exfalso; omega)) )
    refine ⟨i + 1, _, St.Le.of (by repeat' (first | exact all_nil | refine all_cons rfl ?_)) (by repeat' (first | exact all_nil | refine all_cons rfl ?_)), ⟨by omega, by omega, ?_, zt.mono ?_⟩, by omega⟩
    · rw [hst, k3]; rfl
    · rw [show (i + 1).toNat = i.toNat + 1 by omega, Nat.succ_mul]; omega
  · rw [show i.toNat = l.length by omega] at k3
    repeat' (first
      | (apply RunL.step; exact rfl; apply op_ev (τ := τ); exact rfl; (first | exact hmean | exact kwhole _ | exact radd | exact rabs | exact rsub); exact rfl) | (apply RunL.step; exact rfl; exact opA) | (apply RunL.hand; exact rfl; exact rfl; exact lenA; exact rfl) | (apply AWP.seq) | (apply AWP.region; exact rfl) | (apply AWP.block) | (apply AWP.skip) | (apply AWP.exit) | (apply AWP.retF; exact rfl; exact rfl; exact rfl; exact rfl; exact lenA; exact rfl) | (apply AWP.ret) | (apply RunL.nil) | (apply RunL.on; exact rfl; exact rfl; exact rfl; exact rfl; (first | exact rfl | assumption)) | (apply RunL.noU; exact rfl; exact rfl; exact rfl; exact rfl; exact rfl; exact rfl) | (apply RunL.no; exact rfl; exact rfl; exact rfl; exact rfl; (first | exact rfl | assumption); exact rfl; exact rfl) | (refine AWP.cond _ (Rd.of rfl) (fun hc => ?_) (fun hc => ?_) <;> first | (exfalso; cases hc; done) | (have hc' := hc; (try simp only [sc, reduceCtorEq, cmpOf] at hc'); try (exfalso; omega)))
      | (
       apply AWP.drawA
       repeat' (first
         | (apply DL.cons; (try (apply OpLoc.on; exact rfl; exact rfl; exact rfl; exact rfl; (first | exact rfl | assumption))); apply ol_ev (τ := τ); exact rfl; (first | exact hmean | exact kwhole _ | exact radd | exact rabs | exact rsub); exact rfl; exact rfl) | (apply DL.cons; exact olA; exact rfl) | (apply DL.nil; kernel_rfl) | (refine DL.split rfl rfl rfl rfl (fun hb => ?_) (fun hb => ?_) <;> have hb' := hb <;> (try simp only [sc, reduceCtorEq, cmpOf] at hb') <;> try (exfalso; omega)))
       all_goals (fail_if_success apply DL.id))
      | (refine RunL.split rfl rfl rfl rfl (fun hb => ?_) (fun hb => ?_) <;> have hb' := hb <;> (try simp only [sc, reduceCtorEq, cmpOf] at hb') <;> try (exfalso; omega)) )
    apply Ends.mk (.cons (.cellA (τ := τ) rfl rfl rfl rfl rfl) .nil)
    rw [k3]; rfl
theorem coef_iff {l : List Int} : coefOK l ↔ ∀ j : Nat, j < l.length → -1000000 ≤ ix l j ∧ ix l j ≤ 1000000 := by
  constructor
  · intro h j _; exact coef_ix h j
  · intro h n hn
    obtain ⟨j, hj, rfl⟩ := List.mem_iff_getElem.1 hn
    have := h j hj
    simpa [ix, hj] using this
set_option maxHeartbeats 1000000 in
theorem kcheck (x y : List Int) : Evals Tryd.prog 35 [.ints .i64 x, .ints .i64 y] (.int .i64 (anchE x y)) := by
  refine evals_of_awp Tryd.func35 rfl (CallOK.of Tryd.func35 (by kernel_rfl) rfl) (Nat.le_of_ble_eq_true rfl) ?_
  rintro w R hR ⟨vs, hv⟩
  obtain ⟨_, hx⟩ := hv.intsJ 0 rfl
  obtain ⟨_, hy⟩ := hv.intsJ 1 rfl
  unfold anchE
  by_cases h1 : 60 < x.length ∨ 60 < y.length
  · rw [if_pos h1]
    repeat' (first
      | (apply RunL.step; exact rfl; exact opA) | (apply RunL.hand; exact rfl; exact rfl; exact lenA; exact rfl) | (apply AWP.seq) | (apply AWP.region; exact rfl) | (apply AWP.block) | (apply AWP.skip) | (apply AWP.exit) | (apply AWP.retF; exact rfl; exact rfl; exact rfl; exact rfl; exact lenA; exact rfl) | (apply AWP.ret) | (apply RunL.nil) | (apply RunL.on; exact rfl; exact rfl; exact rfl; exact rfl; (first | exact rfl | assumption)) | (apply RunL.noU; exact rfl; exact rfl; exact rfl; exact rfl; exact rfl; exact rfl) | (apply RunL.no; exact rfl; exact rfl; exact rfl; exact rfl; (first | exact rfl | assumption); exact rfl; exact rfl) | (refine AWP.cond _ (Rd.of rfl) (fun hc => ?_) (fun hc => ?_) <;> first | (exfalso; cases hc; done) | (have hc' := hc; (try simp only [sc, reduceCtorEq, cmpOf] at hc'); try (exfalso; omega)))
      | (
       apply AWP.drawA
       repeat' (first
         | (apply DL.cons; (try (apply OpLoc.on; exact rfl; exact rfl; exact rfl; exact rfl; (first | exact rfl | assumption))); apply ol_ev (τ := τ); exact rfl; (fail); exact rfl; exact rfl) | (apply DL.cons; exact olA; exact rfl) | (apply DL.nil; kernel_rfl) | (refine DL.split rfl rfl rfl rfl (fun hb => ?_) (fun hb => ?_) <;> have hb' := hb <;> (try simp only [sc, reduceCtorEq, cmpOf] at hb') <;> try (exfalso; omega)))
       all_goals (fail_if_success apply DL.id))
      | (refine RunL.split rfl rfl rfl rfl (fun hb => ?_) (fun hb => ?_) <;> have hb' := hb <;> (try simp only [sc, reduceCtorEq, cmpOf] at hb') <;> try (exfalso; omega)) )
    all_goals
      (apply Ends.mk (.cons (.tmp rfl) .nil); first | rfl | (simp only [pack]; congr 1; simp only [cmpOf, decide_eq_true_eq, beq_iff_eq, bne_iff_ne]; omega))
  rw [if_neg h1]
  by_cases h2 : x.length ≠ y.length
  · rw [if_pos h2]
    repeat' (first
      | (apply RunL.step; exact rfl; exact opA) | (apply RunL.hand; exact rfl; exact rfl; exact lenA; exact rfl) | (apply AWP.seq) | (apply AWP.region; exact rfl) | (apply AWP.block) | (apply AWP.skip) | (apply AWP.exit) | (apply AWP.retF; exact rfl; exact rfl; exact rfl; exact rfl; exact lenA; exact rfl) | (apply AWP.ret) | (apply RunL.nil) | (apply RunL.on; exact rfl; exact rfl; exact rfl; exact rfl; (first | exact rfl | assumption)) | (apply RunL.noU; exact rfl; exact rfl; exact rfl; exact rfl; exact rfl; exact rfl) | (apply RunL.no; exact rfl; exact rfl; exact rfl; exact rfl; (first | exact rfl | assumption); exact rfl; exact rfl) | (refine AWP.cond _ (Rd.of rfl) (fun hc => ?_) (fun hc => ?_) <;> first | (exfalso; cases hc; done) | (have hc' := hc; (try simp only [sc, reduceCtorEq, cmpOf] at hc'); try (exfalso; omega)))
      | (
       apply AWP.drawA
       repeat' (first
         | (apply DL.cons; (try (apply OpLoc.on; exact rfl; exact rfl; exact rfl; exact rfl; (first | exact rfl | assumption))); apply ol_ev (τ := τ); exact rfl; (fail); exact rfl; exact rfl) | (apply DL.cons; exact olA; exact rfl) | (apply DL.nil; kernel_rfl) | (refine DL.split rfl rfl rfl rfl (fun hb => ?_) (fun hb => ?_) <;> have hb' := hb <;> (try simp only [sc, reduceCtorEq, cmpOf] at hb') <;> try (exfalso; omega)))
       all_goals (fail_if_success apply DL.id))
      | (refine RunL.split rfl rfl rfl rfl (fun hb => ?_) (fun hb => ?_) <;> have hb' := hb <;> (try simp only [sc, reduceCtorEq, cmpOf] at hb') <;> try (exfalso; omega)) )
    all_goals
      (apply Ends.mk (.cons (.tmp rfl) .nil); first | rfl | (simp only [pack]; congr 1; simp only [cmpOf, decide_eq_true_eq, beq_iff_eq, bne_iff_ne]; omega))
  rw [if_neg h2]
  by_cases h3 : x.length = 0
  · rw [if_pos h3]
    repeat' (first
      | (apply RunL.step; exact rfl; exact opA) | (apply RunL.hand; exact rfl; exact rfl; exact lenA; exact rfl) | (apply AWP.seq) | (apply AWP.region; exact rfl) | (apply AWP.block) | (apply AWP.skip) | (apply AWP.exit) | (apply AWP.retF; exact rfl; exact rfl; exact rfl; exact rfl; exact lenA; exact rfl) | (apply AWP.ret) | (apply RunL.nil) | (apply RunL.on; exact rfl; exact rfl; exact rfl; exact rfl; (first | exact rfl | assumption)) | (apply RunL.noU; exact rfl; exact rfl; exact rfl; exact rfl; exact rfl; exact rfl) | (apply RunL.no; exact rfl; exact rfl; exact rfl; exact rfl; (first | exact rfl | assumption); exact rfl; exact rfl) | (refine AWP.cond _ (Rd.of rfl) (fun hc => ?_) (fun hc => ?_) <;> first | (exfalso; cases hc; done) | (have hc' := hc; (try simp only [sc, reduceCtorEq, cmpOf] at hc'); try (exfalso; omega)))
      | (
       apply AWP.drawA
       repeat' (first
         | (apply DL.cons; (try (apply OpLoc.on; exact rfl; exact rfl; exact rfl; exact rfl; (first | exact rfl | assumption))); apply ol_ev (τ := τ); exact rfl; (fail); exact rfl; exact rfl) | (apply DL.cons; exact olA; exact rfl) | (apply DL.nil; kernel_rfl) | (refine DL.split rfl rfl rfl rfl (fun hb => ?_) (fun hb => ?_) <;> have hb' := hb <;> (try simp only [sc, reduceCtorEq, cmpOf] at hb') <;> try (exfalso; omega)))
       all_goals (fail_if_success apply DL.id))
      | (refine RunL.split rfl rfl rfl rfl (fun hb => ?_) (fun hb => ?_) <;> have hb' := hb <;> (try simp only [sc, reduceCtorEq, cmpOf] at hb') <;> try (exfalso; omega)) )
    all_goals
      (apply Ends.mk (.cons (.tmp rfl) .nil); first | rfl | (simp only [pack]; congr 1; simp only [cmpOf, decide_eq_true_eq, beq_iff_eq, bne_iff_ne]; omega))
  rw [if_neg h3]
  repeat' (first
    | (apply RunL.step; exact rfl; exact opA) | (apply RunL.hand; exact rfl; exact rfl; exact lenA; exact rfl) | (apply AWP.seq) | (apply AWP.region; exact rfl) | (apply AWP.block) | (apply AWP.skip) | (apply AWP.exit) | (apply AWP.retF; exact rfl; exact rfl; exact rfl; exact rfl; exact lenA; exact rfl) | (apply AWP.ret) | (apply RunL.nil) | (apply RunL.on; exact rfl; exact rfl; exact rfl; exact rfl; (first | exact rfl | assumption)) | (apply RunL.noU; exact rfl; exact rfl; exact rfl; exact rfl; exact rfl; exact rfl) | (apply RunL.no; exact rfl; exact rfl; exact rfl; exact rfl; (first | exact rfl | assumption); exact rfl; exact rfl) | (refine AWP.cond _ (Rd.of rfl) (fun hc => ?_) (fun hc => ?_) <;> first | (exfalso; cases hc; done) | (have hc' := hc; (try simp only [sc, reduceCtorEq, cmpOf] at hc'); try (exfalso; omega)))
    | (
     apply AWP.drawA
     repeat' (first
       | (apply DL.cons; (try (apply OpLoc.on; exact rfl; exact rfl; exact rfl; exact rfl; (first | exact rfl | assumption))); apply ol_ev (τ := τ); exact rfl; (fail); exact rfl; exact rfl) | (apply DL.cons; exact olA; exact rfl) | (apply DL.nil; kernel_rfl) | (refine DL.split rfl rfl rfl rfl (fun hb => ?_) (fun hb => ?_) <;> have hb' := hb <;> (try simp only [sc, reduceCtorEq, cmpOf] at hb') <;> try (exfalso; omega)))
     all_goals (fail_if_success apply DL.id))
    | (refine RunL.split rfl rfl rfl rfl (fun hb => ?_) (fun hb => ?_) <;> have hb' := hb <;> (try simp only [sc, reduceCtorEq, cmpOf] at hb') <;> try (exfalso; omega)) )
  refine AWP.loop (ι := Int) (fun i => ⟨[(27, .val (.sl 1 [[.ints .i64 x], [.ints .i64 y]])), (28, .val (.int .i64 2)), (29, .val (.int .i64 i))], []⟩) (fun i => 0 ≤ i ∧ i ≤ 2 ∧ (1 ≤ i → coefOK x) ∧ (2 ≤ i → coefOK y)) (fun i => (2 - i).toNat) 0 ⟨by omega, by omega, fun h => by omega, fun h => by omega⟩ (St.Le.of (by repeat' (first | exact all_nil | refine all_cons rfl ?_)) (by repeat' (first | exact all_nil | refine all_cons rfl ?_))) ?_
  rintro i ⟨k1, k2, k3, k4⟩
  by_cases hi : i < 2
  · obtain ⟨l, hrow, hl, hl2, hor⟩ : ∃ l, ([[.ints .i64 x], [.ints .i64 y]] : List (List D))[i.toNat]? = some [.ints .i64 l] ∧ (∀ i : Int, -9223372036854775808 ≤ ix l i ∧ ix l i ≤ 9223372036854775807) ∧ l.length ≤ 60 ∧ ((i = 0 ∧ l = x) ∨ (i = 1 ∧ l = y)) := by
      rcases (show i = 0 ∨ i = 1 by omega) with rfl | rfl
      · exact ⟨x, rfl, hx, by omega, .inl ⟨rfl, rfl⟩⟩
      · exact ⟨y, rfl, hy, by omega, .inr ⟨rfl, rfl⟩⟩
    repeat' (first
      | (apply RunL.step; exact rfl; exact opA) | (apply RunL.hand; exact rfl; exact rfl; exact lenA; exact rfl) | (apply AWP.seq) | (apply AWP.region; exact rfl) | (apply AWP.block) | (apply AWP.skip) | (apply AWP.exit) | (apply AWP.retF; exact rfl; exact rfl; exact rfl; exact rfl; exact lenA; exact rfl) | (apply AWP.ret) | (apply RunL.nil) | (apply RunL.on; exact rfl; exact rfl; exact rfl; exact rfl; (first | exact rfl | assumption)) | (apply RunL.noU; exact rfl; exact rfl; exact rfl; exact rfl; exact rfl; exact rfl) | (apply RunL.no; exact rfl; exact rfl; exact rfl; exact rfl; (first | exact rfl | assumption); exact rfl; exact rfl) | (refine AWP.cond _ (Rd.of rfl) (fun hc => ?_) (fun hc => ?_) <;> first | (exfalso; cases hc; done) | (have hc' := hc; (try simp only [sc, reduceCtorEq, cmpOf] at hc'); try (exfalso; omega)))
      | (
       apply AWP.drawA
       repeat' (first
         | (apply DL.cons; (try (apply OpLoc.on; exact rfl; exact rfl; exact rfl; exact rfl; (first | exact rfl | assumption))); apply ol_ev (τ := τ); exact rfl; (fail); exact rfl; exact rfl) | (apply DL.cons; exact olA; exact rfl) | (apply DL.nil; kernel_rfl) | (refine DL.split rfl rfl rfl rfl (fun hb => ?_) (fun hb => ?_) <;> have hb' := hb <;> (try simp only [sc, reduceCtorEq, cmpOf] at hb') <;> try (exfalso; omega)))
       all_goals (fail_if_success apply DL.id))
      | (refine RunL.split rfl rfl rfl rfl (fun hb => ?_) (fun hb => ?_) <;> have hb' := hb <;> (try simp only [sc, reduceCtorEq, cmpOf] at hb') <;> try (exfalso; omega)) )
    refine AWP.loop (ι := Int) (fun j => ⟨[(27, .val (.sl 1 [[.ints .i64 x], [.ints .i64 y]])), (28, .val (.int .i64 2)), (29, .val (.int .i64 i)), (33, .val (.ints .i64 l)), (34, .val (.int .i64 l.length)), (35, .val (.int .i64 j))], []⟩) (fun j => 0 ≤ j ∧ j ≤ l.length ∧ ∀ m : Nat, (m : Int) < j → -1000000 ≤ ix l m ∧ ix l m ≤ 1000000) (fun j => (l.length - j).toNat) 0 ⟨by omega, by omega, fun m hm => by omega⟩ (St.Le.of (by repeat' (first | exact all_nil | refine all_cons rfl ?_)) (by repeat' (first | exact all_nil | refine all_cons rfl ?_))) ?_
    rintro j ⟨j1, j2, j3⟩
    have hlj := hl j
    by_cases hj : j < l.length
    · by_cases hok : -1000000 ≤ ix l j ∧ ix l j ≤ 1000000
      · repeat' (first
        | (apply RunL.step; exact rfl; exact opA) | (apply RunL.hand; exact rfl; exact rfl; exact lenA; exact rfl) | (apply AWP.seq) | (apply AWP.region; exact rfl) | (apply AWP.block) | (apply AWP.skip) | (apply AWP.exit) | (apply AWP.retF; exact rfl; exact rfl; exact rfl; exact rfl; exact lenA; exact rfl) | (apply AWP.ret) | (apply RunL.nil) | (apply RunL.on; exact rfl; exact rfl; exact rfl; exact rfl; (first | exact rfl | assumption)) | (apply RunL.noU; exact rfl; exact rfl; exact rfl; exact rfl; exact rfl; exact rfl) | (apply RunL.no; exact rfl; exact rfl; exact rfl; exact rfl; (first | exact rfl | assumption); exact rfl; exact rfl) | (refine AWP.cond _ (Rd.of rfl) (fun hc => ?_) (fun hc => ?_) <;> first | (exfalso; cases hc; done) | (have hc' := hc; (try simp only [sc, reduceCtorEq, cmpOf] at hc'); try (exfalso; omega)))
        | (
         apply AWP.drawA
         repeat' (first
           | (apply DL.cons; (try (apply OpLoc.on; exact rfl; exact rfl; exact rfl; exact rfl; (first | exact rfl | assumption))); apply ol_ev (τ := τ); exact rfl; (fail); exact rfl; exact rfl) | (apply DL.cons; exact olA; exact rfl) | (apply DL.nil; kernel_rfl) | (refine DL.split rfl rfl rfl rfl (fun hb => ?_) (fun hb => ?_) <;> have hb' := hb <;> (try simp only [sc, reduceCtorEq, cmpOf] at hb') <;> try (exfalso; omega)))
         all_goals (fail_if_success apply DL.id))
        | (refine RunL.split rfl rfl rfl rfl (fun hb => ?_) (fun hb => ?_) <;> have hb' := hb <;> (try simp only [sc, reduceCtorEq, cmpOf] at hb') <;> try (exfalso; omega)) )
        all_goals
          refine ⟨_, St.Le.of (by repeat' (first | exact all_nil | refine all_cons rfl ?_)) (by repeat' (first | exact all_nil | refine all_cons rfl ?_)), ⟨by omega, by omega, fun m hm => ?_⟩, by omega⟩
          by_cases e : (m : Int) < j
          · exact j3 m e
          · rw [show (m : Int) = j by omega]; exact hok
      · have hno : ¬ (coefOK x ∧ coefOK y) := fun h => by
          rcases hor with ⟨_, rfl⟩ | ⟨_, rfl⟩
          · exact hok (coef_ix h.1 j)
          · exact hok (coef_ix h.2 j)
        rw [if_neg hno]
        repeat' (first
          | (apply RunL.step; exact rfl; exact opA) | (apply RunL.hand; exact rfl; exact rfl; exact lenA; exact rfl) | (apply AWP.seq) | (apply AWP.region; exact rfl) | (apply AWP.block) | (apply AWP.skip) | (apply AWP.exit) | (apply AWP.retF; exact rfl; exact rfl; exact rfl; exact rfl; exact lenA; exact rfl) | (apply AWP.ret) | (apply RunL.nil) | (apply RunL.on; exact rfl; exact rfl; exact rfl; exact rfl; (first | exact rfl | assumption)) | (apply RunL.noU; exact rfl; exact rfl; exact rfl; exact rfl; exact rfl; exact rfl) | (apply RunL.no; exact rfl; exact rfl; exact rfl; exact rfl; (first | exact rfl | assumption); exact rfl; exact rfl) | (refine AWP.cond _ (Rd.of rfl) (fun hc => ?_) (fun hc => ?_) <;> first | (exfalso; cases hc; done) | (have hc' := hc; (try simp only [sc, reduceCtorEq, cmpOf] at hc'); try (exfalso; omega)))
          | (
           apply AWP.drawA
           repeat' (first
             | (apply DL.cons; (try (apply OpLoc.on; exact rfl; exact rfl; exact rfl; exact rfl; (first | exact rfl | assumption))); apply ol_ev (τ := τ); exact rfl; (fail); exact rfl; exact rfl) | (apply DL.cons; exact olA; exact rfl) | (apply DL.nil; kernel_rfl) | (refine DL.split rfl rfl rfl rfl (fun hb => ?_) (fun hb => ?_) <;> have hb' := hb <;> (try simp only [sc, reduceCtorEq, cmpOf] at hb') <;> try (exfalso; omega)))
           all_goals (fail_if_success apply DL.id))
          | (refine RunL.split rfl rfl rfl rfl (fun hb => ?_) (fun hb => ?_) <;> have hb' := hb <;> (try simp only [sc, reduceCtorEq, cmpOf] at hb') <;> try (exfalso; omega)) )
        all_goals
          (apply Ends.mk (.cons (.tmp rfl) .nil); first | rfl | (simp only [pack]; congr 1; simp only [cmpOf, decide_eq_true_eq, beq_iff_eq, bne_iff_ne]; omega))
    · have hco : coefOK l := coef_iff.2 fun m hm => j3 m (by omega)
      repeat' (first
        | (apply RunL.step; exact rfl; exact opA) | (apply RunL.hand; exact rfl; exact rfl; exact lenA; exact rfl) | (apply AWP.seq) | (apply AWP.region; exact rfl) | (apply AWP.block) | (apply AWP.skip) | (apply AWP.exit) | (apply AWP.retF; exact rfl; exact rfl; exact rfl; exact rfl; exact lenA; exact rfl) | (apply AWP.ret) | (apply RunL.nil) | (apply RunL.on; exact rfl; exact rfl; exact rfl; exact rfl; (first | exact rfl | assumption)) | (apply RunL.noU; exact rfl; exact rfl; exact rfl; exact rfl; exact rfl; exact rfl) | (apply RunL.no; exact rfl; exact rfl; exact rfl; exact rfl; (first | exact rfl | assumption); exact rfl; exact rfl) | (refine AWP.cond _ (Rd.of rfl) (fun hc => ?_) (fun hc => ?_) <;> first | (exfalso; cases hc; done) | (have hc' := hc; (try simp only [sc, reduceCtorEq, cmpOf] at hc'); try (exfalso; omega)))
        | (
         apply AWP.drawA
         repeat' (first
           | (apply DL.cons; (try (apply OpLoc.on; exact rfl; exact rfl; exact rfl; exact rfl; (first | exact rfl | assumption))); apply ol_ev (τ := τ); exact rfl; (fail); exact rfl; exact rfl) | (apply DL.cons; exact olA; exact rfl) | (apply DL.nil; kernel_rfl) | (refine DL.split rfl rfl rfl rfl (fun hb => ?_) (fun hb => ?_) <;> have hb' := hb <;> (try simp only [sc, reduceCtorEq, cmpOf] at hb') <;> try (exfalso; omega)))
         all_goals (fail_if_success apply DL.id))
        | (refine RunL.split rfl rfl rfl rfl (fun hb => ?_) (fun hb => ?_) <;> have hb' := hb <;> (try simp only [sc, reduceCtorEq, cmpOf] at hb') <;> try (exfalso; omega)) )
      all_goals
        refine ⟨_, St.Le.of (by repeat' (first | exact all_nil | refine all_cons rfl ?_)) (by repeat' (first | exact all_nil | refine all_cons rfl ?_)), ⟨by omega, by omega, fun h => ?_, fun h => ?_⟩, by omega⟩
        · rcases hor with ⟨e, rfl⟩ | ⟨e, rfl⟩
          · exact hco
          · exact k3 (by omega)
        · rcases hor with ⟨e, rfl⟩ | ⟨e, rfl⟩
          · omega
          · exact hco
  · rw [if_pos ⟨k3 (by omega), k4 (by omega)⟩]
    repeat' (first
      | (apply RunL.step; exact rfl; exact opA) | (apply RunL.hand; exact rfl; exact rfl; exact lenA; exact rfl) | (apply AWP.seq) | (apply AWP.region; exact rfl) | (apply AWP.block) | (apply AWP.skip) | (apply AWP.exit) | (apply AWP.retF; exact rfl; exact rfl; exact rfl; exact rfl; exact lenA; exact rfl) | (apply AWP.ret) | (apply RunL.nil) | (apply RunL.on; exact rfl; exact rfl; exact rfl; exact rfl; (first | exact rfl | assumption)) | (apply RunL.noU; exact rfl; exact rfl; exact rfl; exact rfl; exact rfl; exact rfl) | (apply RunL.no; exact rfl; exact rfl; exact rfl; exact rfl; (first | exact rfl | assumption); exact rfl; exact rfl) | (refine AWP.cond _ (Rd.of rfl) (fun hc => ?_) (fun hc => ?_) <;> first | (exfalso; cases hc; done) | (have hc' := hc; (try simp only [sc, reduceCtorEq, cmpOf] at hc'); try (exfalso; omega)))
      | (
       apply AWP.drawA
       repeat' (first
         | (apply DL.cons; (try (apply OpLoc.on; exact rfl; exact rfl; exact rfl; exact rfl; (first | exact rfl | assumption))); apply ol_ev (τ := τ); exact rfl; (fail); exact rfl; exact rfl) | (apply DL.cons; exact olA; exact rfl) | (apply DL.nil; kernel_rfl) | (refine DL.split rfl rfl rfl rfl (fun hb => ?_) (fun hb => ?_) <;> have hb' := hb <;> (try simp only [sc, reduceCtorEq, cmpOf] at hb') <;> try (exfalso; omega)))
       all_goals (fail_if_success apply DL.id))
      | (refine RunL.split rfl rfl rfl rfl (fun hb => ?_) (fun hb => ?_) <;> have hb' := hb <;> (try simp only [sc, reduceCtorEq, cmpOf] at hb') <;> try (exfalso; omega)) )
    all_goals
      (apply Ends.mk (.cons (.tmp rfl) .nil); first | rfl | (simp only [pack]; congr 1; simp only [cmpOf, decide_eq_true_eq, beq_iff_eq, bne_iff_ne]; omega))
end Go.Proofs.YtgdejiajiljipaaDoor.K
namespace Go.Proofs.YtgdejiajiljipaaDoor.K
open Go
set_option linter.unusedVariables false
set_option linter.unusedSimpArgs false

section
variable {s s' : Bool} {l d l' d' : List Int} {A B : Rat} {k m : Nat}
set_option maxHeartbeats 2000000 in
theorem kloss0 [h : RA s l d A k] [h' : RA s' l' d' B m] (X Y : List Int) (hl : X.length = Y.length) (h60 : X.length ≤ 60) (hk : k + m ≤ 10000000 := by first | omega | (simp only [List.length_cons, List.length_nil, List.length_set, List.length_replicate, List.length_append, List.length_take, List.length_drop]; omega)) : Evals Tryd.prog 40 [.agg [.bool s, .ints .u32 l, .ints .u32 d, .bool s', .ints .u32 l', .ints .u32 d'], .ints .i64 X, .ints .i64 Y] (ratD (lossQ A B (fn X) (fn Y) X.length)) := by
  refine evals_of_awp Tryd.func40 rfl (CallOK.of Tryd.func40 (by kernel_rfl) rfl) (Nat.le_of_ble_eq_true rfl) ?_
  rintro w R hR ⟨vs, hv⟩
  obtain ⟨a1, a2, a3, a4⟩ := hv.link 0 rfl
  obtain ⟨_, hX⟩ := hv.intsJ 1 rfl
  obtain ⟨_, hY⟩ := hv.intsJ 2 rfl
  have zA := h.sz a1 a2
  have zB := h'.sz a3 a4
  have zw0 : SzR ((0 : Int) : Rat) 2 := SzR.i64 (by omega)
  unfold lossQ
  repeat' (first
    | (apply RunL.step; exact rfl; apply op_ev (τ := τ); exact rfl; (first | exact kwhole _ | exact kapply | exact radd | exact rsub | exact rmul); exact rfl) | (apply RunL.step; exact rfl; exact opA) | (apply RunL.hand; exact rfl; exact rfl; exact lenA; exact rfl) | (apply AWP.seq) | (apply AWP.region; exact rfl) | (apply AWP.block) | (apply AWP.skip) | (apply AWP.exit) | (apply AWP.retF; exact rfl; exact rfl; exact rfl; exact rfl; exact lenA; exact rfl) | (apply AWP.ret) | (apply RunL.nil) | (apply RunL.on; exact rfl; exact rfl; exact rfl; exact rfl; (first | exact rfl | assumption)) | (apply RunL.noU; exact rfl; exact rfl; exact rfl; exact rfl; exact rfl; exact rfl) | (apply RunL.no; exact rfl; exact rfl; exact rfl; exact rfl; (first | exact rfl | assumption); exact rfl; exact rfl) | (refine AWP.cond _ (Rd.of rfl) (fun hc => ?_) (fun hc => ?_) <;> first | (exfalso; cases hc; done) | (have hc' := hc; (try simp only [sc, reduceCtorEq, cmpOf] at hc'); try (exfalso; omega)))
    | (
     apply AWP.drawA
     repeat' (first
       | (apply DL.cons; (try (apply OpLoc.on; exact rfl; exact rfl; exact rfl; exact rfl; (first | exact rfl | assumption))); apply ol_ev (τ := τ); exact rfl; (first | exact kwhole _ | exact kapply | exact radd | exact rsub | exact rmul); exact rfl; exact rfl) | (apply DL.cons; exact olA; exact rfl) | (apply DL.nil; kernel_rfl) | (refine DL.split rfl rfl rfl rfl (fun hb => ?_) (fun hb => ?_) <;> have hb' := hb <;> (try simp only [sc, reduceCtorEq, cmpOf] at hb') <;> try (exfalso; omega)))
     all_goals (fail_if_success apply DL.id))
    | (refine RunL.split rfl rfl rfl rfl (fun hb => ?_) (fun hb => ?_) <;> have hb' := hb <;> (try simp only [sc, reduceCtorEq, cmpOf] at hb') <;> try (exfalso; omega)) )
  refine AWP.loop2 (fun (i : Int) (q : Rat) => ⟨[(1, .val (.ints .i64 X)), (2, .val (.ints .i64 Y)), (3, .pb 3 0), (6, .pb 6 0), (7, .pb 7 0), (12, .val (.int .i64 X.length)), (13, .val (.int .i64 i))], [(3, .cells 29 [.bool s, .ints .u32 l, .ints .u32 d, .bool s', .ints .u32 l', .ints .u32 d']), (6, .cells 27 ratC0), (7, .cells 27 (ratCl q))]⟩) (fun i q => 0 ≤ i ∧ i ≤ X.length ∧ q = sumF (fun i => resQ A B (fn X) (fn Y) i * resQ A B (fn X) (fn Y) i) i.toNat ∧ SzR q (i.toNat * (2 * (k + m) + 60) + 2)) (fun i _ => (X.length - i).toNat) 0 ((0 : Int) : Rat) ⟨by omega, by omega, rfl, by simpa using zw0⟩ (St.Le.of (by repeat' (first | exact all_nil | refine all_cons rfl ?_)) (by repeat' (first | exact all_nil | refine all_cons rfl ?_))) ?_
  rintro i q ⟨k1, k2, k3, k4⟩
  have hmul : i.toNat * (2 * (k + m) + 60) ≤ 60 * (2 * (k + m) + 60) := Nat.mul_le_mul_right _ (by omega)
  by_cases hi : i < X.length
  · have zx : SzR ((ix X i : Int) : Rat) 2 := SzR.i64 (hX i)
    have zy : SzR ((ix Y i : Int) : Rat) 2 := SzR.i64 (hY i)
    have hst := sumF_step (f := fun i => resQ A B (fn X) (fn Y) i * resQ A B (fn X) (fn Y) i) k1
    have z1 := SzR.mul A ((ix X i : Int) : Rat) _ _ (h := zA) (g := zx)
    have z2 := SzR.add _ B _ _ (h := z1) (g := zB)
    have z3 := SzR.sub _ ((ix Y i : Int) : Rat) _ _ (h := z2) (g := zy)
    have z4 := SzR.mul _ _ _ _ (h := z3) (g := z3)
    have z5 := SzR.add _ _ _ _ (h := k4) (g := z4)
    repeat' (first
      | (apply RunL.step; exact rfl; apply op_ev (τ := τ); exact rfl; (first | exact kwhole _ | exact kapply | exact radd | exact rsub | exact rmul); exact rfl) | (apply RunL.step; exact rfl; exact opA) | (apply RunL.hand; exact rfl; exact rfl; exact lenA; exact rfl) | (apply AWP.seq) | (apply AWP.region; exact rfl) | (apply AWP.block) | (apply AWP.skip) | (apply AWP.exit) | (apply AWP.retF; exact rfl; exact rfl; exact rfl; exact rfl; exact lenA; exact rfl) | (apply AWP.ret) | (apply RunL.nil) | (apply RunL.on; exact rfl; exact rfl; exact rfl; exact rfl; (first | exact rfl | assumption)) | (apply RunL.noU; exact rfl; exact rfl; exact rfl; exact rfl; exact rfl; exact rfl) | (apply RunL.no; exact rfl; exact rfl; exact rfl; exact rfl; (first | exact rfl | assumption); exact rfl; exact rfl) | (refine AWP.cond _ (Rd.of rfl) (fun hc => ?_) (fun hc => ?_) <;> first | (exfalso; cases hc; done) | (have hc' := hc; (try simp only [sc, reduceCtorEq, cmpOf] at hc'); try (exfalso; omega)))
      | (
       apply AWP.drawA
       repeat' (first
         | (apply DL.cons; (try (apply OpLoc.on; exact rfl; exact rfl; exact rfl; exact rfl; (first | exact rfl | assumption))); apply ol_ev (τ := τ); exact rfl; (first | exact kwhole _ | exact kapply | exact radd | exact rsub | exact rmul); exact rfl; exact rfl) | (apply DL.cons; exact olA; exact rfl) | (apply DL.nil; kernel_rfl) | (refine DL.split rfl rfl rfl rfl (fun hb => ?_) (fun hb => ?_) <;> have hb' := hb <;> (try simp only [sc, reduceCtorEq, cmpOf] at hb') <;> try (exfalso; omega)))
       all_goals (fail_if_success apply DL.id))
      | (refine RunL.split rfl rfl rfl rfl (fun hb => ?_) (fun hb => ?_) <;> have hb' := hb <;> (try simp only [sc, reduceCtorEq, cmpOf] at hb') <;> try (exfalso; omega)) )
    refine ⟨i + 1, _, St.Le.of (by repeat' (first | exact all_nil | refine all_cons rfl ?_)) (by repeat' (first | exact all_nil | refine all_cons rfl ?_)), ⟨by omega, by omega, ?_, z5.mono ?_⟩, by omega⟩
    · show _ = _
      rw [hst, k3]; simp only [resQ, fn, show ((i.toNat : Nat) : Int) = i by omega]
    · rw [show (i + 1).toNat = i.toNat + 1 by omega, Nat.succ_mul i.toNat (2 * (k + m) + 60)]; omega
  · rw [show i.toNat = X.length by omega] at k3
    repeat' (first
      | (apply RunL.step; exact rfl; apply op_ev (τ := τ); exact rfl; (first | exact kwhole _ | exact kapply | exact radd | exact rsub | exact rmul); exact rfl) | (apply RunL.step; exact rfl; exact opA) | (apply RunL.hand; exact rfl; exact rfl; exact lenA; exact rfl) | (apply AWP.seq) | (apply AWP.region; exact rfl) | (apply AWP.block) | (apply AWP.skip) | (apply AWP.exit) | (apply AWP.retF; exact rfl; exact rfl; exact rfl; exact rfl; exact lenA; exact rfl) | (apply AWP.ret) | (apply RunL.nil) | (apply RunL.on; exact rfl; exact rfl; exact rfl; exact rfl; (first | exact rfl | assumption)) | (apply RunL.noU; exact rfl; exact rfl; exact rfl; exact rfl; exact rfl; exact rfl) | (apply RunL.no; exact rfl; exact rfl; exact rfl; exact rfl; (first | exact rfl | assumption); exact rfl; exact rfl) | (refine AWP.cond _ (Rd.of rfl) (fun hc => ?_) (fun hc => ?_) <;> first | (exfalso; cases hc; done) | (have hc' := hc; (try simp only [sc, reduceCtorEq, cmpOf] at hc'); try (exfalso; omega)))
      | (
       apply AWP.drawA
       repeat' (first
         | (apply DL.cons; (try (apply OpLoc.on; exact rfl; exact rfl; exact rfl; exact rfl; (first | exact rfl | assumption))); apply ol_ev (τ := τ); exact rfl; (first | exact kwhole _ | exact kapply | exact radd | exact rsub | exact rmul); exact rfl; exact rfl) | (apply DL.cons; exact olA; exact rfl) | (apply DL.nil; kernel_rfl) | (refine DL.split rfl rfl rfl rfl (fun hb => ?_) (fun hb => ?_) <;> have hb' := hb <;> (try simp only [sc, reduceCtorEq, cmpOf] at hb') <;> try (exfalso; omega)))
       all_goals (fail_if_success apply DL.id))
      | (refine RunL.split rfl rfl rfl rfl (fun hb => ?_) (fun hb => ?_) <;> have hb' := hb <;> (try simp only [sc, reduceCtorEq, cmpOf] at hb') <;> try (exfalso; omega)) )
    apply Ends.mk (.cons (.cellA (τ := τ) rfl rfl rfl rfl rfl) .nil)
    rw [k3]; rfl
end
end Go.Proofs.YtgdejiajiljipaaDoor.K
namespace Go.Proofs.YtgdejiajiljipaaDoor.K
open Go
set_option linter.unusedVariables false
set_option linter.unusedSimpArgs false

theorem kMean0 (x y : List Int) (he : anchE x y ≠ 0) : Evals Tryd.prog 14 [.ints .i64 x, .ints .i64 y] (.tup [link0, .int .i64 (anchE x y)]) := by
  have hck := kcheck x y
  generalize anchE x y = e at *
  refine evals_of_awp Tryd.func14 rfl (CallOK.of Tryd.func14 (by kernel_rfl) rfl) (Nat.le_of_ble_eq_true rfl) ?_
  rintro w R hR ⟨vs, hv⟩
  repeat' (first
    | (apply RunL.step; exact rfl; apply op_ev (τ := τ); exact rfl; (first | exact hck | exact hmx | exact hmy | exact kwhole _ | exact rsub); exact rfl) | (apply RunL.step; exact rfl; exact opA) | (apply RunL.hand; exact rfl; exact rfl; exact lenA; exact rfl) | (apply AWP.seq) | (apply AWP.region; exact rfl) | (apply AWP.block) | (apply AWP.skip) | (apply AWP.exit) | (apply AWP.retF; exact rfl; exact rfl; exact rfl; exact rfl; exact lenA; exact rfl) | (apply AWP.ret) | (apply RunL.nil) | (apply RunL.on; exact rfl; exact rfl; exact rfl; exact rfl; (first | exact rfl | assumption)) | (apply RunL.noU; exact rfl; exact rfl; exact rfl; exact rfl; exact rfl; exact rfl) | (apply RunL.no; exact rfl; exact rfl; exact rfl; exact rfl; (first | exact rfl | assumption); exact rfl; exact rfl) | (refine AWP.cond _ (Rd.of rfl) (fun hc => ?_) (fun hc => ?_) <;> first | (exfalso; cases hc; done) | (have hc' := hc; (try simp only [sc, reduceCtorEq, cmpOf] at hc'); try (exfalso; omega)))
    | (
     apply AWP.drawA
     repeat' (first
       | (apply DL.cons; (try (apply OpLoc.on; exact rfl; exact rfl; exact rfl; exact rfl; (first | exact rfl | assumption))); apply ol_ev (τ := τ); exact rfl; (first | exact hck | exact hmx | exact hmy | exact kwhole _ | exact rsub); exact rfl; exact rfl) | (apply DL.cons; exact olA; exact rfl) | (apply DL.nil; kernel_rfl) | (refine DL.split rfl rfl rfl rfl (fun hb => ?_) (fun hb => ?_) <;> have hb' := hb <;> (try simp only [sc, reduceCtorEq, cmpOf] at hb') <;> try (exfalso; omega)))
     all_goals (fail_if_success apply DL.id))
    | (refine RunL.split rfl rfl rfl rfl (fun hb => ?_) (fun hb => ?_) <;> have hb' := hb <;> (try simp only [sc, reduceCtorEq, cmpOf] at hb') <;> try (exfalso; omega)) )
  apply Ends.mk (.cons (.cellA (τ := τ) rfl rfl rfl rfl rfl) (.cons (.tmp rfl) .nil))
  rfl
theorem kMean1 (x y : List Int) (he : anchE x y = 0) : Evals Tryd.prog 14 [.ints .i64 x, .ints .i64 y] (.tup [linkD ((1 : Int) : Rat) (meanQ (fn y) y.length - meanQ (fn x) x.length), .int .i64 0]) := by
  have hck := kcheck x y
  rw [he] at hck
  obtain ⟨e1, e2, e3, e4, e5⟩ := anchE_zero he
  have hmx := kmean x e4 e3 e1
  have hmy := kmean y e5 (by omega) (by omega)
  have zx := mean_sz e4 e1
  have zy := mean_sz e5 (by omega)
  generalize meanQ (fn x) x.length = mx at *
  generalize meanQ (fn y) y.length = my at *
  refine evals_of_awp Tryd.func14 rfl (CallOK.of Tryd.func14 (by kernel_rfl) rfl) (Nat.le_of_ble_eq_true rfl) ?_
  rintro w R hR ⟨vs, hv⟩
  repeat' (first
    | (apply RunL.step; exact rfl; apply op_ev (τ := τ); exact rfl; (first | exact hck | exact hmx | exact hmy | exact kwhole _ | exact rsub); exact rfl) | (apply RunL.step; exact rfl; exact opA) | (apply RunL.hand; exact rfl; exact rfl; exact lenA; exact rfl) | (apply AWP.seq) | (apply AWP.region; exact rfl) | (apply AWP.block) | (apply AWP.skip) | (apply AWP.exit) | (apply AWP.retF; exact rfl; exact rfl; exact rfl; exact rfl; exact lenA; exact rfl) | (apply AWP.ret) | (apply RunL.nil) | (apply RunL.on; exact rfl; exact rfl; exact rfl; exact rfl; (first | exact rfl | assumption)) | (apply RunL.noU; exact rfl; exact rfl; exact rfl; exact rfl; exact rfl; exact rfl) | (apply RunL.no; exact rfl; exact rfl; exact rfl; exact rfl; (first | exact rfl | assumption); exact rfl; exact rfl) | (refine AWP.cond _ (Rd.of rfl) (fun hc => ?_) (fun hc => ?_) <;> first | (exfalso; cases hc; done) | (have hc' := hc; (try simp only [sc, reduceCtorEq, cmpOf] at hc'); try (exfalso; omega)))
    | (
     apply AWP.drawA
     repeat' (first
       | (apply DL.cons; (try (apply OpLoc.on; exact rfl; exact rfl; exact rfl; exact rfl; (first | exact rfl | assumption))); apply ol_ev (τ := τ); exact rfl; (first | exact hck | exact hmx | exact hmy | exact kwhole _ | exact rsub); exact rfl; exact rfl) | (apply DL.cons; exact olA; exact rfl) | (apply DL.nil; kernel_rfl) | (refine DL.split rfl rfl rfl rfl (fun hb => ?_) (fun hb => ?_) <;> have hb' := hb <;> (try simp only [sc, reduceCtorEq, cmpOf] at hb') <;> try (exfalso; omega)))
     all_goals (fail_if_success apply DL.id))
    | (refine RunL.split rfl rfl rfl rfl (fun hb => ?_) (fun hb => ?_) <;> have hb' := hb <;> (try simp only [sc, reduceCtorEq, cmpOf] at hb') <;> try (exfalso; omega)) )
  apply Ends.mk (.cons (.cellA (τ := τ) rfl rfl rfl rfl rfl) (.cons (.tmp rfl) .nil))
  rfl
theorem kSpread0 (x y : List Int) (he : anchE x y ≠ 0) : Evals Tryd.prog 21 [.ints .i64 x, .ints .i64 y] (.tup [link0, .int .i64 (anchE x y)]) := by
  have hck := kcheck x y
  generalize anchE x y = e at *
  refine evals_of_awp Tryd.func21 rfl (CallOK.of Tryd.func21 (by kernel_rfl) rfl) (Nat.le_of_ble_eq_true rfl) ?_
  rintro w R hR ⟨vs, hv⟩
  repeat' (first
    | (apply RunL.step; exact rfl; apply op_ev (τ := τ); exact rfl; (first | exact hck | exact hmx | exact hmy | exact hdx | exact hdy | exact rdivN | exact rsign | exact rsub | exact rmul); exact rfl) | (apply RunL.step; exact rfl; exact opA) | (apply RunL.hand; exact rfl; exact rfl; exact lenA; exact rfl) | (apply AWP.seq) | (apply AWP.region; exact rfl) | (apply AWP.block) | (apply AWP.skip) | (apply AWP.exit) | (apply AWP.retF; exact rfl; exact rfl; exact rfl; exact rfl; exact lenA; exact rfl) | (apply AWP.ret) | (apply RunL.nil) | (apply RunL.on; exact rfl; exact rfl; exact rfl; exact rfl; (first | exact rfl | assumption)) | (apply RunL.noU; exact rfl; exact rfl; exact rfl; exact rfl; exact rfl; exact rfl) | (apply RunL.no; exact rfl; exact rfl; exact rfl; exact rfl; (first | exact rfl | assumption); exact rfl; exact rfl) | (refine AWP.cond _ (Rd.of rfl) (fun hc => ?_) (fun hc => ?_) <;> first | (exfalso; cases hc; done) | (have hc' := hc; (try simp only [sc, reduceCtorEq, cmpOf] at hc'); try (exfalso; omega)))
    | (
     apply AWP.drawA
     repeat' (first
       | (apply DL.cons; (try (apply OpLoc.on; exact rfl; exact rfl; exact rfl; exact rfl; (first | exact rfl | assumption))); apply ol_ev (τ := τ); exact rfl; (first | exact hck | exact hmx | exact hmy | exact hdx | exact hdy | exact rdivN | exact rsign | exact rsub | exact rmul); exact rfl; exact rfl) | (apply DL.cons; exact olA; exact rfl) | (apply DL.nil; kernel_rfl) | (refine DL.split rfl rfl rfl rfl (fun hb => ?_) (fun hb => ?_) <;> have hb' := hb <;> (try simp only [sc, reduceCtorEq, cmpOf] at hb') <;> try (exfalso; omega)))
     all_goals (fail_if_success apply DL.id))
    | (refine RunL.split rfl rfl rfl rfl (fun hb => ?_) (fun hb => ?_) <;> have hb' := hb <;> (try simp only [sc, reduceCtorEq, cmpOf] at hb') <;> try (exfalso; omega)) )
  apply Ends.mk (.cons (.cellA (τ := τ) rfl rfl rfl rfl rfl) (.cons (.tmp rfl) .nil))
  rfl
theorem kSpread8 (x y : List Int) (he : anchE x y = 0) (h0 : devQ (fn x) x.length = 0 ∨ devQ (fn y) y.length = 0) : Evals Tryd.prog 21 [.ints .i64 x, .ints .i64 y] (.tup [link0, .int .i64 8]) := by
  have hck := kcheck x y
  rw [he] at hck
  obtain ⟨e1, e2, e3, e4, e5⟩ := anchE_zero he
  have hmx := kmean x e4 e3 e1
  have hmy := kmean y e5 (by omega) (by omega)
  have hdx := kdev x e4 e3 e1
  have hdy := kdev y e5 (by omega) (by omega)
  have zx := mean_sz e4 e1
  have zy := mean_sz e5 (by omega)
  have wx := dev_sz e4 e1
  have wy := dev_sz e5 (by omega)
  generalize meanQ (fn x) x.length = mx at *
  generalize meanQ (fn y) y.length = my at *
  generalize devQ (fn x) x.length = dx at *
  generalize devQ (fn y) y.length = dy at *
  have cx := cmpQ_zero dx 0
  have cy := cmpQ_zero dy 0
  refine evals_of_awp Tryd.func21 rfl (CallOK.of Tryd.func21 (by kernel_rfl) rfl) (Nat.le_of_ble_eq_true rfl) ?_
  rintro w R hR ⟨vs, hv⟩
  by_cases hd1 : dx = 0
  · have g1 := cx.2 hd1
    repeat' (first
      | (apply RunL.step; exact rfl; apply op_ev (τ := τ); exact rfl; (first | exact hck | exact hmx | exact hmy | exact hdx | exact hdy | exact rdivN | exact rsign | exact rsub | exact rmul); exact rfl) | (apply RunL.step; exact rfl; exact opA) | (apply RunL.hand; exact rfl; exact rfl; exact lenA; exact rfl) | (apply AWP.seq) | (apply AWP.region; exact rfl) | (apply AWP.block) | (apply AWP.skip) | (apply AWP.exit) | (apply AWP.retF; exact rfl; exact rfl; exact rfl; exact rfl; exact lenA; exact rfl) | (apply AWP.ret) | (apply RunL.nil) | (apply RunL.on; exact rfl; exact rfl; exact rfl; exact rfl; (first | exact rfl | assumption)) | (apply RunL.noU; exact rfl; exact rfl; exact rfl; exact rfl; exact rfl; exact rfl) | (apply RunL.no; exact rfl; exact rfl; exact rfl; exact rfl; (first | exact rfl | assumption); exact rfl; exact rfl) | (refine AWP.cond _ (Rd.of rfl) (fun hc => ?_) (fun hc => ?_) <;> first | (exfalso; cases hc; done) | (have hc' := hc; (try simp only [sc, reduceCtorEq, cmpOf] at hc'); try (exfalso; omega)))
      | (
       apply AWP.drawA
       repeat' (first
         | (apply DL.cons; (try (apply OpLoc.on; exact rfl; exact rfl; exact rfl; exact rfl; (first | exact rfl | assumption))); apply ol_ev (τ := τ); exact rfl; (first | exact hck | exact hmx | exact hmy | exact hdx | exact hdy | exact rdivN | exact rsign | exact rsub | exact rmul); exact rfl; exact rfl) | (apply DL.cons; exact olA; exact rfl) | (apply DL.nil; kernel_rfl) | (refine DL.split rfl rfl rfl rfl (fun hb => ?_) (fun hb => ?_) <;> have hb' := hb <;> (try simp only [sc, reduceCtorEq, cmpOf] at hb') <;> try (exfalso; omega)))
       all_goals (fail_if_success apply DL.id))
      | (refine RunL.split rfl rfl rfl rfl (fun hb => ?_) (fun hb => ?_) <;> have hb' := hb <;> (try simp only [sc, reduceCtorEq, cmpOf] at hb') <;> try (exfalso; omega)) )
    all_goals
      apply Ends.mk (.cons (.cellA (τ := τ) rfl rfl rfl rfl rfl) (.cons (.tmp rfl) .nil))
      rfl
  · have g1 : cmpQ dx 0 ≠ 0 := fun h => hd1 (cx.1 h)
    have g2 := cy.2 (h0.resolve_left hd1)
    repeat' (first
      | (apply RunL.step; exact rfl; apply op_ev (τ := τ); exact rfl; (first | exact hck | exact hmx | exact hmy | exact hdx | exact hdy | exact rdivN | exact rsign | exact rsub | exact rmul); exact rfl) | (apply RunL.step; exact rfl; exact opA) | (apply RunL.hand; exact rfl; exact rfl; exact lenA; exact rfl) | (apply AWP.seq) | (apply AWP.region; exact rfl) | (apply AWP.block) | (apply AWP.skip) | (apply AWP.exit) | (apply AWP.retF; exact rfl; exact rfl; exact rfl; exact rfl; exact lenA; exact rfl) | (apply AWP.ret) | (apply RunL.nil) | (apply RunL.on; exact rfl; exact rfl; exact rfl; exact rfl; (first | exact rfl | assumption)) | (apply RunL.noU; exact rfl; exact rfl; exact rfl; exact rfl; exact rfl; exact rfl) | (apply RunL.no; exact rfl; exact rfl; exact rfl; exact rfl; (first | exact rfl | assumption); exact rfl; exact rfl) | (refine AWP.cond _ (Rd.of rfl) (fun hc => ?_) (fun hc => ?_) <;> first | (exfalso; cases hc; done) | (have hc' := hc; (try simp only [sc, reduceCtorEq, cmpOf] at hc'); try (exfalso; omega)))
      | (
       apply AWP.drawA
       repeat' (first
         | (apply DL.cons; (try (apply OpLoc.on; exact rfl; exact rfl; exact rfl; exact rfl; (first | exact rfl | assumption))); apply ol_ev (τ := τ); exact rfl; (first | exact hck | exact hmx | exact hmy | exact hdx | exact hdy | exact rdivN | exact rsign | exact rsub | exact rmul); exact rfl; exact rfl) | (apply DL.cons; exact olA; exact rfl) | (apply DL.nil; kernel_rfl) | (refine DL.split rfl rfl rfl rfl (fun hb => ?_) (fun hb => ?_) <;> have hb' := hb <;> (try simp only [sc, reduceCtorEq, cmpOf] at hb') <;> try (exfalso; omega)))
       all_goals (fail_if_success apply DL.id))
      | (refine RunL.split rfl rfl rfl rfl (fun hb => ?_) (fun hb => ?_) <;> have hb' := hb <;> (try simp only [sc, reduceCtorEq, cmpOf] at hb') <;> try (exfalso; omega)) )
    all_goals
      apply Ends.mk (.cons (.cellA (τ := τ) rfl rfl rfl rfl rfl) (.cons (.tmp rfl) .nil))
      rfl
theorem kSpread1 (x y : List Int) (he : anchE x y = 0) (hd1 : devQ (fn x) x.length ≠ 0) (hd2 : devQ (fn y) y.length ≠ 0) : Evals Tryd.prog 21 [.ints .i64 x, .ints .i64 y]
    (.tup [linkD (devQ (fn y) y.length / devQ (fn x) x.length) (meanQ (fn y) y.length - devQ (fn y) y.length / devQ (fn x) x.length * meanQ (fn x) x.length), .int .i64 0]) := by
  have hck := kcheck x y
  rw [he] at hck
  obtain ⟨e1, e2, e3, e4, e5⟩ := anchE_zero he
  have hmx := kmean x e4 e3 e1
  have hmy := kmean y e5 (by omega) (by omega)
  have hdx := kdev x e4 e3 e1
  have hdy := kdev y e5 (by omega) (by omega)
  have zx := mean_sz e4 e1
  have zy := mean_sz e5 (by omega)
  have wx := dev_sz e4 e1
  have wy := dev_sz e5 (by omega)
  generalize meanQ (fn x) x.length = mx at *
  generalize meanQ (fn y) y.length = my at *
  generalize devQ (fn x) x.length = dx at *
  generalize devQ (fn y) y.length = dy at *
  have cx := cmpQ_zero dx 0
  have cy := cmpQ_zero dy 0
  refine evals_of_awp Tryd.func21 rfl (CallOK.of Tryd.func21 (by kernel_rfl) rfl) (Nat.le_of_ble_eq_true rfl) ?_
  rintro w R hR ⟨vs, hv⟩
  have g1 : cmpQ dx 0 ≠ 0 := fun h => hd1 (cx.1 h)
  have g2 : cmpQ dy 0 ≠ 0 := fun h => hd2 (cy.1 h)
  repeat' (first
    | (apply RunL.step; exact rfl; apply op_ev (τ := τ); exact rfl; (first | exact hck | exact hmx | exact hmy | exact hdx | exact hdy | exact rdivN | exact rsign | exact rsub | exact rmul); exact rfl) | (apply RunL.step; exact rfl; exact opA) | (apply RunL.hand; exact rfl; exact rfl; exact lenA; exact rfl) | (apply AWP.seq) | (apply AWP.region; exact rfl) | (apply AWP.block) | (apply AWP.skip) | (apply AWP.exit) | (apply AWP.retF; exact rfl; exact rfl; exact rfl; exact rfl; exact lenA; exact rfl) | (apply AWP.ret) | (apply RunL.nil) | (apply RunL.on; exact rfl; exact rfl; exact rfl; exact rfl; (first | exact rfl | assumption)) | (apply RunL.noU; exact rfl; exact rfl; exact rfl; exact rfl; exact rfl; exact rfl) | (apply RunL.no; exact rfl; exact rfl; exact rfl; exact rfl; (first | exact rfl | assumption); exact rfl; exact rfl) | (refine AWP.cond _ (Rd.of rfl) (fun hc => ?_) (fun hc => ?_) <;> first | (exfalso; cases hc; done) | (have hc' := hc; (try simp only [sc, reduceCtorEq, cmpOf] at hc'); try (exfalso; omega)))
    | (
     apply AWP.drawA
     repeat' (first
       | (apply DL.cons; (try (apply OpLoc.on; exact rfl; exact rfl; exact rfl; exact rfl; (first | exact rfl | assumption))); apply ol_ev (τ := τ); exact rfl; (first | exact hck | exact hmx | exact hmy | exact hdx | exact hdy | exact rdivN | exact rsign | exact rsub | exact rmul); exact rfl; exact rfl) | (apply DL.cons; exact olA; exact rfl) | (apply DL.nil; kernel_rfl) | (refine DL.split rfl rfl rfl rfl (fun hb => ?_) (fun hb => ?_) <;> have hb' := hb <;> (try simp only [sc, reduceCtorEq, cmpOf] at hb') <;> try (exfalso; omega)))
     all_goals (fail_if_success apply DL.id))
    | (refine RunL.split rfl rfl rfl rfl (fun hb => ?_) (fun hb => ?_) <;> have hb' := hb <;> (try simp only [sc, reduceCtorEq, cmpOf] at hb') <;> try (exfalso; omega)) )
  all_goals
    apply Ends.mk (.cons (.cellA (τ := τ) rfl rfl rfl rfl rfl) (.cons (.tmp rfl) .nil))
    rfl
section
variable {s s' : Bool} {l d l' d' : List Int} {A B : Rat} {k m : Nat}
theorem kLoss0 (x y : List Int) (he : anchE x y ≠ 0) : Evals Tryd.prog 18 [.agg [.bool s, .ints .u32 l, .ints .u32 d, .bool s', .ints .u32 l', .ints .u32 d'], .ints .i64 x, .ints .i64 y] (.tup [.agg ratC0, .int .i64 (anchE x y)]) := by
  have hck := kcheck x y
  generalize anchE x y = e at *
  refine evals_of_awp Tryd.func18 rfl (CallOK.of Tryd.func18 (by kernel_rfl) rfl) (Nat.le_of_ble_eq_true rfl) ?_
  rintro w R hR ⟨vs, hv⟩
  repeat' (first
    | (apply RunL.step; exact rfl; apply op_ev (τ := τ); exact rfl; (first | exact hck | exact hlo); exact rfl) | (apply RunL.step; exact rfl; exact opA) | (apply RunL.hand; exact rfl; exact rfl; exact lenA; exact rfl) | (apply AWP.seq) | (apply AWP.region; exact rfl) | (apply AWP.block) | (apply AWP.skip) | (apply AWP.exit) | (apply AWP.retF; exact rfl; exact rfl; exact rfl; exact rfl; exact lenA; exact rfl) | (apply AWP.ret) | (apply RunL.nil) | (apply RunL.on; exact rfl; exact rfl; exact rfl; exact rfl; (first | exact rfl | assumption)) | (apply RunL.noU; exact rfl; exact rfl; exact rfl; exact rfl; exact rfl; exact rfl) | (apply RunL.no; exact rfl; exact rfl; exact rfl; exact rfl; (first | exact rfl | assumption); exact rfl; exact rfl) | (refine AWP.cond _ (Rd.of rfl) (fun hc => ?_) (fun hc => ?_) <;> first | (exfalso; cases hc; done) | (have hc' := hc; (try simp only [sc, reduceCtorEq, cmpOf] at hc'); try (exfalso; omega)))
    | (
     apply AWP.drawA
     repeat' (first
       | (apply DL.cons; (try (apply OpLoc.on; exact rfl; exact rfl; exact rfl; exact rfl; (first | exact rfl | assumption))); apply ol_ev (τ := τ); exact rfl; (first | exact hck | exact hlo); exact rfl; exact rfl) | (apply DL.cons; exact olA; exact rfl) | (apply DL.nil; kernel_rfl) | (refine DL.split rfl rfl rfl rfl (fun hb => ?_) (fun hb => ?_) <;> have hb' := hb <;> (try simp only [sc, reduceCtorEq, cmpOf] at hb') <;> try (exfalso; omega)))
     all_goals (fail_if_success apply DL.id))
    | (refine RunL.split rfl rfl rfl rfl (fun hb => ?_) (fun hb => ?_) <;> have hb' := hb <;> (try simp only [sc, reduceCtorEq, cmpOf] at hb') <;> try (exfalso; omega)) )
  apply Ends.mk (.cons (.cellA (τ := τ) rfl rfl rfl rfl rfl) (.cons (.tmp rfl) .nil))
  rfl
theorem kLoss1 [h : RA s l d A k] [h' : RA s' l' d' B m] (x y : List Int) (he : anchE x y = 0) (hk : k + m ≤ 10000000 := by first | omega | (simp only [List.length_cons, List.length_nil, List.length_set, List.length_replicate, List.length_append, List.length_take, List.length_drop]; omega)) : Evals Tryd.prog 18 [.agg [.bool s, .ints .u32 l, .ints .u32 d, .bool s', .ints .u32 l', .ints .u32 d'], .ints .i64 x, .ints .i64 y] (.tup [ratD (lossQ A B (fn x) (fn y) x.length), .int .i64 0]) := by
  have hck := kcheck x y
  rw [he] at hck
  obtain ⟨e1, e2, e3, e4, e5⟩ := anchE_zero he
  have hlo := kloss0 (h := h) (h' := h') x y e2 e1
  generalize lossQ A B (fn x) (fn y) x.length = q at *
  refine evals_of_awp Tryd.func18 rfl (CallOK.of Tryd.func18 (by kernel_rfl) rfl) (Nat.le_of_ble_eq_true rfl) ?_
  rintro w R hR ⟨vs, hv⟩
  repeat' (first
    | (apply RunL.step; exact rfl; apply op_ev (τ := τ); exact rfl; (first | exact hck | exact hlo); exact rfl) | (apply RunL.step; exact rfl; exact opA) | (apply RunL.hand; exact rfl; exact rfl; exact lenA; exact rfl) | (apply AWP.seq) | (apply AWP.region; exact rfl) | (apply AWP.block) | (apply AWP.skip) | (apply AWP.exit) | (apply AWP.retF; exact rfl; exact rfl; exact rfl; exact rfl; exact lenA; exact rfl) | (apply AWP.ret) | (apply RunL.nil) | (apply RunL.on; exact rfl; exact rfl; exact rfl; exact rfl; (first | exact rfl | assumption)) | (apply RunL.noU; exact rfl; exact rfl; exact rfl; exact rfl; exact rfl; exact rfl) | (apply RunL.no; exact rfl; exact rfl; exact rfl; exact rfl; (first | exact rfl | assumption); exact rfl; exact rfl) | (refine AWP.cond _ (Rd.of rfl) (fun hc => ?_) (fun hc => ?_) <;> first | (exfalso; cases hc; done) | (have hc' := hc; (try simp only [sc, reduceCtorEq, cmpOf] at hc'); try (exfalso; omega)))
    | (
     apply AWP.drawA
     repeat' (first
       | (apply DL.cons; (try (apply OpLoc.on; exact rfl; exact rfl; exact rfl; exact rfl; (first | exact rfl | assumption))); apply ol_ev (τ := τ); exact rfl; (first | exact hck | exact hlo); exact rfl; exact rfl) | (apply DL.cons; exact olA; exact rfl) | (apply DL.nil; kernel_rfl) | (refine DL.split rfl rfl rfl rfl (fun hb => ?_) (fun hb => ?_) <;> have hb' := hb <;> (try simp only [sc, reduceCtorEq, cmpOf] at hb') <;> try (exfalso; omega)))
     all_goals (fail_if_success apply DL.id))
    | (refine RunL.split rfl rfl rfl rfl (fun hb => ?_) (fun hb => ?_) <;> have hb' := hb <;> (try simp only [sc, reduceCtorEq, cmpOf] at hb') <;> try (exfalso; omega)) )
  apply Ends.mk (.cons (.cellA (τ := τ) rfl rfl rfl rfl rfl) (.cons (.tmp rfl) .nil))
  rfl
end
/-- links of limited size -/
structure LkOK (M : List Lk) (K : Nat) : Prop where
  len : ∀ p ∈ M, (p.1.2.1.length ≤ K ∧ p.1.2.2.length ≤ K) ∧ p.2.2.1.length ≤ K ∧ p.2.2.2.length ≤ K
  lim : ∀ p ∈ M, (Lim p.1.2.1 ∧ Lim p.1.2.2) ∧ Lim p.2.2.1 ∧ Lim p.2.2.2
theorem LkOK.A {M : List Lk} {K : Nat} (h : LkOK M K) {p : Lk} (hp : p ∈ M) : RA p.1.1 p.1.2.1 p.1.2.2 (lA p) K := ⟨rfl, (h.len p hp).1.1, (h.len p hp).1.2⟩
theorem LkOK.B {M : List Lk} {K : Nat} (h : LkOK M K) {p : Lk} (hp : p ∈ M) : RA p.2.1 p.2.2.1 p.2.2.2 (lB p) K := ⟨rfl, (h.len p hp).2.1, (h.len p hp).2.2⟩
theorem LkOK.szA {M : List Lk} {K : Nat} (h : LkOK M K) {p : Lk} (hp : p ∈ M) : SzR (lA p) (K + 1) := (h.A hp).sz (h.lim p hp).1.1 (h.lim p hp).1.2
theorem LkOK.szB {M : List Lk} {K : Nat} (h : LkOK M K) {p : Lk} (hp : p ∈ M) : SzR (lB p) (K + 1) := (h.B hp).sz (h.lim p hp).2.1 (h.lim p hp).2.2
theorem at_some {α : Type} {l : List α} {i : Int} (h0 : 0 ≤ i) (h : i < l.length) : ∃ x, l[i.toNat]? = some x := ⟨l[i.toNat]'(by omega), by simp⟩
def allV (M : List Lk) : Prop := ∀ p ∈ M, 0 < lA p
theorem posQ (x : Rat) : decide (0 < cmpQ x 0) = decide (0 < x) := by
  have : 0 < cmpQ x 0 ↔ 0 < x := by rcases cmpQ_cases x 0 with ⟨g1, g2⟩ | ⟨g1, g2⟩ | ⟨g1, g2⟩ <;> constructor <;> intro h <;> first | omega | grind
  exact decide_eq_decide.2 this
theorem kallT (M : List Lk) {K : Nat} (hM : LkOK M K) (hl : M.length ≤ 1048576) (hk : K ≤ 1048576) (hV : allV M) : Evals Tryd.prog 48 [.sl 6 (M.map rowL)] (.bool true) := by
  refine evals_of_awp Tryd.func48 rfl (CallOK.of Tryd.func48 (by kernel_rfl) rfl) (Nat.le_of_ble_eq_true rfl) ?_
  rintro w R hR ⟨vs, hv⟩
  have hml : (M.map rowL).length = M.length := by simp
  repeat' (first
    | (apply RunL.step; exact rfl; apply op_ev (τ := τ); exact rfl; (first | exact hva); exact rfl) | (apply RunL.step; exact rfl; exact opA) | (apply RunL.hand; exact rfl; exact rfl; exact lenA; exact rfl) | (apply AWP.seq) | (apply AWP.region; exact rfl) | (apply AWP.block) | (apply AWP.skip) | (apply AWP.exit) | (apply AWP.retF; exact rfl; exact rfl; exact rfl; exact rfl; exact lenA; exact rfl) | (apply AWP.ret) | (apply RunL.nil) | (apply RunL.on; exact rfl; exact rfl; exact rfl; exact rfl; (first | exact rfl | assumption)) | (apply RunL.noU; exact rfl; exact rfl; exact rfl; exact rfl; exact rfl; exact rfl) | (apply RunL.no; exact rfl; exact rfl; exact rfl; exact rfl; (first | exact rfl | assumption); exact rfl; exact rfl) | (refine AWP.cond _ (Rd.of rfl) (fun hc => ?_) (fun hc => ?_) <;> first | (exfalso; cases hc; done) | (have hc' := hc; (try simp only [sc, reduceCtorEq, cmpOf] at hc'); try (exfalso; omega)))
    | (
     apply AWP.drawA
     repeat' (first
       | (apply DL.cons; (try (apply OpLoc.on; exact rfl; exact rfl; exact rfl; exact rfl; (first | exact rfl | assumption))); apply ol_ev (τ := τ); exact rfl; (first | exact hva); exact rfl; exact rfl) | (apply DL.cons; exact olA; exact rfl) | (apply DL.nil; kernel_rfl) | (refine DL.split rfl rfl rfl rfl (fun hb => ?_) (fun hb => ?_) <;> have hb' := hb <;> (try simp only [sc, reduceCtorEq, cmpOf] at hb') <;> try (exfalso; omega)))
     all_goals (fail_if_success apply DL.id))
    | (refine RunL.split rfl rfl rfl rfl (fun hb => ?_) (fun hb => ?_) <;> have hb' := hb <;> (try simp only [sc, reduceCtorEq, cmpOf] at hb') <;> try (exfalso; omega)) )
  refine AWP.loop (ι := Int) (fun i => ⟨[(5, .val (.sl 6 (M.map rowL))), (6, .val (.int .i64 (M.map rowL).length)), (7, .val (.int .i64 i))], []⟩) (fun i => 0 ≤ i ∧ i ≤ M.length) (fun i => (M.length - i).toNat) 0 ⟨by omega, by omega⟩ (St.Le.of (by repeat' (first | exact all_nil | refine all_cons rfl ?_)) (by repeat' (first | exact all_nil | refine all_cons rfl ?_))) ?_
  rintro i ⟨k1, k2⟩
  by_cases hi : i < M.length
  · obtain ⟨p, hp⟩ := at_some k1 hi
    have hrow : (M.map rowL)[i.toNat]? = some [.bool p.1.1, .ints .u32 p.1.2.1, .ints .u32 p.1.2.2, .bool p.2.1, .ints .u32 p.2.2.1, .ints .u32 p.2.2.2] := by simp [hp]
    have hm := List.mem_of_getElem? hp
    have hva := kvalid (h := hM.A hm) (h' := hM.B hm)
    rw [posQ, decide_eq_true (hV p hm)] at hva
    repeat' (first
      | (apply RunL.step; exact rfl; apply op_ev (τ := τ); exact rfl; (first | exact hva); exact rfl) | (apply RunL.step; exact rfl; exact opA) | (apply RunL.hand; exact rfl; exact rfl; exact lenA; exact rfl) | (apply AWP.seq) | (apply AWP.region; exact rfl) | (apply AWP.block) | (apply AWP.skip) | (apply AWP.exit) | (apply AWP.retF; exact rfl; exact rfl; exact rfl; exact rfl; exact lenA; exact rfl) | (apply AWP.ret) | (apply RunL.nil) | (apply RunL.on; exact rfl; exact rfl; exact rfl; exact rfl; (first | exact rfl | assumption)) | (apply RunL.noU; exact rfl; exact rfl; exact rfl; exact rfl; exact rfl; exact rfl) | (apply RunL.no; exact rfl; exact rfl; exact rfl; exact rfl; (first | exact rfl | assumption); exact rfl; exact rfl) | (refine AWP.cond _ (Rd.of rfl) (fun hc => ?_) (fun hc => ?_) <;> first | (exfalso; cases hc; done) | (have hc' := hc; (try simp only [sc, reduceCtorEq, cmpOf] at hc'); try (exfalso; omega)))
      | (
       apply AWP.drawA
       repeat' (first
         | (apply DL.cons; (try (apply OpLoc.on; exact rfl; exact rfl; exact rfl; exact rfl; (first | exact rfl | assumption))); apply ol_ev (τ := τ); exact rfl; (first | exact hva); exact rfl; exact rfl) | (apply DL.cons; exact olA; exact rfl) | (apply DL.nil; kernel_rfl) | (refine DL.split rfl rfl rfl rfl (fun hb => ?_) (fun hb => ?_) <;> have hb' := hb <;> (try simp only [sc, reduceCtorEq, cmpOf] at hb') <;> try (exfalso; omega)))
       all_goals (fail_if_success apply DL.id))
      | (refine RunL.split rfl rfl rfl rfl (fun hb => ?_) (fun hb => ?_) <;> have hb' := hb <;> (try simp only [sc, reduceCtorEq, cmpOf] at hb') <;> try (exfalso; omega)) )
    all_goals
      exact ⟨_, St.Le.of (by repeat' (first | exact all_nil | refine all_cons rfl ?_)) (by repeat' (first | exact all_nil | refine all_cons rfl ?_)), ⟨by omega, by omega⟩, by omega⟩
  · repeat' (first
    | (apply RunL.step; exact rfl; apply op_ev (τ := τ); exact rfl; (first | exact hva); exact rfl) | (apply RunL.step; exact rfl; exact opA) | (apply RunL.hand; exact rfl; exact rfl; exact lenA; exact rfl) | (apply AWP.seq) | (apply AWP.region; exact rfl) | (apply AWP.block) | (apply AWP.skip) | (apply AWP.exit) | (apply AWP.retF; exact rfl; exact rfl; exact rfl; exact rfl; exact lenA; exact rfl) | (apply AWP.ret) | (apply RunL.nil) | (apply RunL.on; exact rfl; exact rfl; exact rfl; exact rfl; (first | exact rfl | assumption)) | (apply RunL.noU; exact rfl; exact rfl; exact rfl; exact rfl; exact rfl; exact rfl) | (apply RunL.no; exact rfl; exact rfl; exact rfl; exact rfl; (first | exact rfl | assumption); exact rfl; exact rfl) | (refine AWP.cond _ (Rd.of rfl) (fun hc => ?_) (fun hc => ?_) <;> first | (exfalso; cases hc; done) | (have hc' := hc; (try simp only [sc, reduceCtorEq, cmpOf] at hc'); try (exfalso; omega)))
    | (
     apply AWP.drawA
     repeat' (first
       | (apply DL.cons; (try (apply OpLoc.on; exact rfl; exact rfl; exact rfl; exact rfl; (first | exact rfl | assumption))); apply ol_ev (τ := τ); exact rfl; (first | exact hva); exact rfl; exact rfl) | (apply DL.cons; exact olA; exact rfl) | (apply DL.nil; kernel_rfl) | (refine DL.split rfl rfl rfl rfl (fun hb => ?_) (fun hb => ?_) <;> have hb' := hb <;> (try simp only [sc, reduceCtorEq, cmpOf] at hb') <;> try (exfalso; omega)))
     all_goals (fail_if_success apply DL.id))
    | (refine RunL.split rfl rfl rfl rfl (fun hb => ?_) (fun hb => ?_) <;> have hb' := hb <;> (try simp only [sc, reduceCtorEq, cmpOf] at hb') <;> try (exfalso; omega)) )
    all_goals
      (apply Ends.mk (.cons (.tmp rfl) .nil); first | rfl | (simp only [pack]; congr 1; simp only [cmpOf, decide_eq_true_eq, beq_iff_eq, bne_iff_ne]; omega))
theorem kallF (M : List Lk) {K : Nat} (hM : LkOK M K) (hl : M.length ≤ 1048576) (hk : K ≤ 1048576) (hV : ¬ allV M) : Evals Tryd.prog 48 [.sl 6 (M.map rowL)] (.bool false) := by
  refine evals_of_awp Tryd.func48 rfl (CallOK.of Tryd.func48 (by kernel_rfl) rfl) (Nat.le_of_ble_eq_true rfl) ?_
  rintro w R hR ⟨vs, hv⟩
  have hml : (M.map rowL).length = M.length := by simp
  repeat' (first
    | (apply RunL.step; exact rfl; apply op_ev (τ := τ); exact rfl; (first | exact hva); exact rfl) | (apply RunL.step; exact rfl; exact opA) | (apply RunL.hand; exact rfl; exact rfl; exact lenA; exact rfl) | (apply AWP.seq) | (apply AWP.region; exact rfl) | (apply AWP.block) | (apply AWP.skip) | (apply AWP.exit) | (apply AWP.retF; exact rfl; exact rfl; exact rfl; exact rfl; exact lenA; exact rfl) | (apply AWP.ret) | (apply RunL.nil) | (apply RunL.on; exact rfl; exact rfl; exact rfl; exact rfl; (first | exact rfl | assumption)) | (apply RunL.noU; exact rfl; exact rfl; exact rfl; exact rfl; exact rfl; exact rfl) | (apply RunL.no; exact rfl; exact rfl; exact rfl; exact rfl; (first | exact rfl | assumption); exact rfl; exact rfl) | (refine AWP.cond _ (Rd.of rfl) (fun hc => ?_) (fun hc => ?_) <;> first | (exfalso; cases hc; done) | (have hc' := hc; (try simp only [sc, reduceCtorEq, cmpOf] at hc'); try (exfalso; omega)))
    | (
     apply AWP.drawA
     repeat' (first
       | (apply DL.cons; (try (apply OpLoc.on; exact rfl; exact rfl; exact rfl; exact rfl; (first | exact rfl | assumption))); apply ol_ev (τ := τ); exact rfl; (first | exact hva); exact rfl; exact rfl) | (apply DL.cons; exact olA; exact rfl) | (apply DL.nil; kernel_rfl) | (refine DL.split rfl rfl rfl rfl (fun hb => ?_) (fun hb => ?_) <;> have hb' := hb <;> (try simp only [sc, reduceCtorEq, cmpOf] at hb') <;> try (exfalso; omega)))
     all_goals (fail_if_success apply DL.id))
    | (refine RunL.split rfl rfl rfl rfl (fun hb => ?_) (fun hb => ?_) <;> have hb' := hb <;> (try simp only [sc, reduceCtorEq, cmpOf] at hb') <;> try (exfalso; omega)) )
  refine AWP.loop (ι := Int) (fun i => ⟨[(5, .val (.sl 6 (M.map rowL))), (6, .val (.int .i64 (M.map rowL).length)), (7, .val (.int .i64 i))], []⟩) (fun i => 0 ≤ i ∧ i ≤ M.length ∧ ∀ j : Nat, (j : Int) < i → ∀ p, M[j]? = some p → 0 < lA p) (fun i => (M.length - i).toNat) 0 ⟨by omega, by omega, fun j hj => by omega⟩ (St.Le.of (by repeat' (first | exact all_nil | refine all_cons rfl ?_)) (by repeat' (first | exact all_nil | refine all_cons rfl ?_))) ?_
  rintro i ⟨k1, k2, k3⟩
  by_cases hi : i < M.length
  · obtain ⟨p, hp⟩ := at_some k1 hi
    have hrow : (M.map rowL)[i.toNat]? = some [.bool p.1.1, .ints .u32 p.1.2.1, .ints .u32 p.1.2.2, .bool p.2.1, .ints .u32 p.2.2.1, .ints .u32 p.2.2.2] := by simp [hp]
    have hm := List.mem_of_getElem? hp
    have hva := kvalid (h := hM.A hm) (h' := hM.B hm)
    rw [posQ] at hva
    by_cases hpos : 0 < lA p
    · rw [decide_eq_true hpos] at hva
      repeat' (first
        | (apply RunL.step; exact rfl; apply op_ev (τ := τ); exact rfl; (first | exact hva); exact rfl) | (apply RunL.step; exact rfl; exact opA) | (apply RunL.hand; exact rfl; exact rfl; exact lenA; exact rfl) | (apply AWP.seq) | (apply AWP.region; exact rfl) | (apply AWP.block) | (apply AWP.skip) | (apply AWP.exit) | (apply AWP.retF; exact rfl; exact rfl; exact rfl; exact rfl; exact lenA; exact rfl) | (apply AWP.ret) | (apply RunL.nil) | (apply RunL.on; exact rfl; exact rfl; exact rfl; exact rfl; (first | exact rfl | assumption)) | (apply RunL.noU; exact rfl; exact rfl; exact rfl; exact rfl; exact rfl; exact rfl) | (apply RunL.no; exact rfl; exact rfl; exact rfl; exact rfl; (first | exact rfl | assumption); exact rfl; exact rfl) | (refine AWP.cond _ (Rd.of rfl) (fun hc => ?_) (fun hc => ?_) <;> first | (exfalso; cases hc; done) | (have hc' := hc; (try simp only [sc, reduceCtorEq, cmpOf] at hc'); try (exfalso; omega)))
        | (
         apply AWP.drawA
         repeat' (first
           | (apply DL.cons; (try (apply OpLoc.on; exact rfl; exact rfl; exact rfl; exact rfl; (first | exact rfl | assumption))); apply ol_ev (τ := τ); exact rfl; (first | exact hva); exact rfl; exact rfl) | (apply DL.cons; exact olA; exact rfl) | (apply DL.nil; kernel_rfl) | (refine DL.split rfl rfl rfl rfl (fun hb => ?_) (fun hb => ?_) <;> have hb' := hb <;> (try simp only [sc, reduceCtorEq, cmpOf] at hb') <;> try (exfalso; omega)))
         all_goals (fail_if_success apply DL.id))
        | (refine RunL.split rfl rfl rfl rfl (fun hb => ?_) (fun hb => ?_) <;> have hb' := hb <;> (try simp only [sc, reduceCtorEq, cmpOf] at hb') <;> try (exfalso; omega)) )
      all_goals
        refine ⟨_, St.Le.of (by repeat' (first | exact all_nil | refine all_cons rfl ?_)) (by repeat' (first | exact all_nil | refine all_cons rfl ?_)), ⟨by omega, by omega, fun j hj q hq => ?_⟩, by omega⟩
        by_cases e : (j : Int) < i
        · exact k3 j e q hq
        · rw [show j = i.toNat by omega, hp] at hq
          cases hq
          exact hpos
    · rw [decide_eq_false hpos] at hva
      repeat' (first
        | (apply RunL.step; exact rfl; apply op_ev (τ := τ); exact rfl; (first | exact hva); exact rfl) | (apply RunL.step; exact rfl; exact opA) | (apply RunL.hand; exact rfl; exact rfl; exact lenA; exact rfl) | (apply AWP.seq) | (apply AWP.region; exact rfl) | (apply AWP.block) | (apply AWP.skip) | (apply AWP.exit) | (apply AWP.retF; exact rfl; exact rfl; exact rfl; exact rfl; exact lenA; exact rfl) | (apply AWP.ret) | (apply RunL.nil) | (apply RunL.on; exact rfl; exact rfl; exact rfl; exact rfl; (first | exact rfl | assumption)) | (apply RunL.noU; exact rfl; exact rfl; exact rfl; exact rfl; exact rfl; exact rfl) | (apply RunL.no; exact rfl; exact rfl; exact rfl; exact rfl; (first | exact rfl | assumption); exact rfl; exact rfl) | (refine AWP.cond _ (Rd.of rfl) (fun hc => ?_) (fun hc => ?_) <;> first | (exfalso; cases hc; done) | (have hc' := hc; (try simp only [sc, reduceCtorEq, cmpOf] at hc'); try (exfalso; omega)))
        | (
         apply AWP.drawA
         repeat' (first
           | (apply DL.cons; (try (apply OpLoc.on; exact rfl; exact rfl; exact rfl; exact rfl; (first | exact rfl | assumption))); apply ol_ev (τ := τ); exact rfl; (first | exact hva); exact rfl; exact rfl) | (apply DL.cons; exact olA; exact rfl) | (apply DL.nil; kernel_rfl) | (refine DL.split rfl rfl rfl rfl (fun hb => ?_) (fun hb => ?_) <;> have hb' := hb <;> (try simp only [sc, reduceCtorEq, cmpOf] at hb') <;> try (exfalso; omega)))
         all_goals (fail_if_success apply DL.id))
        | (refine RunL.split rfl rfl rfl rfl (fun hb => ?_) (fun hb => ?_) <;> have hb' := hb <;> (try simp only [sc, reduceCtorEq, cmpOf] at hb') <;> try (exfalso; omega)) )
      all_goals
        (apply Ends.mk (.cons (.tmp rfl) .nil); first | rfl | (simp only [pack]; congr 1; simp only [cmpOf, decide_eq_true_eq, beq_iff_eq, bne_iff_ne]; omega))
  · exfalso
    apply hV
    intro p hp
    obtain ⟨j, hj⟩ := List.mem_iff_getElem?.1 hp
    have := (List.getElem?_eq_some_iff.1 hj).1
    exact k3 j (by omega) p hj
set_option maxHeartbeats 1000000 in
theorem kChain1 (M : List Lk) {K : Nat} (hM : LkOK M K) (hk : K ≤ 1048576) (hl : M.length ≤ 60) (hV : allV M) : Evals Tryd.prog 22 [.sl 6 (M.map rowL)] (.tup [linkD (chQ M).1 (chQ M).2, .int .i64 0]) := by
  have hall := kallT M hM (by omega) hk hV
  refine evals_of_awp Tryd.func22 rfl (CallOK.of Tryd.func22 (by kernel_rfl) rfl) (Nat.le_of_ble_eq_true rfl) ?_
  rintro w R hR ⟨vs, hv⟩
  have hml : (M.map rowL).length = M.length := by simp
  have hsz := chQ_size (M := M) (K := K + 1) fun p hp => ⟨hM.szA hp, hM.szB hp⟩
  have one : ((1 : Int) : Rat) = 1 := rfl
  have zero : ((0 : Int) : Rat) = 0 := rfl
  repeat' (first
    | (apply RunL.step; exact rfl; apply op_ev (τ := τ); exact rfl; (first | exact hall | exact kwhole _ | exact hcm); exact rfl) | (apply RunL.step; exact rfl; exact opA) | (apply RunL.hand; exact rfl; exact rfl; exact lenA; exact rfl) | (apply AWP.seq) | (apply AWP.region; exact rfl) | (apply AWP.block) | (apply AWP.skip) | (apply AWP.exit) | (apply AWP.retF; exact rfl; exact rfl; exact rfl; exact rfl; exact lenA; exact rfl) | (apply AWP.ret) | (apply RunL.nil) | (apply RunL.on; exact rfl; exact rfl; exact rfl; exact rfl; (first | exact rfl | assumption)) | (apply RunL.noU; exact rfl; exact rfl; exact rfl; exact rfl; exact rfl; exact rfl) | (apply RunL.no; exact rfl; exact rfl; exact rfl; exact rfl; (first | exact rfl | assumption); exact rfl; exact rfl) | (refine AWP.cond _ (Rd.of rfl) (fun hc => ?_) (fun hc => ?_) <;> first | (exfalso; cases hc; done) | (have hc' := hc; (try simp only [sc, reduceCtorEq, cmpOf] at hc'); try (exfalso; omega)))
    | (
     apply AWP.drawA
     repeat' (first
       | (apply DL.cons; (try (apply OpLoc.on; exact rfl; exact rfl; exact rfl; exact rfl; (first | exact rfl | assumption))); apply ol_ev (τ := τ); exact rfl; (first | exact hall | exact kwhole _ | exact hcm); exact rfl; exact rfl) | (apply DL.cons; exact olA; exact rfl) | (apply DL.nil; kernel_rfl) | (refine DL.split rfl rfl rfl rfl (fun hb => ?_) (fun hb => ?_) <;> have hb' := hb <;> (try simp only [sc, reduceCtorEq, cmpOf] at hb') <;> try (exfalso; omega)))
     all_goals (fail_if_success apply DL.id))
    | (refine RunL.split rfl rfl rfl rfl (fun hb => ?_) (fun hb => ?_) <;> have hb' := hb <;> (try simp only [sc, reduceCtorEq, cmpOf] at hb') <;> try (exfalso; omega)) )
  refine AWP.loop3 (fun (i : Int) (a b : Rat) => ⟨[(2, .pb 2 0), (4, .pb 4 0), (18, .val (.sl 6 (M.map rowL))), (19, .val (.int .i64 (M.map rowL).length)), (20, .val (.int .i64 i))], [(2, .cells 29 [.bool false, .ints .u32 [], .ints .u32 [], .bool false, .ints .u32 [], .ints .u32 []]), (4, .cells 29 (ratCl a ++ ratCl b))]⟩)
    (fun i a b => 0 ≤ i ∧ i ≤ M.length ∧ a = (chQ (M.take i.toNat)).1 ∧ b = (chQ (M.take i.toNat)).2) (fun i _ _ => (M.length - i).toNat) 0 ((1 : Int) : Rat) ((0 : Int) : Rat) ⟨by omega, by omega, rfl, rfl⟩ (St.Le.of (by repeat' (first | exact all_nil | refine all_cons rfl ?_)) (by repeat' (first | exact all_nil | refine all_cons rfl ?_))) ?_
  rintro i a b ⟨k1, k2, k3, k4⟩
  obtain ⟨w1, w2⟩ := hsz i.toNat (by omega)
  rw [← k3] at w1
  rw [← k4] at w2
  have m1 : i.toNat * (K + 1) ≤ 60 * (K + 1) := Nat.mul_le_mul_right _ (by omega)
  have m2 : i.toNat * (2 * (K + 1) + 1) ≤ 60 * (2 * (K + 1) + 1) := Nat.mul_le_mul_right _ (by omega)
  by_cases hi : i < M.length
  · obtain ⟨p, hp⟩ := at_some k1 hi
    have hrow : (M.map rowL)[i.toNat]? = some [.bool p.1.1, .ints .u32 p.1.2.1, .ints .u32 p.1.2.2, .bool p.2.1, .ints .u32 p.2.2.1, .ints .u32 p.2.2.2] := by simp [hp]
    have hm := List.mem_of_getElem? hp
    have hcm := kcompose (x := a) (y := b) (h := RA.ratD a _ (h := w1)) (h' := RA.ratD b _ (h := w2)) (g := hM.A hm) (g' := hM.B hm) (by omega)
    have hst : chQ (M.take (i + 1).toNat) = comp (chQ (M.take i.toNat)) (lA p, lB p) := by
      rw [show (i + 1).toNat = i.toNat + 1 by omega, List.take_add_one, hp]; exact chQ_snoc _ _
    repeat' (first
      | (apply RunL.step; exact rfl; apply op_ev (τ := τ); exact rfl; (first | exact hall | exact kwhole _ | exact hcm); exact rfl) | (apply RunL.step; exact rfl; exact opA) | (apply RunL.hand; exact rfl; exact rfl; exact lenA; exact rfl) | (apply AWP.seq) | (apply AWP.region; exact rfl) | (apply AWP.block) | (apply AWP.skip) | (apply AWP.exit) | (apply AWP.retF; exact rfl; exact rfl; exact rfl; exact rfl; exact lenA; exact rfl) | (apply AWP.ret) | (apply RunL.nil) | (apply RunL.on; exact rfl; exact rfl; exact rfl; exact rfl; (first | exact rfl | assumption)) | (apply RunL.noU; exact rfl; exact rfl; exact rfl; exact rfl; exact rfl; exact rfl) | (apply RunL.no; exact rfl; exact rfl; exact rfl; exact rfl; (first | exact rfl | assumption); exact rfl; exact rfl) | (refine AWP.cond _ (Rd.of rfl) (fun hc => ?_) (fun hc => ?_) <;> first | (exfalso; cases hc; done) | (have hc' := hc; (try simp only [sc, reduceCtorEq, cmpOf] at hc'); try (exfalso; omega)))
      | (
       apply AWP.drawA
       repeat' (first
         | (apply DL.cons; (try (apply OpLoc.on; exact rfl; exact rfl; exact rfl; exact rfl; (first | exact rfl | assumption))); apply ol_ev (τ := τ); exact rfl; (first | exact hall | exact kwhole _ | exact hcm); exact rfl; exact rfl) | (apply DL.cons; exact olA; exact rfl) | (apply DL.nil; kernel_rfl) | (refine DL.split rfl rfl rfl rfl (fun hb => ?_) (fun hb => ?_) <;> have hb' := hb <;> (try simp only [sc, reduceCtorEq, cmpOf] at hb') <;> try (exfalso; omega)))
       all_goals (fail_if_success apply DL.id))
      | (refine RunL.split rfl rfl rfl rfl (fun hb => ?_) (fun hb => ?_) <;> have hb' := hb <;> (try simp only [sc, reduceCtorEq, cmpOf] at hb') <;> try (exfalso; omega)) )
    refine ⟨i + 1, _, _, St.Le.of (by repeat' (first | exact all_nil | refine all_cons rfl ?_)) (by repeat' (first | exact all_nil | refine all_cons rfl ?_)), ⟨by omega, by omega, ?_, ?_⟩, by omega⟩
    · rw [hst, k3]; rfl
    · rw [hst, k4]; rfl
  · rw [List.take_of_length_le (by omega)] at k3 k4
    repeat' (first
      | (apply RunL.step; exact rfl; apply op_ev (τ := τ); exact rfl; (first | exact hall | exact kwhole _ | exact hcm); exact rfl) | (apply RunL.step; exact rfl; exact opA) | (apply RunL.hand; exact rfl; exact rfl; exact lenA; exact rfl) | (apply AWP.seq) | (apply AWP.region; exact rfl) | (apply AWP.block) | (apply AWP.skip) | (apply AWP.exit) | (apply AWP.retF; exact rfl; exact rfl; exact rfl; exact rfl; exact lenA; exact rfl) | (apply AWP.ret) | (apply RunL.nil) | (apply RunL.on; exact rfl; exact rfl; exact rfl; exact rfl; (first | exact rfl | assumption)) | (apply RunL.noU; exact rfl; exact rfl; exact rfl; exact rfl; exact rfl; exact rfl) | (apply RunL.no; exact rfl; exact rfl; exact rfl; exact rfl; (first | exact rfl | assumption); exact rfl; exact rfl) | (refine AWP.cond _ (Rd.of rfl) (fun hc => ?_) (fun hc => ?_) <;> first | (exfalso; cases hc; done) | (have hc' := hc; (try simp only [sc, reduceCtorEq, cmpOf] at hc'); try (exfalso; omega)))
      | (
       apply AWP.drawA
       repeat' (first
         | (apply DL.cons; (try (apply OpLoc.on; exact rfl; exact rfl; exact rfl; exact rfl; (first | exact rfl | assumption))); apply ol_ev (τ := τ); exact rfl; (first | exact hall | exact kwhole _ | exact hcm); exact rfl; exact rfl) | (apply DL.cons; exact olA; exact rfl) | (apply DL.nil; kernel_rfl) | (refine DL.split rfl rfl rfl rfl (fun hb => ?_) (fun hb => ?_) <;> have hb' := hb <;> (try simp only [sc, reduceCtorEq, cmpOf] at hb') <;> try (exfalso; omega)))
       all_goals (fail_if_success apply DL.id))
      | (refine RunL.split rfl rfl rfl rfl (fun hb => ?_) (fun hb => ?_) <;> have hb' := hb <;> (try simp only [sc, reduceCtorEq, cmpOf] at hb') <;> try (exfalso; omega)) )
    apply Ends.mk (.cons (.cellA (τ := τ) rfl rfl rfl rfl rfl) (.cons (.tmp rfl) .nil))
    rw [k3, k4]; rfl
theorem kChain5 (M : List Lk) (hl : 60 < M.length) : Evals Tryd.prog 22 [.sl 6 (M.map rowL)] (.tup [link0, .int .i64 5]) := by
  refine evals_of_awp Tryd.func22 rfl (CallOK.of Tryd.func22 (by kernel_rfl) rfl) (Nat.le_of_ble_eq_true rfl) ?_
  rintro w R hR ⟨vs, hv⟩
  have hml : (M.map rowL).length = M.length := by simp
  repeat' (first
    | (apply RunL.step; exact rfl; apply op_ev (τ := τ); exact rfl; (first | exact hall | exact kwhole _ | exact hcm); exact rfl) | (apply RunL.step; exact rfl; exact opA) | (apply RunL.hand; exact rfl; exact rfl; exact lenA; exact rfl) | (apply AWP.seq) | (apply AWP.region; exact rfl) | (apply AWP.block) | (apply AWP.skip) | (apply AWP.exit) | (apply AWP.retF; exact rfl; exact rfl; exact rfl; exact rfl; exact lenA; exact rfl) | (apply AWP.ret) | (apply RunL.nil) | (apply RunL.on; exact rfl; exact rfl; exact rfl; exact rfl; (first | exact rfl | assumption)) | (apply RunL.noU; exact rfl; exact rfl; exact rfl; exact rfl; exact rfl; exact rfl) | (apply RunL.no; exact rfl; exact rfl; exact rfl; exact rfl; (first | exact rfl | assumption); exact rfl; exact rfl) | (refine AWP.cond _ (Rd.of rfl) (fun hc => ?_) (fun hc => ?_) <;> first | (exfalso; cases hc; done) | (have hc' := hc; (try simp only [sc, reduceCtorEq, cmpOf] at hc'); try (exfalso; omega)))
    | (
     apply AWP.drawA
     repeat' (first
       | (apply DL.cons; (try (apply OpLoc.on; exact rfl; exact rfl; exact rfl; exact rfl; (first | exact rfl | assumption))); apply ol_ev (τ := τ); exact rfl; (first | exact hall | exact kwhole _ | exact hcm); exact rfl; exact rfl) | (apply DL.cons; exact olA; exact rfl) | (apply DL.nil; kernel_rfl) | (refine DL.split rfl rfl rfl rfl (fun hb => ?_) (fun hb => ?_) <;> have hb' := hb <;> (try simp only [sc, reduceCtorEq, cmpOf] at hb') <;> try (exfalso; omega)))
     all_goals (fail_if_success apply DL.id))
    | (refine RunL.split rfl rfl rfl rfl (fun hb => ?_) (fun hb => ?_) <;> have hb' := hb <;> (try simp only [sc, reduceCtorEq, cmpOf] at hb') <;> try (exfalso; omega)) )
  apply Ends.mk (.cons (.cellA (τ := τ) rfl rfl rfl rfl rfl) (.cons (.tmp rfl) .nil))
  rfl
theorem kChain2 (M : List Lk) {K : Nat} (hM : LkOK M K) (hk : K ≤ 1048576) (hl : M.length ≤ 60) (hV : ¬ allV M) : Evals Tryd.prog 22 [.sl 6 (M.map rowL)] (.tup [link0, .int .i64 1]) := by
  have hall := kallF M hM (by omega) hk hV
  refine evals_of_awp Tryd.func22 rfl (CallOK.of Tryd.func22 (by kernel_rfl) rfl) (Nat.le_of_ble_eq_true rfl) ?_
  rintro w R hR ⟨vs, hv⟩
  have hml : (M.map rowL).length = M.length := by simp
  repeat' (first
    | (apply RunL.step; exact rfl; apply op_ev (τ := τ); exact rfl; (first | exact hall | exact kwhole _ | exact hcm); exact rfl) | (apply RunL.step; exact rfl; exact opA) | (apply RunL.hand; exact rfl; exact rfl; exact lenA; exact rfl) | (apply AWP.seq) | (apply AWP.region; exact rfl) | (apply AWP.block) | (apply AWP.skip) | (apply AWP.exit) | (apply AWP.retF; exact rfl; exact rfl; exact rfl; exact rfl; exact lenA; exact rfl) | (apply AWP.ret) | (apply RunL.nil) | (apply RunL.on; exact rfl; exact rfl; exact rfl; exact rfl; (first | exact rfl | assumption)) | (apply RunL.noU; exact rfl; exact rfl; exact rfl; exact rfl; exact rfl; exact rfl) | (apply RunL.no; exact rfl; exact rfl; exact rfl; exact rfl; (first | exact rfl | assumption); exact rfl; exact rfl) | (refine AWP.cond _ (Rd.of rfl) (fun hc => ?_) (fun hc => ?_) <;> first | (exfalso; cases hc; done) | (have hc' := hc; (try simp only [sc, reduceCtorEq, cmpOf] at hc'); try (exfalso; omega)))
    | (
     apply AWP.drawA
     repeat' (first
       | (apply DL.cons; (try (apply OpLoc.on; exact rfl; exact rfl; exact rfl; exact rfl; (first | exact rfl | assumption))); apply ol_ev (τ := τ); exact rfl; (first | exact hall | exact kwhole _ | exact hcm); exact rfl; exact rfl) | (apply DL.cons; exact olA; exact rfl) | (apply DL.nil; kernel_rfl) | (refine DL.split rfl rfl rfl rfl (fun hb => ?_) (fun hb => ?_) <;> have hb' := hb <;> (try simp only [sc, reduceCtorEq, cmpOf] at hb') <;> try (exfalso; omega)))
     all_goals (fail_if_success apply DL.id))
    | (refine RunL.split rfl rfl rfl rfl (fun hb => ?_) (fun hb => ?_) <;> have hb' := hb <;> (try simp only [sc, reduceCtorEq, cmpOf] at hb') <;> try (exfalso; omega)) )
  apply Ends.mk (.cons (.cellA (τ := τ) rfl rfl rfl rfl rfl) (.cons (.tmp rfl) .nil))
  rfl
end Go.Proofs.YtgdejiajiljipaaDoor.K
namespace Go.Proofs.YtgdejiajiljipaaDoor.K
open Go
set_option linter.unusedVariables false
set_option linter.unusedSimpArgs false

/-- the loss of the link at a place -/
def lossAt (M : List Lk) (x y : List Int) (j : Nat) : Rat := match M[j]? with
  | some p => lossQ (lA p) (lB p) (fn x) (fn y) x.length
  | none => 0
theorem lossAt_some {M : List Lk} {j : Nat} {p : Lk} (x y : List Int) (h : M[j]? = some p) : lossAt M x y j = lossQ (lA p) (lB p) (fn x) (fn y) x.length := by rw [lossAt, h]
theorem loss_sz {A B : Rat} {k m : Nat} (zA : SzR A k) (zB : SzR B m) {x y : List Int} (hx : coefOK x) (hy : coefOK y) {n : Nat} (hn : n ≤ 60) : SzR (lossQ A B (fn x) (fn y) n) (60 * (2 * (k + m) + 60) + 2) := by
  have := sz_sumF (fun i => resQ A B (fn x) (fn y) i * resQ A B (fn x) (fn y) i) (2 * (k + m) + 40) (fun i => ?_) n
  · have hm : n * (2 * (k + m) + 40 + 1) ≤ 60 * (2 * (k + m) + 41) := Nat.mul_le_mul_right _ hn
    exact this.mono (by omega)
  · have c1 := coef_ix hx i
    have c2 := coef_ix hy i
    have zx : SzR ((ix x i : Int) : Rat) 2 := SzR.i64 (by omega)
    have zy : SzR ((ix y i : Int) : Rat) 2 := SzR.i64 (by omega)
    have z1 := SzR.mul A ((ix x i : Int) : Rat) _ _ (h := zA) (g := zx)
    have z2 := SzR.add _ B _ _ (h := z1) (g := zB)
    have z3 := SzR.sub _ ((ix y i : Int) : Rat) _ _ (h := z2) (g := zy)
    exact (SzR.mul _ _ _ _ (h := z3) (g := z3)).mono (by omega)
theorem lossAt_sz {M : List Lk} {K : Nat} (hM : LkOK M K) {x y : List Int} (hx : coefOK x) (hy : coefOK y) (hn : x.length ≤ 60) (j : Nat) : SzR (lossAt M x y j) (60 * (4 * K + 64) + 2) := by
  unfold lossAt
  split
  · rename_i p hp
    have hm := List.mem_of_getElem? hp
    exact (loss_sz (hM.szA hm) (hM.szB hm) hx hy hn).mono (by omega)
  · exact SzR.zero.mono (by omega)
theorem ltQ (a b : Rat) : cmpQ a b < 0 ↔ a < b := by
  rcases cmpQ_cases a b with ⟨g1, g2⟩ | ⟨g1, g2⟩ | ⟨g1, g2⟩ <;> constructor <;> intro h <;> first | omega | grind
theorem best_step {f : Nat → Rat} {n : Nat} : best f (n + 1) = if f (n + 1) < (best f n).2 then (n + 1, f (n + 1)) else best f n := rfl
def chooseE (M : List Lk) (x y : List Int) (v : Decidable (allV M)) : Int := if M.length = 0 then 20 else if 60 < M.length then 5 else if @decide (allV M) v = false then 1 else anchE x y
theorem kChoose20 (x y : List Int) : Evals Tryd.prog 34 [.sl 6 [], .ints .i64 x, .ints .i64 y] (.tup [.int .i64 0, .int .i64 20]) := by
  refine evals_of_awp Tryd.func34 rfl (CallOK.of Tryd.func34 (by kernel_rfl) rfl) (Nat.le_of_ble_eq_true rfl) ?_
  rintro w R hR ⟨vs, hv⟩
  repeat' (first
    | (apply RunL.step; exact rfl; first | (apply op_sliceS (τ := τ); exact rfl; exact rfl; exact rfl; exact rfl; exact Rd.of rfl; exact Bd.some (Rd.of rfl) (Int.toNat_of_nonneg (by omega)).symm; exact Bd.none; omega; omega; exact rfl) | fail) | (apply RunL.step; exact rfl; apply op_ev (τ := τ); exact rfl; (first | exact hall | exact hck | exact hlo | exact rcmp); exact rfl) | (apply RunL.step; exact rfl; exact opA) | (apply RunL.hand; exact rfl; exact rfl; exact lenA; exact rfl) | (apply AWP.seq) | (apply AWP.region; exact rfl) | (apply AWP.block) | (apply AWP.skip) | (apply AWP.exit) | (apply AWP.retF; exact rfl; exact rfl; exact rfl; exact rfl; exact lenA; exact rfl) | (apply AWP.ret) | (apply RunL.nil) | (apply RunL.on; exact rfl; exact rfl; exact rfl; exact rfl; (first | exact rfl | assumption)) | (apply RunL.noU; exact rfl; exact rfl; exact rfl; exact rfl; exact rfl; exact rfl) | (apply RunL.no; exact rfl; exact rfl; exact rfl; exact rfl; (first | exact rfl | assumption); exact rfl; exact rfl) | (refine AWP.cond _ (Rd.of rfl) (fun hc => ?_) (fun hc => ?_) <;> first | (exfalso; cases hc; done) | (have hc' := hc; (try simp only [sc, reduceCtorEq, cmpOf] at hc'); try (exfalso; omega)))
    | (
     apply AWP.drawA
     repeat' (first
       | (apply DL.cons; (try (apply OpLoc.on; exact rfl; exact rfl; exact rfl; exact rfl; (first | exact rfl | assumption))); apply ol_ev (τ := τ); exact rfl; (first | exact hall | exact hck | exact hlo | exact rcmp); exact rfl; exact rfl) | (apply DL.cons; exact olA; exact rfl) | (apply DL.nil; kernel_rfl) | (refine DL.split rfl rfl rfl rfl (fun hb => ?_) (fun hb => ?_) <;> have hb' := hb <;> (try simp only [sc, reduceCtorEq, cmpOf] at hb') <;> try (exfalso; omega)))
     all_goals (fail_if_success apply DL.id))
    | (refine RunL.split rfl rfl rfl rfl (fun hb => ?_) (fun hb => ?_) <;> have hb' := hb <;> (try simp only [sc, reduceCtorEq, cmpOf] at hb') <;> try (exfalso; omega)) )
  apply Ends.mk (.cons (.tmp rfl) (.cons (.tmp rfl) .nil))
  rfl
theorem kChoose5 (M : List Lk) (hl : 60 < M.length) (x y : List Int) : Evals Tryd.prog 34 [.sl 6 (M.map rowL), .ints .i64 x, .ints .i64 y] (.tup [.int .i64 0, .int .i64 5]) := by
  refine evals_of_awp Tryd.func34 rfl (CallOK.of Tryd.func34 (by kernel_rfl) rfl) (Nat.le_of_ble_eq_true rfl) ?_
  rintro w R hR ⟨vs, hv⟩
  have hml : (M.map rowL).length = M.length := by simp
  repeat' (first
    | (apply RunL.step; exact rfl; first | (apply op_sliceS (τ := τ); exact rfl; exact rfl; exact rfl; exact rfl; exact Rd.of rfl; exact Bd.some (Rd.of rfl) (Int.toNat_of_nonneg (by omega)).symm; exact Bd.none; omega; omega; exact rfl) | fail) | (apply RunL.step; exact rfl; apply op_ev (τ := τ); exact rfl; (first | exact hall | exact hck | exact hlo | exact rcmp); exact rfl) | (apply RunL.step; exact rfl; exact opA) | (apply RunL.hand; exact rfl; exact rfl; exact lenA; exact rfl) | (apply AWP.seq) | (apply AWP.region; exact rfl) | (apply AWP.block) | (apply AWP.skip) | (apply AWP.exit) | (apply AWP.retF; exact rfl; exact rfl; exact rfl; exact rfl; exact lenA; exact rfl) | (apply AWP.ret) | (apply RunL.nil) | (apply RunL.on; exact rfl; exact rfl; exact rfl; exact rfl; (first | exact rfl | assumption)) | (apply RunL.noU; exact rfl; exact rfl; exact rfl; exact rfl; exact rfl; exact rfl) | (apply RunL.no; exact rfl; exact rfl; exact rfl; exact rfl; (first | exact rfl | assumption); exact rfl; exact rfl) | (refine AWP.cond _ (Rd.of rfl) (fun hc => ?_) (fun hc => ?_) <;> first | (exfalso; cases hc; done) | (have hc' := hc; (try simp only [sc, reduceCtorEq, cmpOf] at hc'); try (exfalso; omega)))
    | (
     apply AWP.drawA
     repeat' (first
       | (apply DL.cons; (try (apply OpLoc.on; exact rfl; exact rfl; exact rfl; exact rfl; (first | exact rfl | assumption))); apply ol_ev (τ := τ); exact rfl; (first | exact hall | exact hck | exact hlo | exact rcmp); exact rfl; exact rfl) | (apply DL.cons; exact olA; exact rfl) | (apply DL.nil; kernel_rfl) | (refine DL.split rfl rfl rfl rfl (fun hb => ?_) (fun hb => ?_) <;> have hb' := hb <;> (try simp only [sc, reduceCtorEq, cmpOf] at hb') <;> try (exfalso; omega)))
     all_goals (fail_if_success apply DL.id))
    | (refine RunL.split rfl rfl rfl rfl (fun hb => ?_) (fun hb => ?_) <;> have hb' := hb <;> (try simp only [sc, reduceCtorEq, cmpOf] at hb') <;> try (exfalso; omega)) )
  apply Ends.mk (.cons (.tmp rfl) (.cons (.tmp rfl) .nil))
  rfl
theorem kChooseV (M : List Lk) {K : Nat} (hM : LkOK M K) (hk : K ≤ 1048576) (h0 : 0 < M.length) (hl : M.length ≤ 60) (hV : ¬ allV M) (x y : List Int) : Evals Tryd.prog 34 [.sl 6 (M.map rowL), .ints .i64 x, .ints .i64 y] (.tup [.int .i64 0, .int .i64 1]) := by
  have hall := kallF M hM (by omega) hk hV
  refine evals_of_awp Tryd.func34 rfl (CallOK.of Tryd.func34 (by kernel_rfl) rfl) (Nat.le_of_ble_eq_true rfl) ?_
  rintro w R hR ⟨vs, hv⟩
  have hml : (M.map rowL).length = M.length := by simp
  repeat' (first
    | (apply RunL.step; exact rfl; first | (apply op_sliceS (τ := τ); exact rfl; exact rfl; exact rfl; exact rfl; exact Rd.of rfl; exact Bd.some (Rd.of rfl) (Int.toNat_of_nonneg (by omega)).symm; exact Bd.none; omega; omega; exact rfl) | fail) | (apply RunL.step; exact rfl; apply op_ev (τ := τ); exact rfl; (first | exact hall | exact hck | exact hlo | exact rcmp); exact rfl) | (apply RunL.step; exact rfl; exact opA) | (apply RunL.hand; exact rfl; exact rfl; exact lenA; exact rfl) | (apply AWP.seq) | (apply AWP.region; exact rfl) | (apply AWP.block) | (apply AWP.skip) | (apply AWP.exit) | (apply AWP.retF; exact rfl; exact rfl; exact rfl; exact rfl; exact lenA; exact rfl) | (apply AWP.ret) | (apply RunL.nil) | (apply RunL.on; exact rfl; exact rfl; exact rfl; exact rfl; (first | exact rfl | assumption)) | (apply RunL.noU; exact rfl; exact rfl; exact rfl; exact rfl; exact rfl; exact rfl) | (apply RunL.no; exact rfl; exact rfl; exact rfl; exact rfl; (first | exact rfl | assumption); exact rfl; exact rfl) | (refine AWP.cond _ (Rd.of rfl) (fun hc => ?_) (fun hc => ?_) <;> first | (exfalso; cases hc; done) | (have hc' := hc; (try simp only [sc, reduceCtorEq, cmpOf] at hc'); try (exfalso; omega)))
    | (
     apply AWP.drawA
     repeat' (first
       | (apply DL.cons; (try (apply OpLoc.on; exact rfl; exact rfl; exact rfl; exact rfl; (first | exact rfl | assumption))); apply ol_ev (τ := τ); exact rfl; (first | exact hall | exact hck | exact hlo | exact rcmp); exact rfl; exact rfl) | (apply DL.cons; exact olA; exact rfl) | (apply DL.nil; kernel_rfl) | (refine DL.split rfl rfl rfl rfl (fun hb => ?_) (fun hb => ?_) <;> have hb' := hb <;> (try simp only [sc, reduceCtorEq, cmpOf] at hb') <;> try (exfalso; omega)))
     all_goals (fail_if_success apply DL.id))
    | (refine RunL.split rfl rfl rfl rfl (fun hb => ?_) (fun hb => ?_) <;> have hb' := hb <;> (try simp only [sc, reduceCtorEq, cmpOf] at hb') <;> try (exfalso; omega)) )
  apply Ends.mk (.cons (.tmp rfl) (.cons (.tmp rfl) .nil))
  rfl
theorem kChooseE (M : List Lk) {K : Nat} (hM : LkOK M K) (hk : K ≤ 1048576) (h0 : 0 < M.length) (hl : M.length ≤ 60) (hV : allV M) (x y : List Int) (he : anchE x y ≠ 0) : Evals Tryd.prog 34 [.sl 6 (M.map rowL), .ints .i64 x, .ints .i64 y] (.tup [.int .i64 0, .int .i64 (anchE x y)]) := by
  have hall := kallT M hM (by omega) hk hV
  have hck := kcheck x y
  generalize anchE x y = e at *
  refine evals_of_awp Tryd.func34 rfl (CallOK.of Tryd.func34 (by kernel_rfl) rfl) (Nat.le_of_ble_eq_true rfl) ?_
  rintro w R hR ⟨vs, hv⟩
  have hml : (M.map rowL).length = M.length := by simp
  repeat' (first
    | (apply RunL.step; exact rfl; first | (apply op_sliceS (τ := τ); exact rfl; exact rfl; exact rfl; exact rfl; exact Rd.of rfl; exact Bd.some (Rd.of rfl) (Int.toNat_of_nonneg (by omega)).symm; exact Bd.none; omega; omega; exact rfl) | fail) | (apply RunL.step; exact rfl; apply op_ev (τ := τ); exact rfl; (first | exact hall | exact hck | exact hlo | exact rcmp); exact rfl) | (apply RunL.step; exact rfl; exact opA) | (apply RunL.hand; exact rfl; exact rfl; exact lenA; exact rfl) | (apply AWP.seq) | (apply AWP.region; exact rfl) | (apply AWP.block) | (apply AWP.skip) | (apply AWP.exit) | (apply AWP.retF; exact rfl; exact rfl; exact rfl; exact rfl; exact lenA; exact rfl) | (apply AWP.ret) | (apply RunL.nil) | (apply RunL.on; exact rfl; exact rfl; exact rfl; exact rfl; (first | exact rfl | assumption)) | (apply RunL.noU; exact rfl; exact rfl; exact rfl; exact rfl; exact rfl; exact rfl) | (apply RunL.no; exact rfl; exact rfl; exact rfl; exact rfl; (first | exact rfl | assumption); exact rfl; exact rfl) | (refine AWP.cond _ (Rd.of rfl) (fun hc => ?_) (fun hc => ?_) <;> first | (exfalso; cases hc; done) | (have hc' := hc; (try simp only [sc, reduceCtorEq, cmpOf] at hc'); try (exfalso; omega)))
    | (
     apply AWP.drawA
     repeat' (first
       | (apply DL.cons; (try (apply OpLoc.on; exact rfl; exact rfl; exact rfl; exact rfl; (first | exact rfl | assumption))); apply ol_ev (τ := τ); exact rfl; (first | exact hall | exact hck | exact hlo | exact rcmp); exact rfl; exact rfl) | (apply DL.cons; exact olA; exact rfl) | (apply DL.nil; kernel_rfl) | (refine DL.split rfl rfl rfl rfl (fun hb => ?_) (fun hb => ?_) <;> have hb' := hb <;> (try simp only [sc, reduceCtorEq, cmpOf] at hb') <;> try (exfalso; omega)))
     all_goals (fail_if_success apply DL.id))
    | (refine RunL.split rfl rfl rfl rfl (fun hb => ?_) (fun hb => ?_) <;> have hb' := hb <;> (try simp only [sc, reduceCtorEq, cmpOf] at hb') <;> try (exfalso; omega)) )
  apply Ends.mk (.cons (.tmp rfl) (.cons (.tmp rfl) .nil))
  rfl
set_option maxHeartbeats 1000000 in
theorem kChoose1 (M : List Lk) {K : Nat} (hM : LkOK M K) (hk : K ≤ 1048576) (h0 : 0 < M.length) (hl : M.length ≤ 60) (hV : allV M) (x y : List Int) (he : anchE x y = 0) : Evals Tryd.prog 34 [.sl 6 (M.map rowL), .ints .i64 x, .ints .i64 y] (.tup [.int .i64 (best (lossAt M x y) (M.length - 1)).1, .int .i64 0]) := by
  have hall := kallT M hM (by omega) hk hV
  have hck := kcheck x y
  rw [he] at hck
  obtain ⟨e1, e2, e3, e4, e5⟩ := anchE_zero he
  obtain ⟨p0, hp0⟩ : ∃ p, M[0]? = some p := ⟨M[0], by simp⟩
  have hm0 := List.mem_of_getElem? hp0
  have hsz := lossAt_sz hM e4 e5 e1
  have hat := fun j p => @lossAt_some M j p x y
  have hlo := kloss0 (h := hM.A hm0) (h' := hM.B hm0) x y e2 e1
  rw [← hat 0 p0 hp0] at hlo
  generalize hF : lossAt M x y = F at hsz hat hlo ⊢
  refine evals_of_awp Tryd.func34 rfl (CallOK.of Tryd.func34 (by kernel_rfl) rfl) (Nat.le_of_ble_eq_true rfl) ?_
  rintro w R hR ⟨vs, hv⟩
  have hml : (M.map rowL).length = M.length := by simp
  have hrow : (M.map rowL)[(0 : Int).toNat]? = some [.bool p0.1.1, .ints .u32 p0.1.2.1, .ints .u32 p0.1.2.2, .bool p0.2.1, .ints .u32 p0.2.2.1, .ints .u32 p0.2.2.2] := by
    show (M.map rowL)[0]? = _
    rw [List.getElem?_map, hp0]; rfl
  have hT : ((M.map rowL).take (M.map rowL).length).drop (1 : Int).toNat = (M.map rowL).drop 1 := by rw [List.take_length]; rfl
  have hTl : (((M.map rowL).take (M.map rowL).length).drop (1 : Int).toNat).length = M.length - 1 := by rw [hT]; simp
  repeat' (first
    | (apply RunL.step; exact rfl; first | (apply op_sliceS (τ := τ); exact rfl; exact rfl; exact rfl; exact rfl; exact Rd.of rfl; exact Bd.some (Rd.of rfl) (Int.toNat_of_nonneg (by omega)).symm; exact Bd.none; omega; omega; exact rfl) | fail) | (apply RunL.step; exact rfl; apply op_ev (τ := τ); exact rfl; (first | exact hall | exact hck | exact hlo | exact rcmp); exact rfl) | (apply RunL.step; exact rfl; exact opA) | (apply RunL.hand; exact rfl; exact rfl; exact lenA; exact rfl) | (apply AWP.seq) | (apply AWP.region; exact rfl) | (apply AWP.block) | (apply AWP.skip) | (apply AWP.exit) | (apply AWP.retF; exact rfl; exact rfl; exact rfl; exact rfl; exact lenA; exact rfl) | (apply AWP.ret) | (apply RunL.nil) | (apply RunL.on; exact rfl; exact rfl; exact rfl; exact rfl; (first | exact rfl | assumption)) | (apply RunL.noU; exact rfl; exact rfl; exact rfl; exact rfl; exact rfl; exact rfl) | (apply RunL.no; exact rfl; exact rfl; exact rfl; exact rfl; (first | exact rfl | assumption); exact rfl; exact rfl) | (refine AWP.cond _ (Rd.of rfl) (fun hc => ?_) (fun hc => ?_) <;> first | (exfalso; cases hc; done) | (have hc' := hc; (try simp only [sc, reduceCtorEq, cmpOf] at hc'); try (exfalso; omega)))
    | (
     apply AWP.drawA
     repeat' (first
       | (apply DL.cons; (try (apply OpLoc.on; exact rfl; exact rfl; exact rfl; exact rfl; (first | exact rfl | assumption))); apply ol_ev (τ := τ); exact rfl; (first | exact hall | exact hck | exact hlo | exact rcmp); exact rfl; exact rfl) | (apply DL.cons; exact olA; exact rfl) | (apply DL.nil; kernel_rfl) | (refine DL.split rfl rfl rfl rfl (fun hb => ?_) (fun hb => ?_) <;> have hb' := hb <;> (try simp only [sc, reduceCtorEq, cmpOf] at hb') <;> try (exfalso; omega)))
     all_goals (fail_if_success apply DL.id))
    | (refine RunL.split rfl rfl rfl rfl (fun hb => ?_) (fun hb => ?_) <;> have hb' := hb <;> (try simp only [sc, reduceCtorEq, cmpOf] at hb') <;> try (exfalso; omega)) )
  refine AWP.loop3 (fun (i b : Int) (q : Rat) => ⟨[(1, .val (.ints .i64 x)), (2, .val (.ints .i64 y)), (9, .val (.int .i64 b)), (10, .pb 10 0), (36, .val (.sl 6 (((M.map rowL).take (M.map rowL).length).drop (1 : Int).toNat))), (37, .val (.int .i64 (((M.map rowL).take (M.map rowL).length).drop (1 : Int).toNat).length)), (38, .val (.int .i64 i))], [(10, .cells 27 (ratCl q))]⟩)
    (fun i b q => 0 ≤ i ∧ i ≤ M.length - 1 ∧ 0 ≤ b ∧ (best F i.toNat) = (b.toNat, q) ∧ SzR q (60 * (4 * K + 64) + 2)) (fun i _ _ => (M.length - i).toNat) 0 0 (F 0) ⟨by omega, by omega, by omega, rfl, hsz 0⟩ (St.Le.of (by repeat' (first | exact all_nil | refine all_cons rfl ?_)) (by repeat' (first | exact all_nil | refine all_cons rfl ?_))) ?_
  rintro i b q ⟨k1, k2, k3, k4, k5⟩
  by_cases hi : i < M.length - 1
  · obtain ⟨p, hp⟩ : ∃ p, M[i.toNat + 1]? = some p := ⟨M[i.toNat + 1]'(by omega), by simp⟩
    have hrow : (((M.map rowL).take (M.map rowL).length).drop (1 : Int).toNat)[i.toNat]? = some [.bool p.1.1, .ints .u32 p.1.2.1, .ints .u32 p.1.2.2, .bool p.2.1, .ints .u32 p.2.2.1, .ints .u32 p.2.2.2] := by
      rw [hT, List.getElem?_drop, List.getElem?_map, Nat.add_comm, hp]; rfl
    have hm := List.mem_of_getElem? hp
    have hlo := kloss0 (h := hM.A hm) (h' := hM.B hm) x y e2 e1
    rw [← hat _ p hp] at hlo
    have zn := hsz (i.toNat + 1)
    have hst : best F (i + 1).toNat = if F (i.toNat + 1) < q then (i.toNat + 1, F (i.toNat + 1)) else (b.toNat, q) := by
      rw [show (i + 1).toNat = i.toNat + 1 by omega, best_step, k4]
    generalize F (i.toNat + 1) = r at *
    by_cases hlt : r < q
    · have hc := (ltQ r q).2 hlt
      rw [if_pos hlt] at hst
      repeat' (first
        | (apply RunL.step; exact rfl; first | (apply op_sliceS (τ := τ); exact rfl; exact rfl; exact rfl; exact rfl; exact Rd.of rfl; exact Bd.some (Rd.of rfl) (Int.toNat_of_nonneg (by omega)).symm; exact Bd.none; omega; omega; exact rfl) | fail) | (apply RunL.step; exact rfl; apply op_ev (τ := τ); exact rfl; (first | exact hall | exact hck | exact hlo | exact rcmp); exact rfl) | (apply RunL.step; exact rfl; exact opA) | (apply RunL.hand; exact rfl; exact rfl; exact lenA; exact rfl) | (apply AWP.seq) | (apply AWP.region; exact rfl) | (apply AWP.block) | (apply AWP.skip) | (apply AWP.exit) | (apply AWP.retF; exact rfl; exact rfl; exact rfl; exact rfl; exact lenA; exact rfl) | (apply AWP.ret) | (apply RunL.nil) | (apply RunL.on; exact rfl; exact rfl; exact rfl; exact rfl; (first | exact rfl | assumption)) | (apply RunL.noU; exact rfl; exact rfl; exact rfl; exact rfl; exact rfl; exact rfl) | (apply RunL.no; exact rfl; exact rfl; exact rfl; exact rfl; (first | exact rfl | assumption); exact rfl; exact rfl) | (refine AWP.cond _ (Rd.of rfl) (fun hc => ?_) (fun hc => ?_) <;> first | (exfalso; cases hc; done) | (have hc' := hc; (try simp only [sc, reduceCtorEq, cmpOf] at hc'); try (exfalso; omega)))
        | (
         apply AWP.drawA
         repeat' (first
           | (apply DL.cons; (try (apply OpLoc.on; exact rfl; exact rfl; exact rfl; exact rfl; (first | exact rfl | assumption))); apply ol_ev (τ := τ); exact rfl; (first | exact hall | exact hck | exact hlo | exact rcmp); exact rfl; exact rfl) | (apply DL.cons; exact olA; exact rfl) | (apply DL.nil; kernel_rfl) | (refine DL.split rfl rfl rfl rfl (fun hb => ?_) (fun hb => ?_) <;> have hb' := hb <;> (try simp only [sc, reduceCtorEq, cmpOf] at hb') <;> try (exfalso; omega)))
         all_goals (fail_if_success apply DL.id))
        | (refine RunL.split rfl rfl rfl rfl (fun hb => ?_) (fun hb => ?_) <;> have hb' := hb <;> (try simp only [sc, reduceCtorEq, cmpOf] at hb') <;> try (exfalso; omega)) )
      refine ⟨i + 1, i + 1, r, St.Le.of (by repeat' (first | exact all_nil | refine all_cons rfl ?_)) (by repeat' (first | exact all_nil | refine all_cons rfl ?_)), ⟨by omega, by omega, by omega, ?_, zn⟩, by omega⟩
      rw [hst, show (i + 1).toNat = i.toNat + 1 by omega]
    · have hc : ¬ cmpQ r q < 0 := fun h => hlt ((ltQ r q).1 h)
      rw [if_neg hlt] at hst
      repeat' (first
        | (apply RunL.step; exact rfl; first | (apply op_sliceS (τ := τ); exact rfl; exact rfl; exact rfl; exact rfl; exact Rd.of rfl; exact Bd.some (Rd.of rfl) (Int.toNat_of_nonneg (by omega)).symm; exact Bd.none; omega; omega; exact rfl) | fail) | (apply RunL.step; exact rfl; apply op_ev (τ := τ); exact rfl; (first | exact hall | exact hck | exact hlo | exact rcmp); exact rfl) | (apply RunL.step; exact rfl; exact opA) | (apply RunL.hand; exact rfl; exact rfl; exact lenA; exact rfl) | (apply AWP.seq) | (apply AWP.region; exact rfl) | (apply AWP.block) | (apply AWP.skip) | (apply AWP.exit) | (apply AWP.retF; exact rfl; exact rfl; exact rfl; exact rfl; exact lenA; exact rfl) | (apply AWP.ret) | (apply RunL.nil) | (apply RunL.on; exact rfl; exact rfl; exact rfl; exact rfl; (first | exact rfl | assumption)) | (apply RunL.noU; exact rfl; exact rfl; exact rfl; exact rfl; exact rfl; exact rfl) | (apply RunL.no; exact rfl; exact rfl; exact rfl; exact rfl; (first | exact rfl | assumption); exact rfl; exact rfl) | (refine AWP.cond _ (Rd.of rfl) (fun hc => ?_) (fun hc => ?_) <;> first | (exfalso; cases hc; done) | (have hc' := hc; (try simp only [sc, reduceCtorEq, cmpOf] at hc'); try (exfalso; omega)))
        | (
         apply AWP.drawA
         repeat' (first
           | (apply DL.cons; (try (apply OpLoc.on; exact rfl; exact rfl; exact rfl; exact rfl; (first | exact rfl | assumption))); apply ol_ev (τ := τ); exact rfl; (first | exact hall | exact hck | exact hlo | exact rcmp); exact rfl; exact rfl) | (apply DL.cons; exact olA; exact rfl) | (apply DL.nil; kernel_rfl) | (refine DL.split rfl rfl rfl rfl (fun hb => ?_) (fun hb => ?_) <;> have hb' := hb <;> (try simp only [sc, reduceCtorEq, cmpOf] at hb') <;> try (exfalso; omega)))
         all_goals (fail_if_success apply DL.id))
        | (refine RunL.split rfl rfl rfl rfl (fun hb => ?_) (fun hb => ?_) <;> have hb' := hb <;> (try simp only [sc, reduceCtorEq, cmpOf] at hb') <;> try (exfalso; omega)) )
      exact ⟨i + 1, b, q, St.Le.of (by repeat' (first | exact all_nil | refine all_cons rfl ?_)) (by repeat' (first | exact all_nil | refine all_cons rfl ?_)), ⟨by omega, by omega, by omega, hst, k5⟩, by omega⟩
  · rw [show i.toNat = M.length - 1 by omega] at k4
    repeat' (first
      | (apply RunL.step; exact rfl; first | (apply op_sliceS (τ := τ); exact rfl; exact rfl; exact rfl; exact rfl; exact Rd.of rfl; exact Bd.some (Rd.of rfl) (Int.toNat_of_nonneg (by omega)).symm; exact Bd.none; omega; omega; exact rfl) | fail) | (apply RunL.step; exact rfl; apply op_ev (τ := τ); exact rfl; (first | exact hall | exact hck | exact hlo | exact rcmp); exact rfl) | (apply RunL.step; exact rfl; exact opA) | (apply RunL.hand; exact rfl; exact rfl; exact lenA; exact rfl) | (apply AWP.seq) | (apply AWP.region; exact rfl) | (apply AWP.block) | (apply AWP.skip) | (apply AWP.exit) | (apply AWP.retF; exact rfl; exact rfl; exact rfl; exact rfl; exact lenA; exact rfl) | (apply AWP.ret) | (apply RunL.nil) | (apply RunL.on; exact rfl; exact rfl; exact rfl; exact rfl; (first | exact rfl | assumption)) | (apply RunL.noU; exact rfl; exact rfl; exact rfl; exact rfl; exact rfl; exact rfl) | (apply RunL.no; exact rfl; exact rfl; exact rfl; exact rfl; (first | exact rfl | assumption); exact rfl; exact rfl) | (refine AWP.cond _ (Rd.of rfl) (fun hc => ?_) (fun hc => ?_) <;> first | (exfalso; cases hc; done) | (have hc' := hc; (try simp only [sc, reduceCtorEq, cmpOf] at hc'); try (exfalso; omega)))
      | (
       apply AWP.drawA
       repeat' (first
         | (apply DL.cons; (try (apply OpLoc.on; exact rfl; exact rfl; exact rfl; exact rfl; (first | exact rfl | assumption))); apply ol_ev (τ := τ); exact rfl; (first | exact hall | exact hck | exact hlo | exact rcmp); exact rfl; exact rfl) | (apply DL.cons; exact olA; exact rfl) | (apply DL.nil; kernel_rfl) | (refine DL.split rfl rfl rfl rfl (fun hb => ?_) (fun hb => ?_) <;> have hb' := hb <;> (try simp only [sc, reduceCtorEq, cmpOf] at hb') <;> try (exfalso; omega)))
       all_goals (fail_if_success apply DL.id))
      | (refine RunL.split rfl rfl rfl rfl (fun hb => ?_) (fun hb => ?_) <;> have hb' := hb <;> (try simp only [sc, reduceCtorEq, cmpOf] at hb') <;> try (exfalso; omega)) )
    apply Ends.mk (.cons (.tmp rfl) (.cons (.tmp rfl) .nil))
    rw [k4]
    show D.tup [.int .i64 b, _] = D.tup [.int .i64 (b.toNat : Int), _]
    rw [Int.toNat_of_nonneg k3]
end Go.Proofs.YtgdejiajiljipaaDoor.K
