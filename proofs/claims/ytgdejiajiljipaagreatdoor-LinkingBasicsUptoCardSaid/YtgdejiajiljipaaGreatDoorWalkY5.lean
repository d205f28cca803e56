/- Walks: package linking: Choose. -/
import Derived.Test.YtgdejiajiljipaaGreatDoorWalkY4
namespace Go.Proofs.YtgdejiajiljipaaGreatDoor.K
open Go
set_option linter.unusedVariables false
set_option linter.unusedSimpArgs false

/-- the loss of the link at a place -/
def lossAt (M : List Lk) (x y : List Int) (j : Nat) : Rat := match M[j]? with
  | some p => lossQ (lA p) (lB p) (fn x) (fn y) x.length
  | none => 0
theorem lossAt_some {M : List Lk} {j : Nat} {p : Lk} (x y : List Int) (h : M[j]? = some p) : lossAt M x y j = lossQ (lA p) (lB p) (fn x) (fn y) x.length := by rw [lossAt, h]
theorem loss_sz {A B : Rat} {k m : Nat} (zA : SzR A k) (zB : SzR B m) {x y : List Int} (hx : coefOK x) (hy : coefOK y) {n : Nat} (hn : n ≤ 60) : SzR (lossQ A B (fn x) (fn y) n) (60 * (2 * (k + m) + 60) + 2) := by
  have := sz_sumF (fun i => resQ A B (fn x) (fn y) i * resQ A B (fn x) (fn y) i) (2 * (k + m) + 40) (fun i => ?_) n
  · have hm : n * (2 * (k + m) + 40 + 1) ≤ 60 * (2 * (k + m) + 41) := Nat.mul_le_mul_right _ hn
    exact this.mono (by omega)
  · have c1 := coef_ix hx i
    have c2 := coef_ix hy i
    have zx : SzR ((ix x i : Int) : Rat) 2 := SzR.i64 (by omega)
    have zy : SzR ((ix y i : Int) : Rat) 2 := SzR.i64 (by omega)
    have z1 := SzR.mul A ((ix x i : Int) : Rat) _ _ (h := zA) (g := zx)
    have z2 := SzR.add _ B _ _ (h := z1) (g := zB)
    have z3 := SzR.sub _ ((ix y i : Int) : Rat) _ _ (h := z2) (g := zy)
    exact (SzR.mul _ _ _ _ (h := z3) (g := z3)).mono (by omega)
theorem lossAt_sz {M : List Lk} {K : Nat} (hM : LkOK M K) {x y : List Int} (hx : coefOK x) (hy : coefOK y) (hn : x.length ≤ 60) (j : Nat) : SzR (lossAt M x y j) (60 * (4 * K + 64) + 2) := by
  unfold lossAt
  split
  · rename_i p hp
    have hm := List.mem_of_getElem? hp
    exact (loss_sz (hM.szA hm) (hM.szB hm) hx hy hn).mono (by omega)
  · exact SzR.zero.mono (by omega)
theorem ltQ (a b : Rat) : cmpQ a b < 0 ↔ a < b := by
  rcases cmpQ_cases a b with ⟨g1, g2⟩ | ⟨g1, g2⟩ | ⟨g1, g2⟩ <;> constructor <;> intro h <;> first | omega | grind
theorem best_step {f : Nat → Rat} {n : Nat} : best f (n + 1) = if f (n + 1) < (best f n).2 then (n + 1, f (n + 1)) else best f n := rfl
def chooseE (M : List Lk) (x y : List Int) (v : Decidable (allV M)) : Int := if M.length = 0 then 20 else if 60 < M.length then 5 else if @decide (allV M) v = false then 1 else anchE x y
theorem kChoose20 (x y : List Int) : Evals Tryz.prog 23 [.sl 6 [], .ints .i64 x, .ints .i64 y] (.tup [.int .i64 0, .int .i64 20]) := by
  refine evals_of_awp Tryz.func23 rfl (CallOK.of Tryz.func23 (by kernel_rfl) rfl) (Nat.le_of_ble_eq_true rfl) ?_
  rintro w R hR ⟨vs, hv⟩
  repeat' (first
    | (apply RunL.step; exact rfl; first
      | (apply op_sliceS (τ := τ); exact rfl; exact rfl; exact rfl; exact rfl; exact Rd.of rfl; exact Bd.some (Rd.of rfl) (Int.toNat_of_nonneg (by omega)).symm; exact Bd.none; omega; omega; exact rfl)
      | fail)
    | (apply RunL.step; exact rfl; apply op_ev (τ := τ); exact rfl; (first | exact hall | exact hck | exact hlo | exact rcmp); exact rfl)
    | (apply RunL.step; exact rfl; exact opA)
    | (apply RunL.hand; exact rfl; exact rfl; exact lenA; exact rfl)
    | (apply AWP.seq)
    | (apply AWP.region; exact rfl)
    | (apply AWP.block)
    | (apply AWP.skip)
    | (apply AWP.exit)
    | (apply AWP.retF; exact rfl; exact rfl; exact rfl; exact rfl; exact lenA; exact rfl)
    | (apply AWP.ret)
    | (apply RunL.nil)
    | (apply RunL.on; exact rfl; exact rfl; exact rfl; exact rfl; (first | exact rfl | assumption))
    | (apply RunL.noU; exact rfl; exact rfl; exact rfl; exact rfl; exact rfl; exact rfl)
    | (apply RunL.no; exact rfl; exact rfl; exact rfl; exact rfl; (first | exact rfl | assumption); exact rfl; exact rfl)
    | (refine AWP.cond _ (Rd.of rfl) (fun hc => ?_) (fun hc => ?_) <;> first | (exfalso; cases hc; done) | (have hc' := hc; (try simp only [decide_eq_true_eq, decide_eq_false_iff_not, Bool.not_true, Bool.not_false, bne_self_eq_false, beq_self_eq_true, ne_self_iff_false, Bool.true_bne, Bool.false_bne, Bool.true_beq, Bool.false_beq, Bool.false_eq_true, Bool.true_eq_false, reduceCtorEq, Bool.not_eq_true', Bool.not_eq_false', beq_iff_eq, bne_iff_ne, beq_eq_false_iff_ne, bne_eq_false_iff_eq, cmpOf] at hc'); try (exfalso; omega)))
    | (
      apply AWP.drawA
      repeat' (first
        | (apply DL.cons; (try (apply OpLoc.on; exact rfl; exact rfl; exact rfl; exact rfl; (first | exact rfl | assumption))); apply ol_ev (τ := τ); exact rfl; (first | exact hall | exact hck | exact hlo | exact rcmp); exact rfl; exact rfl)
        | (apply DL.cons; exact olA; exact rfl)
        | (apply DL.nil; kernel_rfl)
        | (refine DL.split rfl rfl rfl rfl (fun hb => ?_) (fun hb => ?_) <;> have hb' := hb <;> (try simp only [decide_eq_true_eq, decide_eq_false_iff_not, Bool.not_true, Bool.not_false, bne_self_eq_false, beq_self_eq_true, ne_self_iff_false, Bool.true_bne, Bool.false_bne, Bool.true_beq, Bool.false_beq, Bool.false_eq_true, Bool.true_eq_false, reduceCtorEq, Bool.not_eq_true', Bool.not_eq_false', beq_iff_eq, bne_iff_ne, beq_eq_false_iff_ne, bne_eq_false_iff_eq, cmpOf] at hb') <;> try (exfalso; omega)))
      all_goals (fail_if_success apply DL.id))
    | (refine RunL.split rfl rfl rfl rfl (fun hb => ?_) (fun hb => ?_) <;> have hb' := hb <;> (try simp only [decide_eq_true_eq, decide_eq_false_iff_not, Bool.not_true, Bool.not_false, bne_self_eq_false, beq_self_eq_true, ne_self_iff_false, Bool.true_bne, Bool.false_bne, Bool.true_beq, Bool.false_beq, Bool.false_eq_true, Bool.true_eq_false, reduceCtorEq, Bool.not_eq_true', Bool.not_eq_false', beq_iff_eq, bne_iff_ne, beq_eq_false_iff_ne, bne_eq_false_iff_eq, cmpOf] at hb') <;> try (exfalso; omega))
    )
  apply Ends.mk (.cons (.tmp rfl) (.cons (.tmp rfl) .nil))
  rfl
theorem kChoose5 (M : List Lk) (hl : 60 < M.length) (x y : List Int) : Evals Tryz.prog 23 [.sl 6 (M.map rowL), .ints .i64 x, .ints .i64 y] (.tup [.int .i64 0, .int .i64 5]) := by
  refine evals_of_awp Tryz.func23 rfl (CallOK.of Tryz.func23 (by kernel_rfl) rfl) (Nat.le_of_ble_eq_true rfl) ?_
  rintro w R hR ⟨vs, hv⟩
  have hml : (M.map rowL).length = M.length := by simp
  repeat' (first
    | (apply RunL.step; exact rfl; first
      | (apply op_sliceS (τ := τ); exact rfl; exact rfl; exact rfl; exact rfl; exact Rd.of rfl; exact Bd.some (Rd.of rfl) (Int.toNat_of_nonneg (by omega)).symm; exact Bd.none; omega; omega; exact rfl)
      | fail)
    | (apply RunL.step; exact rfl; apply op_ev (τ := τ); exact rfl; (first | exact hall | exact hck | exact hlo | exact rcmp); exact rfl)
    | (apply RunL.step; exact rfl; exact opA)
    | (apply RunL.hand; exact rfl; exact rfl; exact lenA; exact rfl)
    | (apply AWP.seq)
    | (apply AWP.region; exact rfl)
    | (apply AWP.block)
    | (apply AWP.skip)
    | (apply AWP.exit)
    | (apply AWP.retF; exact rfl; exact rfl; exact rfl; exact rfl; exact lenA; exact rfl)
    | (apply AWP.ret)
    | (apply RunL.nil)
    | (apply RunL.on; exact rfl; exact rfl; exact rfl; exact rfl; (first | exact rfl | assumption))
    | (apply RunL.noU; exact rfl; exact rfl; exact rfl; exact rfl; exact rfl; exact rfl)
    | (apply RunL.no; exact rfl; exact rfl; exact rfl; exact rfl; (first | exact rfl | assumption); exact rfl; exact rfl)
    | (refine AWP.cond _ (Rd.of rfl) (fun hc => ?_) (fun hc => ?_) <;> first | (exfalso; cases hc; done) | (have hc' := hc; (try simp only [decide_eq_true_eq, decide_eq_false_iff_not, Bool.not_true, Bool.not_false, bne_self_eq_false, beq_self_eq_true, ne_self_iff_false, Bool.true_bne, Bool.false_bne, Bool.true_beq, Bool.false_beq, Bool.false_eq_true, Bool.true_eq_false, reduceCtorEq, Bool.not_eq_true', Bool.not_eq_false', beq_iff_eq, bne_iff_ne, beq_eq_false_iff_ne, bne_eq_false_iff_eq, cmpOf] at hc'); try (exfalso; omega)))
    | (
      apply AWP.drawA
      repeat' (first
        | (apply DL.cons; (try (apply OpLoc.on; exact rfl; exact rfl; exact rfl; exact rfl; (first | exact rfl | assumption))); apply ol_ev (τ := τ); exact rfl; (first | exact hall | exact hck | exact hlo | exact rcmp); exact rfl; exact rfl)
        | (apply DL.cons; exact olA; exact rfl)
        | (apply DL.nil; kernel_rfl)
        | (refine DL.split rfl rfl rfl rfl (fun hb => ?_) (fun hb => ?_) <;> have hb' := hb <;> (try simp only [decide_eq_true_eq, decide_eq_false_iff_not, Bool.not_true, Bool.not_false, bne_self_eq_false, beq_self_eq_true, ne_self_iff_false, Bool.true_bne, Bool.false_bne, Bool.true_beq, Bool.false_beq, Bool.false_eq_true, Bool.true_eq_false, reduceCtorEq, Bool.not_eq_true', Bool.not_eq_false', beq_iff_eq, bne_iff_ne, beq_eq_false_iff_ne, bne_eq_false_iff_eq, cmpOf] at hb') <;> try (exfalso; omega)))
      all_goals (fail_if_success apply DL.id))
    | (refine RunL.split rfl rfl rfl rfl (fun hb => ?_) (fun hb => ?_) <;> have hb' := hb <;> (try simp only [decide_eq_true_eq, decide_eq_false_iff_not, Bool.not_true, Bool.not_false, bne_self_eq_false, beq_self_eq_true, ne_self_iff_false, Bool.true_bne, Bool.false_bne, Bool.true_beq, Bool.false_beq, Bool.false_eq_true, Bool.true_eq_false, reduceCtorEq, Bool.not_eq_true', Bool.not_eq_false', beq_iff_eq, bne_iff_ne, beq_eq_false_iff_ne, bne_eq_false_iff_eq, cmpOf] at hb') <;> try (exfalso; omega))
    )
  apply Ends.mk (.cons (.tmp rfl) (.cons (.tmp rfl) .nil))
  rfl
theorem kChooseV (M : List Lk) {K : Nat} (hM : LkOK M K) (hk : K ≤ 1048576) (h0 : 0 < M.length) (hl : M.length ≤ 60) (hV : ¬ allV M) (x y : List Int) : Evals Tryz.prog 23 [.sl 6 (M.map rowL), .ints .i64 x, .ints .i64 y] (.tup [.int .i64 0, .int .i64 1]) := by
  have hall := kallF M hM (by omega) hk hV
  refine evals_of_awp Tryz.func23 rfl (CallOK.of Tryz.func23 (by kernel_rfl) rfl) (Nat.le_of_ble_eq_true rfl) ?_
  rintro w R hR ⟨vs, hv⟩
  have hml : (M.map rowL).length = M.length := by simp
  repeat' (first
    | (apply RunL.step; exact rfl; first
      | (apply op_sliceS (τ := τ); exact rfl; exact rfl; exact rfl; exact rfl; exact Rd.of rfl; exact Bd.some (Rd.of rfl) (Int.toNat_of_nonneg (by omega)).symm; exact Bd.none; omega; omega; exact rfl)
      | fail)
    | (apply RunL.step; exact rfl; apply op_ev (τ := τ); exact rfl; (first | exact hall | exact hck | exact hlo | exact rcmp); exact rfl)
    | (apply RunL.step; exact rfl; exact opA)
    | (apply RunL.hand; exact rfl; exact rfl; exact lenA; exact rfl)
    | (apply AWP.seq)
    | (apply AWP.region; exact rfl)
    | (apply AWP.block)
    | (apply AWP.skip)
    | (apply AWP.exit)
    | (apply AWP.retF; exact rfl; exact rfl; exact rfl; exact rfl; exact lenA; exact rfl)
    | (apply AWP.ret)
    | (apply RunL.nil)
    | (apply RunL.on; exact rfl; exact rfl; exact rfl; exact rfl; (first | exact rfl | assumption))
    | (apply RunL.noU; exact rfl; exact rfl; exact rfl; exact rfl; exact rfl; exact rfl)
    | (apply RunL.no; exact rfl; exact rfl; exact rfl; exact rfl; (first | exact rfl | assumption); exact rfl; exact rfl)
    | (refine AWP.cond _ (Rd.of rfl) (fun hc => ?_) (fun hc => ?_) <;> first | (exfalso; cases hc; done) | (have hc' := hc; (try simp only [decide_eq_true_eq, decide_eq_false_iff_not, Bool.not_true, Bool.not_false, bne_self_eq_false, beq_self_eq_true, ne_self_iff_false, Bool.true_bne, Bool.false_bne, Bool.true_beq, Bool.false_beq, Bool.false_eq_true, Bool.true_eq_false, reduceCtorEq, Bool.not_eq_true', Bool.not_eq_false', beq_iff_eq, bne_iff_ne, beq_eq_false_iff_ne, bne_eq_false_iff_eq, cmpOf] at hc'); try (exfalso; omega)))
    | (
      apply AWP.drawA
      repeat' (first
        | (apply DL.cons; (try (apply OpLoc.on; exact rfl; exact rfl; exact rfl; exact rfl; (first | exact rfl | assumption))); apply ol_ev (τ := τ); exact rfl; (first | exact hall | exact hck | exact hlo | exact rcmp); exact rfl; exact rfl)
        | (apply DL.cons; exact olA; exact rfl)
        | (apply DL.nil; kernel_rfl)
        | (refine DL.split rfl rfl rfl rfl (fun hb => ?_) (fun hb => ?_) <;> have hb' := hb <;> (try simp only [decide_eq_true_eq, decide_eq_false_iff_not, Bool.not_true, Bool.not_false, bne_self_eq_false, beq_self_eq_true, ne_self_iff_false, Bool.true_bne, Bool.false_bne, Bool.true_beq, Bool.false_beq, Bool.false_eq_true, Bool.true_eq_false, reduceCtorEq, Bool.not_eq_true', Bool.not_eq_false', beq_iff_eq, bne_iff_ne, beq_eq_false_iff_ne, bne_eq_false_iff_eq, cmpOf] at hb') <;> try (exfalso; omega)))
      all_goals (fail_if_success apply DL.id))
    | (refine RunL.split rfl rfl rfl rfl (fun hb => ?_) (fun hb => ?_) <;> have hb' := hb <;> (try simp only [decide_eq_true_eq, decide_eq_false_iff_not, Bool.not_true, Bool.not_false, bne_self_eq_false, beq_self_eq_true, ne_self_iff_false, Bool.true_bne, Bool.false_bne, Bool.true_beq, Bool.false_beq, Bool.false_eq_true, Bool.true_eq_false, reduceCtorEq, Bool.not_eq_true', Bool.not_eq_false', beq_iff_eq, bne_iff_ne, beq_eq_false_iff_ne, bne_eq_false_iff_eq, cmpOf] at hb') <;> try (exfalso; omega))
    )
  apply Ends.mk (.cons (.tmp rfl) (.cons (.tmp rfl) .nil))
  rfl
theorem kChooseE (M : List Lk) {K : Nat} (hM : LkOK M K) (hk : K ≤ 1048576) (h0 : 0 < M.length) (hl : M.length ≤ 60) (hV : allV M) (x y : List Int) (he : anchE x y ≠ 0) : Evals Tryz.prog 23 [.sl 6 (M.map rowL), .ints .i64 x, .ints .i64 y] (.tup [.int .i64 0, .int .i64 (anchE x y)]) := by
  have hall := kallT M hM (by omega) hk hV
  have hck := kcheck x y
  generalize anchE x y = e at *
  refine evals_of_awp Tryz.func23 rfl (CallOK.of Tryz.func23 (by kernel_rfl) rfl) (Nat.le_of_ble_eq_true rfl) ?_
  rintro w R hR ⟨vs, hv⟩
  have hml : (M.map rowL).length = M.length := by simp
  repeat' (first
    | (apply RunL.step; exact rfl; first
      | (apply op_sliceS (τ := τ); exact rfl; exact rfl; exact rfl; exact rfl; exact Rd.of rfl; exact Bd.some (Rd.of rfl) (Int.toNat_of_nonneg (by omega)).symm; exact Bd.none; omega; omega; exact rfl)
      | fail)
    | (apply RunL.step; exact rfl; apply op_ev (τ := τ); exact rfl; (first | exact hall | exact hck | exact hlo | exact rcmp); exact rfl)
    | (apply RunL.step; exact rfl; exact opA)
    | (apply RunL.hand; exact rfl; exact rfl; exact lenA; exact rfl)
    | (apply AWP.seq)
    | (apply AWP.region; exact rfl)
    | (apply AWP.block)
    | (apply AWP.skip)
    | (apply AWP.exit)
    | (apply AWP.retF; exact rfl; exact rfl; exact rfl; exact rfl; exact lenA; exact rfl)
    | (apply AWP.ret)
    | (apply RunL.nil)
    | (apply RunL.on; exact rfl; exact rfl; exact rfl; exact rfl; (first | exact rfl | assumption))
    | (apply RunL.noU; exact rfl; exact rfl; exact rfl; exact rfl; exact rfl; exact rfl)
    | (apply RunL.no; exact rfl; exact rfl; exact rfl; exact rfl; (first | exact rfl | assumption); exact rfl; exact rfl)
    | (refine AWP.cond _ (Rd.of rfl) (fun hc => ?_) (fun hc => ?_) <;> first | (exfalso; cases hc; done) | (have hc' := hc; (try simp only [decide_eq_true_eq, decide_eq_false_iff_not, Bool.not_true, Bool.not_false, bne_self_eq_false, beq_self_eq_true, ne_self_iff_false, Bool.true_bne, Bool.false_bne, Bool.true_beq, Bool.false_beq, Bool.false_eq_true, Bool.true_eq_false, reduceCtorEq, Bool.not_eq_true', Bool.not_eq_false', beq_iff_eq, bne_iff_ne, beq_eq_false_iff_ne, bne_eq_false_iff_eq, cmpOf] at hc'); try (exfalso; omega)))
    | (
      apply AWP.drawA
      repeat' (first
        | (apply DL.cons; (try (apply OpLoc.on; exact rfl; exact rfl; exact rfl; exact rfl; (first | exact rfl | assumption))); apply ol_ev (τ := τ); exact rfl; (first | exact hall | exact hck | exact hlo | exact rcmp); exact rfl; exact rfl)
        | (apply DL.cons; exact olA; exact rfl)
        | (apply DL.nil; kernel_rfl)
        | (refine DL.split rfl rfl rfl rfl (fun hb => ?_) (fun hb => ?_) <;> have hb' := hb <;> (try simp only [decide_eq_true_eq, decide_eq_false_iff_not, Bool.not_true, Bool.not_false, bne_self_eq_false, beq_self_eq_true, ne_self_iff_false, Bool.true_bne, Bool.false_bne, Bool.true_beq, Bool.false_beq, Bool.false_eq_true, Bool.true_eq_false, reduceCtorEq, Bool.not_eq_true', Bool.not_eq_false', beq_iff_eq, bne_iff_ne, beq_eq_false_iff_ne, bne_eq_false_iff_eq, cmpOf] at hb') <;> try (exfalso; omega)))
      all_goals (fail_if_success apply DL.id))
    | (refine RunL.split rfl rfl rfl rfl (fun hb => ?_) (fun hb => ?_) <;> have hb' := hb <;> (try simp only [decide_eq_true_eq, decide_eq_false_iff_not, Bool.not_true, Bool.not_false, bne_self_eq_false, beq_self_eq_true, ne_self_iff_false, Bool.true_bne, Bool.false_bne, Bool.true_beq, Bool.false_beq, Bool.false_eq_true, Bool.true_eq_false, reduceCtorEq, Bool.not_eq_true', Bool.not_eq_false', beq_iff_eq, bne_iff_ne, beq_eq_false_iff_ne, bne_eq_false_iff_eq, cmpOf] at hb') <;> try (exfalso; omega))
    )
  apply Ends.mk (.cons (.tmp rfl) (.cons (.tmp rfl) .nil))
  rfl
set_option maxHeartbeats 1000000 in
theorem kChoose1 (M : List Lk) {K : Nat} (hM : LkOK M K) (hk : K ≤ 1048576) (h0 : 0 < M.length) (hl : M.length ≤ 60) (hV : allV M) (x y : List Int) (he : anchE x y = 0) : Evals Tryz.prog 23 [.sl 6 (M.map rowL), .ints .i64 x, .ints .i64 y] (.tup [.int .i64 (best (lossAt M x y) (M.length - 1)).1, .int .i64 0]) := by
  have hall := kallT M hM (by omega) hk hV
  have hck := kcheck x y
  rw [he] at hck
  obtain ⟨e1, e2, e3, e4, e5⟩ := anchE_zero he
  obtain ⟨p0, hp0⟩ : ∃ p, M[0]? = some p := ⟨M[0], by simp⟩
  have hm0 := List.mem_of_getElem? hp0
  have hsz := lossAt_sz hM e4 e5 e1
  have hat := fun j p => @lossAt_some M j p x y
  have hlo := kloss0 (h := hM.A hm0) (h' := hM.B hm0) x y e2 e1
  rw [← hat 0 p0 hp0] at hlo
  generalize hF : lossAt M x y = F at hsz hat hlo ⊢
  refine evals_of_awp Tryz.func23 rfl (CallOK.of Tryz.func23 (by kernel_rfl) rfl) (Nat.le_of_ble_eq_true rfl) ?_
  rintro w R hR ⟨vs, hv⟩
  have hml : (M.map rowL).length = M.length := by simp
  have hrow : (M.map rowL)[(0 : Int).toNat]? = some [.bool p0.1.1, .ints .u32 p0.1.2.1, .ints .u32 p0.1.2.2, .bool p0.2.1, .ints .u32 p0.2.2.1, .ints .u32 p0.2.2.2] := by
    show (M.map rowL)[0]? = _
    rw [List.getElem?_map, hp0]; rfl
  have hT : ((M.map rowL).take (M.map rowL).length).drop (1 : Int).toNat = (M.map rowL).drop 1 := by rw [List.take_length]; rfl
  have hTl : (((M.map rowL).take (M.map rowL).length).drop (1 : Int).toNat).length = M.length - 1 := by rw [hT]; simp
  repeat' (first
    | (apply RunL.step; exact rfl; first
      | (apply op_sliceS (τ := τ); exact rfl; exact rfl; exact rfl; exact rfl; exact Rd.of rfl; exact Bd.some (Rd.of rfl) (Int.toNat_of_nonneg (by omega)).symm; exact Bd.none; omega; omega; exact rfl)
      | fail)
    | (apply RunL.step; exact rfl; apply op_ev (τ := τ); exact rfl; (first | exact hall | exact hck | exact hlo | exact rcmp); exact rfl)
    | (apply RunL.step; exact rfl; exact opA)
    | (apply RunL.hand; exact rfl; exact rfl; exact lenA; exact rfl)
    | (apply AWP.seq)
    | (apply AWP.region; exact rfl)
    | (apply AWP.block)
    | (apply AWP.skip)
    | (apply AWP.exit)
    | (apply AWP.retF; exact rfl; exact rfl; exact rfl; exact rfl; exact lenA; exact rfl)
    | (apply AWP.ret)
    | (apply RunL.nil)
    | (apply RunL.on; exact rfl; exact rfl; exact rfl; exact rfl; (first | exact rfl | assumption))
    | (apply RunL.noU; exact rfl; exact rfl; exact rfl; exact rfl; exact rfl; exact rfl)
    | (apply RunL.no; exact rfl; exact rfl; exact rfl; exact rfl; (first | exact rfl | assumption); exact rfl; exact rfl)
    | (refine AWP.cond _ (Rd.of rfl) (fun hc => ?_) (fun hc => ?_) <;> first | (exfalso; cases hc; done) | (have hc' := hc; (try simp only [decide_eq_true_eq, decide_eq_false_iff_not, Bool.not_true, Bool.not_false, bne_self_eq_false, beq_self_eq_true, ne_self_iff_false, Bool.true_bne, Bool.false_bne, Bool.true_beq, Bool.false_beq, Bool.false_eq_true, Bool.true_eq_false, reduceCtorEq, Bool.not_eq_true', Bool.not_eq_false', beq_iff_eq, bne_iff_ne, beq_eq_false_iff_ne, bne_eq_false_iff_eq, cmpOf] at hc'); try (exfalso; omega)))
    | (
      apply AWP.drawA
      repeat' (first
        | (apply DL.cons; (try (apply OpLoc.on; exact rfl; exact rfl; exact rfl; exact rfl; (first | exact rfl | assumption))); apply ol_ev (τ := τ); exact rfl; (first | exact hall | exact hck | exact hlo | exact rcmp); exact rfl; exact rfl)
        | (apply DL.cons; exact olA; exact rfl)
        | (apply DL.nil; kernel_rfl)
        | (refine DL.split rfl rfl rfl rfl (fun hb => ?_) (fun hb => ?_) <;> have hb' := hb <;> (try simp only [decide_eq_true_eq, decide_eq_false_iff_not, Bool.not_true, Bool.not_false, bne_self_eq_false, beq_self_eq_true, ne_self_iff_false, Bool.true_bne, Bool.false_bne, Bool.true_beq, Bool.false_beq, Bool.false_eq_true, Bool.true_eq_false, reduceCtorEq, Bool.not_eq_true', Bool.not_eq_false', beq_iff_eq, bne_iff_ne, beq_eq_false_iff_ne, bne_eq_false_iff_eq, cmpOf] at hb') <;> try (exfalso; omega)))
      all_goals (fail_if_success apply DL.id))
    | (refine RunL.split rfl rfl rfl rfl (fun hb => ?_) (fun hb => ?_) <;> have hb' := hb <;> (try simp only [decide_eq_true_eq, decide_eq_false_iff_not, Bool.not_true, Bool.not_false, bne_self_eq_false, beq_self_eq_true, ne_self_iff_false, Bool.true_bne, Bool.false_bne, Bool.true_beq, Bool.false_beq, Bool.false_eq_true, Bool.true_eq_false, reduceCtorEq, Bool.not_eq_true', Bool.not_eq_false', beq_iff_eq, bne_iff_ne, beq_eq_false_iff_ne, bne_eq_false_iff_eq, cmpOf] at hb') <;> try (exfalso; omega))
    )
  refine AWP.loop3 (fun (i b : Int) (q : Rat) => ⟨[(1, .val (.ints .i64 x)), (2, .val (.ints .i64 y)), (9, .val (.int .i64 b)), (10, .pb 10 0), (36, .val (.sl 6 (((M.map rowL).take (M.map rowL).length).drop (1 : Int).toNat))), (37, .val (.int .i64 (((M.map rowL).take (M.map rowL).length).drop (1 : Int).toNat).length)), (38, .val (.int .i64 i))], [(10, .cells 27 (ratCl q))]⟩)
    (fun i b q => 0 ≤ i ∧ i ≤ M.length - 1 ∧ 0 ≤ b ∧ (best F i.toNat) = (b.toNat, q) ∧ SzR q (60 * (4 * K + 64) + 2)) (fun i _ _ => (M.length - i).toNat) 0 0 (F 0) ⟨by omega, by omega, by omega, rfl, hsz 0⟩ (St.Le.of (by repeat' (first | exact all_nil | refine all_cons rfl ?_)) (by repeat' (first | exact all_nil | refine all_cons rfl ?_))) ?_
  rintro i b q ⟨k1, k2, k3, k4, k5⟩
  by_cases hi : i < M.length - 1
  · obtain ⟨p, hp⟩ : ∃ p, M[i.toNat + 1]? = some p := ⟨M[i.toNat + 1]'(by omega), by simp⟩
    have hrow : (((M.map rowL).take (M.map rowL).length).drop (1 : Int).toNat)[i.toNat]? = some [.bool p.1.1, .ints .u32 p.1.2.1, .ints .u32 p.1.2.2, .bool p.2.1, .ints .u32 p.2.2.1, .ints .u32 p.2.2.2] := by
      rw [hT, List.getElem?_drop, List.getElem?_map, Nat.add_comm, hp]; rfl
    have hm := List.mem_of_getElem? hp
    have hlo := kloss0 (h := hM.A hm) (h' := hM.B hm) x y e2 e1
    rw [← hat _ p hp] at hlo
    have zn := hsz (i.toNat + 1)
    have hst : best F (i + 1).toNat = if F (i.toNat + 1) < q then (i.toNat + 1, F (i.toNat + 1)) else (b.toNat, q) := by
      rw [show (i + 1).toNat = i.toNat + 1 by omega, best_step, k4]
    generalize F (i.toNat + 1) = r at *
    by_cases hlt : r < q
    · have hc := (ltQ r q).2 hlt
      rw [if_pos hlt] at hst
      repeat' (first
        | (apply RunL.step; exact rfl; first
          | (apply op_sliceS (τ := τ); exact rfl; exact rfl; exact rfl; exact rfl; exact Rd.of rfl; exact Bd.some (Rd.of rfl) (Int.toNat_of_nonneg (by omega)).symm; exact Bd.none; omega; omega; exact rfl)
          | fail)
        | (apply RunL.step; exact rfl; apply op_ev (τ := τ); exact rfl; (first | exact hall | exact hck | exact hlo | exact rcmp); exact rfl)
        | (apply RunL.step; exact rfl; exact opA)
        | (apply RunL.hand; exact rfl; exact rfl; exact lenA; exact rfl)
        | (apply AWP.seq)
        | (apply AWP.region; exact rfl)
        | (apply AWP.block)
        | (apply AWP.skip)
        | (apply AWP.exit)
        | (apply AWP.retF; exact rfl; exact rfl; exact rfl; exact rfl; exact lenA; exact rfl)
        | (apply AWP.ret)
        | (apply RunL.nil)
        | (apply RunL.on; exact rfl; exact rfl; exact rfl; exact rfl; (first | exact rfl | assumption))
        | (apply RunL.noU; exact rfl; exact rfl; exact rfl; exact rfl; exact rfl; exact rfl)
        | (apply RunL.no; exact rfl; exact rfl; exact rfl; exact rfl; (first | exact rfl | assumption); exact rfl; exact rfl)
        | (refine AWP.cond _ (Rd.of rfl) (fun hc => ?_) (fun hc => ?_) <;> first | (exfalso; cases hc; done) | (have hc' := hc; (try simp only [decide_eq_true_eq, decide_eq_false_iff_not, Bool.not_true, Bool.not_false, bne_self_eq_false, beq_self_eq_true, ne_self_iff_false, Bool.true_bne, Bool.false_bne, Bool.true_beq, Bool.false_beq, Bool.false_eq_true, Bool.true_eq_false, reduceCtorEq, Bool.not_eq_true', Bool.not_eq_false', beq_iff_eq, bne_iff_ne, beq_eq_false_iff_ne, bne_eq_false_iff_eq, cmpOf] at hc'); try (exfalso; omega)))
        | (
          apply AWP.drawA
          repeat' (first
            | (apply DL.cons; (try (apply OpLoc.on; exact rfl; exact rfl; exact rfl; exact rfl; (first | exact rfl | assumption))); apply ol_ev (τ := τ); exact rfl; (first | exact hall | exact hck | exact hlo | exact rcmp); exact rfl; exact rfl)
            | (apply DL.cons; exact olA; exact rfl)
            | (apply DL.nil; kernel_rfl)
            | (refine DL.split rfl rfl rfl rfl (fun hb => ?_) (fun hb => ?_) <;> have hb' := hb <;> (try simp only [decide_eq_true_eq, decide_eq_false_iff_not, Bool.not_true, Bool.not_false, bne_self_eq_false, beq_self_eq_true, ne_self_iff_false, Bool.true_bne, Bool.false_bne, Bool.true_beq, Bool.false_beq, Bool.false_eq_true, Bool.true_eq_false, reduceCtorEq, Bool.not_eq_true', Bool.not_eq_false', beq_iff_eq, bne_iff_ne, beq_eq_false_iff_ne, bne_eq_false_iff_eq, cmpOf] at hb') <;> try (exfalso; omega)))
          all_goals (fail_if_success apply DL.id))
        | (refine RunL.split rfl rfl rfl rfl (fun hb => ?_) (fun hb => ?_) <;> have hb' := hb <;> (try simp only [decide_eq_true_eq, decide_eq_false_iff_not, Bool.not_true, Bool.not_false, bne_self_eq_false, beq_self_eq_true, ne_self_iff_false, Bool.true_bne, Bool.false_bne, Bool.true_beq, Bool.false_beq, Bool.false_eq_true, Bool.true_eq_false, reduceCtorEq, Bool.not_eq_true', Bool.not_eq_false', beq_iff_eq, bne_iff_ne, beq_eq_false_iff_ne, bne_eq_false_iff_eq, cmpOf] at hb') <;> try (exfalso; omega))
        )
      refine ⟨i + 1, i + 1, r, St.Le.of (by repeat' (first | exact all_nil | refine all_cons rfl ?_)) (by repeat' (first | exact all_nil | refine all_cons rfl ?_)), ⟨by omega, by omega, by omega, ?_, zn⟩, by omega⟩
      rw [hst, show (i + 1).toNat = i.toNat + 1 by omega]
    · have hc : ¬ cmpQ r q < 0 := fun h => hlt ((ltQ r q).1 h)
      rw [if_neg hlt] at hst
      repeat' (first
        | (apply RunL.step; exact rfl; first
          | (apply op_sliceS (τ := τ); exact rfl; exact rfl; exact rfl; exact rfl; exact Rd.of rfl; exact Bd.some (Rd.of rfl) (Int.toNat_of_nonneg (by omega)).symm; exact Bd.none; omega; omega; exact rfl)
          | fail)
        | (apply RunL.step; exact rfl; apply op_ev (τ := τ); exact rfl; (first | exact hall | exact hck | exact hlo | exact rcmp); exact rfl)
        | (apply RunL.step; exact rfl; exact opA)
        | (apply RunL.hand; exact rfl; exact rfl; exact lenA; exact rfl)
        | (apply AWP.seq)
        | (apply AWP.region; exact rfl)
        | (apply AWP.block)
        | (apply AWP.skip)
        | (apply AWP.exit)
        | (apply AWP.retF; exact rfl; exact rfl; exact rfl; exact rfl; exact lenA; exact rfl)
        | (apply AWP.ret)
        | (apply RunL.nil)
        | (apply RunL.on; exact rfl; exact rfl; exact rfl; exact rfl; (first | exact rfl | assumption))
        | (apply RunL.noU; exact rfl; exact rfl; exact rfl; exact rfl; exact rfl; exact rfl)
        | (apply RunL.no; exact rfl; exact rfl; exact rfl; exact rfl; (first | exact rfl | assumption); exact rfl; exact rfl)
        | (refine AWP.cond _ (Rd.of rfl) (fun hc => ?_) (fun hc => ?_) <;> first | (exfalso; cases hc; done) | (have hc' := hc; (try simp only [decide_eq_true_eq, decide_eq_false_iff_not, Bool.not_true, Bool.not_false, bne_self_eq_false, beq_self_eq_true, ne_self_iff_false, Bool.true_bne, Bool.false_bne, Bool.true_beq, Bool.false_beq, Bool.false_eq_true, Bool.true_eq_false, reduceCtorEq, Bool.not_eq_true', Bool.not_eq_false', beq_iff_eq, bne_iff_ne, beq_eq_false_iff_ne, bne_eq_false_iff_eq, cmpOf] at hc'); try (exfalso; omega)))
        | (
          apply AWP.drawA
          repeat' (first
            | (apply DL.cons; (try (apply OpLoc.on; exact rfl; exact rfl; exact rfl; exact rfl; (first | exact rfl | assumption))); apply ol_ev (τ := τ); exact rfl; (first | exact hall | exact hck | exact hlo | exact rcmp); exact rfl; exact rfl)
            | (apply DL.cons; exact olA; exact rfl)
            | (apply DL.nil; kernel_rfl)
            | (refine DL.split rfl rfl rfl rfl (fun hb => ?_) (fun hb => ?_) <;> have hb' := hb <;> (try simp only [decide_eq_true_eq, decide_eq_false_iff_not, Bool.not_true, Bool.not_false, bne_self_eq_false, beq_self_eq_true, ne_self_iff_false, Bool.true_bne, Bool.false_bne, Bool.true_beq, Bool.false_beq, Bool.false_eq_true, Bool.true_eq_false, reduceCtorEq, Bool.not_eq_true', Bool.not_eq_false', beq_iff_eq, bne_iff_ne, beq_eq_false_iff_ne, bne_eq_false_iff_eq, cmpOf] at hb') <;> try (exfalso; omega)))
          all_goals (fail_if_success apply DL.id))
        | (refine RunL.split rfl rfl rfl rfl (fun hb => ?_) (fun hb => ?_) <;> have hb' := hb <;> (try simp only [decide_eq_true_eq, decide_eq_false_iff_not, Bool.not_true, Bool.not_false, bne_self_eq_false, beq_self_eq_true, ne_self_iff_false, Bool.true_bne, Bool.false_bne, Bool.true_beq, Bool.false_beq, Bool.false_eq_true, Bool.true_eq_false, reduceCtorEq, Bool.not_eq_true', Bool.not_eq_false', beq_iff_eq, bne_iff_ne, beq_eq_false_iff_ne, bne_eq_false_iff_eq, cmpOf] at hb') <;> try (exfalso; omega))
        )
      exact ⟨i + 1, b, q, St.Le.of (by repeat' (first | exact all_nil | refine all_cons rfl ?_)) (by repeat' (first | exact all_nil | refine all_cons rfl ?_)), ⟨by omega, by omega, by omega, hst, k5⟩, by omega⟩
  · rw [show i.toNat = M.length - 1 by omega] at k4
    repeat' (first
      | (apply RunL.step; exact rfl; first
        | (apply op_sliceS (τ := τ); exact rfl; exact rfl; exact rfl; exact rfl; exact Rd.of rfl; exact Bd.some (Rd.of rfl) (Int.toNat_of_nonneg (by omega)).symm; exact Bd.none; omega; omega; exact rfl)
        | fail)
      | (apply RunL.step; exact rfl; apply op_ev (τ := τ); exact rfl; (first | exact hall | exact hck | exact hlo | exact rcmp); exact rfl)
      | (apply RunL.step; exact rfl; exact opA)
      | (apply RunL.hand; exact rfl; exact rfl; exact lenA; exact rfl)
      | (apply AWP.seq)
      | (apply AWP.region; exact rfl)
      | (apply AWP.block)
      | (apply AWP.skip)
      | (apply AWP.exit)
      | (apply AWP.retF; exact rfl; exact rfl; exact rfl; exact rfl; exact lenA; exact rfl)
      | (apply AWP.ret)
      | (apply RunL.nil)
      | (apply RunL.on; exact rfl; exact rfl; exact rfl; exact rfl; (first | exact rfl | assumption))
      | (apply RunL.noU; exact rfl; exact rfl; exact rfl; exact rfl; exact rfl; exact rfl)
      | (apply RunL.no; exact rfl; exact rfl; exact rfl; exact rfl; (first | exact rfl | assumption); exact rfl; exact rfl)
      | (refine AWP.cond _ (Rd.of rfl) (fun hc => ?_) (fun hc => ?_) <;> first | (exfalso; cases hc; done) | (have hc' := hc; (try simp only [decide_eq_true_eq, decide_eq_false_iff_not, Bool.not_true, Bool.not_false, bne_self_eq_false, beq_self_eq_true, ne_self_iff_false, Bool.true_bne, Bool.false_bne, Bool.true_beq, Bool.false_beq, Bool.false_eq_true, Bool.true_eq_false, reduceCtorEq, Bool.not_eq_true', Bool.not_eq_false', beq_iff_eq, bne_iff_ne, beq_eq_false_iff_ne, bne_eq_false_iff_eq, cmpOf] at hc'); try (exfalso; omega)))
      | (
        apply AWP.drawA
        repeat' (first
          | (apply DL.cons; (try (apply OpLoc.on; exact rfl; exact rfl; exact rfl; exact rfl; (first | exact rfl | assumption))); apply ol_ev (τ := τ); exact rfl; (first | exact hall | exact hck | exact hlo | exact rcmp); exact rfl; exact rfl)
          | (apply DL.cons; exact olA; exact rfl)
          | (apply DL.nil; kernel_rfl)
          | (refine DL.split rfl rfl rfl rfl (fun hb => ?_) (fun hb => ?_) <;> have hb' := hb <;> (try simp only [decide_eq_true_eq, decide_eq_false_iff_not, Bool.not_true, Bool.not_false, bne_self_eq_false, beq_self_eq_true, ne_self_iff_false, Bool.true_bne, Bool.false_bne, Bool.true_beq, Bool.false_beq, Bool.false_eq_true, Bool.true_eq_false, reduceCtorEq, Bool.not_eq_true', Bool.not_eq_false', beq_iff_eq, bne_iff_ne, beq_eq_false_iff_ne, bne_eq_false_iff_eq, cmpOf] at hb') <;> try (exfalso; omega)))
        all_goals (fail_if_success apply DL.id))
      | (refine RunL.split rfl rfl rfl rfl (fun hb => ?_) (fun hb => ?_) <;> have hb' := hb <;> (try simp only [decide_eq_true_eq, decide_eq_false_iff_not, Bool.not_true, Bool.not_false, bne_self_eq_false, beq_self_eq_true, ne_self_iff_false, Bool.true_bne, Bool.false_bne, Bool.true_beq, Bool.false_beq, Bool.false_eq_true, Bool.true_eq_false, reduceCtorEq, Bool.not_eq_true', Bool.not_eq_false', beq_iff_eq, bne_iff_ne, beq_eq_false_iff_ne, bne_eq_false_iff_eq, cmpOf] at hb') <;> try (exfalso; omega))
      )
    apply Ends.mk (.cons (.tmp rfl) (.cons (.tmp rfl) .nil))
    rw [k4]
    show D.tup [.int .i64 b, _] = D.tup [.int .i64 (b.toNat : Int), _]
    rw [Int.toNat_of_nonneg k3]
end Go.Proofs.YtgdejiajiljipaaGreatDoor.K
