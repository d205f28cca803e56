/- The laws of layer 45 (examboardlaw45): LinkingSpread. -/
import Derived.Test.YtgdejiajiljipaaDoorLawL6
namespace Go.Proofs.YtgdejiajiljipaaDoor.K
open Go
set_option linter.unusedVariables false
set_option linter.unusedSimpArgs false

theorem div_pos' {p q : Rat} (hp : 0 < p) (hq : 0 < q) : 0 < q / p := by
  have h0 : p ≠ 0 := by grind
  have e1 : q / p * p = q := Rat.div_mul_cancel h0
  rcases cmpQ_cases (q / p) 0 with ⟨h, _⟩ | ⟨h, _⟩ | ⟨h, _⟩
  · have := Rat.mul_pos (show 0 < -(q / p) by grind) hp
    grind
  · rw [h] at e1; grind
  · exact h
set_option maxHeartbeats 2000000 in
theorem law_LinkingSpread (x y : List Int) (hb : bulkA [.ints .i64 x, .ints .i64 y] ≤ 1048576) : Evals Tryd.prog 5 [.ints .i64 x, .ints .i64 y] (.bool true) := by
  by_cases he : anchE x y = 0
  · have he' : anchE y x = 0 := by rw [anchE_swap]; exact he
    obtain ⟨e1, e2, e3, e4, e5⟩ := anchE_zero he
    by_cases h0 : devQ (fn x) x.length = 0 ∨ devQ (fn y) y.length = 0
    · have hs := kSpread8 x y he h0
      have hs' := kSpread8 y x he' h0.symm
      refine evals_of_awp Tryd.func5 rfl (CallOK.of Tryd.func5 (by kernel_rfl) rfl) (Nat.le_of_ble_eq_true rfl) ?_
      rintro w R hR ⟨vs, hv⟩
      repeat' (first
        | (apply RunL.step; exact rfl; apply op_ev (τ := τ); exact rfl; (first | exact hs | exact hs' | exact hi | exact hva | exact hsm | exact lawake); exact rfl) | (apply RunL.step; exact rfl; exact opA) | (apply RunL.hand; exact rfl; exact rfl; exact lenA; exact rfl) | (apply AWP.seq) | (apply AWP.region; exact rfl) | (apply AWP.block) | (apply AWP.skip) | (apply AWP.exit) | (apply AWP.retF; exact rfl; exact rfl; exact rfl; exact rfl; exact lenA; exact rfl) | (apply AWP.ret) | (apply RunL.nil) | (apply RunL.on; exact rfl; exact rfl; exact rfl; exact rfl; (first | exact rfl | assumption)) | (apply RunL.noU; exact rfl; exact rfl; exact rfl; exact rfl; exact rfl; exact rfl) | (apply RunL.no; exact rfl; exact rfl; exact rfl; exact rfl; (first | exact rfl | assumption); exact rfl; exact rfl) | (refine AWP.cond _ (Rd.of rfl) (fun hc => ?_) (fun hc => ?_) <;> first | (exfalso; cases hc; done) | (have hc' := hc; (try simp only [sc, reduceCtorEq, cmpOf] at hc'); try (exfalso; omega)))
        | (
         apply AWP.drawA
         repeat' (first
           | (apply DL.cons; (try (apply OpLoc.on; exact rfl; exact rfl; exact rfl; exact rfl; (first | exact rfl | assumption))); apply ol_ev (τ := τ); exact rfl; (first | exact hs | exact hs' | exact hi | exact hva | exact hsm | exact lawake); exact rfl; exact rfl) | (apply DL.cons; exact olA; exact rfl) | (apply DL.nil; kernel_rfl) | (refine DL.split rfl rfl rfl rfl (fun hb => ?_) (fun hb => ?_) <;> have hb' := hb <;> (try simp only [sc, reduceCtorEq, cmpOf] at hb') <;> try (exfalso; omega)))
         all_goals (fail_if_success apply DL.id))
        | (refine RunL.split rfl rfl rfl rfl (fun hb => ?_) (fun hb => ?_) <;> have hb' := hb <;> (try simp only [sc, reduceCtorEq, cmpOf] at hb') <;> try (exfalso; omega)) )
      all_goals
        apply Ends.mk (.cons (.tmp rfl) .nil)
        first | done | rfl
    · have hs := kSpread1 x y he (fun h => h0 (.inl h)) (fun h => h0 (.inr h))
      have hs' := kSpread1 y x he' (fun h => h0 (.inr h)) (fun h => h0 (.inl h))
      have zx := mean_sz e4 e1
      have zy := mean_sz e5 (by omega)
      have wx := dev_sz e4 e1
      have wy := dev_sz e5 (by omega)
      have n1 := dev_nonneg (fn x) x.length
      have n2 := dev_nonneg (fn y) y.length
      generalize meanQ (fn x) x.length = mx at *
      generalize meanQ (fn y) y.length = my at *
      generalize devQ (fn x) x.length = dx at *
      generalize devQ (fn y) y.length = dy at *
      have g1 : 0 < dx := by grind
      have g2 : 0 < dy := by grind
      have hp := div_pos' g1 g2
      have za := (SzR.div dy dx _ _ (h := wy) (g := wx)).mono (m := 2000) (by omega)
      have zb := (SzR.sub my _ _ _ (h := zy) (g := SzR.mul (dy / dx) mx _ _ (h := za) (g := zx))).mono (m := 3000) (by omega)
      have hi := kinvert1 (h := RA.ratD _ _ (h := za)) (h' := RA.ratD _ _ (h := zb)) hp (by omega)
      have hva := kvalid (h := RA.ratD _ _ (h := za)) (h' := RA.ratD _ _ (h := zb)) (by omega)
      rw [posQ, decide_eq_true hp] at hva
      obtain ⟨f1, f2⟩ := spread_inv (mx := mx) (my := my) (p := dx) (q := dy) (by grind) (by grind)
      have hsm := r45same (p := invA (dy / dx)) (q := invB (dy / dx) (my - dy / dx * mx)) (p' := dx / dy) (q' := mx - dx / dy * my) f1 f2
      refine evals_of_awp Tryd.func5 rfl (CallOK.of Tryd.func5 (by kernel_rfl) rfl) (Nat.le_of_ble_eq_true rfl) ?_
      rintro w R hR ⟨vs, hv⟩
      repeat' (first
        | (apply RunL.step; exact rfl; apply op_ev (τ := τ); exact rfl; (first | exact hs | exact hs' | exact hi | exact hva | exact hsm | exact lawake); exact rfl) | (apply RunL.step; exact rfl; exact opA) | (apply RunL.hand; exact rfl; exact rfl; exact lenA; exact rfl) | (apply AWP.seq) | (apply AWP.region; exact rfl) | (apply AWP.block) | (apply AWP.skip) | (apply AWP.exit) | (apply AWP.retF; exact rfl; exact rfl; exact rfl; exact rfl; exact lenA; exact rfl) | (apply AWP.ret) | (apply RunL.nil) | (apply RunL.on; exact rfl; exact rfl; exact rfl; exact rfl; (first | exact rfl | assumption)) | (apply RunL.noU; exact rfl; exact rfl; exact rfl; exact rfl; exact rfl; exact rfl) | (apply RunL.no; exact rfl; exact rfl; exact rfl; exact rfl; (first | exact rfl | assumption); exact rfl; exact rfl) | (refine AWP.cond _ (Rd.of rfl) (fun hc => ?_) (fun hc => ?_) <;> first | (exfalso; cases hc; done) | (have hc' := hc; (try simp only [sc, reduceCtorEq, cmpOf] at hc'); try (exfalso; omega)))
        | (
         apply AWP.drawA
         repeat' (first
           | (apply DL.cons; (try (apply OpLoc.on; exact rfl; exact rfl; exact rfl; exact rfl; (first | exact rfl | assumption))); apply ol_ev (τ := τ); exact rfl; (first | exact hs | exact hs' | exact hi | exact hva | exact hsm | exact lawake); exact rfl; exact rfl) | (apply DL.cons; exact olA; exact rfl) | (apply DL.nil; kernel_rfl) | (refine DL.split rfl rfl rfl rfl (fun hb => ?_) (fun hb => ?_) <;> have hb' := hb <;> (try simp only [sc, reduceCtorEq, cmpOf] at hb') <;> try (exfalso; omega)))
         all_goals (fail_if_success apply DL.id))
        | (refine RunL.split rfl rfl rfl rfl (fun hb => ?_) (fun hb => ?_) <;> have hb' := hb <;> (try simp only [sc, reduceCtorEq, cmpOf] at hb') <;> try (exfalso; omega)) )
      all_goals
        apply Ends.mk (.cons (.tmp rfl) .nil)
        first | done | rfl
  · have hs := kSpread0 x y he
    have hs' := kSpread0 y x (by rw [anchE_swap]; exact he)
    rw [anchE_swap y x] at hs'
    generalize anchE x y = e at *
    refine evals_of_awp Tryd.func5 rfl (CallOK.of Tryd.func5 (by kernel_rfl) rfl) (Nat.le_of_ble_eq_true rfl) ?_
    rintro w R hR ⟨vs, hv⟩
    repeat' (first
      | (apply RunL.step; exact rfl; apply op_ev (τ := τ); exact rfl; (first | exact hs | exact hs' | exact hi | exact hva | exact hsm | exact lawake); exact rfl) | (apply RunL.step; exact rfl; exact opA) | (apply RunL.hand; exact rfl; exact rfl; exact lenA; exact rfl) | (apply AWP.seq) | (apply AWP.region; exact rfl) | (apply AWP.block) | (apply AWP.skip) | (apply AWP.exit) | (apply AWP.retF; exact rfl; exact rfl; exact rfl; exact rfl; exact lenA; exact rfl) | (apply AWP.ret) | (apply RunL.nil) | (apply RunL.on; exact rfl; exact rfl; exact rfl; exact rfl; (first | exact rfl | assumption)) | (apply RunL.noU; exact rfl; exact rfl; exact rfl; exact rfl; exact rfl; exact rfl) | (apply RunL.no; exact rfl; exact rfl; exact rfl; exact rfl; (first | exact rfl | assumption); exact rfl; exact rfl) | (refine AWP.cond _ (Rd.of rfl) (fun hc => ?_) (fun hc => ?_) <;> first | (exfalso; cases hc; done) | (have hc' := hc; (try simp only [sc, reduceCtorEq, cmpOf] at hc'); try (exfalso; omega)))
      | (
       apply AWP.drawA
       repeat' (first
         | (apply DL.cons; (try (apply OpLoc.on; exact rfl; exact rfl; exact rfl; exact rfl; (first | exact rfl | assumption))); apply ol_ev (τ := τ); exact rfl; (first | exact hs | exact hs' | exact hi | exact hva | exact hsm | exact lawake); exact rfl; exact rfl) | (apply DL.cons; exact olA; exact rfl) | (apply DL.nil; kernel_rfl) | (refine DL.split rfl rfl rfl rfl (fun hb => ?_) (fun hb => ?_) <;> have hb' := hb <;> (try simp only [sc, reduceCtorEq, cmpOf] at hb') <;> try (exfalso; omega)))
       all_goals (fail_if_success apply DL.id))
      | (refine RunL.split rfl rfl rfl rfl (fun hb => ?_) (fun hb => ?_) <;> have hb' := hb <;> (try simp only [sc, reduceCtorEq, cmpOf] at hb') <;> try (exfalso; omega)) )
    all_goals
      apply Ends.mk (.cons (.tmp rfl) .nil)
      first | done | rfl
end Go.Proofs.YtgdejiajiljipaaDoor.K
