/- The law ContentLists without a bound on the arguments. -/
import Derived.Test.YtglakdnhjpakkaaCLaw2
namespace Go.Proofs.Ytglakdnhjpakkaa.K
open Go
set_option linter.unusedVariables false
set_option linter.unusedSimpArgs false

set_option maxHeartbeats 2000000 in
theorem lawF_ContentLists (L1 : List (List D)) (hL1 : ∀ row ∈ L1, Oks [.str, .str] row) (code : List UInt8) (L2 : List (List D)) (hL2 : ∀ row ∈ L2, Oks [.str] row) (L3 : List (List D)) (hL3 : ∀ row ∈ L3, Oks [.str, .int .i64, .int .i64] row) (hb1 : L1.length * 32 ≤ 140737488351232) (hb2 : code.length ≤ 140737488351232) (hb3 : L2.length * 16 ≤ 140737488351232) (hb4 : L3.length * 32 ≤ 140737488351232) (hn : ∀ (i : Nat) (row : List D), L3[i]? = some row → ∀ s, row[0]? = some (.str s) → s.length ≤ 140737488351232) : Evals Try.prog 4 [.sl 2 L1, .str code, .sl 1 L2, .sl 3 L3] (.bool true) := by
  obtain ⟨T, rfl⟩ := rows_topic hL1
  obtain ⟨C, rfl⟩ := rows_str hL2
  obtain ⟨L, rfl⟩ := rows_cell hL3
  have hTl : T.length ≤ 4398046511104 := by simp at hb1; omega
  have hLl : L.length ≤ 4398046511104 := by simp at hb4; omega
  have b6 : ∀ p ∈ L, p.1.length ≤ 140737488351232 := fun p hp => by
    obtain ⟨i, hi⟩ := List.mem_iff_getElem?.1 hp
    exact hn i (rowC p) (by rw [List.getElem?_map, hi]; rfl) p.1 rfl
  refine evals_of_awp Try.func4 rfl (CallOK.of Try.func4 (by kernel_rfl) rfl) (Nat.le_of_ble_eq_true rfl) ?_
  rintro w R hR ⟨vs, hv⟩
  have hum := cunmet C L hLl (fun p hp => by have := b6 p hp; omega)
  have r13um := r13unmet C L hLl (fun p hp => by have := b6 p hp; omega)
  repeat' (first
    | (apply RunL.step; exact rfl; apply op_ev (τ := τ); exact rfl; (first | exact ckids _ _ | exact r13kids _ _ | exact ccount _ _ | exact r13count _ _ | exact hum | exact r13um | exact r13sameS_eq | exact r13sameI_eq | exact cawake); exact rfl) | (apply RunL.step; exact rfl; exact opA) | (apply RunL.hand; exact rfl; exact rfl; exact lenA; exact rfl) | (apply AWP.seq) | (apply AWP.region; exact rfl) | (apply AWP.block) | (apply AWP.skip) | (apply AWP.exit) | (apply AWP.retF; exact rfl; exact rfl; exact rfl; exact rfl; exact lenA; exact rfl) | (apply AWP.ret) | (apply RunL.nil) | (apply RunL.on; exact rfl; exact rfl; exact rfl; exact rfl; (first | exact rfl | assumption)) | (apply RunL.noU; exact rfl; exact rfl; exact rfl; exact rfl; exact rfl; exact rfl) | (apply RunL.no; exact rfl; exact rfl; exact rfl; exact rfl; (first | exact rfl | assumption); exact rfl; exact rfl) | (refine AWP.cond _ (Rd.of rfl) (fun hc => ?_) (fun hc => ?_) <;> first | (exfalso; cases hc; done) | (have hc' := hc; (try simp only [sc, reduceCtorEq, cmpOf] at hc'); try (exfalso; omega)))
    | (
     apply AWP.drawA
     repeat' (first
       | (apply DL.cons; (try (apply OpLoc.on; exact rfl; exact rfl; exact rfl; exact rfl; (first | exact rfl | assumption))); apply ol_ev (τ := τ); exact rfl; (first | exact ckids _ _ | exact r13kids _ _ | exact ccount _ _ | exact r13count _ _ | exact hum | exact r13um | exact r13sameS_eq | exact r13sameI_eq | exact cawake); exact rfl; exact rfl) | (apply DL.cons; exact olA; exact rfl) | (apply DL.nil; kernel_rfl) | (refine DL.split rfl rfl rfl rfl (fun hb => ?_) (fun hb => ?_) <;> have hb' := hb <;> (try simp only [sc, reduceCtorEq, cmpOf] at hb') <;> try (exfalso; omega)))
     all_goals (fail_if_success apply DL.id))
    | (refine RunL.split rfl rfl rfl rfl (fun hb => ?_) (fun hb => ?_) <;> have hb' := hb <;> (try simp only [sc, reduceCtorEq, cmpOf] at hb') <;> try (exfalso; omega)) )
  all_goals
    (apply Ends.mk (.cons (.tmp rfl) .nil); first | rfl | (simp only [pack]; congr 1; simp only [cmpOf, decide_eq_true_eq, beq_iff_eq, bne_iff_ne]; omega))
end Go.Proofs.Ytglakdnhjpakkaa.K
