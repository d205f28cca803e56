/- The laws of layer 13 (examboardlaw13): ContentCodes, ContentOrder, ContentLists. -/
import Derived.Test.YtglakdnhjpakkaaCont2
import Derived.Test.YtglakdnhjpakkaaPost
namespace Go.Proofs.Ytglakdnhjpakkaa.K
open Go
set_option linter.unusedVariables false
set_option linter.unusedSimpArgs false

theorem r13sameS_eq {A B : List (List UInt8)} (h : A = B := by first | rfl | assumption) : Evals Try.prog 15 [.sl 1 (A.map rowS), .sl 1 (B.map rowS)] (.bool true) := by
  have := r13sameS A B
  rwa [decide_eq_true h] at this
theorem r13sameI_eq {a b : List Int} (h : a = b := by first | rfl | assumption) : Evals Try.prog 20 [.ints .i64 a, .ints .i64 b] (.bool true) := by
  have := r13sameI a b
  rwa [decide_eq_true h] at this
def bs (s : String) : List UInt8 := s.toUTF8.data.toList
def oT : List (List UInt8 × List UInt8) := [([77, 65, 84, 72], [109]), ([77, 65, 84, 72, 46, 65, 76, 71], [97]), ([77, 65, 84, 72, 46, 71, 69, 79], [103]), ([82, 69, 65, 68], [114])]
set_option maxHeartbeats 4000000 in
theorem cawake : Evals Try.prog 14 [] (.bool true) := by
  refine evals_of_awp Try.func14 rfl (CallOK.of Try.func14 (by kernel_rfl) rfl) (Nat.le_of_ble_eq_true rfl) ?_
  rintro w R hR ⟨vs, hv⟩
  have h1 := ccheck oT
  rw [show checkS oT = (0, 0) by decide +kernel] at h1
  have h2 := ccheck [([77, 65, 84, 72, 46, 65, 76, 71], [97])]
  rw [show checkS [([77, 65, 84, 72, 46, 65, 76, 71], [97])] = (6, 0) by decide +kernel] at h2
  have h3 := ckids oT [77, 65, 84, 72] (by decide)
  rw [show kidsS oT [77, 65, 84, 72] = [[77, 65, 84, 72, 46, 65, 76, 71], [77, 65, 84, 72, 46, 71, 69, 79]] by decide +kernel] at h3
  have h4 := ckids oT [] (by decide)
  rw [show kidsS oT [] = [[77, 65, 84, 72], [82, 69, 65, 68]] by decide +kernel] at h4
  have h5 := r13sameS_eq (A := [[77, 65, 84, 72, 46, 65, 76, 71], [77, 65, 84, 72, 46, 71, 69, 79]]) (B := [[77, 65, 84, 72, 46, 65, 76, 71], [77, 65, 84, 72, 46, 71, 69, 79]])
  have h6 := r13sameS_eq (A := [[77, 65, 84, 72], [82, 69, 65, 68]]) (B := [[77, 65, 84, 72], [82, 69, 65, 68]])
  have h7 := cunmet [[77, 65, 84, 72, 46, 65, 76, 71], [77, 65, 84, 72, 46, 65, 76, 71]] [([77, 65, 84, 72], 1, 2), ([77, 65, 84, 72, 46, 71, 69, 79], 1, 1), ([], 0, 1)] (by decide) (by decide)
  rw [show unmetS [[77, 65, 84, 72, 46, 65, 76, 71], [77, 65, 84, 72, 46, 65, 76, 71]] [([77, 65, 84, 72], 1, 2), ([77, 65, 84, 72, 46, 71, 69, 79], 1, 1), ([], 0, 1)] = [1, 2] by decide +kernel] at h7
  have h8 := r13sameI_eq (a := [1, 2]) (b := [1, 2])
  have h9 := ccount [[77, 65, 84, 72, 46, 65, 76, 71], [77, 65, 84, 72, 46, 65, 76, 71]] [77, 65, 84, 72] (by decide)
  rw [show countS [[77, 65, 84, 72, 46, 65, 76, 71], [77, 65, 84, 72, 46, 65, 76, 71]] [77, 65, 84, 72] = 2 by decide +kernel] at h9
  have h10 := cparent [77, 65, 84, 72, 46, 65, 76, 71]
  rw [show parS [77, 65, 84, 72, 46, 65, 76, 71] = [77, 65, 84, 72] by decide +kernel, show parOK [77, 65, 84, 72, 46, 65, 76, 71] = true by decide +kernel] at h10
  have h11 := cparent [77, 65, 84, 72]
  rw [show parOK [77, 65, 84, 72] = false by decide +kernel] at h11
  have h12 := cunder [65, 46, 66] [65] (by decide)
  rw [show underS [65, 46, 66] [65] = true by decide +kernel] at h12
  have h13 := cunder [65, 66] [65] (by decide)
  rw [show underS [65, 66] [65] = false by decide +kernel] at h13
  have h14 := cvalid [65, 46, 66, 50]
  rw [show validS [65, 46, 66, 50] = true by decide +kernel] at h14
  have h15 := cvalid [65, 46, 46, 66]
  rw [show validS [65, 46, 46, 66] = false by decide +kernel] at h15
  have h16 := cvalid [97]
  rw [show validS [97] = false by decide +kernel] at h16
  have g1 : cmpStr .eql [77, 65, 84, 72] [77, 65, 84, 72] = true := by decide
  repeat' (first
    | (apply RunL.step; exact rfl; first | (apply op_sliceS (τ := τ); exact rfl; exact rfl; exact rfl; exact rfl; exact Rd.of rfl; exact Bd.some (Rd.of rfl) (Int.toNat_of_nonneg (by omega)).symm; exact Bd.some (Rd.of rfl) (Int.toNat_of_nonneg (by omega)).symm; decide; decide; exact rfl) | fail) | (apply RunL.step; exact rfl; apply op_ev (τ := τ); exact rfl; (first | exact h1 | exact h2 | exact h3 | exact h4 | exact h5 | exact h6 | exact h7 | exact h8 | exact h9 | exact h10 | exact h11 | exact h12 | exact h13 | exact h14 | exact h15 | exact h16); exact rfl) | (apply RunL.step; exact rfl; exact opA) | (apply RunL.hand; exact rfl; exact rfl; exact lenA; exact rfl) | (apply AWP.seq) | (apply AWP.region; exact rfl) | (apply AWP.block) | (apply AWP.skip) | (apply AWP.exit) | (apply AWP.retF; exact rfl; exact rfl; exact rfl; exact rfl; exact lenA; exact rfl) | (apply AWP.ret) | (apply RunL.nil) | (apply RunL.on; exact rfl; exact rfl; exact rfl; exact rfl; (first | exact rfl | assumption)) | (apply RunL.noU; exact rfl; exact rfl; exact rfl; exact rfl; exact rfl; exact rfl) | (apply RunL.no; exact rfl; exact rfl; exact rfl; exact rfl; (first | exact rfl | assumption); exact rfl; exact rfl) | (refine AWP.cond _ (Rd.of rfl) (fun hc => ?_) (fun hc => ?_) <;> first | (exfalso; cases hc; done) | (have hc' := hc; (try simp only [sc, reduceCtorEq, cmpOf] at hc'); try (exfalso; omega)))
    | (
     apply AWP.drawA
     repeat' (first
       | (apply DL.cons; (try (apply OpLoc.on; exact rfl; exact rfl; exact rfl; exact rfl; (first | exact rfl | assumption))); apply ol_ev (τ := τ); exact rfl; (first | exact h1 | exact h2 | exact h3 | exact h4 | exact h5 | exact h6 | exact h7 | exact h8 | exact h9 | exact h10 | exact h11 | exact h12 | exact h13 | exact h14 | exact h15 | exact h16); exact rfl; exact rfl) | (apply DL.cons; exact olA; exact rfl) | (apply DL.nil; kernel_rfl) | (refine DL.split rfl rfl rfl rfl (fun hb => ?_) (fun hb => ?_) <;> have hb' := hb <;> (try simp only [sc, reduceCtorEq, cmpOf] at hb') <;> try (exfalso; omega)))
     all_goals (fail_if_success apply DL.id))
    | (refine RunL.split rfl rfl rfl rfl (fun hb => ?_) (fun hb => ?_) <;> have hb' := hb <;> (try simp only [sc, reduceCtorEq, cmpOf] at hb') <;> try (exfalso; omega)) )
  all_goals
    first   | (apply Ends.mk (.cons (.tmp rfl) .nil); first | rfl | (simp only [pack]; congr 1; simp only [cmpOf, decide_eq_true_eq, beq_iff_eq, bne_iff_ne]; omega))   | (apply Ends.mk (.cons (.tmp rfl) .nil); simp only [pack]; congr 1; simp only [cmpOf, sc]; omega)   | (exfalso; first | omega | (simp only [*, Bool.true_eq_false, Bool.false_eq_true, reduceCtorEq] at *; done) | grind)
set_option maxHeartbeats 2000000 in
theorem law_ContentCodes (code top : List UInt8) (hb1 : code.length ≤ 140737488351232) (hb2 : top.length ≤ 140737488351232) : Evals Try.prog 3 [.str code, .str top] (.bool true) := by
  refine evals_of_awp Try.func3 rfl (CallOK.of Try.func3 (by kernel_rfl) rfl) (Nat.le_of_ble_eq_true rfl) ?_
  rintro w R hR ⟨vs, hv⟩
  have g1 := cmp_eql.2 (rfl : parS code = parS code)
  have g2 : (parOK code == parOK code) = true := by simp
  have g3 : (validS code == validS code) = true := by simp
  have g4 : (underS code top == underS code top) = true := by simp
  repeat' (first
    | (apply RunL.step; exact rfl; apply op_ev (τ := τ); exact rfl; (first | exact cparent _ | exact r13parent _ | exact cvalid _ | exact r13valid _ | exact cunder _ _ | exact r13under _ _ | exact cawake); exact rfl) | (apply RunL.step; exact rfl; exact opA) | (apply RunL.hand; exact rfl; exact rfl; exact lenA; exact rfl) | (apply AWP.seq) | (apply AWP.region; exact rfl) | (apply AWP.block) | (apply AWP.skip) | (apply AWP.exit) | (apply AWP.retF; exact rfl; exact rfl; exact rfl; exact rfl; exact lenA; exact rfl) | (apply AWP.ret) | (apply RunL.nil) | (apply RunL.on; exact rfl; exact rfl; exact rfl; exact rfl; (first | exact rfl | assumption)) | (apply RunL.noU; exact rfl; exact rfl; exact rfl; exact rfl; exact rfl; exact rfl) | (apply RunL.no; exact rfl; exact rfl; exact rfl; exact rfl; (first | exact rfl | assumption); exact rfl; exact rfl) | (refine AWP.cond _ (Rd.of rfl) (fun hc => ?_) (fun hc => ?_) <;> first | (exfalso; cases hc; done) | (have hc' := hc; (try simp only [sc, reduceCtorEq, cmpOf] at hc'); try (exfalso; omega)))
    | (
     apply AWP.drawA
     repeat' (first
       | (apply DL.cons; (try (apply OpLoc.on; exact rfl; exact rfl; exact rfl; exact rfl; (first | exact rfl | assumption))); apply ol_ev (τ := τ); exact rfl; (first | exact cparent _ | exact r13parent _ | exact cvalid _ | exact r13valid _ | exact cunder _ _ | exact r13under _ _ | exact cawake); exact rfl; exact rfl) | (apply DL.cons; exact olA; exact rfl) | (apply DL.nil; kernel_rfl) | (refine DL.split rfl rfl rfl rfl (fun hb => ?_) (fun hb => ?_) <;> have hb' := hb <;> (try simp only [sc, reduceCtorEq, cmpOf] at hb') <;> try (exfalso; omega)))
     all_goals (fail_if_success apply DL.id))
    | (refine RunL.split rfl rfl rfl rfl (fun hb => ?_) (fun hb => ?_) <;> have hb' := hb <;> (try simp only [sc, reduceCtorEq, cmpOf] at hb') <;> try (exfalso; omega)) )
  all_goals
    first   | (apply Ends.mk (.cons (.tmp rfl) .nil); first | rfl | (simp only [pack]; congr 1; simp only [cmpOf, decide_eq_true_eq, beq_iff_eq, bne_iff_ne]; omega))   | (apply Ends.mk (.cons (.tmp rfl) .nil); simp only [pack]; congr 1; simp only [cmpOf, sc]; omega)   | (exfalso; first | omega | (simp only [*, Bool.true_eq_false, Bool.false_eq_true, reduceCtorEq] at *; done) | grind)
set_option maxHeartbeats 4000000 in
theorem law_ContentOrder (a b c : List UInt8) (hb1 : a.length ≤ 140737488351232) (hb2 : b.length ≤ 140737488351232) (hb3 : c.length ≤ 140737488351232) : Evals Try.prog 6 [.str a, .str b, .str c] (.bool true) := by
  refine evals_of_awp Try.func6 rfl (CallOK.of Try.func6 (by kernel_rfl) rfl) (Nat.le_of_ble_eq_true rfl) ?_
  rintro w R hR ⟨vs, hv⟩
  have haa := cunder a a
  rw [under_refl] at haa
  have hab := cunder a b
  have hba := cunder b a
  have hbc := cunder b c
  have hac := cunder a c
  have hpa := cparent a
  have hva := cvalid a
  have hlp : (parS a).length ≤ a.length := by
    unfold parS
    split
    · simp
    · rw [List.length_take]; omega
  have hap := cunder a (parS a)
  have hvp := cvalid (parS a)
  have e1 : underS a b = true → underS b a = true → cmpStr .neq a b = false := fun h1 h2 => by
    have := under_anti h1 h2
    subst this
    simp [cmpStr]
  have e2 := fun (h1 : underS a b = true) (h2 : underS b c = true) => under_trans h1 h2
  have e3 := fun (h : parOK a = true) => par_under h
  have e4 := fun (h : parOK a = true) (h2 : validS a = true) => par_valid h h2
  generalize underS a b = u1 at *
  generalize underS b a = u2 at *
  generalize underS b c = u3 at *
  generalize underS a c = u4 at *
  generalize underS a (parS a) = u5 at *
  generalize validS a = v1 at *
  generalize validS (parS a) = v2 at *
  generalize parOK a = po at *
  clear hlp
  repeat' (first
    | (apply RunL.step; exact rfl; apply op_ev (τ := τ); exact rfl; (first | exact hab | exact hba | exact hbc | exact hac | exact haa | exact hpa | exact hap | exact hva | exact hvp | exact cawake); exact rfl) | (apply RunL.step; exact rfl; exact opA) | (apply RunL.hand; exact rfl; exact rfl; exact lenA; exact rfl) | (apply AWP.seq) | (apply AWP.region; exact rfl) | (apply AWP.block) | (apply AWP.skip) | (apply AWP.exit) | (apply AWP.retF; exact rfl; exact rfl; exact rfl; exact rfl; exact lenA; exact rfl) | (apply AWP.ret) | (apply RunL.nil) | (apply RunL.on; exact rfl; exact rfl; exact rfl; exact rfl; (first | exact rfl | assumption)) | (apply RunL.noU; exact rfl; exact rfl; exact rfl; exact rfl; exact rfl; exact rfl) | (apply RunL.no; exact rfl; exact rfl; exact rfl; exact rfl; (first | exact rfl | assumption); exact rfl; exact rfl) | (refine AWP.cond _ (Rd.of rfl) (fun hc => ?_) (fun hc => ?_) <;> first | (exfalso; cases hc; done) | (have hc' := hc; (try simp only [sc, reduceCtorEq, cmpOf] at hc'); try (exfalso; omega)))
    | (
     apply AWP.drawA
     repeat' (first
       | (apply DL.cons; (try (apply OpLoc.on; exact rfl; exact rfl; exact rfl; exact rfl; (first | exact rfl | assumption))); apply ol_ev (τ := τ); exact rfl; (first | exact hab | exact hba | exact hbc | exact hac | exact haa | exact hpa | exact hap | exact hva | exact hvp | exact cawake); exact rfl; exact rfl) | (apply DL.cons; exact olA; exact rfl) | (apply DL.nil; kernel_rfl) | (refine DL.split rfl rfl rfl rfl (fun hb => ?_) (fun hb => ?_) <;> have hb' := hb <;> (try simp only [sc, reduceCtorEq, cmpOf] at hb') <;> try (exfalso; omega)))
     all_goals (fail_if_success apply DL.id))
    | (refine RunL.split rfl rfl rfl rfl (fun hb => ?_) (fun hb => ?_) <;> have hb' := hb <;> (try simp only [sc, reduceCtorEq, cmpOf] at hb') <;> try (exfalso; omega)) )
  all_goals first
    | (apply Ends.mk (.cons (.tmp rfl) .nil); first | rfl | (simp only [pack]; congr 1; simp only [cmpOf, decide_eq_true_eq, beq_iff_eq, bne_iff_ne]; omega))
    | (exfalso; grind)
end Go.Proofs.Ytglakdnhjpakkaa.K
