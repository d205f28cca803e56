/- Walks: content.Check; Has of the reference; listed of the laws. -/
import Derived.Test.YtglakdnhjpakkaaCWalkC
namespace Go.Proofs.Ytglakdnhjpakkaa.K
open Go
set_option linter.unusedVariables false
set_option linter.unusedSimpArgs false

/-- the error of a topic, 0 if there is none -/
def errAt (T : List (List UInt8 × List UInt8)) (i : Nat) : Int := match T[i]? with
  | none => 0
  | some p => if validS p.1 = false then 2 else if titleS p.2 = false then 1 else if 0 < i ∧ cmpStr .leq p.1 (T.getD (i - 1) ([], [])).1 = true then 23 else if parOK p.1 = true ∧ ∀ q ∈ T.take i, q.1 ≠ parS p.1 then 6 else 0
/-- the first error from a topic on -/
def chk (T : List (List UInt8 × List UInt8)) : Nat → Nat → Int × Int
  | _, 0 => (0, 0)
  | i, f + 1 => if errAt T i = 0 then chk T (i + 1) f else (errAt T i, i)
def checkS (T : List (List UInt8 × List UInt8)) : Int × Int := if 200 < T.length then (5, 200) else chk T 0 T.length
theorem chk_step {T : List (List UInt8 × List UInt8)} {i : Int} (h0 : 0 ≤ i) (hi : i < T.length) : chk T i.toNat (T.length - i.toNat) = if errAt T i.toNat = 0 then chk T (i + 1).toNat (T.length - (i + 1).toNat) else (errAt T i.toNat, i) := by
  obtain ⟨n, rfl⟩ := Int.eq_ofNat_of_zero_le h0
  have e : T.length - n = (T.length - (n + 1)) + 1 := by omega
  rw [show ((n : Int) + 1).toNat = n + 1 by omega, Int.toNat_natCast, e, chk]
theorem errAt_some {T : List (List UInt8 × List UInt8)} {i : Nat} {c t : List UInt8} (h : T[i]? = some (c, t)) : errAt T i = if validS c = false then 2 else if titleS t = false then 1 else if 0 < i ∧ cmpStr .leq c (T.getD (i - 1) ([], [])).1 = true then 23 else if parOK c = true ∧ ∀ q ∈ T.take i, q.1 ≠ parS c then 6 else 0 := by
  rw [errAt, h]
theorem mem_take_iff {T : List (List UInt8 × List UInt8)} {n : Nat} {x : List UInt8} (hn : n ≤ T.length) : (∀ q ∈ T.take n, q.1 ≠ x) ↔ ∀ j : Nat, j < n → ∀ p, T[j]? = some p → p.1 ≠ x := by
  constructor
  · intro h j hj p hp
    exact h p (List.mem_iff_getElem?.2 ⟨j, by rw [List.getElem?_take, if_pos hj]; exact hp⟩)
  · intro h q hq
    obtain ⟨j, hj⟩ := List.mem_iff_getElem?.1 hq
    rw [List.getElem?_take] at hj
    split at hj
    · exact h j (by assumption) q hj
    · cases hj
set_option maxHeartbeats 4000000 in
theorem ccheck (T : List (List UInt8 × List UInt8)) : Evals Try.prog 23 [.sl 2 (T.map rowT)] (.tup [.int .i64 (checkS T).1, .int .i64 (checkS T).2]) := by
  refine evals_of_awp Try.func23 rfl (CallOK.of Try.func23 (by kernel_rfl) rfl) (Nat.le_of_ble_eq_true rfl) ?_
  rintro w R hR ⟨vs, hv⟩
  have hml : (T.map rowT).length = T.length := by simp
  by_cases h200 : 200 < T.length
  · rw [checkS, if_pos h200]
    repeat' (first
      | (apply RunL.step; exact rfl; first | (apply op_sliceS (τ := τ); exact rfl; exact rfl; exact rfl; exact rfl; exact Rd.of rfl; exact Bd.none; exact Bd.some (Rd.of rfl) (Int.toNat_of_nonneg (by omega)).symm; omega; omega; exact rfl) | fail) | (apply RunL.step; exact rfl; apply op_ev (τ := τ); exact rfl; (first | exact hva | exact hti | exact hpa); exact rfl) | (apply RunL.step; exact rfl; exact opA) | (apply RunL.hand; exact rfl; exact rfl; exact lenA; exact rfl) | (apply AWP.seq) | (apply AWP.region; exact rfl) | (apply AWP.block) | (apply AWP.skip) | (apply AWP.exit) | (apply AWP.retF; exact rfl; exact rfl; exact rfl; exact rfl; exact lenA; exact rfl) | (apply AWP.ret) | (apply RunL.nil) | (apply RunL.on; exact rfl; exact rfl; exact rfl; exact rfl; (first | exact rfl | assumption)) | (apply RunL.noU; exact rfl; exact rfl; exact rfl; exact rfl; exact rfl; exact rfl) | (apply RunL.no; exact rfl; exact rfl; exact rfl; exact rfl; (first | exact rfl | assumption); exact rfl; exact rfl) | (refine AWP.cond _ (Rd.of rfl) (fun hc => ?_) (fun hc => ?_) <;> first | (exfalso; cases hc; done) | (have hc' := hc; (try simp only [sc, reduceCtorEq, cmpOf] at hc'); try (exfalso; omega)))
      | (
       apply AWP.drawA
       repeat' (first
         | (apply DL.cons; (try (apply OpLoc.on; exact rfl; exact rfl; exact rfl; exact rfl; (first | exact rfl | assumption))); apply ol_ev (τ := τ); exact rfl; (first | exact hva | exact hti | exact hpa); exact rfl; exact rfl) | (apply DL.cons; exact olA; exact rfl) | (apply DL.nil; kernel_rfl) | (refine DL.split rfl rfl rfl rfl (fun hb => ?_) (fun hb => ?_) <;> have hb' := hb <;> (try simp only [sc, reduceCtorEq, cmpOf] at hb') <;> try (exfalso; omega)))
       all_goals (fail_if_success apply DL.id))
      | (refine RunL.split rfl rfl rfl rfl (fun hb => ?_) (fun hb => ?_) <;> have hb' := hb <;> (try simp only [sc, reduceCtorEq, cmpOf] at hb') <;> try (exfalso; omega)) )
    all_goals first
      | (apply Ends.mk (.cons (.tmp rfl) (.cons (.tmp rfl) .nil)); rfl)
      | (apply AWP.scope)
    all_goals
      repeat' (first
        | (apply RunL.step; exact rfl; first | (apply op_sliceS (τ := τ); exact rfl; exact rfl; exact rfl; exact rfl; exact Rd.of rfl; exact Bd.none; exact Bd.some (Rd.of rfl) (Int.toNat_of_nonneg (by omega)).symm; omega; omega; exact rfl) | fail) | (apply RunL.step; exact rfl; apply op_ev (τ := τ); exact rfl; (first | exact hva | exact hti | exact hpa); exact rfl) | (apply RunL.step; exact rfl; exact opA) | (apply RunL.hand; exact rfl; exact rfl; exact lenA; exact rfl) | (apply AWP.seq) | (apply AWP.region; exact rfl) | (apply AWP.block) | (apply AWP.skip) | (apply AWP.exit) | (apply AWP.retF; exact rfl; exact rfl; exact rfl; exact rfl; exact lenA; exact rfl) | (apply AWP.ret) | (apply RunL.nil) | (apply RunL.on; exact rfl; exact rfl; exact rfl; exact rfl; (first | exact rfl | assumption)) | (apply RunL.noU; exact rfl; exact rfl; exact rfl; exact rfl; exact rfl; exact rfl) | (apply RunL.no; exact rfl; exact rfl; exact rfl; exact rfl; (first | exact rfl | assumption); exact rfl; exact rfl) | (refine AWP.cond _ (Rd.of rfl) (fun hc => ?_) (fun hc => ?_) <;> first | (exfalso; cases hc; done) | (have hc' := hc; (try simp only [sc, reduceCtorEq, cmpOf] at hc'); try (exfalso; omega)))
        | (
         apply AWP.drawA
         repeat' (first
           | (apply DL.cons; (try (apply OpLoc.on; exact rfl; exact rfl; exact rfl; exact rfl; (first | exact rfl | assumption))); apply ol_ev (τ := τ); exact rfl; (first | exact hva | exact hti | exact hpa); exact rfl; exact rfl) | (apply DL.cons; exact olA; exact rfl) | (apply DL.nil; kernel_rfl) | (refine DL.split rfl rfl rfl rfl (fun hb => ?_) (fun hb => ?_) <;> have hb' := hb <;> (try simp only [sc, reduceCtorEq, cmpOf] at hb') <;> try (exfalso; omega)))
         all_goals (fail_if_success apply DL.id))
        | (refine RunL.split rfl rfl rfl rfl (fun hb => ?_) (fun hb => ?_) <;> have hb' := hb <;> (try simp only [sc, reduceCtorEq, cmpOf] at hb') <;> try (exfalso; omega)) )
    all_goals
      apply Ends.mk (.cons (.tmp rfl) (.cons (.tmp rfl) .nil))
      rfl
  rw [checkS, if_neg h200]
  repeat' (first
    | (apply RunL.step; exact rfl; first | (apply op_sliceS (τ := τ); exact rfl; exact rfl; exact rfl; exact rfl; exact Rd.of rfl; exact Bd.none; exact Bd.some (Rd.of rfl) (Int.toNat_of_nonneg (by omega)).symm; omega; omega; exact rfl) | fail) | (apply RunL.step; exact rfl; apply op_ev (τ := τ); exact rfl; (first | exact hva | exact hti | exact hpa); exact rfl) | (apply RunL.step; exact rfl; exact opA) | (apply RunL.hand; exact rfl; exact rfl; exact lenA; exact rfl) | (apply AWP.seq) | (apply AWP.region; exact rfl) | (apply AWP.block) | (apply AWP.skip) | (apply AWP.exit) | (apply AWP.retF; exact rfl; exact rfl; exact rfl; exact rfl; exact lenA; exact rfl) | (apply AWP.ret) | (apply RunL.nil) | (apply RunL.on; exact rfl; exact rfl; exact rfl; exact rfl; (first | exact rfl | assumption)) | (apply RunL.noU; exact rfl; exact rfl; exact rfl; exact rfl; exact rfl; exact rfl) | (apply RunL.no; exact rfl; exact rfl; exact rfl; exact rfl; (first | exact rfl | assumption); exact rfl; exact rfl) | (refine AWP.cond _ (Rd.of rfl) (fun hc => ?_) (fun hc => ?_) <;> first | (exfalso; cases hc; done) | (have hc' := hc; (try simp only [sc, reduceCtorEq, cmpOf] at hc'); try (exfalso; omega)))
    | (
     apply AWP.drawA
     repeat' (first
       | (apply DL.cons; (try (apply OpLoc.on; exact rfl; exact rfl; exact rfl; exact rfl; (first | exact rfl | assumption))); apply ol_ev (τ := τ); exact rfl; (first | exact hva | exact hti | exact hpa); exact rfl; exact rfl) | (apply DL.cons; exact olA; exact rfl) | (apply DL.nil; kernel_rfl) | (refine DL.split rfl rfl rfl rfl (fun hb => ?_) (fun hb => ?_) <;> have hb' := hb <;> (try simp only [sc, reduceCtorEq, cmpOf] at hb') <;> try (exfalso; omega)))
     all_goals (fail_if_success apply DL.id))
    | (refine RunL.split rfl rfl rfl rfl (fun hb => ?_) (fun hb => ?_) <;> have hb' := hb <;> (try simp only [sc, reduceCtorEq, cmpOf] at hb') <;> try (exfalso; omega)) )
  apply AWP.scope
  repeat' (first
    | (apply RunL.step; exact rfl; first | (apply op_sliceS (τ := τ); exact rfl; exact rfl; exact rfl; exact rfl; exact Rd.of rfl; exact Bd.none; exact Bd.some (Rd.of rfl) (Int.toNat_of_nonneg (by omega)).symm; omega; omega; exact rfl) | fail) | (apply RunL.step; exact rfl; apply op_ev (τ := τ); exact rfl; (first | exact hva | exact hti | exact hpa); exact rfl) | (apply RunL.step; exact rfl; exact opA) | (apply RunL.hand; exact rfl; exact rfl; exact lenA; exact rfl) | (apply AWP.seq) | (apply AWP.region; exact rfl) | (apply AWP.block) | (apply AWP.skip) | (apply AWP.exit) | (apply AWP.retF; exact rfl; exact rfl; exact rfl; exact rfl; exact lenA; exact rfl) | (apply AWP.ret) | (apply RunL.nil) | (apply RunL.on; exact rfl; exact rfl; exact rfl; exact rfl; (first | exact rfl | assumption)) | (apply RunL.noU; exact rfl; exact rfl; exact rfl; exact rfl; exact rfl; exact rfl) | (apply RunL.no; exact rfl; exact rfl; exact rfl; exact rfl; (first | exact rfl | assumption); exact rfl; exact rfl) | (refine AWP.cond _ (Rd.of rfl) (fun hc => ?_) (fun hc => ?_) <;> first | (exfalso; cases hc; done) | (have hc' := hc; (try simp only [sc, reduceCtorEq, cmpOf] at hc'); try (exfalso; omega)))
    | (
     apply AWP.drawA
     repeat' (first
       | (apply DL.cons; (try (apply OpLoc.on; exact rfl; exact rfl; exact rfl; exact rfl; (first | exact rfl | assumption))); apply ol_ev (τ := τ); exact rfl; (first | exact hva | exact hti | exact hpa); exact rfl; exact rfl) | (apply DL.cons; exact olA; exact rfl) | (apply DL.nil; kernel_rfl) | (refine DL.split rfl rfl rfl rfl (fun hb => ?_) (fun hb => ?_) <;> have hb' := hb <;> (try simp only [sc, reduceCtorEq, cmpOf] at hb') <;> try (exfalso; omega)))
     all_goals (fail_if_success apply DL.id))
    | (refine RunL.split rfl rfl rfl rfl (fun hb => ?_) (fun hb => ?_) <;> have hb' := hb <;> (try simp only [sc, reduceCtorEq, cmpOf] at hb') <;> try (exfalso; omega)) )
  apply AWP.label
  repeat' (first
    | (apply RunL.step; exact rfl; first | (apply op_sliceS (τ := τ); exact rfl; exact rfl; exact rfl; exact rfl; exact Rd.of rfl; exact Bd.none; exact Bd.some (Rd.of rfl) (Int.toNat_of_nonneg (by omega)).symm; omega; omega; exact rfl) | fail) | (apply RunL.step; exact rfl; apply op_ev (τ := τ); exact rfl; (first | exact hva | exact hti | exact hpa); exact rfl) | (apply RunL.step; exact rfl; exact opA) | (apply RunL.hand; exact rfl; exact rfl; exact lenA; exact rfl) | (apply AWP.seq) | (apply AWP.region; exact rfl) | (apply AWP.block) | (apply AWP.skip) | (apply AWP.exit) | (apply AWP.retF; exact rfl; exact rfl; exact rfl; exact rfl; exact lenA; exact rfl) | (apply AWP.ret) | (apply RunL.nil) | (apply RunL.on; exact rfl; exact rfl; exact rfl; exact rfl; (first | exact rfl | assumption)) | (apply RunL.noU; exact rfl; exact rfl; exact rfl; exact rfl; exact rfl; exact rfl) | (apply RunL.no; exact rfl; exact rfl; exact rfl; exact rfl; (first | exact rfl | assumption); exact rfl; exact rfl) | (refine AWP.cond _ (Rd.of rfl) (fun hc => ?_) (fun hc => ?_) <;> first | (exfalso; cases hc; done) | (have hc' := hc; (try simp only [sc, reduceCtorEq, cmpOf] at hc'); try (exfalso; omega)))
    | (
     apply AWP.drawA
     repeat' (first
       | (apply DL.cons; (try (apply OpLoc.on; exact rfl; exact rfl; exact rfl; exact rfl; (first | exact rfl | assumption))); apply ol_ev (τ := τ); exact rfl; (first | exact hva | exact hti | exact hpa); exact rfl; exact rfl) | (apply DL.cons; exact olA; exact rfl) | (apply DL.nil; kernel_rfl) | (refine DL.split rfl rfl rfl rfl (fun hb => ?_) (fun hb => ?_) <;> have hb' := hb <;> (try simp only [sc, reduceCtorEq, cmpOf] at hb') <;> try (exfalso; omega)))
     all_goals (fail_if_success apply DL.id))
    | (refine RunL.split rfl rfl rfl rfl (fun hb => ?_) (fun hb => ?_) <;> have hb' := hb <;> (try simp only [sc, reduceCtorEq, cmpOf] at hb') <;> try (exfalso; omega)) )
  refine AWP.loop (ι := Int) (fun i => ⟨[(0, .val (.sl 2 (T.map rowT))), (13, .val (.sl 2 (T.map rowT))), (14, .val (.int .i64 (T.map rowT).length)), (15, .val (.int .i64 i))], []⟩) (fun i => 0 ≤ i ∧ i ≤ T.length ∧ chk T i.toNat (T.length - i.toNat) = chk T 0 T.length) (fun i => (T.length - i).toNat) 0 ⟨by omega, by omega, rfl⟩ (St.Le.of (by repeat' (first | exact all_nil | refine all_cons rfl ?_)) (by repeat' (first | exact all_nil | refine all_cons rfl ?_))) ?_
  rintro i ⟨k1, k2, k3⟩
  by_cases hi : i < T.length
  · obtain ⟨⟨c, t⟩, hx⟩ := some_at k1 hi
    have hrow : (T.map rowT)[i.toNat]? = some [.str c, .str t] := row_at (f := rowT) hx
    have he := errAt_some hx
    have hcs := chk_step k1 hi
    have hva := cvalid c
    have hti := vtitle t
    have hpa := cparent c
    cases hv1 : validS c
    · rw [if_pos hv1] at he
      rw [he, if_neg (by omega), k3] at hcs
      rw [hv1] at hva
      rw [hcs]
      repeat' (first
        | (apply RunL.step; exact rfl; first | (apply op_sliceS (τ := τ); exact rfl; exact rfl; exact rfl; exact rfl; exact Rd.of rfl; exact Bd.none; exact Bd.some (Rd.of rfl) (Int.toNat_of_nonneg (by omega)).symm; omega; omega; exact rfl) | fail) | (apply RunL.step; exact rfl; apply op_ev (τ := τ); exact rfl; (first | exact hva | exact hti | exact hpa); exact rfl) | (apply RunL.step; exact rfl; exact opA) | (apply RunL.hand; exact rfl; exact rfl; exact lenA; exact rfl) | (apply AWP.seq) | (apply AWP.region; exact rfl) | (apply AWP.block) | (apply AWP.skip) | (apply AWP.exit) | (apply AWP.retF; exact rfl; exact rfl; exact rfl; exact rfl; exact lenA; exact rfl) | (apply AWP.ret) | (apply RunL.nil) | (apply RunL.on; exact rfl; exact rfl; exact rfl; exact rfl; (first | exact rfl | assumption)) | (apply RunL.noU; exact rfl; exact rfl; exact rfl; exact rfl; exact rfl; exact rfl) | (apply RunL.no; exact rfl; exact rfl; exact rfl; exact rfl; (first | exact rfl | assumption); exact rfl; exact rfl) | (refine AWP.cond _ (Rd.of rfl) (fun hc => ?_) (fun hc => ?_) <;> first | (exfalso; cases hc; done) | (have hc' := hc; (try simp only [sc, reduceCtorEq, cmpOf] at hc'); try (exfalso; omega)))
        | (
         apply AWP.drawA
         repeat' (first
           | (apply DL.cons; (try (apply OpLoc.on; exact rfl; exact rfl; exact rfl; exact rfl; (first | exact rfl | assumption))); apply ol_ev (τ := τ); exact rfl; (first | exact hva | exact hti | exact hpa); exact rfl; exact rfl) | (apply DL.cons; exact olA; exact rfl) | (apply DL.nil; kernel_rfl) | (refine DL.split rfl rfl rfl rfl (fun hb => ?_) (fun hb => ?_) <;> have hb' := hb <;> (try simp only [sc, reduceCtorEq, cmpOf] at hb') <;> try (exfalso; omega)))
         all_goals (fail_if_success apply DL.id))
        | (refine RunL.split rfl rfl rfl rfl (fun hb => ?_) (fun hb => ?_) <;> have hb' := hb <;> (try simp only [sc, reduceCtorEq, cmpOf] at hb') <;> try (exfalso; omega)) )
      all_goals
        apply Ends.mk (.cons (.tmp rfl) (.cons (.tmp rfl) .nil))
        rfl
    rw [if_neg (by rw [hv1]; simp)] at he
    rw [hv1] at hva
    cases hv2 : titleS t
    · rw [if_pos hv2] at he
      rw [he, if_neg (by omega), k3] at hcs
      rw [hv2] at hti
      rw [hcs]
      repeat' (first
        | (apply RunL.step; exact rfl; first | (apply op_sliceS (τ := τ); exact rfl; exact rfl; exact rfl; exact rfl; exact Rd.of rfl; exact Bd.none; exact Bd.some (Rd.of rfl) (Int.toNat_of_nonneg (by omega)).symm; omega; omega; exact rfl) | fail) | (apply RunL.step; exact rfl; apply op_ev (τ := τ); exact rfl; (first | exact hva | exact hti | exact hpa); exact rfl) | (apply RunL.step; exact rfl; exact opA) | (apply RunL.hand; exact rfl; exact rfl; exact lenA; exact rfl) | (apply AWP.seq) | (apply AWP.region; exact rfl) | (apply AWP.block) | (apply AWP.skip) | (apply AWP.exit) | (apply AWP.retF; exact rfl; exact rfl; exact rfl; exact rfl; exact lenA; exact rfl) | (apply AWP.ret) | (apply RunL.nil) | (apply RunL.on; exact rfl; exact rfl; exact rfl; exact rfl; (first | exact rfl | assumption)) | (apply RunL.noU; exact rfl; exact rfl; exact rfl; exact rfl; exact rfl; exact rfl) | (apply RunL.no; exact rfl; exact rfl; exact rfl; exact rfl; (first | exact rfl | assumption); exact rfl; exact rfl) | (refine AWP.cond _ (Rd.of rfl) (fun hc => ?_) (fun hc => ?_) <;> first | (exfalso; cases hc; done) | (have hc' := hc; (try simp only [sc, reduceCtorEq, cmpOf] at hc'); try (exfalso; omega)))
        | (
         apply AWP.drawA
         repeat' (first
           | (apply DL.cons; (try (apply OpLoc.on; exact rfl; exact rfl; exact rfl; exact rfl; (first | exact rfl | assumption))); apply ol_ev (τ := τ); exact rfl; (first | exact hva | exact hti | exact hpa); exact rfl; exact rfl) | (apply DL.cons; exact olA; exact rfl) | (apply DL.nil; kernel_rfl) | (refine DL.split rfl rfl rfl rfl (fun hb => ?_) (fun hb => ?_) <;> have hb' := hb <;> (try simp only [sc, reduceCtorEq, cmpOf] at hb') <;> try (exfalso; omega)))
         all_goals (fail_if_success apply DL.id))
        | (refine RunL.split rfl rfl rfl rfl (fun hb => ?_) (fun hb => ?_) <;> have hb' := hb <;> (try simp only [sc, reduceCtorEq, cmpOf] at hb') <;> try (exfalso; omega)) )
      all_goals
        apply Ends.mk (.cons (.tmp rfl) (.cons (.tmp rfl) .nil))
        rfl
    rw [if_neg (by rw [hv2]; simp)] at he
    rw [hv2] at hti
    -- the topic before, if there is one
    obtain ⟨⟨c', t'⟩, hc'⟩ : ∃ p : List UInt8 × List UInt8, (0 < i → T[(i - 1).toNat]? = some p) ∧ (T.getD (i.toNat - 1) ([], [])) = p := by
      refine ⟨_, fun h => ?_, rfl⟩
      rw [show (i - 1).toNat = i.toNat - 1 by omega, List.getD_eq_getElem?_getD, List.getElem?_eq_getElem (by omega)]; rfl
    obtain ⟨hc1, hc2⟩ := hc'
    rw [hc2] at he
    have hrow' : 0 < i → (T.map rowT)[(i - 1).toNat]? = some [.str c', .str t'] := fun h => row_at (f := rowT) (hc1 h)
    by_cases hord : 0 < i.toNat ∧ cmpStr .leq c c' = true
    · rw [if_pos hord] at he
      rw [he, if_neg (by omega), k3] at hcs
      have h1 := hord.2
      have hrow' := hrow' (by omega)
      rw [hcs]
      repeat' (first
        | (apply RunL.step; exact rfl; first | (apply op_sliceS (τ := τ); exact rfl; exact rfl; exact rfl; exact rfl; exact Rd.of rfl; exact Bd.none; exact Bd.some (Rd.of rfl) (Int.toNat_of_nonneg (by omega)).symm; omega; omega; exact rfl) | fail) | (apply RunL.step; exact rfl; apply op_ev (τ := τ); exact rfl; (first | exact hva | exact hti | exact hpa); exact rfl) | (apply RunL.step; exact rfl; exact opA) | (apply RunL.hand; exact rfl; exact rfl; exact lenA; exact rfl) | (apply AWP.seq) | (apply AWP.region; exact rfl) | (apply AWP.block) | (apply AWP.skip) | (apply AWP.exit) | (apply AWP.retF; exact rfl; exact rfl; exact rfl; exact rfl; exact lenA; exact rfl) | (apply AWP.ret) | (apply RunL.nil) | (apply RunL.on; exact rfl; exact rfl; exact rfl; exact rfl; (first | exact rfl | assumption)) | (apply RunL.noU; exact rfl; exact rfl; exact rfl; exact rfl; exact rfl; exact rfl) | (apply RunL.no; exact rfl; exact rfl; exact rfl; exact rfl; (first | exact rfl | assumption); exact rfl; exact rfl) | (refine AWP.cond _ (Rd.of rfl) (fun hc => ?_) (fun hc => ?_) <;> first | (exfalso; cases hc; done) | (have hc' := hc; (try simp only [sc, reduceCtorEq, cmpOf] at hc'); try (exfalso; omega)))
        | (
         apply AWP.drawA
         repeat' (first
           | (apply DL.cons; (try (apply OpLoc.on; exact rfl; exact rfl; exact rfl; exact rfl; (first | exact rfl | assumption))); apply ol_ev (τ := τ); exact rfl; (first | exact hva | exact hti | exact hpa); exact rfl; exact rfl) | (apply DL.cons; exact olA; exact rfl) | (apply DL.nil; kernel_rfl) | (refine DL.split rfl rfl rfl rfl (fun hb => ?_) (fun hb => ?_) <;> have hb' := hb <;> (try simp only [sc, reduceCtorEq, cmpOf] at hb') <;> try (exfalso; omega)))
         all_goals (fail_if_success apply DL.id))
        | (refine RunL.split rfl rfl rfl rfl (fun hb => ?_) (fun hb => ?_) <;> have hb' := hb <;> (try simp only [sc, reduceCtorEq, cmpOf] at hb') <;> try (exfalso; omega)) )
      all_goals first
        | (apply Ends.mk (.cons (.tmp rfl) (.cons (.tmp rfl) .nil)); rfl)
        | (exfalso; simp only [h1, Bool.true_eq_false] at *; done)
    rw [if_neg hord] at he
    have h1 : 0 < i → cmpStr .leq c c' = false := fun h => by
      cases e : cmpStr .leq c c'
      · rfl
      · exact absurd ⟨by omega, e⟩ hord
    have hsl : (((T.map rowT).take i.toNat).drop 0).length = i.toNat := by simp; omega
    cases hp : parOK c
    · have herr : errAt T i.toNat = 0 := by rw [he, if_neg (by rw [hp]; simp)]
      rw [hp] at hpa
      by_cases h0 : 0 < i
      · have h1 := h1 h0
        have hrow' := hrow' h0
        repeat' (first
          | (apply RunL.step; exact rfl; first | (apply op_sliceS (τ := τ); exact rfl; exact rfl; exact rfl; exact rfl; exact Rd.of rfl; exact Bd.none; exact Bd.some (Rd.of rfl) (Int.toNat_of_nonneg (by omega)).symm; omega; omega; exact rfl) | fail) | (apply RunL.step; exact rfl; apply op_ev (τ := τ); exact rfl; (first | exact hva | exact hti | exact hpa); exact rfl) | (apply RunL.step; exact rfl; exact opA) | (apply RunL.hand; exact rfl; exact rfl; exact lenA; exact rfl) | (apply AWP.seq) | (apply AWP.region; exact rfl) | (apply AWP.block) | (apply AWP.skip) | (apply AWP.exit) | (apply AWP.retF; exact rfl; exact rfl; exact rfl; exact rfl; exact lenA; exact rfl) | (apply AWP.ret) | (apply RunL.nil) | (apply RunL.on; exact rfl; exact rfl; exact rfl; exact rfl; (first | exact rfl | assumption)) | (apply RunL.noU; exact rfl; exact rfl; exact rfl; exact rfl; exact rfl; exact rfl) | (apply RunL.no; exact rfl; exact rfl; exact rfl; exact rfl; (first | exact rfl | assumption); exact rfl; exact rfl) | (refine AWP.cond _ (Rd.of rfl) (fun hc => ?_) (fun hc => ?_) <;> first | (exfalso; cases hc; done) | (have hc' := hc; (try simp only [sc, reduceCtorEq, cmpOf] at hc'); try (exfalso; omega)))
          | (
           apply AWP.drawA
           repeat' (first
             | (apply DL.cons; (try (apply OpLoc.on; exact rfl; exact rfl; exact rfl; exact rfl; (first | exact rfl | assumption))); apply ol_ev (τ := τ); exact rfl; (first | exact hva | exact hti | exact hpa); exact rfl; exact rfl) | (apply DL.cons; exact olA; exact rfl) | (apply DL.nil; kernel_rfl) | (refine DL.split rfl rfl rfl rfl (fun hb => ?_) (fun hb => ?_) <;> have hb' := hb <;> (try simp only [sc, reduceCtorEq, cmpOf] at hb') <;> try (exfalso; omega)))
           all_goals (fail_if_success apply DL.id))
          | (refine RunL.split rfl rfl rfl rfl (fun hb => ?_) (fun hb => ?_) <;> have hb' := hb <;> (try simp only [sc, reduceCtorEq, cmpOf] at hb') <;> try (exfalso; omega)) )
        all_goals first
          | (exact ⟨_, St.Le.of (by repeat' (first | exact all_nil | refine all_cons rfl ?_)) (by repeat' (first | exact all_nil | refine all_cons rfl ?_)), ⟨by omega, by omega, by rw [← k3, chk_step k1 hi, if_pos herr]⟩, by omega⟩)
          | (exfalso; simp only [h1, Bool.false_eq_true] at *; done)
      · repeat' (first
        | (apply RunL.step; exact rfl; first | (apply op_sliceS (τ := τ); exact rfl; exact rfl; exact rfl; exact rfl; exact Rd.of rfl; exact Bd.none; exact Bd.some (Rd.of rfl) (Int.toNat_of_nonneg (by omega)).symm; omega; omega; exact rfl) | fail) | (apply RunL.step; exact rfl; apply op_ev (τ := τ); exact rfl; (first | exact hva | exact hti | exact hpa); exact rfl) | (apply RunL.step; exact rfl; exact opA) | (apply RunL.hand; exact rfl; exact rfl; exact lenA; exact rfl) | (apply AWP.seq) | (apply AWP.region; exact rfl) | (apply AWP.block) | (apply AWP.skip) | (apply AWP.exit) | (apply AWP.retF; exact rfl; exact rfl; exact rfl; exact rfl; exact lenA; exact rfl) | (apply AWP.ret) | (apply RunL.nil) | (apply RunL.on; exact rfl; exact rfl; exact rfl; exact rfl; (first | exact rfl | assumption)) | (apply RunL.noU; exact rfl; exact rfl; exact rfl; exact rfl; exact rfl; exact rfl) | (apply RunL.no; exact rfl; exact rfl; exact rfl; exact rfl; (first | exact rfl | assumption); exact rfl; exact rfl) | (refine AWP.cond _ (Rd.of rfl) (fun hc => ?_) (fun hc => ?_) <;> first | (exfalso; cases hc; done) | (have hc' := hc; (try simp only [sc, reduceCtorEq, cmpOf] at hc'); try (exfalso; omega)))
        | (
         apply AWP.drawA
         repeat' (first
           | (apply DL.cons; (try (apply OpLoc.on; exact rfl; exact rfl; exact rfl; exact rfl; (first | exact rfl | assumption))); apply ol_ev (τ := τ); exact rfl; (first | exact hva | exact hti | exact hpa); exact rfl; exact rfl) | (apply DL.cons; exact olA; exact rfl) | (apply DL.nil; kernel_rfl) | (refine DL.split rfl rfl rfl rfl (fun hb => ?_) (fun hb => ?_) <;> have hb' := hb <;> (try simp only [sc, reduceCtorEq, cmpOf] at hb') <;> try (exfalso; omega)))
         all_goals (fail_if_success apply DL.id))
        | (refine RunL.split rfl rfl rfl rfl (fun hb => ?_) (fun hb => ?_) <;> have hb' := hb <;> (try simp only [sc, reduceCtorEq, cmpOf] at hb') <;> try (exfalso; omega)) )
        all_goals
          exact ⟨_, St.Le.of (by repeat' (first | exact all_nil | refine all_cons rfl ?_)) (by repeat' (first | exact all_nil | refine all_cons rfl ?_)), ⟨by omega, by omega, by rw [← k3, chk_step k1 hi, if_pos herr]⟩, by omega⟩
    rw [hp] at hpa
    simp only [hp, true_and] at he
    by_cases h0 : 0 < i
    · have h1 := h1 h0
      have hrow' := hrow' h0
      repeat' (first
        | (apply RunL.step; exact rfl; first | (apply op_sliceS (τ := τ); exact rfl; exact rfl; exact rfl; exact rfl; exact Rd.of rfl; exact Bd.none; exact Bd.some (Rd.of rfl) (Int.toNat_of_nonneg (by omega)).symm; omega; omega; exact rfl) | fail) | (apply RunL.step; exact rfl; apply op_ev (τ := τ); exact rfl; (first | exact hva | exact hti | exact hpa); exact rfl) | (apply RunL.step; exact rfl; exact opA) | (apply RunL.hand; exact rfl; exact rfl; exact lenA; exact rfl) | (apply AWP.seq) | (apply AWP.region; exact rfl) | (apply AWP.block) | (apply AWP.skip) | (apply AWP.exit) | (apply AWP.retF; exact rfl; exact rfl; exact rfl; exact rfl; exact lenA; exact rfl) | (apply AWP.ret) | (apply RunL.nil) | (apply RunL.on; exact rfl; exact rfl; exact rfl; exact rfl; (first | exact rfl | assumption)) | (apply RunL.noU; exact rfl; exact rfl; exact rfl; exact rfl; exact rfl; exact rfl) | (apply RunL.no; exact rfl; exact rfl; exact rfl; exact rfl; (first | exact rfl | assumption); exact rfl; exact rfl) | (refine AWP.cond _ (Rd.of rfl) (fun hc => ?_) (fun hc => ?_) <;> first | (exfalso; cases hc; done) | (have hc' := hc; (try simp only [sc, reduceCtorEq, cmpOf] at hc'); try (exfalso; omega)))
        | (
         apply AWP.drawA
         repeat' (first
           | (apply DL.cons; (try (apply OpLoc.on; exact rfl; exact rfl; exact rfl; exact rfl; (first | exact rfl | assumption))); apply ol_ev (τ := τ); exact rfl; (first | exact hva | exact hti | exact hpa); exact rfl; exact rfl) | (apply DL.cons; exact olA; exact rfl) | (apply DL.nil; kernel_rfl) | (refine DL.split rfl rfl rfl rfl (fun hb => ?_) (fun hb => ?_) <;> have hb' := hb <;> (try simp only [sc, reduceCtorEq, cmpOf] at hb') <;> try (exfalso; omega)))
         all_goals (fail_if_success apply DL.id))
        | (refine RunL.split rfl rfl rfl rfl (fun hb => ?_) (fun hb => ?_) <;> have hb' := hb <;> (try simp only [sc, reduceCtorEq, cmpOf] at hb') <;> try (exfalso; omega)) )
      all_goals first
        | (exfalso; simp only [h1, Bool.false_eq_true] at *; done)
        | skip
      refine AWP.loop (ι := Int) (fun k => ⟨[(0, .val (.sl 2 (T.map rowT))), (4, .val (.int .i64 i)), (6, .val (.str (parS c))), (13, .val (.sl 2 (T.map rowT))), (14, .val (.int .i64 (T.map rowT).length)), (15, .val (.int .i64 i)), (54, .val (.sl 2 (((T.map rowT).take i.toNat).drop 0))), (55, .val (.int .i64 (((T.map rowT).take i.toNat).drop 0).length)), (56, .val (.int .i64 k))], []⟩) (fun k => 0 ≤ k ∧ k ≤ i ∧ ∀ j : Nat, (j : Int) < k → ∀ p, T[j]? = some p → p.1 ≠ parS c) (fun k => (i - k).toNat) 0 ⟨by omega, by omega, fun j hj => by omega⟩ (St.Le.of (by repeat' (first | exact all_nil | refine all_cons rfl ?_)) (by repeat' (first | exact all_nil | refine all_cons rfl ?_))) ?_
      rintro k ⟨j1, j2, j3⟩
      by_cases hk : k < i
      · obtain ⟨⟨c2, t2⟩, hx2⟩ := some_at (l := T) j1 (by omega)
        have hrow2 : (((T.map rowT).take i.toNat).drop 0)[k.toNat]? = some [.str c2, .str t2] := by rw [List.drop_zero, List.getElem?_take, if_pos (by omega)]; exact row_at (f := rowT) hx2
        repeat' (first
          | (apply RunL.step; exact rfl; first | (apply op_sliceS (τ := τ); exact rfl; exact rfl; exact rfl; exact rfl; exact Rd.of rfl; exact Bd.none; exact Bd.some (Rd.of rfl) (Int.toNat_of_nonneg (by omega)).symm; omega; omega; exact rfl) | fail) | (apply RunL.step; exact rfl; apply op_ev (τ := τ); exact rfl; (first | exact hva | exact hti | exact hpa); exact rfl) | (apply RunL.step; exact rfl; exact opA) | (apply RunL.hand; exact rfl; exact rfl; exact lenA; exact rfl) | (apply AWP.seq) | (apply AWP.region; exact rfl) | (apply AWP.block) | (apply AWP.skip) | (apply AWP.exit) | (apply AWP.retF; exact rfl; exact rfl; exact rfl; exact rfl; exact lenA; exact rfl) | (apply AWP.ret) | (apply RunL.nil) | (apply RunL.on; exact rfl; exact rfl; exact rfl; exact rfl; (first | exact rfl | assumption)) | (apply RunL.noU; exact rfl; exact rfl; exact rfl; exact rfl; exact rfl; exact rfl) | (apply RunL.no; exact rfl; exact rfl; exact rfl; exact rfl; (first | exact rfl | assumption); exact rfl; exact rfl) | (refine AWP.cond _ (Rd.of rfl) (fun hc => ?_) (fun hc => ?_) <;> first | (exfalso; cases hc; done) | (have hc' := hc; (try simp only [sc, reduceCtorEq, cmpOf] at hc'); try (exfalso; omega)))
          | (
           apply AWP.drawA
           repeat' (first
             | (apply DL.cons; (try (apply OpLoc.on; exact rfl; exact rfl; exact rfl; exact rfl; (first | exact rfl | assumption))); apply ol_ev (τ := τ); exact rfl; (first | exact hva | exact hti | exact hpa); exact rfl; exact rfl) | (apply DL.cons; exact olA; exact rfl) | (apply DL.nil; kernel_rfl) | (refine DL.split rfl rfl rfl rfl (fun hb => ?_) (fun hb => ?_) <;> have hb' := hb <;> (try simp only [sc, reduceCtorEq, cmpOf] at hb') <;> try (exfalso; omega)))
           all_goals (fail_if_success apply DL.id))
          | (refine RunL.split rfl rfl rfl rfl (fun hb => ?_) (fun hb => ?_) <;> have hb' := hb <;> (try simp only [sc, reduceCtorEq, cmpOf] at hb') <;> try (exfalso; omega)) )
        · have heq := cmp_eql.1 hc'
          have herr : errAt T i.toNat = 0 := by
            rw [he, if_neg]
            intro h
            exact (mem_take_iff (by omega)).1 h k.toNat (by omega) _ hx2 heq
          exact ⟨_, St.Le.of (by repeat' (first | exact all_nil | refine all_cons rfl ?_)) (by repeat' (first | exact all_nil | refine all_cons rfl ?_)), ⟨by omega, by omega, by rw [← k3, chk_step k1 hi, if_pos herr]⟩, by omega⟩
        · refine ⟨k + 1, St.Le.of (by repeat' (first | exact all_nil | refine all_cons rfl ?_)) (by repeat' (first | exact all_nil | refine all_cons rfl ?_)), ⟨by omega, by omega, fun j hj p hp' => ?_⟩, by omega⟩
          by_cases h : (j : Int) < k
          · exact j3 j h p hp'
          · rw [show j = k.toNat by omega, hx2] at hp'
            cases hp'
            exact cmp_eqlF.1 hc'
      · rw [if_pos ((mem_take_iff (by omega)).2 fun j hj p hp' => j3 j (by omega) p hp')] at he
        rw [he, if_neg (by omega), k3] at hcs
        rw [hcs]
        repeat' (first
          | (apply RunL.step; exact rfl; first | (apply op_sliceS (τ := τ); exact rfl; exact rfl; exact rfl; exact rfl; exact Rd.of rfl; exact Bd.none; exact Bd.some (Rd.of rfl) (Int.toNat_of_nonneg (by omega)).symm; omega; omega; exact rfl) | fail) | (apply RunL.step; exact rfl; apply op_ev (τ := τ); exact rfl; (first | exact hva | exact hti | exact hpa); exact rfl) | (apply RunL.step; exact rfl; exact opA) | (apply RunL.hand; exact rfl; exact rfl; exact lenA; exact rfl) | (apply AWP.seq) | (apply AWP.region; exact rfl) | (apply AWP.block) | (apply AWP.skip) | (apply AWP.exit) | (apply AWP.retF; exact rfl; exact rfl; exact rfl; exact rfl; exact lenA; exact rfl) | (apply AWP.ret) | (apply RunL.nil) | (apply RunL.on; exact rfl; exact rfl; exact rfl; exact rfl; (first | exact rfl | assumption)) | (apply RunL.noU; exact rfl; exact rfl; exact rfl; exact rfl; exact rfl; exact rfl) | (apply RunL.no; exact rfl; exact rfl; exact rfl; exact rfl; (first | exact rfl | assumption); exact rfl; exact rfl) | (refine AWP.cond _ (Rd.of rfl) (fun hc => ?_) (fun hc => ?_) <;> first | (exfalso; cases hc; done) | (have hc' := hc; (try simp only [sc, reduceCtorEq, cmpOf] at hc'); try (exfalso; omega)))
          | (
           apply AWP.drawA
           repeat' (first
             | (apply DL.cons; (try (apply OpLoc.on; exact rfl; exact rfl; exact rfl; exact rfl; (first | exact rfl | assumption))); apply ol_ev (τ := τ); exact rfl; (first | exact hva | exact hti | exact hpa); exact rfl; exact rfl) | (apply DL.cons; exact olA; exact rfl) | (apply DL.nil; kernel_rfl) | (refine DL.split rfl rfl rfl rfl (fun hb => ?_) (fun hb => ?_) <;> have hb' := hb <;> (try simp only [sc, reduceCtorEq, cmpOf] at hb') <;> try (exfalso; omega)))
           all_goals (fail_if_success apply DL.id))
          | (refine RunL.split rfl rfl rfl rfl (fun hb => ?_) (fun hb => ?_) <;> have hb' := hb <;> (try simp only [sc, reduceCtorEq, cmpOf] at hb') <;> try (exfalso; omega)) )
        all_goals
          apply Ends.mk (.cons (.tmp rfl) (.cons (.tmp rfl) .nil))
          rfl
    · repeat' (first
      | (apply RunL.step; exact rfl; first | (apply op_sliceS (τ := τ); exact rfl; exact rfl; exact rfl; exact rfl; exact Rd.of rfl; exact Bd.none; exact Bd.some (Rd.of rfl) (Int.toNat_of_nonneg (by omega)).symm; omega; omega; exact rfl) | fail) | (apply RunL.step; exact rfl; apply op_ev (τ := τ); exact rfl; (first | exact hva | exact hti | exact hpa); exact rfl) | (apply RunL.step; exact rfl; exact opA) | (apply RunL.hand; exact rfl; exact rfl; exact lenA; exact rfl) | (apply AWP.seq) | (apply AWP.region; exact rfl) | (apply AWP.block) | (apply AWP.skip) | (apply AWP.exit) | (apply AWP.retF; exact rfl; exact rfl; exact rfl; exact rfl; exact lenA; exact rfl) | (apply AWP.ret) | (apply RunL.nil) | (apply RunL.on; exact rfl; exact rfl; exact rfl; exact rfl; (first | exact rfl | assumption)) | (apply RunL.noU; exact rfl; exact rfl; exact rfl; exact rfl; exact rfl; exact rfl) | (apply RunL.no; exact rfl; exact rfl; exact rfl; exact rfl; (first | exact rfl | assumption); exact rfl; exact rfl) | (refine AWP.cond _ (Rd.of rfl) (fun hc => ?_) (fun hc => ?_) <;> first | (exfalso; cases hc; done) | (have hc' := hc; (try simp only [sc, reduceCtorEq, cmpOf] at hc'); try (exfalso; omega)))
      | (
       apply AWP.drawA
       repeat' (first
         | (apply DL.cons; (try (apply OpLoc.on; exact rfl; exact rfl; exact rfl; exact rfl; (first | exact rfl | assumption))); apply ol_ev (τ := τ); exact rfl; (first | exact hva | exact hti | exact hpa); exact rfl; exact rfl) | (apply DL.cons; exact olA; exact rfl) | (apply DL.nil; kernel_rfl) | (refine DL.split rfl rfl rfl rfl (fun hb => ?_) (fun hb => ?_) <;> have hb' := hb <;> (try simp only [sc, reduceCtorEq, cmpOf] at hb') <;> try (exfalso; omega)))
       all_goals (fail_if_success apply DL.id))
      | (refine RunL.split rfl rfl rfl rfl (fun hb => ?_) (fun hb => ?_) <;> have hb' := hb <;> (try simp only [sc, reduceCtorEq, cmpOf] at hb') <;> try (exfalso; omega)) )
      refine AWP.loop (ι := Int) (fun k => ⟨[(0, .val (.sl 2 (T.map rowT))), (4, .val (.int .i64 i)), (6, .val (.str (parS c))), (13, .val (.sl 2 (T.map rowT))), (14, .val (.int .i64 (T.map rowT).length)), (15, .val (.int .i64 i)), (54, .val (.sl 2 (((T.map rowT).take i.toNat).drop 0))), (55, .val (.int .i64 (((T.map rowT).take i.toNat).drop 0).length)), (56, .val (.int .i64 k))], []⟩) (fun k => 0 ≤ k ∧ k ≤ i ∧ ∀ j : Nat, (j : Int) < k → ∀ p, T[j]? = some p → p.1 ≠ parS c) (fun k => (i - k).toNat) 0 ⟨by omega, by omega, fun j hj => by omega⟩ (St.Le.of (by repeat' (first | exact all_nil | refine all_cons rfl ?_)) (by repeat' (first | exact all_nil | refine all_cons rfl ?_))) ?_
      rintro k ⟨j1, j2, j3⟩
      rw [if_pos ((mem_take_iff (by omega)).2 fun j hj p hp' => j3 j (by omega) p hp')] at he
      rw [he, if_neg (by omega), k3] at hcs
      rw [hcs]
      repeat' (first
        | (apply RunL.step; exact rfl; first | (apply op_sliceS (τ := τ); exact rfl; exact rfl; exact rfl; exact rfl; exact Rd.of rfl; exact Bd.none; exact Bd.some (Rd.of rfl) (Int.toNat_of_nonneg (by omega)).symm; omega; omega; exact rfl) | fail) | (apply RunL.step; exact rfl; apply op_ev (τ := τ); exact rfl; (first | exact hva | exact hti | exact hpa); exact rfl) | (apply RunL.step; exact rfl; exact opA) | (apply RunL.hand; exact rfl; exact rfl; exact lenA; exact rfl) | (apply AWP.seq) | (apply AWP.region; exact rfl) | (apply AWP.block) | (apply AWP.skip) | (apply AWP.exit) | (apply AWP.retF; exact rfl; exact rfl; exact rfl; exact rfl; exact lenA; exact rfl) | (apply AWP.ret) | (apply RunL.nil) | (apply RunL.on; exact rfl; exact rfl; exact rfl; exact rfl; (first | exact rfl | assumption)) | (apply RunL.noU; exact rfl; exact rfl; exact rfl; exact rfl; exact rfl; exact rfl) | (apply RunL.no; exact rfl; exact rfl; exact rfl; exact rfl; (first | exact rfl | assumption); exact rfl; exact rfl) | (refine AWP.cond _ (Rd.of rfl) (fun hc => ?_) (fun hc => ?_) <;> first | (exfalso; cases hc; done) | (have hc' := hc; (try simp only [sc, reduceCtorEq, cmpOf] at hc'); try (exfalso; omega)))
        | (
         apply AWP.drawA
         repeat' (first
           | (apply DL.cons; (try (apply OpLoc.on; exact rfl; exact rfl; exact rfl; exact rfl; (first | exact rfl | assumption))); apply ol_ev (τ := τ); exact rfl; (first | exact hva | exact hti | exact hpa); exact rfl; exact rfl) | (apply DL.cons; exact olA; exact rfl) | (apply DL.nil; kernel_rfl) | (refine DL.split rfl rfl rfl rfl (fun hb => ?_) (fun hb => ?_) <;> have hb' := hb <;> (try simp only [sc, reduceCtorEq, cmpOf] at hb') <;> try (exfalso; omega)))
         all_goals (fail_if_success apply DL.id))
        | (refine RunL.split rfl rfl rfl rfl (fun hb => ?_) (fun hb => ?_) <;> have hb' := hb <;> (try simp only [sc, reduceCtorEq, cmpOf] at hb') <;> try (exfalso; omega)) )
      all_goals
        apply Ends.mk (.cons (.tmp rfl) (.cons (.tmp rfl) .nil))
        rfl
  · have e : chk T 0 T.length = (0, 0) := by rw [← k3, show T.length - i.toNat = 0 by omega]; rfl
    rw [e]
    repeat' (first
      | (apply RunL.step; exact rfl; first | (apply op_sliceS (τ := τ); exact rfl; exact rfl; exact rfl; exact rfl; exact Rd.of rfl; exact Bd.none; exact Bd.some (Rd.of rfl) (Int.toNat_of_nonneg (by omega)).symm; omega; omega; exact rfl) | fail) | (apply RunL.step; exact rfl; apply op_ev (τ := τ); exact rfl; (first | exact hva | exact hti | exact hpa); exact rfl) | (apply RunL.step; exact rfl; exact opA) | (apply RunL.hand; exact rfl; exact rfl; exact lenA; exact rfl) | (apply AWP.seq) | (apply AWP.region; exact rfl) | (apply AWP.block) | (apply AWP.skip) | (apply AWP.exit) | (apply AWP.retF; exact rfl; exact rfl; exact rfl; exact rfl; exact lenA; exact rfl) | (apply AWP.ret) | (apply RunL.nil) | (apply RunL.on; exact rfl; exact rfl; exact rfl; exact rfl; (first | exact rfl | assumption)) | (apply RunL.noU; exact rfl; exact rfl; exact rfl; exact rfl; exact rfl; exact rfl) | (apply RunL.no; exact rfl; exact rfl; exact rfl; exact rfl; (first | exact rfl | assumption); exact rfl; exact rfl) | (refine AWP.cond _ (Rd.of rfl) (fun hc => ?_) (fun hc => ?_) <;> first | (exfalso; cases hc; done) | (have hc' := hc; (try simp only [sc, reduceCtorEq, cmpOf] at hc'); try (exfalso; omega)))
      | (
       apply AWP.drawA
       repeat' (first
         | (apply DL.cons; (try (apply OpLoc.on; exact rfl; exact rfl; exact rfl; exact rfl; (first | exact rfl | assumption))); apply ol_ev (τ := τ); exact rfl; (first | exact hva | exact hti | exact hpa); exact rfl; exact rfl) | (apply DL.cons; exact olA; exact rfl) | (apply DL.nil; kernel_rfl) | (refine DL.split rfl rfl rfl rfl (fun hb => ?_) (fun hb => ?_) <;> have hb' := hb <;> (try simp only [sc, reduceCtorEq, cmpOf] at hb') <;> try (exfalso; omega)))
       all_goals (fail_if_success apply DL.id))
      | (refine RunL.split rfl rfl rfl rfl (fun hb => ?_) (fun hb => ?_) <;> have hb' := hb <;> (try simp only [sc, reduceCtorEq, cmpOf] at hb') <;> try (exfalso; omega)) )
    all_goals
      apply Ends.mk (.cons (.tmp rfl) (.cons (.tmp rfl) .nil))
      rfl
theorem r13has (T : List (List UInt8 × List UInt8)) (code : List UInt8) : Evals Try.prog 30 [.sl 2 (T.map rowT), .str code] (.bool (decide (code ∈ T.map (·.1)))) := by
  refine evals_of_awp Try.func30 rfl (CallOK.of Try.func30 (by kernel_rfl) rfl) (Nat.le_of_ble_eq_true rfl) ?_
  rintro w R hR ⟨vs, hv⟩
  have hlen := hv.slen 0 rfl
  simp only [maxLen, List.length_map] at hlen
  have hml : (T.map rowT).length = T.length := by simp
  repeat' (first
    | (apply RunL.step; exact rfl; exact opA) | (apply RunL.hand; exact rfl; exact rfl; exact lenA; exact rfl) | (apply AWP.seq) | (apply AWP.region; exact rfl) | (apply AWP.block) | (apply AWP.skip) | (apply AWP.exit) | (apply AWP.retF; exact rfl; exact rfl; exact rfl; exact rfl; exact lenA; exact rfl) | (apply AWP.ret) | (apply RunL.nil) | (apply RunL.on; exact rfl; exact rfl; exact rfl; exact rfl; (first | exact rfl | assumption)) | (apply RunL.noU; exact rfl; exact rfl; exact rfl; exact rfl; exact rfl; exact rfl) | (apply RunL.no; exact rfl; exact rfl; exact rfl; exact rfl; (first | exact rfl | assumption); exact rfl; exact rfl) | (refine AWP.cond _ (Rd.of rfl) (fun hc => ?_) (fun hc => ?_) <;> first | (exfalso; cases hc; done) | (have hc' := hc; (try simp only [sc, reduceCtorEq, cmpOf] at hc'); try (exfalso; omega)))
    | (
     apply AWP.drawA
     repeat' (first
       | (apply DL.cons; (try (apply OpLoc.on; exact rfl; exact rfl; exact rfl; exact rfl; (first | exact rfl | assumption))); apply ol_ev (τ := τ); exact rfl; (fail); exact rfl; exact rfl) | (apply DL.cons; exact olA; exact rfl) | (apply DL.nil; kernel_rfl) | (refine DL.split rfl rfl rfl rfl (fun hb => ?_) (fun hb => ?_) <;> have hb' := hb <;> (try simp only [sc, reduceCtorEq, cmpOf] at hb') <;> try (exfalso; omega)))
     all_goals (fail_if_success apply DL.id))
    | (refine RunL.split rfl rfl rfl rfl (fun hb => ?_) (fun hb => ?_) <;> have hb' := hb <;> (try simp only [sc, reduceCtorEq, cmpOf] at hb') <;> try (exfalso; omega)) )
  refine AWP.loop (ι := Int) (fun i => ⟨[(0, .val (.sl 2 (T.map rowT))), (1, .val (.str code)), (5, .val (.int .i64 i))], []⟩) (fun i => 0 ≤ i ∧ i ≤ T.length ∧ ∀ j : Nat, (j : Int) < i → ∀ p, T[j]? = some p → p.1 ≠ code) (fun i => T.length - i.toNat) 0 ⟨by omega, by omega, fun j h => by omega⟩ (St.Le.of (by repeat' (first | exact all_nil | refine all_cons rfl ?_)) (by repeat' (first | exact all_nil | refine all_cons rfl ?_))) ?_
  rintro i ⟨k1, k2, k3⟩
  by_cases hi : i < T.length
  · obtain ⟨⟨c, t⟩, hx⟩ := some_at k1 hi
    have hrow : (T.map rowT)[i.toNat]? = some [.str c, .str t] := row_at (f := rowT) hx
    repeat' (first
      | (apply RunL.step; exact rfl; exact opA) | (apply RunL.hand; exact rfl; exact rfl; exact lenA; exact rfl) | (apply AWP.seq) | (apply AWP.region; exact rfl) | (apply AWP.block) | (apply AWP.skip) | (apply AWP.exit) | (apply AWP.retF; exact rfl; exact rfl; exact rfl; exact rfl; exact lenA; exact rfl) | (apply AWP.ret) | (apply RunL.nil) | (apply RunL.on; exact rfl; exact rfl; exact rfl; exact rfl; (first | exact rfl | assumption)) | (apply RunL.noU; exact rfl; exact rfl; exact rfl; exact rfl; exact rfl; exact rfl) | (apply RunL.no; exact rfl; exact rfl; exact rfl; exact rfl; (first | exact rfl | assumption); exact rfl; exact rfl) | (refine AWP.cond _ (Rd.of rfl) (fun hc => ?_) (fun hc => ?_) <;> first | (exfalso; cases hc; done) | (have hc' := hc; (try simp only [sc, reduceCtorEq, cmpOf] at hc'); try (exfalso; omega)))
      | (
       apply AWP.drawA
       repeat' (first
         | (apply DL.cons; (try (apply OpLoc.on; exact rfl; exact rfl; exact rfl; exact rfl; (first | exact rfl | assumption))); apply ol_ev (τ := τ); exact rfl; (fail); exact rfl; exact rfl) | (apply DL.cons; exact olA; exact rfl) | (apply DL.nil; kernel_rfl) | (refine DL.split rfl rfl rfl rfl (fun hb => ?_) (fun hb => ?_) <;> have hb' := hb <;> (try simp only [sc, reduceCtorEq, cmpOf] at hb') <;> try (exfalso; omega)))
       all_goals (fail_if_success apply DL.id))
      | (refine RunL.split rfl rfl rfl rfl (fun hb => ?_) (fun hb => ?_) <;> have hb' := hb <;> (try simp only [sc, reduceCtorEq, cmpOf] at hb') <;> try (exfalso; omega)) )
    · apply Ends.mk (.cons (.tmp rfl) .nil)
      have := cmp_eql.1 hc'
      subst this
      rw [decide_eq_true (List.mem_map.2 ⟨(c, t), List.mem_of_getElem? hx, rfl⟩)]; rfl
    · refine ⟨_, St.Le.of (by repeat' (first | exact all_nil | refine all_cons rfl ?_)) (by repeat' (first | exact all_nil | refine all_cons rfl ?_)), ⟨by omega, by omega, fun j hj p hp => ?_⟩, by omega⟩
      by_cases h : (j : Int) < i
      · exact k3 j h p hp
      · rw [show j = i.toNat by omega, hx] at hp
        cases hp
        exact cmp_eqlF.1 hc'
  · repeat' (first
    | (apply RunL.step; exact rfl; exact opA) | (apply RunL.hand; exact rfl; exact rfl; exact lenA; exact rfl) | (apply AWP.seq) | (apply AWP.region; exact rfl) | (apply AWP.block) | (apply AWP.skip) | (apply AWP.exit) | (apply AWP.retF; exact rfl; exact rfl; exact rfl; exact rfl; exact lenA; exact rfl) | (apply AWP.ret) | (apply RunL.nil) | (apply RunL.on; exact rfl; exact rfl; exact rfl; exact rfl; (first | exact rfl | assumption)) | (apply RunL.noU; exact rfl; exact rfl; exact rfl; exact rfl; exact rfl; exact rfl) | (apply RunL.no; exact rfl; exact rfl; exact rfl; exact rfl; (first | exact rfl | assumption); exact rfl; exact rfl) | (refine AWP.cond _ (Rd.of rfl) (fun hc => ?_) (fun hc => ?_) <;> first | (exfalso; cases hc; done) | (have hc' := hc; (try simp only [sc, reduceCtorEq, cmpOf] at hc'); try (exfalso; omega)))
    | (
     apply AWP.drawA
     repeat' (first
       | (apply DL.cons; (try (apply OpLoc.on; exact rfl; exact rfl; exact rfl; exact rfl; (first | exact rfl | assumption))); apply ol_ev (τ := τ); exact rfl; (fail); exact rfl; exact rfl) | (apply DL.cons; exact olA; exact rfl) | (apply DL.nil; kernel_rfl) | (refine DL.split rfl rfl rfl rfl (fun hb => ?_) (fun hb => ?_) <;> have hb' := hb <;> (try simp only [sc, reduceCtorEq, cmpOf] at hb') <;> try (exfalso; omega)))
     all_goals (fail_if_success apply DL.id))
    | (refine RunL.split rfl rfl rfl rfl (fun hb => ?_) (fun hb => ?_) <;> have hb' := hb <;> (try simp only [sc, reduceCtorEq, cmpOf] at hb') <;> try (exfalso; omega)) )
    apply Ends.mk (.cons (.tmp rfl) .nil)
    rw [decide_eq_false (fun h => by
      obtain ⟨p, hp, rfl⟩ := List.mem_map.1 h
      obtain ⟨j, hj⟩ := List.mem_iff_getElem?.1 hp
      have := (List.getElem?_eq_some_iff.1 hj).1
      exact k3 j (by omega) p hj rfl)]; rfl
theorem llisted (T : List (List UInt8 × List UInt8)) (C : List (List UInt8)) : Evals Try.prog 24 [.sl 2 (T.map rowT), .sl 1 (C.map rowS)] (.bool (decide (∀ c ∈ C, c ∈ T.map (·.1)))) := by
  refine evals_of_awp Try.func24 rfl (CallOK.of Try.func24 (by kernel_rfl) rfl) (Nat.le_of_ble_eq_true rfl) ?_
  rintro w R hR ⟨vs, hv⟩
  have hlen := hv.slen 1 rfl
  simp only [maxLen, List.length_map] at hlen
  have hml : (C.map rowS).length = C.length := by simp
  repeat' (first
    | (apply RunL.step; exact rfl; apply op_ev (τ := τ); exact rfl; (first | exact hH); exact rfl) | (apply RunL.step; exact rfl; exact opA) | (apply RunL.hand; exact rfl; exact rfl; exact lenA; exact rfl) | (apply AWP.seq) | (apply AWP.region; exact rfl) | (apply AWP.block) | (apply AWP.skip) | (apply AWP.exit) | (apply AWP.retF; exact rfl; exact rfl; exact rfl; exact rfl; exact lenA; exact rfl) | (apply AWP.ret) | (apply RunL.nil) | (apply RunL.on; exact rfl; exact rfl; exact rfl; exact rfl; (first | exact rfl | assumption)) | (apply RunL.noU; exact rfl; exact rfl; exact rfl; exact rfl; exact rfl; exact rfl) | (apply RunL.no; exact rfl; exact rfl; exact rfl; exact rfl; (first | exact rfl | assumption); exact rfl; exact rfl) | (refine AWP.cond _ (Rd.of rfl) (fun hc => ?_) (fun hc => ?_) <;> first | (exfalso; cases hc; done) | (have hc' := hc; (try simp only [sc, reduceCtorEq, cmpOf] at hc'); try (exfalso; omega)))
    | (
     apply AWP.drawA
     repeat' (first
       | (apply DL.cons; (try (apply OpLoc.on; exact rfl; exact rfl; exact rfl; exact rfl; (first | exact rfl | assumption))); apply ol_ev (τ := τ); exact rfl; (first | exact hH); exact rfl; exact rfl) | (apply DL.cons; exact olA; exact rfl) | (apply DL.nil; kernel_rfl) | (refine DL.split rfl rfl rfl rfl (fun hb => ?_) (fun hb => ?_) <;> have hb' := hb <;> (try simp only [sc, reduceCtorEq, cmpOf] at hb') <;> try (exfalso; omega)))
     all_goals (fail_if_success apply DL.id))
    | (refine RunL.split rfl rfl rfl rfl (fun hb => ?_) (fun hb => ?_) <;> have hb' := hb <;> (try simp only [sc, reduceCtorEq, cmpOf] at hb') <;> try (exfalso; omega)) )
  refine AWP.loop (ι := Int) (fun i => ⟨[(0, .val (.sl 2 (T.map rowT))), (1, .val (.sl 1 (C.map rowS))), (5, .val (.int .i64 i))], []⟩) (fun i => 0 ≤ i ∧ i ≤ C.length ∧ ∀ j : Nat, (j : Int) < i → ∀ c, C[j]? = some c → c ∈ T.map (·.1)) (fun i => C.length - i.toNat) 0 ⟨by omega, by omega, fun j h => by omega⟩ (St.Le.of (by repeat' (first | exact all_nil | refine all_cons rfl ?_)) (by repeat' (first | exact all_nil | refine all_cons rfl ?_))) ?_
  rintro i ⟨k1, k2, k3⟩
  by_cases hi : i < C.length
  · obtain ⟨c, hx⟩ := some_at k1 hi
    have hrow : (C.map rowS)[i.toNat]? = some [.str c] := row_at (f := rowS) hx
    have hH := r13has T c
    by_cases hm : c ∈ T.map (·.1)
    · rw [decide_eq_true hm] at hH
      repeat' (first
        | (apply RunL.step; exact rfl; apply op_ev (τ := τ); exact rfl; (first | exact hH); exact rfl) | (apply RunL.step; exact rfl; exact opA) | (apply RunL.hand; exact rfl; exact rfl; exact lenA; exact rfl) | (apply AWP.seq) | (apply AWP.region; exact rfl) | (apply AWP.block) | (apply AWP.skip) | (apply AWP.exit) | (apply AWP.retF; exact rfl; exact rfl; exact rfl; exact rfl; exact lenA; exact rfl) | (apply AWP.ret) | (apply RunL.nil) | (apply RunL.on; exact rfl; exact rfl; exact rfl; exact rfl; (first | exact rfl | assumption)) | (apply RunL.noU; exact rfl; exact rfl; exact rfl; exact rfl; exact rfl; exact rfl) | (apply RunL.no; exact rfl; exact rfl; exact rfl; exact rfl; (first | exact rfl | assumption); exact rfl; exact rfl) | (refine AWP.cond _ (Rd.of rfl) (fun hc => ?_) (fun hc => ?_) <;> first | (exfalso; cases hc; done) | (have hc' := hc; (try simp only [sc, reduceCtorEq, cmpOf] at hc'); try (exfalso; omega)))
        | (
         apply AWP.drawA
         repeat' (first
           | (apply DL.cons; (try (apply OpLoc.on; exact rfl; exact rfl; exact rfl; exact rfl; (first | exact rfl | assumption))); apply ol_ev (τ := τ); exact rfl; (first | exact hH); exact rfl; exact rfl) | (apply DL.cons; exact olA; exact rfl) | (apply DL.nil; kernel_rfl) | (refine DL.split rfl rfl rfl rfl (fun hb => ?_) (fun hb => ?_) <;> have hb' := hb <;> (try simp only [sc, reduceCtorEq, cmpOf] at hb') <;> try (exfalso; omega)))
         all_goals (fail_if_success apply DL.id))
        | (refine RunL.split rfl rfl rfl rfl (fun hb => ?_) (fun hb => ?_) <;> have hb' := hb <;> (try simp only [sc, reduceCtorEq, cmpOf] at hb') <;> try (exfalso; omega)) )
      all_goals
        refine ⟨_, St.Le.of (by repeat' (first | exact all_nil | refine all_cons rfl ?_)) (by repeat' (first | exact all_nil | refine all_cons rfl ?_)), ⟨by omega, by omega, fun j hj p hp => ?_⟩, by omega⟩
        by_cases h : (j : Int) < i
        · exact k3 j h p hp
        · rw [show j = i.toNat by omega, hx] at hp
          cases hp
          exact hm
    · rw [decide_eq_false hm] at hH
      rw [decide_eq_false (fun h => hm (h c (List.mem_of_getElem? hx)))]
      repeat' (first
        | (apply RunL.step; exact rfl; apply op_ev (τ := τ); exact rfl; (first | exact hH); exact rfl) | (apply RunL.step; exact rfl; exact opA) | (apply RunL.hand; exact rfl; exact rfl; exact lenA; exact rfl) | (apply AWP.seq) | (apply AWP.region; exact rfl) | (apply AWP.block) | (apply AWP.skip) | (apply AWP.exit) | (apply AWP.retF; exact rfl; exact rfl; exact rfl; exact rfl; exact lenA; exact rfl) | (apply AWP.ret) | (apply RunL.nil) | (apply RunL.on; exact rfl; exact rfl; exact rfl; exact rfl; (first | exact rfl | assumption)) | (apply RunL.noU; exact rfl; exact rfl; exact rfl; exact rfl; exact rfl; exact rfl) | (apply RunL.no; exact rfl; exact rfl; exact rfl; exact rfl; (first | exact rfl | assumption); exact rfl; exact rfl) | (refine AWP.cond _ (Rd.of rfl) (fun hc => ?_) (fun hc => ?_) <;> first | (exfalso; cases hc; done) | (have hc' := hc; (try simp only [sc, reduceCtorEq, cmpOf] at hc'); try (exfalso; omega)))
        | (
         apply AWP.drawA
         repeat' (first
           | (apply DL.cons; (try (apply OpLoc.on; exact rfl; exact rfl; exact rfl; exact rfl; (first | exact rfl | assumption))); apply ol_ev (τ := τ); exact rfl; (first | exact hH); exact rfl; exact rfl) | (apply DL.cons; exact olA; exact rfl) | (apply DL.nil; kernel_rfl) | (refine DL.split rfl rfl rfl rfl (fun hb => ?_) (fun hb => ?_) <;> have hb' := hb <;> (try simp only [sc, reduceCtorEq, cmpOf] at hb') <;> try (exfalso; omega)))
         all_goals (fail_if_success apply DL.id))
        | (refine RunL.split rfl rfl rfl rfl (fun hb => ?_) (fun hb => ?_) <;> have hb' := hb <;> (try simp only [sc, reduceCtorEq, cmpOf] at hb') <;> try (exfalso; omega)) )
      all_goals
        first   | (apply Ends.mk (.cons (.tmp rfl) .nil); first | rfl | (simp only [pack]; congr 1; simp only [cmpOf, decide_eq_true_eq, beq_iff_eq, bne_iff_ne]; omega))   | (apply Ends.mk (.cons (.tmp rfl) .nil); simp only [pack]; congr 1; simp only [cmpOf, sc]; omega)   | (exfalso; first | omega | (simp only [*, Bool.true_eq_false, Bool.false_eq_true, reduceCtorEq] at *; done) | grind)
  · repeat' (first
    | (apply RunL.step; exact rfl; apply op_ev (τ := τ); exact rfl; (first | exact hH); exact rfl) | (apply RunL.step; exact rfl; exact opA) | (apply RunL.hand; exact rfl; exact rfl; exact lenA; exact rfl) | (apply AWP.seq) | (apply AWP.region; exact rfl) | (apply AWP.block) | (apply AWP.skip) | (apply AWP.exit) | (apply AWP.retF; exact rfl; exact rfl; exact rfl; exact rfl; exact lenA; exact rfl) | (apply AWP.ret) | (apply RunL.nil) | (apply RunL.on; exact rfl; exact rfl; exact rfl; exact rfl; (first | exact rfl | assumption)) | (apply RunL.noU; exact rfl; exact rfl; exact rfl; exact rfl; exact rfl; exact rfl) | (apply RunL.no; exact rfl; exact rfl; exact rfl; exact rfl; (first | exact rfl | assumption); exact rfl; exact rfl) | (refine AWP.cond _ (Rd.of rfl) (fun hc => ?_) (fun hc => ?_) <;> first | (exfalso; cases hc; done) | (have hc' := hc; (try simp only [sc, reduceCtorEq, cmpOf] at hc'); try (exfalso; omega)))
    | (
     apply AWP.drawA
     repeat' (first
       | (apply DL.cons; (try (apply OpLoc.on; exact rfl; exact rfl; exact rfl; exact rfl; (first | exact rfl | assumption))); apply ol_ev (τ := τ); exact rfl; (first | exact hH); exact rfl; exact rfl) | (apply DL.cons; exact olA; exact rfl) | (apply DL.nil; kernel_rfl) | (refine DL.split rfl rfl rfl rfl (fun hb => ?_) (fun hb => ?_) <;> have hb' := hb <;> (try simp only [sc, reduceCtorEq, cmpOf] at hb') <;> try (exfalso; omega)))
     all_goals (fail_if_success apply DL.id))
    | (refine RunL.split rfl rfl rfl rfl (fun hb => ?_) (fun hb => ?_) <;> have hb' := hb <;> (try simp only [sc, reduceCtorEq, cmpOf] at hb') <;> try (exfalso; omega)) )
    apply Ends.mk (.cons (.tmp rfl) .nil)
    rw [decide_eq_true (fun c hc => by
      obtain ⟨j, hj⟩ := List.mem_iff_getElem?.1 hc
      have := (List.getElem?_eq_some_iff.1 hj).1
      exact k3 j (by omega) c hj)]; rfl
end Go.Proofs.Ytglakdnhjpakkaa.K
