/- Walks: the parsers of integers and ratios, and those of the references. -/
import Derived.Test.YtalaciffklejkaaDoorWalkS
import Derived.Test.YtalaciffklejkaaDoorWalkO
namespace Go.Proofs.YtalaciffklejkaaDoor.K
open Go
set_option linter.unusedVariables false
set_option linter.unusedSimpArgs false

theorem r1parse (l : List UInt8) : Evals Tryd.prog 37 [.str l] (.tup [.ints .u32 (limbs (natV l)), .int .i64 (natE l)]) := by
  refine evals_of_awp Tryd.func37 rfl (CallOK.of Tryd.func37 (by kernel_rfl) rfl) (Nat.le_of_ble_eq_true rfl) ?_
  rintro w R hR ⟨vs, hv⟩
  have hl := hv.str 0 rfl
  have c0 : 0 ≤ ((ixb l 0).toNat : Int) ∧ ((ixb l 0).toNat : Int) < 256 := chr_bound l 0
  by_cases h0 : l = []
  · have hE : natE l = 2 := by rw [natE, if_pos (.inl h0)]
    have hb := natV_bad hE (by omega)
    rw [hb, hE]
    subst h0
    repeat' (first
      | (apply RunL.step; exact rfl; first
        | fail)
      | (apply RunL.step; exact rfl; apply op_ev (τ := τ); exact rfl; (first | exact r1norm | exact r1cmp | exact r1add | exact r1sub | exact r1mul | exact r1bits | exact r1divp | exact r1div | exact r1gcd | exact r1of _ | exact r1limb _ _); exact rfl)
      | (apply RunL.step; exact rfl; exact opA)
      | (apply RunL.hand; exact rfl; exact rfl; exact lenA; exact rfl)
      | (apply AWP.seq)
      | (apply AWP.region; exact rfl)
      | (apply AWP.block)
      | (apply AWP.skip)
      | (apply AWP.exit)
      | (apply AWP.retF; exact rfl; exact rfl; exact rfl; exact rfl; exact lenA; exact rfl)
      | (apply AWP.ret)
      | (apply RunL.nil)
      | (apply RunL.on; exact rfl; exact rfl; exact rfl; exact rfl; (first | exact rfl | assumption))
      | (apply RunL.noU; exact rfl; exact rfl; exact rfl; exact rfl; exact rfl; exact rfl)
      | (apply RunL.no; exact rfl; exact rfl; exact rfl; exact rfl; (first | exact rfl | assumption); exact rfl; exact rfl)
      | (refine AWP.cond _ (Rd.of rfl) (fun hc => ?_) (fun hc => ?_) <;> first | (exfalso; cases hc; done) | (have hc' := hc; (try simp only [decide_eq_true_eq, decide_eq_false_iff_not, Bool.not_true, Bool.not_false, bne_self_eq_false, beq_self_eq_true, ne_self_iff_false, Bool.true_bne, Bool.false_bne, Bool.true_beq, Bool.false_beq, Bool.false_eq_true, Bool.true_eq_false, reduceCtorEq, Bool.not_eq_true', Bool.not_eq_false', beq_iff_eq, bne_iff_ne, beq_eq_false_iff_ne, bne_eq_false_iff_eq, cmpOf] at hc'); try (exfalso; omega)))
      | (
        apply AWP.drawA
        repeat' (first
          | (apply DL.cons; (try (apply OpLoc.on; exact rfl; exact rfl; exact rfl; exact rfl; (first | exact rfl | assumption))); apply ol_ev (τ := τ); exact rfl; (first | exact r1norm | exact r1cmp | exact r1add | exact r1sub | exact r1mul | exact r1bits | exact r1divp | exact r1div | exact r1gcd | exact r1of _ | exact r1limb _ _); exact rfl; exact rfl)
          | (apply DL.cons; exact olA; exact rfl)
          | (apply DL.nil; kernel_rfl)
          | (refine DL.split rfl rfl rfl rfl (fun hb => ?_) (fun hb => ?_) <;> have hb' := hb <;> (try simp only [decide_eq_true_eq, decide_eq_false_iff_not, Bool.not_true, Bool.not_false, bne_self_eq_false, beq_self_eq_true, ne_self_iff_false, Bool.true_bne, Bool.false_bne, Bool.true_beq, Bool.false_beq, Bool.false_eq_true, Bool.true_eq_false, reduceCtorEq, Bool.not_eq_true', Bool.not_eq_false', beq_iff_eq, bne_iff_ne, beq_eq_false_iff_ne, bne_eq_false_iff_eq, cmpOf] at hb') <;> try (exfalso; omega)))
        all_goals (fail_if_success apply DL.id))
      | (refine RunL.split rfl rfl rfl rfl (fun hb => ?_) (fun hb => ?_) <;> have hb' := hb <;> (try simp only [decide_eq_true_eq, decide_eq_false_iff_not, Bool.not_true, Bool.not_false, bne_self_eq_false, beq_self_eq_true, ne_self_iff_false, Bool.true_bne, Bool.false_bne, Bool.true_beq, Bool.false_beq, Bool.false_eq_true, Bool.true_eq_false, reduceCtorEq, Bool.not_eq_true', Bool.not_eq_false', beq_iff_eq, bne_iff_ne, beq_eq_false_iff_ne, bne_eq_false_iff_eq, cmpOf] at hb') <;> try (exfalso; omega))
      )
    all_goals first
      | (apply Ends.mk (.cons (.tmp rfl) (.cons (.tmp rfl) .nil)); rfl)
      | (exfalso; simp [cmpOf] at *; done)
  have hlen : 0 < l.length := List.length_pos_iff.2 h0
  by_cases h1 : 1 < l.length ∧ ((ixb l 0).toNat : Int) = 48
  · have hE : natE l = 2 := by rw [natE, if_pos (.inr h1)]
    have hb := natV_bad hE (by omega)
    rw [hb, hE]
    obtain ⟨h2, h3⟩ := h1
    repeat' (first
      | (apply RunL.step; exact rfl; first
        | fail)
      | (apply RunL.step; exact rfl; apply op_ev (τ := τ); exact rfl; (first | exact r1norm | exact r1cmp | exact r1add | exact r1sub | exact r1mul | exact r1bits | exact r1divp | exact r1div | exact r1gcd | exact r1of _ | exact r1limb _ _); exact rfl)
      | (apply RunL.step; exact rfl; exact opA)
      | (apply RunL.hand; exact rfl; exact rfl; exact lenA; exact rfl)
      | (apply AWP.seq)
      | (apply AWP.region; exact rfl)
      | (apply AWP.block)
      | (apply AWP.skip)
      | (apply AWP.exit)
      | (apply AWP.retF; exact rfl; exact rfl; exact rfl; exact rfl; exact lenA; exact rfl)
      | (apply AWP.ret)
      | (apply RunL.nil)
      | (apply RunL.on; exact rfl; exact rfl; exact rfl; exact rfl; (first | exact rfl | assumption))
      | (apply RunL.noU; exact rfl; exact rfl; exact rfl; exact rfl; exact rfl; exact rfl)
      | (apply RunL.no; exact rfl; exact rfl; exact rfl; exact rfl; (first | exact rfl | assumption); exact rfl; exact rfl)
      | (refine AWP.cond _ (Rd.of rfl) (fun hc => ?_) (fun hc => ?_) <;> first | (exfalso; cases hc; done) | (have hc' := hc; (try simp only [decide_eq_true_eq, decide_eq_false_iff_not, Bool.not_true, Bool.not_false, bne_self_eq_false, beq_self_eq_true, ne_self_iff_false, Bool.true_bne, Bool.false_bne, Bool.true_beq, Bool.false_beq, Bool.false_eq_true, Bool.true_eq_false, reduceCtorEq, Bool.not_eq_true', Bool.not_eq_false', beq_iff_eq, bne_iff_ne, beq_eq_false_iff_ne, bne_eq_false_iff_eq, cmpOf] at hc'); try (exfalso; omega)))
      | (
        apply AWP.drawA
        repeat' (first
          | (apply DL.cons; (try (apply OpLoc.on; exact rfl; exact rfl; exact rfl; exact rfl; (first | exact rfl | assumption))); apply ol_ev (τ := τ); exact rfl; (first | exact r1norm | exact r1cmp | exact r1add | exact r1sub | exact r1mul | exact r1bits | exact r1divp | exact r1div | exact r1gcd | exact r1of _ | exact r1limb _ _); exact rfl; exact rfl)
          | (apply DL.cons; exact olA; exact rfl)
          | (apply DL.nil; kernel_rfl)
          | (refine DL.split rfl rfl rfl rfl (fun hb => ?_) (fun hb => ?_) <;> have hb' := hb <;> (try simp only [decide_eq_true_eq, decide_eq_false_iff_not, Bool.not_true, Bool.not_false, bne_self_eq_false, beq_self_eq_true, ne_self_iff_false, Bool.true_bne, Bool.false_bne, Bool.true_beq, Bool.false_beq, Bool.false_eq_true, Bool.true_eq_false, reduceCtorEq, Bool.not_eq_true', Bool.not_eq_false', beq_iff_eq, bne_iff_ne, beq_eq_false_iff_ne, bne_eq_false_iff_eq, cmpOf] at hb') <;> try (exfalso; omega)))
        all_goals (fail_if_success apply DL.id))
      | (refine RunL.split rfl rfl rfl rfl (fun hb => ?_) (fun hb => ?_) <;> have hb' := hb <;> (try simp only [decide_eq_true_eq, decide_eq_false_iff_not, Bool.not_true, Bool.not_false, bne_self_eq_false, beq_self_eq_true, ne_self_iff_false, Bool.true_bne, Bool.false_bne, Bool.true_beq, Bool.false_beq, Bool.false_eq_true, Bool.true_eq_false, reduceCtorEq, Bool.not_eq_true', Bool.not_eq_false', beq_iff_eq, bne_iff_ne, beq_eq_false_iff_ne, bne_eq_false_iff_eq, cmpOf] at hb') <;> try (exfalso; omega))
      )
    all_goals (apply Ends.mk (.cons (.tmp rfl) (.cons (.tmp rfl) .nil)); rfl)
  have hbad : ∀ i : Int, 0 ≤ i → i < l.length → ¬ (48 ≤ ((ixb l i).toNat : Int) ∧ ((ixb l i).toNat : Int) ≤ 57) → D.tup [.ints .u32 (limbs (natV l)), .int .i64 (natE l)] = D.tup [.ints .u32 [], .int .i64 2] := fun i h2 h3 h4 => by
    obtain ⟨n, rfl⟩ := Int.eq_ofNat_of_zero_le h2
    have hE := natE_bad (i := n) (by omega) h4
    rw [natV_bad hE (by omega), hE]
  repeat' (first
    | (apply RunL.step; exact rfl; first
      | fail)
    | (apply RunL.step; exact rfl; apply op_ev (τ := τ); exact rfl; (first | exact r1norm | exact r1cmp | exact r1add | exact r1sub | exact r1mul | exact r1bits | exact r1divp | exact r1div | exact r1gcd | exact r1of _ | exact r1limb _ _); exact rfl)
    | (apply RunL.step; exact rfl; exact opA)
    | (apply RunL.hand; exact rfl; exact rfl; exact lenA; exact rfl)
    | (apply AWP.seq)
    | (apply AWP.region; exact rfl)
    | (apply AWP.block)
    | (apply AWP.skip)
    | (apply AWP.exit)
    | (apply AWP.retF; exact rfl; exact rfl; exact rfl; exact rfl; exact lenA; exact rfl)
    | (apply AWP.ret)
    | (apply RunL.nil)
    | (apply RunL.on; exact rfl; exact rfl; exact rfl; exact rfl; (first | exact rfl | assumption))
    | (apply RunL.noU; exact rfl; exact rfl; exact rfl; exact rfl; exact rfl; exact rfl)
    | (apply RunL.no; exact rfl; exact rfl; exact rfl; exact rfl; (first | exact rfl | assumption); exact rfl; exact rfl)
    | (refine AWP.cond _ (Rd.of rfl) (fun hc => ?_) (fun hc => ?_) <;> first | (exfalso; cases hc; done) | (have hc' := hc; (try simp only [decide_eq_true_eq, decide_eq_false_iff_not, Bool.not_true, Bool.not_false, bne_self_eq_false, beq_self_eq_true, ne_self_iff_false, Bool.true_bne, Bool.false_bne, Bool.true_beq, Bool.false_beq, Bool.false_eq_true, Bool.true_eq_false, reduceCtorEq, Bool.not_eq_true', Bool.not_eq_false', beq_iff_eq, bne_iff_ne, beq_eq_false_iff_ne, bne_eq_false_iff_eq, cmpOf] at hc'); try (exfalso; omega)))
    | (
      apply AWP.drawA
      repeat' (first
        | (apply DL.cons; (try (apply OpLoc.on; exact rfl; exact rfl; exact rfl; exact rfl; (first | exact rfl | assumption))); apply ol_ev (τ := τ); exact rfl; (first | exact r1norm | exact r1cmp | exact r1add | exact r1sub | exact r1mul | exact r1bits | exact r1divp | exact r1div | exact r1gcd | exact r1of _ | exact r1limb _ _); exact rfl; exact rfl)
        | (apply DL.cons; exact olA; exact rfl)
        | (apply DL.nil; kernel_rfl)
        | (refine DL.split rfl rfl rfl rfl (fun hb => ?_) (fun hb => ?_) <;> have hb' := hb <;> (try simp only [decide_eq_true_eq, decide_eq_false_iff_not, Bool.not_true, Bool.not_false, bne_self_eq_false, beq_self_eq_true, ne_self_iff_false, Bool.true_bne, Bool.false_bne, Bool.true_beq, Bool.false_beq, Bool.false_eq_true, Bool.true_eq_false, reduceCtorEq, Bool.not_eq_true', Bool.not_eq_false', beq_iff_eq, bne_iff_ne, beq_eq_false_iff_ne, bne_eq_false_iff_eq, cmpOf] at hb') <;> try (exfalso; omega)))
      all_goals (fail_if_success apply DL.id))
    | (refine RunL.split rfl rfl rfl rfl (fun hb => ?_) (fun hb => ?_) <;> have hb' := hb <;> (try simp only [decide_eq_true_eq, decide_eq_false_iff_not, Bool.not_true, Bool.not_false, bne_self_eq_false, beq_self_eq_true, ne_self_iff_false, Bool.true_bne, Bool.false_bne, Bool.true_beq, Bool.false_beq, Bool.false_eq_true, Bool.true_eq_false, reduceCtorEq, Bool.not_eq_true', Bool.not_eq_false', beq_iff_eq, bne_iff_ne, beq_eq_false_iff_ne, bne_eq_false_iff_eq, cmpOf] at hb') <;> try (exfalso; omega))
    )
  all_goals (
    refine AWP.loop (fun i : Int => ⟨[(0, .val (.str l)), (4, .val (.int .i64 i))], []⟩) (fun i => 0 ≤ i ∧ i ≤ l.length ∧ digs l i) (fun i => (l.length - i).toNat) 0 ⟨by omega, by omega, fun j hj => by omega⟩ (St.Le.of (by repeat' (first | exact all_nil | refine all_cons rfl ?_)) (by repeat' (first | exact all_nil | refine all_cons rfl ?_))) ?_
    rintro i ⟨k1, k2, k3⟩
    have ci : 0 ≤ ((ixb l i).toNat : Int) ∧ ((ixb l i).toNat : Int) < 256 := chr_bound l i
    repeat' (first
      | (apply RunL.step; exact rfl; first
        | fail)
      | (apply RunL.step; exact rfl; apply op_ev (τ := τ); exact rfl; (first | exact r1norm | exact r1cmp | exact r1add | exact r1sub | exact r1mul | exact r1bits | exact r1divp | exact r1div | exact r1gcd | exact r1of _ | exact r1limb _ _); exact rfl)
      | (apply RunL.step; exact rfl; exact opA)
      | (apply RunL.hand; exact rfl; exact rfl; exact lenA; exact rfl)
      | (apply AWP.seq)
      | (apply AWP.region; exact rfl)
      | (apply AWP.block)
      | (apply AWP.skip)
      | (apply AWP.exit)
      | (apply AWP.retF; exact rfl; exact rfl; exact rfl; exact rfl; exact lenA; exact rfl)
      | (apply AWP.ret)
      | (apply RunL.nil)
      | (apply RunL.on; exact rfl; exact rfl; exact rfl; exact rfl; (first | exact rfl | assumption))
      | (apply RunL.noU; exact rfl; exact rfl; exact rfl; exact rfl; exact rfl; exact rfl)
      | (apply RunL.no; exact rfl; exact rfl; exact rfl; exact rfl; (first | exact rfl | assumption); exact rfl; exact rfl)
      | (refine AWP.cond _ (Rd.of rfl) (fun hc => ?_) (fun hc => ?_) <;> first | (exfalso; cases hc; done) | (have hc' := hc; (try simp only [decide_eq_true_eq, decide_eq_false_iff_not, Bool.not_true, Bool.not_false, bne_self_eq_false, beq_self_eq_true, ne_self_iff_false, Bool.true_bne, Bool.false_bne, Bool.true_beq, Bool.false_beq, Bool.false_eq_true, Bool.true_eq_false, reduceCtorEq, Bool.not_eq_true', Bool.not_eq_false', beq_iff_eq, bne_iff_ne, beq_eq_false_iff_ne, bne_eq_false_iff_eq, cmpOf] at hc'); try (exfalso; omega)))
      | (
        apply AWP.drawA
        repeat' (first
          | (apply DL.cons; (try (apply OpLoc.on; exact rfl; exact rfl; exact rfl; exact rfl; (first | exact rfl | assumption))); apply ol_ev (τ := τ); exact rfl; (first | exact r1norm | exact r1cmp | exact r1add | exact r1sub | exact r1mul | exact r1bits | exact r1divp | exact r1div | exact r1gcd | exact r1of _ | exact r1limb _ _); exact rfl; exact rfl)
          | (apply DL.cons; exact olA; exact rfl)
          | (apply DL.nil; kernel_rfl)
          | (refine DL.split rfl rfl rfl rfl (fun hb => ?_) (fun hb => ?_) <;> have hb' := hb <;> (try simp only [decide_eq_true_eq, decide_eq_false_iff_not, Bool.not_true, Bool.not_false, bne_self_eq_false, beq_self_eq_true, ne_self_iff_false, Bool.true_bne, Bool.false_bne, Bool.true_beq, Bool.false_beq, Bool.false_eq_true, Bool.true_eq_false, reduceCtorEq, Bool.not_eq_true', Bool.not_eq_false', beq_iff_eq, bne_iff_ne, beq_eq_false_iff_ne, bne_eq_false_iff_eq, cmpOf] at hb') <;> try (exfalso; omega)))
        all_goals (fail_if_success apply DL.id))
      | (refine RunL.split rfl rfl rfl rfl (fun hb => ?_) (fun hb => ?_) <;> have hb' := hb <;> (try simp only [decide_eq_true_eq, decide_eq_false_iff_not, Bool.not_true, Bool.not_false, bne_self_eq_false, beq_self_eq_true, ne_self_iff_false, Bool.true_bne, Bool.false_bne, Bool.true_beq, Bool.false_beq, Bool.false_eq_true, Bool.true_eq_false, reduceCtorEq, Bool.not_eq_true', Bool.not_eq_false', beq_iff_eq, bne_iff_ne, beq_eq_false_iff_ne, bne_eq_false_iff_eq, cmpOf] at hb') <;> try (exfalso; omega))
      )
    all_goals first
      | (rw [hbad i k1 (by omega) (by omega)]; apply Ends.mk (.cons (.tmp rfl) (.cons (.tmp rfl) .nil)); rfl)
      | exact ⟨_, St.Le.of (by repeat' (first | exact all_nil | refine all_cons rfl ?_)) (by repeat' (first | exact all_nil | refine all_cons rfl ?_)), ⟨by omega, by omega, k3.succ k1 ⟨by simp only [chr]; omega, by simp only [chr]; omega⟩⟩, by omega⟩
      | skip)
  all_goals (
    have hi : i = l.length := by omega
    subst hi
    have hd : ∀ j : Nat, j < l.length → 48 ≤ chr l j ∧ chr l j ≤ 57 := fun j hj => k3 j (by omega))
  all_goals try (
    rw [natE_long h0 h1 hd (by omega), natV_bad (natE_long h0 h1 hd (by omega)) (by omega)]
    apply Ends.mk (.cons (.tmp rfl) (.cons (.tmp rfl) .nil))
    rfl)
  all_goals (
    obtain ⟨hE, hV⟩ := natE_ok h0 h1 hd (by omega)
    refine AWP.loop2 (fun i x => ⟨[(0, .val (.str l)), (5, .val (.ints .u32 x)), (6, .val (.int .i64 i))], []⟩) (fun i x => 0 ≤ i ∧ i ≤ l.length ∧ x = limbs (decV (l.take i.toNat))) (fun i _ => (l.length - i).toNat) 0 [] ⟨by omega, by omega, by simp [decV, limbs_zero]⟩ (St.Le.of (by repeat' (first | exact all_nil | refine all_cons rfl ?_)) (by repeat' (first | exact all_nil | refine all_cons rfl ?_))) ?_
    rintro i x ⟨j1, j2, rfl⟩
    have s1 : SzN (decV (l.take i.toNat)) 42 := SzN.take hd (by omega) _
    by_cases hii : i < l.length
    · have ci : 48 ≤ ((ixb l i).toNat : Int) ∧ ((ixb l i).toNat : Int) ≤ 57 := k3 i.toNat (by omega) |> (fun h => by rwa [show ((i.toNat : Nat) : Int) = i by omega] at h)
      have s2 : SzN (((ixb l i).toNat : Int) - 48) 1 := ⟨by omega, by omega⟩
      repeat' (first
        | (apply RunL.step; exact rfl; first
          | fail)
        | (apply RunL.step; exact rfl; apply op_ev (τ := τ); exact rfl; (first | exact r1norm | exact r1cmp | exact r1add | exact r1sub | exact r1mul | exact r1bits | exact r1divp | exact r1div | exact r1gcd | exact r1of _ | exact r1limb _ _); exact rfl)
        | (apply RunL.step; exact rfl; exact opA)
        | (apply RunL.hand; exact rfl; exact rfl; exact lenA; exact rfl)
        | (apply AWP.seq)
        | (apply AWP.region; exact rfl)
        | (apply AWP.block)
        | (apply AWP.skip)
        | (apply AWP.exit)
        | (apply AWP.retF; exact rfl; exact rfl; exact rfl; exact rfl; exact lenA; exact rfl)
        | (apply AWP.ret)
        | (apply RunL.nil)
        | (apply RunL.on; exact rfl; exact rfl; exact rfl; exact rfl; (first | exact rfl | assumption))
        | (apply RunL.noU; exact rfl; exact rfl; exact rfl; exact rfl; exact rfl; exact rfl)
        | (apply RunL.no; exact rfl; exact rfl; exact rfl; exact rfl; (first | exact rfl | assumption); exact rfl; exact rfl)
        | (refine AWP.cond _ (Rd.of rfl) (fun hc => ?_) (fun hc => ?_) <;> first | (exfalso; cases hc; done) | (have hc' := hc; (try simp only [decide_eq_true_eq, decide_eq_false_iff_not, Bool.not_true, Bool.not_false, bne_self_eq_false, beq_self_eq_true, ne_self_iff_false, Bool.true_bne, Bool.false_bne, Bool.true_beq, Bool.false_beq, Bool.false_eq_true, Bool.true_eq_false, reduceCtorEq, Bool.not_eq_true', Bool.not_eq_false', beq_iff_eq, bne_iff_ne, beq_eq_false_iff_ne, bne_eq_false_iff_eq, cmpOf] at hc'); try (exfalso; omega)))
        | (
          apply AWP.drawA
          repeat' (first
            | (apply DL.cons; (try (apply OpLoc.on; exact rfl; exact rfl; exact rfl; exact rfl; (first | exact rfl | assumption))); apply ol_ev (τ := τ); exact rfl; (first | exact r1norm | exact r1cmp | exact r1add | exact r1sub | exact r1mul | exact r1bits | exact r1divp | exact r1div | exact r1gcd | exact r1of _ | exact r1limb _ _); exact rfl; exact rfl)
            | (apply DL.cons; exact olA; exact rfl)
            | (apply DL.nil; kernel_rfl)
            | (refine DL.split rfl rfl rfl rfl (fun hb => ?_) (fun hb => ?_) <;> have hb' := hb <;> (try simp only [decide_eq_true_eq, decide_eq_false_iff_not, Bool.not_true, Bool.not_false, bne_self_eq_false, beq_self_eq_true, ne_self_iff_false, Bool.true_bne, Bool.false_bne, Bool.true_beq, Bool.false_beq, Bool.false_eq_true, Bool.true_eq_false, reduceCtorEq, Bool.not_eq_true', Bool.not_eq_false', beq_iff_eq, bne_iff_ne, beq_eq_false_iff_ne, bne_eq_false_iff_eq, cmpOf] at hb') <;> try (exfalso; omega)))
          all_goals (fail_if_success apply DL.id))
        | (refine RunL.split rfl rfl rfl rfl (fun hb => ?_) (fun hb => ?_) <;> have hb' := hb <;> (try simp only [decide_eq_true_eq, decide_eq_false_iff_not, Bool.not_true, Bool.not_false, bne_self_eq_false, beq_self_eq_true, ne_self_iff_false, Bool.true_bne, Bool.false_bne, Bool.true_beq, Bool.false_beq, Bool.false_eq_true, Bool.true_eq_false, reduceCtorEq, Bool.not_eq_true', Bool.not_eq_false', beq_iff_eq, bne_iff_ne, beq_eq_false_iff_ne, bne_eq_false_iff_eq, cmpOf] at hb') <;> try (exfalso; omega))
        )
      refine ⟨_, _, St.Le.of (by repeat' (first | exact all_nil | refine all_cons rfl ?_)) (by repeat' (first | exact all_nil | refine all_cons rfl ?_)), ⟨by omega, by omega, ?_⟩, by omega⟩
      rw [decV_step j1 hii]; rfl
    · repeat' (first
        | (apply RunL.step; exact rfl; first
          | fail)
        | (apply RunL.step; exact rfl; apply op_ev (τ := τ); exact rfl; (first | exact r1norm | exact r1cmp | exact r1add | exact r1sub | exact r1mul | exact r1bits | exact r1divp | exact r1div | exact r1gcd | exact r1of _ | exact r1limb _ _); exact rfl)
        | (apply RunL.step; exact rfl; exact opA)
        | (apply RunL.hand; exact rfl; exact rfl; exact lenA; exact rfl)
        | (apply AWP.seq)
        | (apply AWP.region; exact rfl)
        | (apply AWP.block)
        | (apply AWP.skip)
        | (apply AWP.exit)
        | (apply AWP.retF; exact rfl; exact rfl; exact rfl; exact rfl; exact lenA; exact rfl)
        | (apply AWP.ret)
        | (apply RunL.nil)
        | (apply RunL.on; exact rfl; exact rfl; exact rfl; exact rfl; (first | exact rfl | assumption))
        | (apply RunL.noU; exact rfl; exact rfl; exact rfl; exact rfl; exact rfl; exact rfl)
        | (apply RunL.no; exact rfl; exact rfl; exact rfl; exact rfl; (first | exact rfl | assumption); exact rfl; exact rfl)
        | (refine AWP.cond _ (Rd.of rfl) (fun hc => ?_) (fun hc => ?_) <;> first | (exfalso; cases hc; done) | (have hc' := hc; (try simp only [decide_eq_true_eq, decide_eq_false_iff_not, Bool.not_true, Bool.not_false, bne_self_eq_false, beq_self_eq_true, ne_self_iff_false, Bool.true_bne, Bool.false_bne, Bool.true_beq, Bool.false_beq, Bool.false_eq_true, Bool.true_eq_false, reduceCtorEq, Bool.not_eq_true', Bool.not_eq_false', beq_iff_eq, bne_iff_ne, beq_eq_false_iff_ne, bne_eq_false_iff_eq, cmpOf] at hc'); try (exfalso; omega)))
        | (
          apply AWP.drawA
          repeat' (first
            | (apply DL.cons; (try (apply OpLoc.on; exact rfl; exact rfl; exact rfl; exact rfl; (first | exact rfl | assumption))); apply ol_ev (τ := τ); exact rfl; (first | exact r1norm | exact r1cmp | exact r1add | exact r1sub | exact r1mul | exact r1bits | exact r1divp | exact r1div | exact r1gcd | exact r1of _ | exact r1limb _ _); exact rfl; exact rfl)
            | (apply DL.cons; exact olA; exact rfl)
            | (apply DL.nil; kernel_rfl)
            | (refine DL.split rfl rfl rfl rfl (fun hb => ?_) (fun hb => ?_) <;> have hb' := hb <;> (try simp only [decide_eq_true_eq, decide_eq_false_iff_not, Bool.not_true, Bool.not_false, bne_self_eq_false, beq_self_eq_true, ne_self_iff_false, Bool.true_bne, Bool.false_bne, Bool.true_beq, Bool.false_beq, Bool.false_eq_true, Bool.true_eq_false, reduceCtorEq, Bool.not_eq_true', Bool.not_eq_false', beq_iff_eq, bne_iff_ne, beq_eq_false_iff_ne, bne_eq_false_iff_eq, cmpOf] at hb') <;> try (exfalso; omega)))
          all_goals (fail_if_success apply DL.id))
        | (refine RunL.split rfl rfl rfl rfl (fun hb => ?_) (fun hb => ?_) <;> have hb' := hb <;> (try simp only [decide_eq_true_eq, decide_eq_false_iff_not, Bool.not_true, Bool.not_false, bne_self_eq_false, beq_self_eq_true, ne_self_iff_false, Bool.true_bne, Bool.false_bne, Bool.true_beq, Bool.false_beq, Bool.false_eq_true, Bool.true_eq_false, reduceCtorEq, Bool.not_eq_true', Bool.not_eq_false', beq_iff_eq, bne_iff_ne, beq_eq_false_iff_ne, bne_eq_false_iff_eq, cmpOf] at hb') <;> try (exfalso; omega))
        )
      rw [hE, hV, show i.toNat = l.length by omega, List.take_length]
      apply Ends.mk (.cons (.tmp rfl) (.cons (.tmp rfl) .nil))
      rfl)

/-- what the parser of ratios hands back -/
def ratP (l : List UInt8) : Int × Rat :=
  if 0 ≤ idx1 l 47 then
    let n := l.take (idx1 l 47).toNat
    let d := l.drop ((idx1 l 47).toNat + 1)
    if intE n ≠ 0 then (intE n, 0) else if natE d ≠ 0 then (natE d, 0) else if natV d = 0 then (2, 0) else (0, Rat.divInt (intV n) (natV d))
  else if intE l ≠ 0 then (intE l, 0) else (0, Rat.divInt (intV l) 1)
theorem idx1_eq {l : List UInt8} {c : UInt8} {i : Nat} (h : l[i]? = some c) (h2 : ∀ k : Nat, k < i → l[k]? ≠ some c) : idx1 l c = i := by
  rcases idx1_cases l c with ⟨_, h3⟩ | ⟨h3, h4, h5, h6⟩
  · exact absurd h (h3 i)
  · rcases Int.lt_trichotomy (idx1 l c) i with h7 | h7 | h7
    · exact absurd h5 (h2 _ (by omega))
    · exact h7
    · exact absurd h (h6 i h7)
theorem chr_some {l : List UInt8} {i : Int} (h0 : 0 ≤ i) (h : i < l.length) (c : UInt8) : l[i.toNat]? = some c ↔ ((ixb l i).toNat : Int) = c.toNat := by
  rw [ixu h0 h]
  constructor
  · intro e; cases e; rfl
  · intro e; rw [UInt8.toNat_inj.1 (show (ixb l i).toNat = c.toNat by omega)]
end Go.Proofs.YtalaciffklejkaaDoor.K
