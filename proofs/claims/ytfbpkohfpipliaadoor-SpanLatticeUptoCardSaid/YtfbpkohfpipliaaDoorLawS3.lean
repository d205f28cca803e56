/- The law SpanLattice (examboardlaw05). -/
import Derived.Test.YtfbpkohfpipliaaDoorLawS2
namespace Go.Proofs.YtfbpkohfpipliaaDoor.K
open Go
set_option linter.unusedVariables false
set_option linter.unusedSimpArgs false

theorem sideQ_ne {x y z v : Rat} (h : ¬ hiQ (loQ x y) (loQ z v) ≤ loQ (hiQ x y) (hiQ z v)) : sideQ x y z v ≠ 0 := fun e => h ((sideQ_zero x y z v).1 e)
theorem meet_in {x y z v q : Rat} (h : hiQ (loQ x y) (loQ z v) ≤ loQ (hiQ x y) (hiQ z v)) : (loQ (hiQ (loQ x y) (loQ z v)) (loQ (hiQ x y) (hiQ z v)) ≤ q ∧ q ≤ hiQ (hiQ (loQ x y) (loQ z v)) (loQ (hiQ x y) (hiQ z v))) ↔ (loQ x y ≤ q ∧ q ≤ hiQ x y) ∧ (loQ z v ≤ q ∧ q ≤ hiQ z v) := by
  obtain ⟨e1, e2⟩ := lohi h
  rw [e1, e2, hiQ_le_iff, le_loQ]
  constructor
  · intro h; exact ⟨⟨h.1.1, h.2.1⟩, h.1.2, h.2.2⟩
  · intro h; exact ⟨⟨h.1.1, h.2.1⟩, h.1.2, h.2.2⟩
theorem hull_in {x y z v q : Rat} (h : (loQ x y ≤ q ∧ q ≤ hiQ x y) ∨ (loQ z v ≤ q ∧ q ≤ hiQ z v)) : loQ (loQ (loQ x y) (loQ z v)) (hiQ (hiQ x y) (hiQ z v)) ≤ q ∧ q ≤ hiQ (loQ (loQ x y) (loQ z v)) (hiQ (hiQ x y) (hiQ z v)) := by
  have hle : loQ (loQ x y) (loQ z v) ≤ hiQ (hiQ x y) (hiQ z v) := Rat.le_trans ((loQ_le_iff _ _ _).2 (.inl Rat.le_refl)) ((le_hiQ _ _ _).2 (.inl (loQ_le x y)))
  obtain ⟨e1, e2⟩ := lohi hle
  rw [e1, e2, loQ_le_iff, le_hiQ]
  rcases h with h | h
  · exact ⟨.inl h.1, .inl h.2⟩
  · exact ⟨.inr h.1, .inr h.2⟩
theorem loQ_comm (x y : Rat) : loQ x y = loQ y x := by unfold loQ; (repeat' split) <;> grind
theorem RA.mono {s : Bool} {l d : List Int} {q : Rat} {k m : Nat} (h : RA s l d q k) (hm : k ≤ m) : RA s l d q m := ⟨h.v, Nat.le_trans h.hl hm, Nat.le_trans h.hd hm⟩
set_option maxHeartbeats 8000000 in
theorem law_SpanLattice (s1 : Bool) (l1 d1 : List Int) (s2 : Bool) (l2 d2 : List Int) (s3 : Bool) (l3 d3 : List Int) (s4 : Bool) (l4 d4 : List Int) (s5 : Bool) (l5 d5 : List Int) (n : Int) (hb : bulkA [.agg [.bool s1, .ints .u32 l1, .ints .u32 d1, .bool s2, .ints .u32 l2, .ints .u32 d2], .agg [.bool s3, .ints .u32 l3, .ints .u32 d3, .bool s4, .ints .u32 l4, .ints .u32 d4], .agg [.bool s5, .ints .u32 l5, .ints .u32 d5], .int .u8 n] ≤ 1048576) : Evals Tryd.prog 3 [.agg [.bool s1, .ints .u32 l1, .ints .u32 d1, .bool s2, .ints .u32 l2, .ints .u32 d2], .agg [.bool s3, .ints .u32 l3, .ints .u32 d3, .bool s4, .ints .u32 l4, .ints .u32 d4], .agg [.bool s5, .ints .u32 l5, .ints .u32 d5], .int .u8 n] (.bool true) := by
  refine evals_of_awp Tryd.func3 rfl (CallOK.of Tryd.func3 (by kernel_rfl) rfl) (Nat.le_of_ble_eq_true rfl) ?_
  rintro w R hR ⟨vs, hv⟩
  have hl1 : l1.length ≤ 1048576 := by simp [bulkA, D.parts, bulkL, D.bulk] at hb; omega
  have hl2 : l2.length ≤ 1048576 := by simp [bulkA, D.parts, bulkL, D.bulk] at hb; omega
  have hd1 : d1.length ≤ 1048576 := by simp [bulkA, D.parts, bulkL, D.bulk] at hb; omega
  have hd2 : d2.length ≤ 1048576 := by simp [bulkA, D.parts, bulkL, D.bulk] at hb; omega
  obtain ⟨x, i1⟩ : ∃ x, RA s1 l1 d1 x 1048576 := ⟨_, rfl, hl1, hd1⟩
  obtain ⟨y, i2⟩ : ∃ x, RA s2 l2 d2 x 1048576 := ⟨_, rfl, hl2, hd2⟩
  obtain ⟨w1, w2, w3, w4⟩ := hv.span 0 rfl
  have z1 := i1.sz w1 w2
  have z2 := i2.sz w3 w4
  have hl3 : l3.length ≤ 1048576 := by simp [bulkA, D.parts, bulkL, D.bulk] at hb; omega
  have hl4 : l4.length ≤ 1048576 := by simp [bulkA, D.parts, bulkL, D.bulk] at hb; omega
  have hd3 : d3.length ≤ 1048576 := by simp [bulkA, D.parts, bulkL, D.bulk] at hb; omega
  have hd4 : d4.length ≤ 1048576 := by simp [bulkA, D.parts, bulkL, D.bulk] at hb; omega
  obtain ⟨z, i3⟩ : ∃ x, RA s3 l3 d3 x 1048576 := ⟨_, rfl, hl3, hd3⟩
  obtain ⟨v, i4⟩ : ∃ x, RA s4 l4 d4 x 1048576 := ⟨_, rfl, hl4, hd4⟩
  obtain ⟨w5, w6, w7, w8⟩ := hv.span 1 rfl
  have z3 := i3.sz w5 w6
  have z4 := i4.sz w7 w8
  have hl5 : l5.length ≤ 1048576 := by simp [bulkA, D.parts, bulkL, D.bulk] at hb; omega
  have hd5 : d5.length ≤ 1048576 := by simp [bulkA, D.parts, bulkL, D.bulk] at hb; omega
  obtain ⟨r, i5⟩ : ∃ x, RA s5 l5 d5 x 1048576 := ⟨_, rfl, hl5, hd5⟩
  obtain ⟨⟨_, w9⟩, _, w10⟩ := hv.rat 2 rfl
  have z5 := i5.sz w9 w10
  obtain ⟨n1, n2⟩ := hv.int 3 rfl
  have n1 : 0 ≤ n := n1
  have n2 : n ≤ 255 := n2
  have zn : SzI n 2 := SzI.i64 (by omega)
  have z255 : SzI 255 2 := SzI.i64 (by omega)
  obtain ⟨X, hX⟩ : ∃ X, btw x y n = X := ⟨_, rfl⟩
  have zX : SzR X 10000000 := by rw [← hX]; exact (SzR.inst (loQ x y + Rat.divInt n 255 * (hiQ x y - loQ x y))).mono (by omega)
  have cX := sbetween (h := i1) (h' := i2) n
  rw [hX] at cX
  have b1 : -1 ≤ sideQ x y z v ∧ sideQ x y z v ≤ 1 := by unfold sideQ; (repeat' split) <;> omega
  have hside := sorder (h := i1) (h' := i2) (g := i3) (g' := i4)
  have hside' := sorder (h := i3) (h' := i4) (g := i1) (g' := i2)
  rw [sideQ_swap] at hside'
  have i0 : RA (decide (X.num < 0)) (limbs X.num.natAbs) (limbs X.den) X 10000000 := RA.ratD X 10000000
  obtain ⟨M, hMd⟩ : ∃ M : List (List D), [[.bool s5, .ints .u32 l5, .ints .u32 d5], [.bool s1, .ints .u32 l1, .ints .u32 d1], [.bool s3, .ints .u32 l3, .ints .u32 d3], [.bool s2, .ints .u32 l2, .ints .u32 d2], [.bool s4, .ints .u32 l4, .ints .u32 d4], ratC X] = M := ⟨_, rfl⟩
  have hrows : ∀ i : Int, 0 ≤ i → i < 6 → ∃ s' l' d' q, M[i.toNat]? = some [.bool s', .ints .u32 l', .ints .u32 d'] ∧ RA s' l' d' q 10000000 := fun i h0 h6 => by
    subst hMd
    rcases (show i = 0 ∨ i = 1 ∨ i = 2 ∨ i = 3 ∨ i = 4 ∨ i = 5 by omega) with rfl | rfl | rfl | rfl | rfl | rfl
    · exact ⟨_, _, _, _, rfl, i5.mono (by omega)⟩
    · exact ⟨_, _, _, _, rfl, i1.mono (by omega)⟩
    · exact ⟨_, _, _, _, rfl, i3.mono (by omega)⟩
    · exact ⟨_, _, _, _, rfl, i2.mono (by omega)⟩
    · exact ⟨_, _, _, _, rfl, i4.mono (by omega)⟩
    · exact ⟨_, _, _, _, rfl, i0⟩
  have hlen : M.length = 6 := by rw [← hMd]; rfl
  have o1 := loQ_le x y
  have o2 := loQ_le z v
  have ole : loQ (loQ x y) (loQ z v) ≤ hiQ (hiQ x y) (hiQ z v) := Rat.le_trans ((loQ_le_iff _ _ _).2 (.inl Rat.le_refl)) ((le_hiQ _ _ _).2 (.inl o1))
  have e1 : loQ (loQ x y) (loQ z v) = loQ (loQ z v) (loQ x y) := loQ_comm _ _
  have e2 : hiQ (hiQ x y) (hiQ z v) = hiQ (hiQ z v) (hiQ x y) := hiQ_comm _ _
  have wah : within x y (loQ (loQ x y) (loQ z v)) (hiQ (hiQ x y) (hiQ z v)) := by
    obtain ⟨f1, f2⟩ := lohi ole
    rw [within_ends, f1, f2]
    exact ⟨(loQ_le_iff _ _ _).2 (.inl Rat.le_refl), (le_hiQ _ _ _).2 (.inl Rat.le_refl)⟩
  have wbh : within z v (loQ (loQ x y) (loQ z v)) (hiQ (hiQ x y) (hiQ z v)) := by
    obtain ⟨f1, f2⟩ := lohi ole
    rw [within_ends, f1, f2]
    exact ⟨(loQ_le_iff _ _ _).2 (.inr Rat.le_refl), (le_hiQ _ _ _).2 (.inr Rat.le_refl)⟩
  by_cases hM : hiQ (loQ x y) (loQ z v) ≤ loQ (hiQ x y) (hiQ z v)
  · have hs : sideQ x y z v = 0 := (sideQ_zero x y z v).2 hM
    have hin := fun q => meet_in (q := q) hM
    have hcase := fun q (pa : loQ x y ≤ q ∧ q ≤ hiQ x y) (pb : loQ z v ≤ q ∧ q ≤ hiQ z v) => (hin q).2 ⟨pa, pb⟩
    have wma : within (hiQ (loQ x y) (loQ z v)) (loQ (hiQ x y) (hiQ z v)) x y := by
      obtain ⟨f1, f2⟩ := lohi hM
      rw [within_ends, f1, f2]
      exact ⟨(le_hiQ _ _ _).2 (.inl Rat.le_refl), (loQ_le_iff _ _ _).2 (.inl Rat.le_refl)⟩
    have wmb : within (hiQ (loQ x y) (loQ z v)) (loQ (hiQ x y) (hiQ z v)) z v := by
      obtain ⟨f1, f2⟩ := lohi hM
      rw [within_ends, f1, f2]
      exact ⟨(le_hiQ _ _ _).2 (.inr Rat.le_refl), (loQ_le_iff _ _ _).2 (.inr Rat.le_refl)⟩
    obtain ⟨MM, hMM⟩ : ∃ MM, (ratC (hiQ (loQ x y) (loQ z v)) ++ ratC (loQ (hiQ x y) (hiQ z v))) = MM := ⟨_, rfl⟩
    repeat' (first
      | (apply RunL.step; exact rfl; first
        | fail)
      | (apply RunL.step; exact rfl; apply op_ev (τ := τ); exact rfl; (first | exact hside' | exact hside | exact cX | exact smeet1 | exact smeet0 | exact shasT | exact shasF | exact swT | exact swF | exact ssame_as | exact shull | exact sawake); exact rfl)
      | (apply RunL.step; exact rfl; exact opA)
      | (apply RunL.hand; exact rfl; exact rfl; exact lenA; exact rfl)
      | (apply AWP.seq)
      | (apply AWP.region; exact rfl)
      | (apply AWP.block)
      | (apply AWP.skip)
      | (apply AWP.exit)
      | (apply AWP.retF; exact rfl; exact rfl; exact rfl; exact rfl; exact lenA; exact rfl)
      | (apply AWP.ret)
      | (apply RunL.nil)
      | (apply RunL.on; exact rfl; exact rfl; exact rfl; exact rfl; (first | exact rfl | assumption))
      | (apply RunL.noU; exact rfl; exact rfl; exact rfl; exact rfl; exact rfl; exact rfl)
      | (apply RunL.no; exact rfl; exact rfl; exact rfl; exact rfl; (first | exact rfl | assumption); exact rfl; exact rfl)
      | (refine AWP.cond _ (Rd.of rfl) (fun hc => ?_) (fun hc => ?_) <;> first | (exfalso; cases hc; done) | (have hc' := hc; (try simp only [decide_eq_true_eq, decide_eq_false_iff_not, Bool.not_true, Bool.not_false, bne_self_eq_false, beq_self_eq_true, ne_self_iff_false, Bool.true_bne, Bool.false_bne, Bool.true_beq, Bool.false_beq, Bool.false_eq_true, Bool.true_eq_false, reduceCtorEq, Bool.not_eq_true', Bool.not_eq_false', beq_iff_eq, bne_iff_ne, beq_eq_false_iff_ne, bne_eq_false_iff_eq, cmpOf] at hc'); try (exfalso; omega)))
      | (
        apply AWP.drawA
        repeat' (first
          | (apply DL.cons; (try (apply OpLoc.on; exact rfl; exact rfl; exact rfl; exact rfl; (first | exact rfl | assumption))); apply ol_ev (τ := τ); exact rfl; (first | exact hside' | exact hside | exact cX | exact smeet1 | exact smeet0 | exact shasT | exact shasF | exact swT | exact swF | exact ssame_as | exact shull | exact sawake); exact rfl; exact rfl)
          | (apply DL.cons; exact olA; exact rfl)
          | (apply DL.nil; kernel_rfl)
          | (refine DL.split rfl rfl rfl rfl (fun hb => ?_) (fun hb => ?_) <;> have hb' := hb <;> (try simp only [decide_eq_true_eq, decide_eq_false_iff_not, Bool.not_true, Bool.not_false, bne_self_eq_false, beq_self_eq_true, ne_self_iff_false, Bool.true_bne, Bool.false_bne, Bool.true_beq, Bool.false_beq, Bool.false_eq_true, Bool.true_eq_false, reduceCtorEq, Bool.not_eq_true', Bool.not_eq_false', beq_iff_eq, bne_iff_ne, beq_eq_false_iff_ne, bne_eq_false_iff_eq, cmpOf] at hb') <;> try (exfalso; omega)))
        all_goals (fail_if_success apply DL.id))
      | (refine RunL.split rfl rfl rfl rfl (fun hb => ?_) (fun hb => ?_) <;> have hb' := hb <;> (try simp only [decide_eq_true_eq, decide_eq_false_iff_not, Bool.not_true, Bool.not_false, bne_self_eq_false, beq_self_eq_true, ne_self_iff_false, Bool.true_bne, Bool.false_bne, Bool.true_beq, Bool.false_beq, Bool.false_eq_true, Bool.true_eq_false, reduceCtorEq, Bool.not_eq_true', Bool.not_eq_false', beq_iff_eq, bne_iff_ne, beq_eq_false_iff_ne, bne_eq_false_iff_eq, cmpOf] at hb') <;> try (exfalso; omega))
      )
    refine AWP.loop (ι := Int) (fun i => ⟨[(4, .pb 4 0), (5, .pb 5 0), (9, .pb 9 0), (10, .val (.bool true)), (47, .val (.sl 3 M)), (48, .val (.int .i64 6)), (49, .val (.int .i64 i))], [(4, .cells 29 [.bool s1, .ints .u32 l1, .ints .u32 d1, .bool s2, .ints .u32 l2, .ints .u32 d2]), (5, .cells 29 [.bool s3, .ints .u32 l3, .ints .u32 d3, .bool s4, .ints .u32 l4, .ints .u32 d4]), (9, .cells 29 MM)]⟩) (fun i => 0 ≤ i ∧ i ≤ 6) (fun i => (6 - i).toNat) 0 ⟨by omega, by omega⟩ (by rw [← hMd, ← hMM]; exact St.Le.of (by repeat' (first | exact all_nil | refine all_cons rfl ?_)) (by repeat' (first | exact all_nil | refine all_cons rfl ?_))) ?_
    rintro i ⟨k1, k2⟩
    by_cases hi : i < 6
    · obtain ⟨s', l', d', q, hrow, iq⟩ := hrows i k1 hi
      have hh := fun h => hull_in (x := x) (y := y) (z := z) (v := v) (q := q) h
      by_cases pa : loQ x y ≤ q ∧ q ≤ hiQ x y
      · have ph := hh (.inl pa)
        by_cases pb : loQ z v ≤ q ∧ q ≤ hiQ z v
        · have pm := hcase q pa pb
          subst hMM
          repeat' (first
            | (apply RunL.step; exact rfl; first
              | fail)
            | (apply RunL.step; exact rfl; apply op_ev (τ := τ); exact rfl; (first | exact hside' | exact hside | exact cX | exact smeet1 | exact smeet0 | exact shasT | exact shasF | exact swT | exact swF | exact ssame_as | exact shull | exact sawake); exact rfl)
            | (apply RunL.step; exact rfl; exact opA)
            | (apply RunL.hand; exact rfl; exact rfl; exact lenA; exact rfl)
            | (apply AWP.seq)
            | (apply AWP.region; exact rfl)
            | (apply AWP.block)
            | (apply AWP.skip)
            | (apply AWP.exit)
            | (apply AWP.retF; exact rfl; exact rfl; exact rfl; exact rfl; exact lenA; exact rfl)
            | (apply AWP.ret)
            | (apply RunL.nil)
            | (apply RunL.on; exact rfl; exact rfl; exact rfl; exact rfl; (first | exact rfl | assumption))
            | (apply RunL.noU; exact rfl; exact rfl; exact rfl; exact rfl; exact rfl; exact rfl)
            | (apply RunL.no; exact rfl; exact rfl; exact rfl; exact rfl; (first | exact rfl | assumption); exact rfl; exact rfl)
            | (refine AWP.cond _ (Rd.of rfl) (fun hc => ?_) (fun hc => ?_) <;> first | (exfalso; cases hc; done) | (have hc' := hc; (try simp only [decide_eq_true_eq, decide_eq_false_iff_not, Bool.not_true, Bool.not_false, bne_self_eq_false, beq_self_eq_true, ne_self_iff_false, Bool.true_bne, Bool.false_bne, Bool.true_beq, Bool.false_beq, Bool.false_eq_true, Bool.true_eq_false, reduceCtorEq, Bool.not_eq_true', Bool.not_eq_false', beq_iff_eq, bne_iff_ne, beq_eq_false_iff_ne, bne_eq_false_iff_eq, cmpOf] at hc'); try (exfalso; omega)))
            | (
              apply AWP.drawA
              repeat' (first
                | (apply DL.cons; (try (apply OpLoc.on; exact rfl; exact rfl; exact rfl; exact rfl; (first | exact rfl | assumption))); apply ol_ev (τ := τ); exact rfl; (first | exact hside' | exact hside | exact cX | exact smeet1 | exact smeet0 | exact shasT | exact shasF | exact swT | exact swF | exact ssame_as | exact shull | exact sawake); exact rfl; exact rfl)
                | (apply DL.cons; exact olA; exact rfl)
                | (apply DL.nil; kernel_rfl)
                | (refine DL.split rfl rfl rfl rfl (fun hb => ?_) (fun hb => ?_) <;> have hb' := hb <;> (try simp only [decide_eq_true_eq, decide_eq_false_iff_not, Bool.not_true, Bool.not_false, bne_self_eq_false, beq_self_eq_true, ne_self_iff_false, Bool.true_bne, Bool.false_bne, Bool.true_beq, Bool.false_beq, Bool.false_eq_true, Bool.true_eq_false, reduceCtorEq, Bool.not_eq_true', Bool.not_eq_false', beq_iff_eq, bne_iff_ne, beq_eq_false_iff_ne, bne_eq_false_iff_eq, cmpOf] at hb') <;> try (exfalso; omega)))
              all_goals (fail_if_success apply DL.id))
            | (refine RunL.split rfl rfl rfl rfl (fun hb => ?_) (fun hb => ?_) <;> have hb' := hb <;> (try simp only [decide_eq_true_eq, decide_eq_false_iff_not, Bool.not_true, Bool.not_false, bne_self_eq_false, beq_self_eq_true, ne_self_iff_false, Bool.true_bne, Bool.false_bne, Bool.true_beq, Bool.false_beq, Bool.false_eq_true, Bool.true_eq_false, reduceCtorEq, Bool.not_eq_true', Bool.not_eq_false', beq_iff_eq, bne_iff_ne, beq_eq_false_iff_ne, bne_eq_false_iff_eq, cmpOf] at hb') <;> try (exfalso; omega))
            )
          all_goals first
            | exact ⟨_, St.Le.of (by repeat' (first | exact all_nil | refine all_cons rfl ?_)) (by repeat' (first | exact all_nil | refine all_cons rfl ?_)), ⟨by omega, by omega⟩, by omega⟩
            | exact pm.elim
        · try have pm := fun h => (show ¬ ((loQ x y ≤ q ∧ q ≤ hiQ x y) ∧ (loQ z v ≤ q ∧ q ≤ hiQ z v)) from fun h => by first | exact pa h.1 | exact pb h.2) ((hin q).1 h)
          subst hMM
          repeat' (first
            | (apply RunL.step; exact rfl; first
              | fail)
            | (apply RunL.step; exact rfl; apply op_ev (τ := τ); exact rfl; (first | exact hside' | exact hside | exact cX | exact smeet1 | exact smeet0 | exact shasT | exact shasF | exact swT | exact swF | exact ssame_as | exact shull | exact sawake); exact rfl)
            | (apply RunL.step; exact rfl; exact opA)
            | (apply RunL.hand; exact rfl; exact rfl; exact lenA; exact rfl)
            | (apply AWP.seq)
            | (apply AWP.region; exact rfl)
            | (apply AWP.block)
            | (apply AWP.skip)
            | (apply AWP.exit)
            | (apply AWP.retF; exact rfl; exact rfl; exact rfl; exact rfl; exact lenA; exact rfl)
            | (apply AWP.ret)
            | (apply RunL.nil)
            | (apply RunL.on; exact rfl; exact rfl; exact rfl; exact rfl; (first | exact rfl | assumption))
            | (apply RunL.noU; exact rfl; exact rfl; exact rfl; exact rfl; exact rfl; exact rfl)
            | (apply RunL.no; exact rfl; exact rfl; exact rfl; exact rfl; (first | exact rfl | assumption); exact rfl; exact rfl)
            | (refine AWP.cond _ (Rd.of rfl) (fun hc => ?_) (fun hc => ?_) <;> first | (exfalso; cases hc; done) | (have hc' := hc; (try simp only [decide_eq_true_eq, decide_eq_false_iff_not, Bool.not_true, Bool.not_false, bne_self_eq_false, beq_self_eq_true, ne_self_iff_false, Bool.true_bne, Bool.false_bne, Bool.true_beq, Bool.false_beq, Bool.false_eq_true, Bool.true_eq_false, reduceCtorEq, Bool.not_eq_true', Bool.not_eq_false', beq_iff_eq, bne_iff_ne, beq_eq_false_iff_ne, bne_eq_false_iff_eq, cmpOf] at hc'); try (exfalso; omega)))
            | (
              apply AWP.drawA
              repeat' (first
                | (apply DL.cons; (try (apply OpLoc.on; exact rfl; exact rfl; exact rfl; exact rfl; (first | exact rfl | assumption))); apply ol_ev (τ := τ); exact rfl; (first | exact hside' | exact hside | exact cX | exact smeet1 | exact smeet0 | exact shasT | exact shasF | exact swT | exact swF | exact ssame_as | exact shull | exact sawake); exact rfl; exact rfl)
                | (apply DL.cons; exact olA; exact rfl)
                | (apply DL.nil; kernel_rfl)
                | (refine DL.split rfl rfl rfl rfl (fun hb => ?_) (fun hb => ?_) <;> have hb' := hb <;> (try simp only [decide_eq_true_eq, decide_eq_false_iff_not, Bool.not_true, Bool.not_false, bne_self_eq_false, beq_self_eq_true, ne_self_iff_false, Bool.true_bne, Bool.false_bne, Bool.true_beq, Bool.false_beq, Bool.false_eq_true, Bool.true_eq_false, reduceCtorEq, Bool.not_eq_true', Bool.not_eq_false', beq_iff_eq, bne_iff_ne, beq_eq_false_iff_ne, bne_eq_false_iff_eq, cmpOf] at hb') <;> try (exfalso; omega)))
              all_goals (fail_if_success apply DL.id))
            | (refine RunL.split rfl rfl rfl rfl (fun hb => ?_) (fun hb => ?_) <;> have hb' := hb <;> (try simp only [decide_eq_true_eq, decide_eq_false_iff_not, Bool.not_true, Bool.not_false, bne_self_eq_false, beq_self_eq_true, ne_self_iff_false, Bool.true_bne, Bool.false_bne, Bool.true_beq, Bool.false_beq, Bool.false_eq_true, Bool.true_eq_false, reduceCtorEq, Bool.not_eq_true', Bool.not_eq_false', beq_iff_eq, bne_iff_ne, beq_eq_false_iff_ne, bne_eq_false_iff_eq, cmpOf] at hb') <;> try (exfalso; omega))
            )
          all_goals
            exact ⟨_, St.Le.of (by repeat' (first | exact all_nil | refine all_cons rfl ?_)) (by repeat' (first | exact all_nil | refine all_cons rfl ?_)), ⟨by omega, by omega⟩, by omega⟩
      · by_cases pb : loQ z v ≤ q ∧ q ≤ hiQ z v
        · have ph := hh (.inr pb)
          try have pm := fun h => (show ¬ ((loQ x y ≤ q ∧ q ≤ hiQ x y) ∧ (loQ z v ≤ q ∧ q ≤ hiQ z v)) from fun h => by first | exact pa h.1 | exact pb h.2) ((hin q).1 h)
          subst hMM
          repeat' (first
            | (apply RunL.step; exact rfl; first
              | fail)
            | (apply RunL.step; exact rfl; apply op_ev (τ := τ); exact rfl; (first | exact hside' | exact hside | exact cX | exact smeet1 | exact smeet0 | exact shasT | exact shasF | exact swT | exact swF | exact ssame_as | exact shull | exact sawake); exact rfl)
            | (apply RunL.step; exact rfl; exact opA)
            | (apply RunL.hand; exact rfl; exact rfl; exact lenA; exact rfl)
            | (apply AWP.seq)
            | (apply AWP.region; exact rfl)
            | (apply AWP.block)
            | (apply AWP.skip)
            | (apply AWP.exit)
            | (apply AWP.retF; exact rfl; exact rfl; exact rfl; exact rfl; exact lenA; exact rfl)
            | (apply AWP.ret)
            | (apply RunL.nil)
            | (apply RunL.on; exact rfl; exact rfl; exact rfl; exact rfl; (first | exact rfl | assumption))
            | (apply RunL.noU; exact rfl; exact rfl; exact rfl; exact rfl; exact rfl; exact rfl)
            | (apply RunL.no; exact rfl; exact rfl; exact rfl; exact rfl; (first | exact rfl | assumption); exact rfl; exact rfl)
            | (refine AWP.cond _ (Rd.of rfl) (fun hc => ?_) (fun hc => ?_) <;> first | (exfalso; cases hc; done) | (have hc' := hc; (try simp only [decide_eq_true_eq, decide_eq_false_iff_not, Bool.not_true, Bool.not_false, bne_self_eq_false, beq_self_eq_true, ne_self_iff_false, Bool.true_bne, Bool.false_bne, Bool.true_beq, Bool.false_beq, Bool.false_eq_true, Bool.true_eq_false, reduceCtorEq, Bool.not_eq_true', Bool.not_eq_false', beq_iff_eq, bne_iff_ne, beq_eq_false_iff_ne, bne_eq_false_iff_eq, cmpOf] at hc'); try (exfalso; omega)))
            | (
              apply AWP.drawA
              repeat' (first
                | (apply DL.cons; (try (apply OpLoc.on; exact rfl; exact rfl; exact rfl; exact rfl; (first | exact rfl | assumption))); apply ol_ev (τ := τ); exact rfl; (first | exact hside' | exact hside | exact cX | exact smeet1 | exact smeet0 | exact shasT | exact shasF | exact swT | exact swF | exact ssame_as | exact shull | exact sawake); exact rfl; exact rfl)
                | (apply DL.cons; exact olA; exact rfl)
                | (apply DL.nil; kernel_rfl)
                | (refine DL.split rfl rfl rfl rfl (fun hb => ?_) (fun hb => ?_) <;> have hb' := hb <;> (try simp only [decide_eq_true_eq, decide_eq_false_iff_not, Bool.not_true, Bool.not_false, bne_self_eq_false, beq_self_eq_true, ne_self_iff_false, Bool.true_bne, Bool.false_bne, Bool.true_beq, Bool.false_beq, Bool.false_eq_true, Bool.true_eq_false, reduceCtorEq, Bool.not_eq_true', Bool.not_eq_false', beq_iff_eq, bne_iff_ne, beq_eq_false_iff_ne, bne_eq_false_iff_eq, cmpOf] at hb') <;> try (exfalso; omega)))
              all_goals (fail_if_success apply DL.id))
            | (refine RunL.split rfl rfl rfl rfl (fun hb => ?_) (fun hb => ?_) <;> have hb' := hb <;> (try simp only [decide_eq_true_eq, decide_eq_false_iff_not, Bool.not_true, Bool.not_false, bne_self_eq_false, beq_self_eq_true, ne_self_iff_false, Bool.true_bne, Bool.false_bne, Bool.true_beq, Bool.false_beq, Bool.false_eq_true, Bool.true_eq_false, reduceCtorEq, Bool.not_eq_true', Bool.not_eq_false', beq_iff_eq, bne_iff_ne, beq_eq_false_iff_ne, bne_eq_false_iff_eq, cmpOf] at hb') <;> try (exfalso; omega))
            )
          all_goals
            exact ⟨_, St.Le.of (by repeat' (first | exact all_nil | refine all_cons rfl ?_)) (by repeat' (first | exact all_nil | refine all_cons rfl ?_)), ⟨by omega, by omega⟩, by omega⟩
        · try have pm := fun h => (show ¬ ((loQ x y ≤ q ∧ q ≤ hiQ x y) ∧ (loQ z v ≤ q ∧ q ≤ hiQ z v)) from fun h => by first | exact pa h.1 | exact pb h.2) ((hin q).1 h)
          subst hMM
          repeat' (first
            | (apply RunL.step; exact rfl; first
              | fail)
            | (apply RunL.step; exact rfl; apply op_ev (τ := τ); exact rfl; (first | exact hside' | exact hside | exact cX | exact smeet1 | exact smeet0 | exact shasT | exact shasF | exact swT | exact swF | exact ssame_as | exact shull | exact sawake); exact rfl)
            | (apply RunL.step; exact rfl; exact opA)
            | (apply RunL.hand; exact rfl; exact rfl; exact lenA; exact rfl)
            | (apply AWP.seq)
            | (apply AWP.region; exact rfl)
            | (apply AWP.block)
            | (apply AWP.skip)
            | (apply AWP.exit)
            | (apply AWP.retF; exact rfl; exact rfl; exact rfl; exact rfl; exact lenA; exact rfl)
            | (apply AWP.ret)
            | (apply RunL.nil)
            | (apply RunL.on; exact rfl; exact rfl; exact rfl; exact rfl; (first | exact rfl | assumption))
            | (apply RunL.noU; exact rfl; exact rfl; exact rfl; exact rfl; exact rfl; exact rfl)
            | (apply RunL.no; exact rfl; exact rfl; exact rfl; exact rfl; (first | exact rfl | assumption); exact rfl; exact rfl)
            | (refine AWP.cond _ (Rd.of rfl) (fun hc => ?_) (fun hc => ?_) <;> first | (exfalso; cases hc; done) | (have hc' := hc; (try simp only [decide_eq_true_eq, decide_eq_false_iff_not, Bool.not_true, Bool.not_false, bne_self_eq_false, beq_self_eq_true, ne_self_iff_false, Bool.true_bne, Bool.false_bne, Bool.true_beq, Bool.false_beq, Bool.false_eq_true, Bool.true_eq_false, reduceCtorEq, Bool.not_eq_true', Bool.not_eq_false', beq_iff_eq, bne_iff_ne, beq_eq_false_iff_ne, bne_eq_false_iff_eq, cmpOf] at hc'); try (exfalso; omega)))
            | (
              apply AWP.drawA
              repeat' (first
                | (apply DL.cons; (try (apply OpLoc.on; exact rfl; exact rfl; exact rfl; exact rfl; (first | exact rfl | assumption))); apply ol_ev (τ := τ); exact rfl; (first | exact hside' | exact hside | exact cX | exact smeet1 | exact smeet0 | exact shasT | exact shasF | exact swT | exact swF | exact ssame_as | exact shull | exact sawake); exact rfl; exact rfl)
                | (apply DL.cons; exact olA; exact rfl)
                | (apply DL.nil; kernel_rfl)
                | (refine DL.split rfl rfl rfl rfl (fun hb => ?_) (fun hb => ?_) <;> have hb' := hb <;> (try simp only [decide_eq_true_eq, decide_eq_false_iff_not, Bool.not_true, Bool.not_false, bne_self_eq_false, beq_self_eq_true, ne_self_iff_false, Bool.true_bne, Bool.false_bne, Bool.true_beq, Bool.false_beq, Bool.false_eq_true, Bool.true_eq_false, reduceCtorEq, Bool.not_eq_true', Bool.not_eq_false', beq_iff_eq, bne_iff_ne, beq_eq_false_iff_ne, bne_eq_false_iff_eq, cmpOf] at hb') <;> try (exfalso; omega)))
              all_goals (fail_if_success apply DL.id))
            | (refine RunL.split rfl rfl rfl rfl (fun hb => ?_) (fun hb => ?_) <;> have hb' := hb <;> (try simp only [decide_eq_true_eq, decide_eq_false_iff_not, Bool.not_true, Bool.not_false, bne_self_eq_false, beq_self_eq_true, ne_self_iff_false, Bool.true_bne, Bool.false_bne, Bool.true_beq, Bool.false_beq, Bool.false_eq_true, Bool.true_eq_false, reduceCtorEq, Bool.not_eq_true', Bool.not_eq_false', beq_iff_eq, bne_iff_ne, beq_eq_false_iff_ne, bne_eq_false_iff_eq, cmpOf] at hb') <;> try (exfalso; omega))
            )
          all_goals
            exact ⟨_, St.Le.of (by repeat' (first | exact all_nil | refine all_cons rfl ?_)) (by repeat' (first | exact all_nil | refine all_cons rfl ?_)), ⟨by omega, by omega⟩, by omega⟩
    · subst hMM
      repeat' (first
        | (apply RunL.step; exact rfl; first
          | fail)
        | (apply RunL.step; exact rfl; apply op_ev (τ := τ); exact rfl; (first | exact hside' | exact hside | exact cX | exact smeet1 | exact smeet0 | exact shasT | exact shasF | exact swT | exact swF | exact ssame_as | exact shull | exact sawake); exact rfl)
        | (apply RunL.step; exact rfl; exact opA)
        | (apply RunL.hand; exact rfl; exact rfl; exact lenA; exact rfl)
        | (apply AWP.seq)
        | (apply AWP.region; exact rfl)
        | (apply AWP.block)
        | (apply AWP.skip)
        | (apply AWP.exit)
        | (apply AWP.retF; exact rfl; exact rfl; exact rfl; exact rfl; exact lenA; exact rfl)
        | (apply AWP.ret)
        | (apply RunL.nil)
        | (apply RunL.on; exact rfl; exact rfl; exact rfl; exact rfl; (first | exact rfl | assumption))
        | (apply RunL.noU; exact rfl; exact rfl; exact rfl; exact rfl; exact rfl; exact rfl)
        | (apply RunL.no; exact rfl; exact rfl; exact rfl; exact rfl; (first | exact rfl | assumption); exact rfl; exact rfl)
        | (refine AWP.cond _ (Rd.of rfl) (fun hc => ?_) (fun hc => ?_) <;> first | (exfalso; cases hc; done) | (have hc' := hc; (try simp only [decide_eq_true_eq, decide_eq_false_iff_not, Bool.not_true, Bool.not_false, bne_self_eq_false, beq_self_eq_true, ne_self_iff_false, Bool.true_bne, Bool.false_bne, Bool.true_beq, Bool.false_beq, Bool.false_eq_true, Bool.true_eq_false, reduceCtorEq, Bool.not_eq_true', Bool.not_eq_false', beq_iff_eq, bne_iff_ne, beq_eq_false_iff_ne, bne_eq_false_iff_eq, cmpOf] at hc'); try (exfalso; omega)))
        | (
          apply AWP.drawA
          repeat' (first
            | (apply DL.cons; (try (apply OpLoc.on; exact rfl; exact rfl; exact rfl; exact rfl; (first | exact rfl | assumption))); apply ol_ev (τ := τ); exact rfl; (first | exact hside' | exact hside | exact cX | exact smeet1 | exact smeet0 | exact shasT | exact shasF | exact swT | exact swF | exact ssame_as | exact shull | exact sawake); exact rfl; exact rfl)
            | (apply DL.cons; exact olA; exact rfl)
            | (apply DL.nil; kernel_rfl)
            | (refine DL.split rfl rfl rfl rfl (fun hb => ?_) (fun hb => ?_) <;> have hb' := hb <;> (try simp only [decide_eq_true_eq, decide_eq_false_iff_not, Bool.not_true, Bool.not_false, bne_self_eq_false, beq_self_eq_true, ne_self_iff_false, Bool.true_bne, Bool.false_bne, Bool.true_beq, Bool.false_beq, Bool.false_eq_true, Bool.true_eq_false, reduceCtorEq, Bool.not_eq_true', Bool.not_eq_false', beq_iff_eq, bne_iff_ne, beq_eq_false_iff_ne, bne_eq_false_iff_eq, cmpOf] at hb') <;> try (exfalso; omega)))
          all_goals (fail_if_success apply DL.id))
        | (refine RunL.split rfl rfl rfl rfl (fun hb => ?_) (fun hb => ?_) <;> have hb' := hb <;> (try simp only [decide_eq_true_eq, decide_eq_false_iff_not, Bool.not_true, Bool.not_false, bne_self_eq_false, beq_self_eq_true, ne_self_iff_false, Bool.true_bne, Bool.false_bne, Bool.true_beq, Bool.false_beq, Bool.false_eq_true, Bool.true_eq_false, reduceCtorEq, Bool.not_eq_true', Bool.not_eq_false', beq_iff_eq, bne_iff_ne, beq_eq_false_iff_ne, bne_eq_false_iff_eq, cmpOf] at hb') <;> try (exfalso; omega))
        )
      all_goals
        (apply Ends.mk (.cons (.tmp rfl) .nil); first | rfl | (simp only [pack]; congr 1; simp only [cmpOf, decide_eq_true_eq, beq_iff_eq, bne_iff_ne]; omega))
  · have hs := sideQ_ne hM
    have hcase : ∀ q : Rat, (loQ x y ≤ q ∧ q ≤ hiQ x y) → (loQ z v ≤ q ∧ q ≤ hiQ z v) → False := fun q pa pb => hM (Rat.le_trans ((hiQ_le_iff _ _ _).2 ⟨pa.1, pb.1⟩) ((le_loQ _ _ _).2 ⟨pa.2, pb.2⟩))
    obtain ⟨MM, hMM⟩ : ∃ MM : List D, [.bool false, .ints .u32 [], .ints .u32 [], .bool false, .ints .u32 [], .ints .u32 []] = MM := ⟨_, rfl⟩
    repeat' (first
      | (apply RunL.step; exact rfl; first
        | fail)
      | (apply RunL.step; exact rfl; apply op_ev (τ := τ); exact rfl; (first | exact hside' | exact hside | exact cX | exact smeet1 | exact smeet0 | exact shasT | exact shasF | exact swT | exact swF | exact ssame_as | exact shull | exact sawake); exact rfl)
      | (apply RunL.step; exact rfl; exact opA)
      | (apply RunL.hand; exact rfl; exact rfl; exact lenA; exact rfl)
      | (apply AWP.seq)
      | (apply AWP.region; exact rfl)
      | (apply AWP.block)
      | (apply AWP.skip)
      | (apply AWP.exit)
      | (apply AWP.retF; exact rfl; exact rfl; exact rfl; exact rfl; exact lenA; exact rfl)
      | (apply AWP.ret)
      | (apply RunL.nil)
      | (apply RunL.on; exact rfl; exact rfl; exact rfl; exact rfl; (first | exact rfl | assumption))
      | (apply RunL.noU; exact rfl; exact rfl; exact rfl; exact rfl; exact rfl; exact rfl)
      | (apply RunL.no; exact rfl; exact rfl; exact rfl; exact rfl; (first | exact rfl | assumption); exact rfl; exact rfl)
      | (refine AWP.cond _ (Rd.of rfl) (fun hc => ?_) (fun hc => ?_) <;> first | (exfalso; cases hc; done) | (have hc' := hc; (try simp only [decide_eq_true_eq, decide_eq_false_iff_not, Bool.not_true, Bool.not_false, bne_self_eq_false, beq_self_eq_true, ne_self_iff_false, Bool.true_bne, Bool.false_bne, Bool.true_beq, Bool.false_beq, Bool.false_eq_true, Bool.true_eq_false, reduceCtorEq, Bool.not_eq_true', Bool.not_eq_false', beq_iff_eq, bne_iff_ne, beq_eq_false_iff_ne, bne_eq_false_iff_eq, cmpOf] at hc'); try (exfalso; omega)))
      | (
        apply AWP.drawA
        repeat' (first
          | (apply DL.cons; (try (apply OpLoc.on; exact rfl; exact rfl; exact rfl; exact rfl; (first | exact rfl | assumption))); apply ol_ev (τ := τ); exact rfl; (first | exact hside' | exact hside | exact cX | exact smeet1 | exact smeet0 | exact shasT | exact shasF | exact swT | exact swF | exact ssame_as | exact shull | exact sawake); exact rfl; exact rfl)
          | (apply DL.cons; exact olA; exact rfl)
          | (apply DL.nil; kernel_rfl)
          | (refine DL.split rfl rfl rfl rfl (fun hb => ?_) (fun hb => ?_) <;> have hb' := hb <;> (try simp only [decide_eq_true_eq, decide_eq_false_iff_not, Bool.not_true, Bool.not_false, bne_self_eq_false, beq_self_eq_true, ne_self_iff_false, Bool.true_bne, Bool.false_bne, Bool.true_beq, Bool.false_beq, Bool.false_eq_true, Bool.true_eq_false, reduceCtorEq, Bool.not_eq_true', Bool.not_eq_false', beq_iff_eq, bne_iff_ne, beq_eq_false_iff_ne, bne_eq_false_iff_eq, cmpOf] at hb') <;> try (exfalso; omega)))
        all_goals (fail_if_success apply DL.id))
      | (refine RunL.split rfl rfl rfl rfl (fun hb => ?_) (fun hb => ?_) <;> have hb' := hb <;> (try simp only [decide_eq_true_eq, decide_eq_false_iff_not, Bool.not_true, Bool.not_false, bne_self_eq_false, beq_self_eq_true, ne_self_iff_false, Bool.true_bne, Bool.false_bne, Bool.true_beq, Bool.false_beq, Bool.false_eq_true, Bool.true_eq_false, reduceCtorEq, Bool.not_eq_true', Bool.not_eq_false', beq_iff_eq, bne_iff_ne, beq_eq_false_iff_ne, bne_eq_false_iff_eq, cmpOf] at hb') <;> try (exfalso; omega))
      )
    refine AWP.loop (ι := Int) (fun i => ⟨[(4, .pb 4 0), (5, .pb 5 0), (9, .pb 9 0), (10, .val (.bool false)), (47, .val (.sl 3 M)), (48, .val (.int .i64 6)), (49, .val (.int .i64 i))], [(4, .cells 29 [.bool s1, .ints .u32 l1, .ints .u32 d1, .bool s2, .ints .u32 l2, .ints .u32 d2]), (5, .cells 29 [.bool s3, .ints .u32 l3, .ints .u32 d3, .bool s4, .ints .u32 l4, .ints .u32 d4]), (9, .cells 29 MM)]⟩) (fun i => 0 ≤ i ∧ i ≤ 6) (fun i => (6 - i).toNat) 0 ⟨by omega, by omega⟩ (by rw [← hMd, ← hMM]; exact St.Le.of (by repeat' (first | exact all_nil | refine all_cons rfl ?_)) (by repeat' (first | exact all_nil | refine all_cons rfl ?_))) ?_
    rintro i ⟨k1, k2⟩
    by_cases hi : i < 6
    · obtain ⟨s', l', d', q, hrow, iq⟩ := hrows i k1 hi
      have hh := fun h => hull_in (x := x) (y := y) (z := z) (v := v) (q := q) h
      by_cases pa : loQ x y ≤ q ∧ q ≤ hiQ x y
      · have ph := hh (.inl pa)
        by_cases pb : loQ z v ≤ q ∧ q ≤ hiQ z v
        · have pm := hcase q pa pb
          subst hMM
          repeat' (first
            | (apply RunL.step; exact rfl; first
              | fail)
            | (apply RunL.step; exact rfl; apply op_ev (τ := τ); exact rfl; (first | exact hside' | exact hside | exact cX | exact smeet1 | exact smeet0 | exact shasT | exact shasF | exact swT | exact swF | exact ssame_as | exact shull | exact sawake); exact rfl)
            | (apply RunL.step; exact rfl; exact opA)
            | (apply RunL.hand; exact rfl; exact rfl; exact lenA; exact rfl)
            | (apply AWP.seq)
            | (apply AWP.region; exact rfl)
            | (apply AWP.block)
            | (apply AWP.skip)
            | (apply AWP.exit)
            | (apply AWP.retF; exact rfl; exact rfl; exact rfl; exact rfl; exact lenA; exact rfl)
            | (apply AWP.ret)
            | (apply RunL.nil)
            | (apply RunL.on; exact rfl; exact rfl; exact rfl; exact rfl; (first | exact rfl | assumption))
            | (apply RunL.noU; exact rfl; exact rfl; exact rfl; exact rfl; exact rfl; exact rfl)
            | (apply RunL.no; exact rfl; exact rfl; exact rfl; exact rfl; (first | exact rfl | assumption); exact rfl; exact rfl)
            | (refine AWP.cond _ (Rd.of rfl) (fun hc => ?_) (fun hc => ?_) <;> first | (exfalso; cases hc; done) | (have hc' := hc; (try simp only [decide_eq_true_eq, decide_eq_false_iff_not, Bool.not_true, Bool.not_false, bne_self_eq_false, beq_self_eq_true, ne_self_iff_false, Bool.true_bne, Bool.false_bne, Bool.true_beq, Bool.false_beq, Bool.false_eq_true, Bool.true_eq_false, reduceCtorEq, Bool.not_eq_true', Bool.not_eq_false', beq_iff_eq, bne_iff_ne, beq_eq_false_iff_ne, bne_eq_false_iff_eq, cmpOf] at hc'); try (exfalso; omega)))
            | (
              apply AWP.drawA
              repeat' (first
                | (apply DL.cons; (try (apply OpLoc.on; exact rfl; exact rfl; exact rfl; exact rfl; (first | exact rfl | assumption))); apply ol_ev (τ := τ); exact rfl; (first | exact hside' | exact hside | exact cX | exact smeet1 | exact smeet0 | exact shasT | exact shasF | exact swT | exact swF | exact ssame_as | exact shull | exact sawake); exact rfl; exact rfl)
                | (apply DL.cons; exact olA; exact rfl)
                | (apply DL.nil; kernel_rfl)
                | (refine DL.split rfl rfl rfl rfl (fun hb => ?_) (fun hb => ?_) <;> have hb' := hb <;> (try simp only [decide_eq_true_eq, decide_eq_false_iff_not, Bool.not_true, Bool.not_false, bne_self_eq_false, beq_self_eq_true, ne_self_iff_false, Bool.true_bne, Bool.false_bne, Bool.true_beq, Bool.false_beq, Bool.false_eq_true, Bool.true_eq_false, reduceCtorEq, Bool.not_eq_true', Bool.not_eq_false', beq_iff_eq, bne_iff_ne, beq_eq_false_iff_ne, bne_eq_false_iff_eq, cmpOf] at hb') <;> try (exfalso; omega)))
              all_goals (fail_if_success apply DL.id))
            | (refine RunL.split rfl rfl rfl rfl (fun hb => ?_) (fun hb => ?_) <;> have hb' := hb <;> (try simp only [decide_eq_true_eq, decide_eq_false_iff_not, Bool.not_true, Bool.not_false, bne_self_eq_false, beq_self_eq_true, ne_self_iff_false, Bool.true_bne, Bool.false_bne, Bool.true_beq, Bool.false_beq, Bool.false_eq_true, Bool.true_eq_false, reduceCtorEq, Bool.not_eq_true', Bool.not_eq_false', beq_iff_eq, bne_iff_ne, beq_eq_false_iff_ne, bne_eq_false_iff_eq, cmpOf] at hb') <;> try (exfalso; omega))
            )
          all_goals first
            | exact ⟨_, St.Le.of (by repeat' (first | exact all_nil | refine all_cons rfl ?_)) (by repeat' (first | exact all_nil | refine all_cons rfl ?_)), ⟨by omega, by omega⟩, by omega⟩
            | exact pm.elim
        · try have pm := fun h => (show ¬ ((loQ x y ≤ q ∧ q ≤ hiQ x y) ∧ (loQ z v ≤ q ∧ q ≤ hiQ z v)) from fun h => by first | exact pa h.1 | exact pb h.2) ((hin q).1 h)
          subst hMM
          repeat' (first
            | (apply RunL.step; exact rfl; first
              | fail)
            | (apply RunL.step; exact rfl; apply op_ev (τ := τ); exact rfl; (first | exact hside' | exact hside | exact cX | exact smeet1 | exact smeet0 | exact shasT | exact shasF | exact swT | exact swF | exact ssame_as | exact shull | exact sawake); exact rfl)
            | (apply RunL.step; exact rfl; exact opA)
            | (apply RunL.hand; exact rfl; exact rfl; exact lenA; exact rfl)
            | (apply AWP.seq)
            | (apply AWP.region; exact rfl)
            | (apply AWP.block)
            | (apply AWP.skip)
            | (apply AWP.exit)
            | (apply AWP.retF; exact rfl; exact rfl; exact rfl; exact rfl; exact lenA; exact rfl)
            | (apply AWP.ret)
            | (apply RunL.nil)
            | (apply RunL.on; exact rfl; exact rfl; exact rfl; exact rfl; (first | exact rfl | assumption))
            | (apply RunL.noU; exact rfl; exact rfl; exact rfl; exact rfl; exact rfl; exact rfl)
            | (apply RunL.no; exact rfl; exact rfl; exact rfl; exact rfl; (first | exact rfl | assumption); exact rfl; exact rfl)
            | (refine AWP.cond _ (Rd.of rfl) (fun hc => ?_) (fun hc => ?_) <;> first | (exfalso; cases hc; done) | (have hc' := hc; (try simp only [decide_eq_true_eq, decide_eq_false_iff_not, Bool.not_true, Bool.not_false, bne_self_eq_false, beq_self_eq_true, ne_self_iff_false, Bool.true_bne, Bool.false_bne, Bool.true_beq, Bool.false_beq, Bool.false_eq_true, Bool.true_eq_false, reduceCtorEq, Bool.not_eq_true', Bool.not_eq_false', beq_iff_eq, bne_iff_ne, beq_eq_false_iff_ne, bne_eq_false_iff_eq, cmpOf] at hc'); try (exfalso; omega)))
            | (
              apply AWP.drawA
              repeat' (first
                | (apply DL.cons; (try (apply OpLoc.on; exact rfl; exact rfl; exact rfl; exact rfl; (first | exact rfl | assumption))); apply ol_ev (τ := τ); exact rfl; (first | exact hside' | exact hside | exact cX | exact smeet1 | exact smeet0 | exact shasT | exact shasF | exact swT | exact swF | exact ssame_as | exact shull | exact sawake); exact rfl; exact rfl)
                | (apply DL.cons; exact olA; exact rfl)
                | (apply DL.nil; kernel_rfl)
                | (refine DL.split rfl rfl rfl rfl (fun hb => ?_) (fun hb => ?_) <;> have hb' := hb <;> (try simp only [decide_eq_true_eq, decide_eq_false_iff_not, Bool.not_true, Bool.not_false, bne_self_eq_false, beq_self_eq_true, ne_self_iff_false, Bool.true_bne, Bool.false_bne, Bool.true_beq, Bool.false_beq, Bool.false_eq_true, Bool.true_eq_false, reduceCtorEq, Bool.not_eq_true', Bool.not_eq_false', beq_iff_eq, bne_iff_ne, beq_eq_false_iff_ne, bne_eq_false_iff_eq, cmpOf] at hb') <;> try (exfalso; omega)))
              all_goals (fail_if_success apply DL.id))
            | (refine RunL.split rfl rfl rfl rfl (fun hb => ?_) (fun hb => ?_) <;> have hb' := hb <;> (try simp only [decide_eq_true_eq, decide_eq_false_iff_not, Bool.not_true, Bool.not_false, bne_self_eq_false, beq_self_eq_true, ne_self_iff_false, Bool.true_bne, Bool.false_bne, Bool.true_beq, Bool.false_beq, Bool.false_eq_true, Bool.true_eq_false, reduceCtorEq, Bool.not_eq_true', Bool.not_eq_false', beq_iff_eq, bne_iff_ne, beq_eq_false_iff_ne, bne_eq_false_iff_eq, cmpOf] at hb') <;> try (exfalso; omega))
            )
          all_goals
            exact ⟨_, St.Le.of (by repeat' (first | exact all_nil | refine all_cons rfl ?_)) (by repeat' (first | exact all_nil | refine all_cons rfl ?_)), ⟨by omega, by omega⟩, by omega⟩
      · by_cases pb : loQ z v ≤ q ∧ q ≤ hiQ z v
        · have ph := hh (.inr pb)
          try have pm := fun h => (show ¬ ((loQ x y ≤ q ∧ q ≤ hiQ x y) ∧ (loQ z v ≤ q ∧ q ≤ hiQ z v)) from fun h => by first | exact pa h.1 | exact pb h.2) ((hin q).1 h)
          subst hMM
          repeat' (first
            | (apply RunL.step; exact rfl; first
              | fail)
            | (apply RunL.step; exact rfl; apply op_ev (τ := τ); exact rfl; (first | exact hside' | exact hside | exact cX | exact smeet1 | exact smeet0 | exact shasT | exact shasF | exact swT | exact swF | exact ssame_as | exact shull | exact sawake); exact rfl)
            | (apply RunL.step; exact rfl; exact opA)
            | (apply RunL.hand; exact rfl; exact rfl; exact lenA; exact rfl)
            | (apply AWP.seq)
            | (apply AWP.region; exact rfl)
            | (apply AWP.block)
            | (apply AWP.skip)
            | (apply AWP.exit)
            | (apply AWP.retF; exact rfl; exact rfl; exact rfl; exact rfl; exact lenA; exact rfl)
            | (apply AWP.ret)
            | (apply RunL.nil)
            | (apply RunL.on; exact rfl; exact rfl; exact rfl; exact rfl; (first | exact rfl | assumption))
            | (apply RunL.noU; exact rfl; exact rfl; exact rfl; exact rfl; exact rfl; exact rfl)
            | (apply RunL.no; exact rfl; exact rfl; exact rfl; exact rfl; (first | exact rfl | assumption); exact rfl; exact rfl)
            | (refine AWP.cond _ (Rd.of rfl) (fun hc => ?_) (fun hc => ?_) <;> first | (exfalso; cases hc; done) | (have hc' := hc; (try simp only [decide_eq_true_eq, decide_eq_false_iff_not, Bool.not_true, Bool.not_false, bne_self_eq_false, beq_self_eq_true, ne_self_iff_false, Bool.true_bne, Bool.false_bne, Bool.true_beq, Bool.false_beq, Bool.false_eq_true, Bool.true_eq_false, reduceCtorEq, Bool.not_eq_true', Bool.not_eq_false', beq_iff_eq, bne_iff_ne, beq_eq_false_iff_ne, bne_eq_false_iff_eq, cmpOf] at hc'); try (exfalso; omega)))
            | (
              apply AWP.drawA
              repeat' (first
                | (apply DL.cons; (try (apply OpLoc.on; exact rfl; exact rfl; exact rfl; exact rfl; (first | exact rfl | assumption))); apply ol_ev (τ := τ); exact rfl; (first | exact hside' | exact hside | exact cX | exact smeet1 | exact smeet0 | exact shasT | exact shasF | exact swT | exact swF | exact ssame_as | exact shull | exact sawake); exact rfl; exact rfl)
                | (apply DL.cons; exact olA; exact rfl)
                | (apply DL.nil; kernel_rfl)
                | (refine DL.split rfl rfl rfl rfl (fun hb => ?_) (fun hb => ?_) <;> have hb' := hb <;> (try simp only [decide_eq_true_eq, decide_eq_false_iff_not, Bool.not_true, Bool.not_false, bne_self_eq_false, beq_self_eq_true, ne_self_iff_false, Bool.true_bne, Bool.false_bne, Bool.true_beq, Bool.false_beq, Bool.false_eq_true, Bool.true_eq_false, reduceCtorEq, Bool.not_eq_true', Bool.not_eq_false', beq_iff_eq, bne_iff_ne, beq_eq_false_iff_ne, bne_eq_false_iff_eq, cmpOf] at hb') <;> try (exfalso; omega)))
              all_goals (fail_if_success apply DL.id))
            | (refine RunL.split rfl rfl rfl rfl (fun hb => ?_) (fun hb => ?_) <;> have hb' := hb <;> (try simp only [decide_eq_true_eq, decide_eq_false_iff_not, Bool.not_true, Bool.not_false, bne_self_eq_false, beq_self_eq_true, ne_self_iff_false, Bool.true_bne, Bool.false_bne, Bool.true_beq, Bool.false_beq, Bool.false_eq_true, Bool.true_eq_false, reduceCtorEq, Bool.not_eq_true', Bool.not_eq_false', beq_iff_eq, bne_iff_ne, beq_eq_false_iff_ne, bne_eq_false_iff_eq, cmpOf] at hb') <;> try (exfalso; omega))
            )
          all_goals
            exact ⟨_, St.Le.of (by repeat' (first | exact all_nil | refine all_cons rfl ?_)) (by repeat' (first | exact all_nil | refine all_cons rfl ?_)), ⟨by omega, by omega⟩, by omega⟩
        · try have pm := fun h => (show ¬ ((loQ x y ≤ q ∧ q ≤ hiQ x y) ∧ (loQ z v ≤ q ∧ q ≤ hiQ z v)) from fun h => by first | exact pa h.1 | exact pb h.2) ((hin q).1 h)
          subst hMM
          repeat' (first
            | (apply RunL.step; exact rfl; first
              | fail)
            | (apply RunL.step; exact rfl; apply op_ev (τ := τ); exact rfl; (first | exact hside' | exact hside | exact cX | exact smeet1 | exact smeet0 | exact shasT | exact shasF | exact swT | exact swF | exact ssame_as | exact shull | exact sawake); exact rfl)
            | (apply RunL.step; exact rfl; exact opA)
            | (apply RunL.hand; exact rfl; exact rfl; exact lenA; exact rfl)
            | (apply AWP.seq)
            | (apply AWP.region; exact rfl)
            | (apply AWP.block)
            | (apply AWP.skip)
            | (apply AWP.exit)
            | (apply AWP.retF; exact rfl; exact rfl; exact rfl; exact rfl; exact lenA; exact rfl)
            | (apply AWP.ret)
            | (apply RunL.nil)
            | (apply RunL.on; exact rfl; exact rfl; exact rfl; exact rfl; (first | exact rfl | assumption))
            | (apply RunL.noU; exact rfl; exact rfl; exact rfl; exact rfl; exact rfl; exact rfl)
            | (apply RunL.no; exact rfl; exact rfl; exact rfl; exact rfl; (first | exact rfl | assumption); exact rfl; exact rfl)
            | (refine AWP.cond _ (Rd.of rfl) (fun hc => ?_) (fun hc => ?_) <;> first | (exfalso; cases hc; done) | (have hc' := hc; (try simp only [decide_eq_true_eq, decide_eq_false_iff_not, Bool.not_true, Bool.not_false, bne_self_eq_false, beq_self_eq_true, ne_self_iff_false, Bool.true_bne, Bool.false_bne, Bool.true_beq, Bool.false_beq, Bool.false_eq_true, Bool.true_eq_false, reduceCtorEq, Bool.not_eq_true', Bool.not_eq_false', beq_iff_eq, bne_iff_ne, beq_eq_false_iff_ne, bne_eq_false_iff_eq, cmpOf] at hc'); try (exfalso; omega)))
            | (
              apply AWP.drawA
              repeat' (first
                | (apply DL.cons; (try (apply OpLoc.on; exact rfl; exact rfl; exact rfl; exact rfl; (first | exact rfl | assumption))); apply ol_ev (τ := τ); exact rfl; (first | exact hside' | exact hside | exact cX | exact smeet1 | exact smeet0 | exact shasT | exact shasF | exact swT | exact swF | exact ssame_as | exact shull | exact sawake); exact rfl; exact rfl)
                | (apply DL.cons; exact olA; exact rfl)
                | (apply DL.nil; kernel_rfl)
                | (refine DL.split rfl rfl rfl rfl (fun hb => ?_) (fun hb => ?_) <;> have hb' := hb <;> (try simp only [decide_eq_true_eq, decide_eq_false_iff_not, Bool.not_true, Bool.not_false, bne_self_eq_false, beq_self_eq_true, ne_self_iff_false, Bool.true_bne, Bool.false_bne, Bool.true_beq, Bool.false_beq, Bool.false_eq_true, Bool.true_eq_false, reduceCtorEq, Bool.not_eq_true', Bool.not_eq_false', beq_iff_eq, bne_iff_ne, beq_eq_false_iff_ne, bne_eq_false_iff_eq, cmpOf] at hb') <;> try (exfalso; omega)))
              all_goals (fail_if_success apply DL.id))
            | (refine RunL.split rfl rfl rfl rfl (fun hb => ?_) (fun hb => ?_) <;> have hb' := hb <;> (try simp only [decide_eq_true_eq, decide_eq_false_iff_not, Bool.not_true, Bool.not_false, bne_self_eq_false, beq_self_eq_true, ne_self_iff_false, Bool.true_bne, Bool.false_bne, Bool.true_beq, Bool.false_beq, Bool.false_eq_true, Bool.true_eq_false, reduceCtorEq, Bool.not_eq_true', Bool.not_eq_false', beq_iff_eq, bne_iff_ne, beq_eq_false_iff_ne, bne_eq_false_iff_eq, cmpOf] at hb') <;> try (exfalso; omega))
            )
          all_goals
            exact ⟨_, St.Le.of (by repeat' (first | exact all_nil | refine all_cons rfl ?_)) (by repeat' (first | exact all_nil | refine all_cons rfl ?_)), ⟨by omega, by omega⟩, by omega⟩
    · subst hMM
      repeat' (first
        | (apply RunL.step; exact rfl; first
          | fail)
        | (apply RunL.step; exact rfl; apply op_ev (τ := τ); exact rfl; (first | exact hside' | exact hside | exact cX | exact smeet1 | exact smeet0 | exact shasT | exact shasF | exact swT | exact swF | exact ssame_as | exact shull | exact sawake); exact rfl)
        | (apply RunL.step; exact rfl; exact opA)
        | (apply RunL.hand; exact rfl; exact rfl; exact lenA; exact rfl)
        | (apply AWP.seq)
        | (apply AWP.region; exact rfl)
        | (apply AWP.block)
        | (apply AWP.skip)
        | (apply AWP.exit)
        | (apply AWP.retF; exact rfl; exact rfl; exact rfl; exact rfl; exact lenA; exact rfl)
        | (apply AWP.ret)
        | (apply RunL.nil)
        | (apply RunL.on; exact rfl; exact rfl; exact rfl; exact rfl; (first | exact rfl | assumption))
        | (apply RunL.noU; exact rfl; exact rfl; exact rfl; exact rfl; exact rfl; exact rfl)
        | (apply RunL.no; exact rfl; exact rfl; exact rfl; exact rfl; (first | exact rfl | assumption); exact rfl; exact rfl)
        | (refine AWP.cond _ (Rd.of rfl) (fun hc => ?_) (fun hc => ?_) <;> first | (exfalso; cases hc; done) | (have hc' := hc; (try simp only [decide_eq_true_eq, decide_eq_false_iff_not, Bool.not_true, Bool.not_false, bne_self_eq_false, beq_self_eq_true, ne_self_iff_false, Bool.true_bne, Bool.false_bne, Bool.true_beq, Bool.false_beq, Bool.false_eq_true, Bool.true_eq_false, reduceCtorEq, Bool.not_eq_true', Bool.not_eq_false', beq_iff_eq, bne_iff_ne, beq_eq_false_iff_ne, bne_eq_false_iff_eq, cmpOf] at hc'); try (exfalso; omega)))
        | (
          apply AWP.drawA
          repeat' (first
            | (apply DL.cons; (try (apply OpLoc.on; exact rfl; exact rfl; exact rfl; exact rfl; (first | exact rfl | assumption))); apply ol_ev (τ := τ); exact rfl; (first | exact hside' | exact hside | exact cX | exact smeet1 | exact smeet0 | exact shasT | exact shasF | exact swT | exact swF | exact ssame_as | exact shull | exact sawake); exact rfl; exact rfl)
            | (apply DL.cons; exact olA; exact rfl)
            | (apply DL.nil; kernel_rfl)
            | (refine DL.split rfl rfl rfl rfl (fun hb => ?_) (fun hb => ?_) <;> have hb' := hb <;> (try simp only [decide_eq_true_eq, decide_eq_false_iff_not, Bool.not_true, Bool.not_false, bne_self_eq_false, beq_self_eq_true, ne_self_iff_false, Bool.true_bne, Bool.false_bne, Bool.true_beq, Bool.false_beq, Bool.false_eq_true, Bool.true_eq_false, reduceCtorEq, Bool.not_eq_true', Bool.not_eq_false', beq_iff_eq, bne_iff_ne, beq_eq_false_iff_ne, bne_eq_false_iff_eq, cmpOf] at hb') <;> try (exfalso; omega)))
          all_goals (fail_if_success apply DL.id))
        | (refine RunL.split rfl rfl rfl rfl (fun hb => ?_) (fun hb => ?_) <;> have hb' := hb <;> (try simp only [decide_eq_true_eq, decide_eq_false_iff_not, Bool.not_true, Bool.not_false, bne_self_eq_false, beq_self_eq_true, ne_self_iff_false, Bool.true_bne, Bool.false_bne, Bool.true_beq, Bool.false_beq, Bool.false_eq_true, Bool.true_eq_false, reduceCtorEq, Bool.not_eq_true', Bool.not_eq_false', beq_iff_eq, bne_iff_ne, beq_eq_false_iff_ne, bne_eq_false_iff_eq, cmpOf] at hb') <;> try (exfalso; omega))
        )
      all_goals
        (apply Ends.mk (.cons (.tmp rfl) .nil); first | rfl | (simp only [pack]; congr 1; simp only [cmpOf, decide_eq_true_eq, beq_iff_eq, bne_iff_ne]; omega))
end Go.Proofs.YtfbpkohfpipliaaDoor.K
