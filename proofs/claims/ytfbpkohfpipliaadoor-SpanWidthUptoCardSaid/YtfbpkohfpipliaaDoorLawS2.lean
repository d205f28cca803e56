/- The laws of layer 5 (examboardlaw05), continued. -/
import Derived.Test.YtfbpkohfpipliaaDoorLawS
namespace Go.Proofs.YtfbpkohfpipliaaDoor.K
open Go
set_option linter.unusedVariables false
set_option linter.unusedSimpArgs false

theorem swT {s s' t t' : Bool} {l d l' d' u e u' e' : List Int} {x y z v : Rat} {k m i j : Nat} [h : RA s l d x k] [h' : RA s' l' d' y m] [g : RA t u e z i] [g' : RA t' u' e' v j] (hT : within x y z v := by assumption) (hk : k + m + i + j ≤ 1000000000 := by first | omega | (simp only [List.length_cons, List.length_nil, List.length_set, List.length_replicate, List.length_append, List.length_take, List.length_drop]; omega)) : Evals Tryd.prog 12 [.agg [.bool s, .ints .u32 l, .ints .u32 d, .bool s', .ints .u32 l', .ints .u32 d'], .agg [.bool t, .ints .u32 u, .ints .u32 e, .bool t', .ints .u32 u', .ints .u32 e']] (.bool true) := by
  have := swithin (h := h) (h' := h') (g := g) (g' := g') hk
  rwa [decide_eq_true hT] at this
theorem swF {s s' t t' : Bool} {l d l' d' u e u' e' : List Int} {x y z v : Rat} {k m i j : Nat} [h : RA s l d x k] [h' : RA s' l' d' y m] [g : RA t u e z i] [g' : RA t' u' e' v j] (hT : ¬ within x y z v := by assumption) (hk : k + m + i + j ≤ 1000000000 := by first | omega | (simp only [List.length_cons, List.length_nil, List.length_set, List.length_replicate, List.length_append, List.length_take, List.length_drop]; omega)) : Evals Tryd.prog 12 [.agg [.bool s, .ints .u32 l, .ints .u32 d, .bool s', .ints .u32 l', .ints .u32 d'], .agg [.bool t, .ints .u32 u, .ints .u32 e, .bool t', .ints .u32 u', .ints .u32 e']] (.bool false) := by
  have := swithin (h := h) (h' := h') (g := g) (g' := g') hk
  rwa [decide_eq_false hT] at this
theorem within_span {A B C D : Rat} (h1 : A ≤ B) (h2 : C ≤ D) (h3 : C ≤ A) (h4 : B ≤ D) : within (loQ A B) (hiQ A B) (loQ C D) (hiQ C D) := by
  obtain ⟨e1, e2⟩ := lohi h1
  obtain ⟨e3, e4⟩ := lohi h2
  rw [e1, e2, e3, e4]
  unfold within
  rw [e3, e4]
  exact ⟨⟨h3, Rat.le_trans h1 h4⟩, Rat.le_trans h3 h1, h4⟩
set_option maxHeartbeats 4000000 in
theorem law_SpanMonotone (s1 : Bool) (l1 d1 : List Int) (s2 : Bool) (l2 d2 : List Int) (s3 : Bool) (l3 d3 : List Int) (s4 : Bool) (l4 d4 : List Int) (s5 : Bool) (l5 d5 : List Int) (s6 : Bool) (l6 d6 : List Int) (hb : bulkA [.agg [.bool s1, .ints .u32 l1, .ints .u32 d1, .bool s2, .ints .u32 l2, .ints .u32 d2], .agg [.bool s3, .ints .u32 l3, .ints .u32 d3, .bool s4, .ints .u32 l4, .ints .u32 d4], .agg [.bool s5, .ints .u32 l5, .ints .u32 d5, .bool s6, .ints .u32 l6, .ints .u32 d6]] ≤ 1048576) : Evals Tryd.prog 5 [.agg [.bool s1, .ints .u32 l1, .ints .u32 d1, .bool s2, .ints .u32 l2, .ints .u32 d2], .agg [.bool s3, .ints .u32 l3, .ints .u32 d3, .bool s4, .ints .u32 l4, .ints .u32 d4], .agg [.bool s5, .ints .u32 l5, .ints .u32 d5, .bool s6, .ints .u32 l6, .ints .u32 d6]] (.bool true) := by
  refine evals_of_awp Tryd.func5 rfl (CallOK.of Tryd.func5 (by kernel_rfl) rfl) (Nat.le_of_ble_eq_true rfl) ?_
  rintro w R hR ⟨vs, hv⟩
  have hl1 : l1.length ≤ 1048576 := by simp [bulkA, D.parts, bulkL, D.bulk] at hb; omega
  have hl2 : l2.length ≤ 1048576 := by simp [bulkA, D.parts, bulkL, D.bulk] at hb; omega
  have hd1 : d1.length ≤ 1048576 := by simp [bulkA, D.parts, bulkL, D.bulk] at hb; omega
  have hd2 : d2.length ≤ 1048576 := by simp [bulkA, D.parts, bulkL, D.bulk] at hb; omega
  obtain ⟨x, i1⟩ : ∃ x, RA s1 l1 d1 x 1048576 := ⟨_, rfl, hl1, hd1⟩
  obtain ⟨y, i2⟩ : ∃ x, RA s2 l2 d2 x 1048576 := ⟨_, rfl, hl2, hd2⟩
  obtain ⟨w1, w2, w3, w4⟩ := hv.span 0 rfl
  have z1 := i1.sz w1 w2
  have z2 := i2.sz w3 w4
  have hl3 : l3.length ≤ 1048576 := by simp [bulkA, D.parts, bulkL, D.bulk] at hb; omega
  have hl4 : l4.length ≤ 1048576 := by simp [bulkA, D.parts, bulkL, D.bulk] at hb; omega
  have hd3 : d3.length ≤ 1048576 := by simp [bulkA, D.parts, bulkL, D.bulk] at hb; omega
  have hd4 : d4.length ≤ 1048576 := by simp [bulkA, D.parts, bulkL, D.bulk] at hb; omega
  obtain ⟨z, i3⟩ : ∃ x, RA s3 l3 d3 x 1048576 := ⟨_, rfl, hl3, hd3⟩
  obtain ⟨v, i4⟩ : ∃ x, RA s4 l4 d4 x 1048576 := ⟨_, rfl, hl4, hd4⟩
  obtain ⟨w5, w6, w7, w8⟩ := hv.span 1 rfl
  have z3 := i3.sz w5 w6
  have z4 := i4.sz w7 w8
  have hl5 : l5.length ≤ 1048576 := by simp [bulkA, D.parts, bulkL, D.bulk] at hb; omega
  have hl6 : l6.length ≤ 1048576 := by simp [bulkA, D.parts, bulkL, D.bulk] at hb; omega
  have hd5 : d5.length ≤ 1048576 := by simp [bulkA, D.parts, bulkL, D.bulk] at hb; omega
  have hd6 : d6.length ≤ 1048576 := by simp [bulkA, D.parts, bulkL, D.bulk] at hb; omega
  obtain ⟨p, i5⟩ : ∃ x, RA s5 l5 d5 x 1048576 := ⟨_, rfl, hl5, hd5⟩
  obtain ⟨q, i6⟩ : ∃ x, RA s6 l6 d6 x 1048576 := ⟨_, rfl, hl6, hd6⟩
  obtain ⟨w9, w10, w11, w12⟩ := hv.span 2 rfl
  have z5 := i5.sz w9 w10
  have z6 := i6.sz w11 w12
  have w0 : within x y x y := ends_in x y
  have o1 := loQ_le x y
  have o2 := loQ_le z v
  have o3 := loQ_le p q
  by_cases wab : within x y z v
  · have ab := within_ends.1 wab
    have wA : within (loQ (loQ x y + loQ p q) (hiQ x y + hiQ p q)) (hiQ (loQ x y + loQ p q) (hiQ x y + hiQ p q)) (loQ (loQ z v + loQ p q) (hiQ z v + hiQ p q)) (hiQ (loQ z v + loQ p q) (hiQ z v + hiQ p q)) :=
      within_span (by grind) (by grind) (by grind) (by grind)
    have wS : within (loQ (loQ x y - hiQ p q) (hiQ x y - loQ p q)) (hiQ (loQ x y - hiQ p q) (hiQ x y - loQ p q)) (loQ (loQ z v - hiQ p q) (hiQ z v - loQ p q)) (hiQ (loQ z v - hiQ p q) (hiQ z v - loQ p q)) :=
      within_span (by grind) (by grind) (by grind) (by grind)
    have wM := within_mul (u := p) (v := q) wab
    have szA : SzR (mulLo x y p q) 10000000 := (SzR.inst (loQ (loQ (x * p) (x * q)) (loQ (y * p) (y * q)))).mono (by omega)
    have szB : SzR (mulHi x y p q) 10000000 := (SzR.inst (hiQ (hiQ (x * p) (x * q)) (hiQ (y * p) (y * q)))).mono (by omega)
    have szC : SzR (mulLo z v p q) 10000000 := (SzR.inst (loQ (loQ (z * p) (z * q)) (loQ (v * p) (v * q)))).mono (by omega)
    have szD : SzR (mulHi z v p q) 10000000 := (SzR.inst (hiQ (hiQ (z * p) (z * q)) (hiQ (v * p) (v * q)))).mono (by omega)
    by_cases wba : within z v x y
    · have ba := within_ends.1 wba
      have e1 : loQ x y = loQ z v := by grind
      have e2 : hiQ x y = hiQ z v := by grind
      by_cases wbc : within z v p q
      · have bc := within_ends.1 wbc
        have wac : within x y p q := within_ends.2 ⟨by grind, by grind⟩
        repeat' (first
          | (apply RunL.step; exact rfl; first
            | fail)
          | (apply RunL.step; exact rfl; apply op_ev (τ := τ); exact rfl; (first | exact swT | exact swF | exact ssame_as | exact sof | exact sadd | exact ssub | exact smul | exact sawake); exact rfl)
          | (apply RunL.step; exact rfl; exact opA)
          | (apply RunL.hand; exact rfl; exact rfl; exact lenA; exact rfl)
          | (apply AWP.seq)
          | (apply AWP.region; exact rfl)
          | (apply AWP.block)
          | (apply AWP.skip)
          | (apply AWP.exit)
          | (apply AWP.retF; exact rfl; exact rfl; exact rfl; exact rfl; exact lenA; exact rfl)
          | (apply AWP.ret)
          | (apply RunL.nil)
          | (apply RunL.on; exact rfl; exact rfl; exact rfl; exact rfl; (first | exact rfl | assumption))
          | (apply RunL.noU; exact rfl; exact rfl; exact rfl; exact rfl; exact rfl; exact rfl)
          | (apply RunL.no; exact rfl; exact rfl; exact rfl; exact rfl; (first | exact rfl | assumption); exact rfl; exact rfl)
          | (refine AWP.cond _ (Rd.of rfl) (fun hc => ?_) (fun hc => ?_) <;> first | (exfalso; cases hc; done) | (have hc' := hc; (try simp only [decide_eq_true_eq, decide_eq_false_iff_not, Bool.not_true, Bool.not_false, bne_self_eq_false, beq_self_eq_true, ne_self_iff_false, Bool.true_bne, Bool.false_bne, Bool.true_beq, Bool.false_beq, Bool.false_eq_true, Bool.true_eq_false, reduceCtorEq, Bool.not_eq_true', Bool.not_eq_false', beq_iff_eq, bne_iff_ne, beq_eq_false_iff_ne, bne_eq_false_iff_eq, cmpOf] at hc'); try (exfalso; omega)))
          | (
            apply AWP.drawA
            repeat' (first
              | (apply DL.cons; (try (apply OpLoc.on; exact rfl; exact rfl; exact rfl; exact rfl; (first | exact rfl | assumption))); apply ol_ev (τ := τ); exact rfl; (first | exact swT | exact swF | exact ssame_as | exact sof | exact sadd | exact ssub | exact smul | exact sawake); exact rfl; exact rfl)
              | (apply DL.cons; exact olA; exact rfl)
              | (apply DL.nil; kernel_rfl)
              | (refine DL.split rfl rfl rfl rfl (fun hb => ?_) (fun hb => ?_) <;> have hb' := hb <;> (try simp only [decide_eq_true_eq, decide_eq_false_iff_not, Bool.not_true, Bool.not_false, bne_self_eq_false, beq_self_eq_true, ne_self_iff_false, Bool.true_bne, Bool.false_bne, Bool.true_beq, Bool.false_beq, Bool.false_eq_true, Bool.true_eq_false, reduceCtorEq, Bool.not_eq_true', Bool.not_eq_false', beq_iff_eq, bne_iff_ne, beq_eq_false_iff_ne, bne_eq_false_iff_eq, cmpOf] at hb') <;> try (exfalso; omega)))
            all_goals (fail_if_success apply DL.id))
          | (refine RunL.split rfl rfl rfl rfl (fun hb => ?_) (fun hb => ?_) <;> have hb' := hb <;> (try simp only [decide_eq_true_eq, decide_eq_false_iff_not, Bool.not_true, Bool.not_false, bne_self_eq_false, beq_self_eq_true, ne_self_iff_false, Bool.true_bne, Bool.false_bne, Bool.true_beq, Bool.false_beq, Bool.false_eq_true, Bool.true_eq_false, reduceCtorEq, Bool.not_eq_true', Bool.not_eq_false', beq_iff_eq, bne_iff_ne, beq_eq_false_iff_ne, bne_eq_false_iff_eq, cmpOf] at hb') <;> try (exfalso; omega))
          )
        all_goals
          (apply Ends.mk (.cons (.tmp rfl) .nil); first | rfl | (simp only [pack]; congr 1; simp only [cmpOf, decide_eq_true_eq, beq_iff_eq, bne_iff_ne]; omega))
      · repeat' (first
          | (apply RunL.step; exact rfl; first
            | fail)
          | (apply RunL.step; exact rfl; apply op_ev (τ := τ); exact rfl; (first | exact swT | exact swF | exact ssame_as | exact sof | exact sadd | exact ssub | exact smul | exact sawake); exact rfl)
          | (apply RunL.step; exact rfl; exact opA)
          | (apply RunL.hand; exact rfl; exact rfl; exact lenA; exact rfl)
          | (apply AWP.seq)
          | (apply AWP.region; exact rfl)
          | (apply AWP.block)
          | (apply AWP.skip)
          | (apply AWP.exit)
          | (apply AWP.retF; exact rfl; exact rfl; exact rfl; exact rfl; exact lenA; exact rfl)
          | (apply AWP.ret)
          | (apply RunL.nil)
          | (apply RunL.on; exact rfl; exact rfl; exact rfl; exact rfl; (first | exact rfl | assumption))
          | (apply RunL.noU; exact rfl; exact rfl; exact rfl; exact rfl; exact rfl; exact rfl)
          | (apply RunL.no; exact rfl; exact rfl; exact rfl; exact rfl; (first | exact rfl | assumption); exact rfl; exact rfl)
          | (refine AWP.cond _ (Rd.of rfl) (fun hc => ?_) (fun hc => ?_) <;> first | (exfalso; cases hc; done) | (have hc' := hc; (try simp only [decide_eq_true_eq, decide_eq_false_iff_not, Bool.not_true, Bool.not_false, bne_self_eq_false, beq_self_eq_true, ne_self_iff_false, Bool.true_bne, Bool.false_bne, Bool.true_beq, Bool.false_beq, Bool.false_eq_true, Bool.true_eq_false, reduceCtorEq, Bool.not_eq_true', Bool.not_eq_false', beq_iff_eq, bne_iff_ne, beq_eq_false_iff_ne, bne_eq_false_iff_eq, cmpOf] at hc'); try (exfalso; omega)))
          | (
            apply AWP.drawA
            repeat' (first
              | (apply DL.cons; (try (apply OpLoc.on; exact rfl; exact rfl; exact rfl; exact rfl; (first | exact rfl | assumption))); apply ol_ev (τ := τ); exact rfl; (first | exact swT | exact swF | exact ssame_as | exact sof | exact sadd | exact ssub | exact smul | exact sawake); exact rfl; exact rfl)
              | (apply DL.cons; exact olA; exact rfl)
              | (apply DL.nil; kernel_rfl)
              | (refine DL.split rfl rfl rfl rfl (fun hb => ?_) (fun hb => ?_) <;> have hb' := hb <;> (try simp only [decide_eq_true_eq, decide_eq_false_iff_not, Bool.not_true, Bool.not_false, bne_self_eq_false, beq_self_eq_true, ne_self_iff_false, Bool.true_bne, Bool.false_bne, Bool.true_beq, Bool.false_beq, Bool.false_eq_true, Bool.true_eq_false, reduceCtorEq, Bool.not_eq_true', Bool.not_eq_false', beq_iff_eq, bne_iff_ne, beq_eq_false_iff_ne, bne_eq_false_iff_eq, cmpOf] at hb') <;> try (exfalso; omega)))
            all_goals (fail_if_success apply DL.id))
          | (refine RunL.split rfl rfl rfl rfl (fun hb => ?_) (fun hb => ?_) <;> have hb' := hb <;> (try simp only [decide_eq_true_eq, decide_eq_false_iff_not, Bool.not_true, Bool.not_false, bne_self_eq_false, beq_self_eq_true, ne_self_iff_false, Bool.true_bne, Bool.false_bne, Bool.true_beq, Bool.false_beq, Bool.false_eq_true, Bool.true_eq_false, reduceCtorEq, Bool.not_eq_true', Bool.not_eq_false', beq_iff_eq, bne_iff_ne, beq_eq_false_iff_ne, bne_eq_false_iff_eq, cmpOf] at hb') <;> try (exfalso; omega))
          )
        all_goals
          (apply Ends.mk (.cons (.tmp rfl) .nil); first | rfl | (simp only [pack]; congr 1; simp only [cmpOf, decide_eq_true_eq, beq_iff_eq, bne_iff_ne]; omega))
    · by_cases wbc : within z v p q
      · have bc := within_ends.1 wbc
        have wac : within x y p q := within_ends.2 ⟨by grind, by grind⟩
        repeat' (first
          | (apply RunL.step; exact rfl; first
            | fail)
          | (apply RunL.step; exact rfl; apply op_ev (τ := τ); exact rfl; (first | exact swT | exact swF | exact ssame_as | exact sof | exact sadd | exact ssub | exact smul | exact sawake); exact rfl)
          | (apply RunL.step; exact rfl; exact opA)
          | (apply RunL.hand; exact rfl; exact rfl; exact lenA; exact rfl)
          | (apply AWP.seq)
          | (apply AWP.region; exact rfl)
          | (apply AWP.block)
          | (apply AWP.skip)
          | (apply AWP.exit)
          | (apply AWP.retF; exact rfl; exact rfl; exact rfl; exact rfl; exact lenA; exact rfl)
          | (apply AWP.ret)
          | (apply RunL.nil)
          | (apply RunL.on; exact rfl; exact rfl; exact rfl; exact rfl; (first | exact rfl | assumption))
          | (apply RunL.noU; exact rfl; exact rfl; exact rfl; exact rfl; exact rfl; exact rfl)
          | (apply RunL.no; exact rfl; exact rfl; exact rfl; exact rfl; (first | exact rfl | assumption); exact rfl; exact rfl)
          | (refine AWP.cond _ (Rd.of rfl) (fun hc => ?_) (fun hc => ?_) <;> first | (exfalso; cases hc; done) | (have hc' := hc; (try simp only [decide_eq_true_eq, decide_eq_false_iff_not, Bool.not_true, Bool.not_false, bne_self_eq_false, beq_self_eq_true, ne_self_iff_false, Bool.true_bne, Bool.false_bne, Bool.true_beq, Bool.false_beq, Bool.false_eq_true, Bool.true_eq_false, reduceCtorEq, Bool.not_eq_true', Bool.not_eq_false', beq_iff_eq, bne_iff_ne, beq_eq_false_iff_ne, bne_eq_false_iff_eq, cmpOf] at hc'); try (exfalso; omega)))
          | (
            apply AWP.drawA
            repeat' (first
              | (apply DL.cons; (try (apply OpLoc.on; exact rfl; exact rfl; exact rfl; exact rfl; (first | exact rfl | assumption))); apply ol_ev (τ := τ); exact rfl; (first | exact swT | exact swF | exact ssame_as | exact sof | exact sadd | exact ssub | exact smul | exact sawake); exact rfl; exact rfl)
              | (apply DL.cons; exact olA; exact rfl)
              | (apply DL.nil; kernel_rfl)
              | (refine DL.split rfl rfl rfl rfl (fun hb => ?_) (fun hb => ?_) <;> have hb' := hb <;> (try simp only [decide_eq_true_eq, decide_eq_false_iff_not, Bool.not_true, Bool.not_false, bne_self_eq_false, beq_self_eq_true, ne_self_iff_false, Bool.true_bne, Bool.false_bne, Bool.true_beq, Bool.false_beq, Bool.false_eq_true, Bool.true_eq_false, reduceCtorEq, Bool.not_eq_true', Bool.not_eq_false', beq_iff_eq, bne_iff_ne, beq_eq_false_iff_ne, bne_eq_false_iff_eq, cmpOf] at hb') <;> try (exfalso; omega)))
            all_goals (fail_if_success apply DL.id))
          | (refine RunL.split rfl rfl rfl rfl (fun hb => ?_) (fun hb => ?_) <;> have hb' := hb <;> (try simp only [decide_eq_true_eq, decide_eq_false_iff_not, Bool.not_true, Bool.not_false, bne_self_eq_false, beq_self_eq_true, ne_self_iff_false, Bool.true_bne, Bool.false_bne, Bool.true_beq, Bool.false_beq, Bool.false_eq_true, Bool.true_eq_false, reduceCtorEq, Bool.not_eq_true', Bool.not_eq_false', beq_iff_eq, bne_iff_ne, beq_eq_false_iff_ne, bne_eq_false_iff_eq, cmpOf] at hb') <;> try (exfalso; omega))
          )
        all_goals
          (apply Ends.mk (.cons (.tmp rfl) .nil); first | rfl | (simp only [pack]; congr 1; simp only [cmpOf, decide_eq_true_eq, beq_iff_eq, bne_iff_ne]; omega))
      · repeat' (first
          | (apply RunL.step; exact rfl; first
            | fail)
          | (apply RunL.step; exact rfl; apply op_ev (τ := τ); exact rfl; (first | exact swT | exact swF | exact ssame_as | exact sof | exact sadd | exact ssub | exact smul | exact sawake); exact rfl)
          | (apply RunL.step; exact rfl; exact opA)
          | (apply RunL.hand; exact rfl; exact rfl; exact lenA; exact rfl)
          | (apply AWP.seq)
          | (apply AWP.region; exact rfl)
          | (apply AWP.block)
          | (apply AWP.skip)
          | (apply AWP.exit)
          | (apply AWP.retF; exact rfl; exact rfl; exact rfl; exact rfl; exact lenA; exact rfl)
          | (apply AWP.ret)
          | (apply RunL.nil)
          | (apply RunL.on; exact rfl; exact rfl; exact rfl; exact rfl; (first | exact rfl | assumption))
          | (apply RunL.noU; exact rfl; exact rfl; exact rfl; exact rfl; exact rfl; exact rfl)
          | (apply RunL.no; exact rfl; exact rfl; exact rfl; exact rfl; (first | exact rfl | assumption); exact rfl; exact rfl)
          | (refine AWP.cond _ (Rd.of rfl) (fun hc => ?_) (fun hc => ?_) <;> first | (exfalso; cases hc; done) | (have hc' := hc; (try simp only [decide_eq_true_eq, decide_eq_false_iff_not, Bool.not_true, Bool.not_false, bne_self_eq_false, beq_self_eq_true, ne_self_iff_false, Bool.true_bne, Bool.false_bne, Bool.true_beq, Bool.false_beq, Bool.false_eq_true, Bool.true_eq_false, reduceCtorEq, Bool.not_eq_true', Bool.not_eq_false', beq_iff_eq, bne_iff_ne, beq_eq_false_iff_ne, bne_eq_false_iff_eq, cmpOf] at hc'); try (exfalso; omega)))
          | (
            apply AWP.drawA
            repeat' (first
              | (apply DL.cons; (try (apply OpLoc.on; exact rfl; exact rfl; exact rfl; exact rfl; (first | exact rfl | assumption))); apply ol_ev (τ := τ); exact rfl; (first | exact swT | exact swF | exact ssame_as | exact sof | exact sadd | exact ssub | exact smul | exact sawake); exact rfl; exact rfl)
              | (apply DL.cons; exact olA; exact rfl)
              | (apply DL.nil; kernel_rfl)
              | (refine DL.split rfl rfl rfl rfl (fun hb => ?_) (fun hb => ?_) <;> have hb' := hb <;> (try simp only [decide_eq_true_eq, decide_eq_false_iff_not, Bool.not_true, Bool.not_false, bne_self_eq_false, beq_self_eq_true, ne_self_iff_false, Bool.true_bne, Bool.false_bne, Bool.true_beq, Bool.false_beq, Bool.false_eq_true, Bool.true_eq_false, reduceCtorEq, Bool.not_eq_true', Bool.not_eq_false', beq_iff_eq, bne_iff_ne, beq_eq_false_iff_ne, bne_eq_false_iff_eq, cmpOf] at hb') <;> try (exfalso; omega)))
            all_goals (fail_if_success apply DL.id))
          | (refine RunL.split rfl rfl rfl rfl (fun hb => ?_) (fun hb => ?_) <;> have hb' := hb <;> (try simp only [decide_eq_true_eq, decide_eq_false_iff_not, Bool.not_true, Bool.not_false, bne_self_eq_false, beq_self_eq_true, ne_self_iff_false, Bool.true_bne, Bool.false_bne, Bool.true_beq, Bool.false_beq, Bool.false_eq_true, Bool.true_eq_false, reduceCtorEq, Bool.not_eq_true', Bool.not_eq_false', beq_iff_eq, bne_iff_ne, beq_eq_false_iff_ne, bne_eq_false_iff_eq, cmpOf] at hb') <;> try (exfalso; omega))
          )
        all_goals
          (apply Ends.mk (.cons (.tmp rfl) .nil); first | rfl | (simp only [pack]; congr 1; simp only [cmpOf, decide_eq_true_eq, beq_iff_eq, bne_iff_ne]; omega))
  · repeat' (first
      | (apply RunL.step; exact rfl; first
        | fail)
      | (apply RunL.step; exact rfl; apply op_ev (τ := τ); exact rfl; (first | exact swT | exact swF | exact ssame_as | exact sof | exact sadd | exact ssub | exact smul | exact sawake); exact rfl)
      | (apply RunL.step; exact rfl; exact opA)
      | (apply RunL.hand; exact rfl; exact rfl; exact lenA; exact rfl)
      | (apply AWP.seq)
      | (apply AWP.region; exact rfl)
      | (apply AWP.block)
      | (apply AWP.skip)
      | (apply AWP.exit)
      | (apply AWP.retF; exact rfl; exact rfl; exact rfl; exact rfl; exact lenA; exact rfl)
      | (apply AWP.ret)
      | (apply RunL.nil)
      | (apply RunL.on; exact rfl; exact rfl; exact rfl; exact rfl; (first | exact rfl | assumption))
      | (apply RunL.noU; exact rfl; exact rfl; exact rfl; exact rfl; exact rfl; exact rfl)
      | (apply RunL.no; exact rfl; exact rfl; exact rfl; exact rfl; (first | exact rfl | assumption); exact rfl; exact rfl)
      | (refine AWP.cond _ (Rd.of rfl) (fun hc => ?_) (fun hc => ?_) <;> first | (exfalso; cases hc; done) | (have hc' := hc; (try simp only [decide_eq_true_eq, decide_eq_false_iff_not, Bool.not_true, Bool.not_false, bne_self_eq_false, beq_self_eq_true, ne_self_iff_false, Bool.true_bne, Bool.false_bne, Bool.true_beq, Bool.false_beq, Bool.false_eq_true, Bool.true_eq_false, reduceCtorEq, Bool.not_eq_true', Bool.not_eq_false', beq_iff_eq, bne_iff_ne, beq_eq_false_iff_ne, bne_eq_false_iff_eq, cmpOf] at hc'); try (exfalso; omega)))
      | (
        apply AWP.drawA
        repeat' (first
          | (apply DL.cons; (try (apply OpLoc.on; exact rfl; exact rfl; exact rfl; exact rfl; (first | exact rfl | assumption))); apply ol_ev (τ := τ); exact rfl; (first | exact swT | exact swF | exact ssame_as | exact sof | exact sadd | exact ssub | exact smul | exact sawake); exact rfl; exact rfl)
          | (apply DL.cons; exact olA; exact rfl)
          | (apply DL.nil; kernel_rfl)
          | (refine DL.split rfl rfl rfl rfl (fun hb => ?_) (fun hb => ?_) <;> have hb' := hb <;> (try simp only [decide_eq_true_eq, decide_eq_false_iff_not, Bool.not_true, Bool.not_false, bne_self_eq_false, beq_self_eq_true, ne_self_iff_false, Bool.true_bne, Bool.false_bne, Bool.true_beq, Bool.false_beq, Bool.false_eq_true, Bool.true_eq_false, reduceCtorEq, Bool.not_eq_true', Bool.not_eq_false', beq_iff_eq, bne_iff_ne, beq_eq_false_iff_ne, bne_eq_false_iff_eq, cmpOf] at hb') <;> try (exfalso; omega)))
        all_goals (fail_if_success apply DL.id))
      | (refine RunL.split rfl rfl rfl rfl (fun hb => ?_) (fun hb => ?_) <;> have hb' := hb <;> (try simp only [decide_eq_true_eq, decide_eq_false_iff_not, Bool.not_true, Bool.not_false, bne_self_eq_false, beq_self_eq_true, ne_self_iff_false, Bool.true_bne, Bool.false_bne, Bool.true_beq, Bool.false_beq, Bool.false_eq_true, Bool.true_eq_false, reduceCtorEq, Bool.not_eq_true', Bool.not_eq_false', beq_iff_eq, bne_iff_ne, beq_eq_false_iff_ne, bne_eq_false_iff_eq, cmpOf] at hb') <;> try (exfalso; omega))
      )
    all_goals
      (apply Ends.mk (.cons (.tmp rfl) .nil); first | rfl | (simp only [pack]; congr 1; simp only [cmpOf, decide_eq_true_eq, beq_iff_eq, bne_iff_ne]; omega))
set_option maxHeartbeats 4000000 in
theorem law_SpanWidth (s1 : Bool) (l1 d1 : List Int) (s2 : Bool) (l2 d2 : List Int) (s3 : Bool) (l3 d3 : List Int) (s4 : Bool) (l4 d4 : List Int) (s5 : Bool) (l5 d5 : List Int) (hb : bulkA [.agg [.bool s1, .ints .u32 l1, .ints .u32 d1, .bool s2, .ints .u32 l2, .ints .u32 d2], .agg [.bool s3, .ints .u32 l3, .ints .u32 d3, .bool s4, .ints .u32 l4, .ints .u32 d4], .agg [.bool s5, .ints .u32 l5, .ints .u32 d5]] ≤ 1048576) : Evals Tryd.prog 6 [.agg [.bool s1, .ints .u32 l1, .ints .u32 d1, .bool s2, .ints .u32 l2, .ints .u32 d2], .agg [.bool s3, .ints .u32 l3, .ints .u32 d3, .bool s4, .ints .u32 l4, .ints .u32 d4], .agg [.bool s5, .ints .u32 l5, .ints .u32 d5]] (.bool true) := by
  refine evals_of_awp Tryd.func6 rfl (CallOK.of Tryd.func6 (by kernel_rfl) rfl) (Nat.le_of_ble_eq_true rfl) ?_
  rintro w R hR ⟨vs, hv⟩
  have hl1 : l1.length ≤ 1048576 := by simp [bulkA, D.parts, bulkL, D.bulk] at hb; omega
  have hl2 : l2.length ≤ 1048576 := by simp [bulkA, D.parts, bulkL, D.bulk] at hb; omega
  have hd1 : d1.length ≤ 1048576 := by simp [bulkA, D.parts, bulkL, D.bulk] at hb; omega
  have hd2 : d2.length ≤ 1048576 := by simp [bulkA, D.parts, bulkL, D.bulk] at hb; omega
  obtain ⟨x, i1⟩ : ∃ x, RA s1 l1 d1 x 1048576 := ⟨_, rfl, hl1, hd1⟩
  obtain ⟨y, i2⟩ : ∃ x, RA s2 l2 d2 x 1048576 := ⟨_, rfl, hl2, hd2⟩
  obtain ⟨w1, w2, w3, w4⟩ := hv.span 0 rfl
  have z1 := i1.sz w1 w2
  have z2 := i2.sz w3 w4
  have hl3 : l3.length ≤ 1048576 := by simp [bulkA, D.parts, bulkL, D.bulk] at hb; omega
  have hl4 : l4.length ≤ 1048576 := by simp [bulkA, D.parts, bulkL, D.bulk] at hb; omega
  have hd3 : d3.length ≤ 1048576 := by simp [bulkA, D.parts, bulkL, D.bulk] at hb; omega
  have hd4 : d4.length ≤ 1048576 := by simp [bulkA, D.parts, bulkL, D.bulk] at hb; omega
  obtain ⟨z, i3⟩ : ∃ x, RA s3 l3 d3 x 1048576 := ⟨_, rfl, hl3, hd3⟩
  obtain ⟨v, i4⟩ : ∃ x, RA s4 l4 d4 x 1048576 := ⟨_, rfl, hl4, hd4⟩
  obtain ⟨w5, w6, w7, w8⟩ := hv.span 1 rfl
  have z3 := i3.sz w5 w6
  have z4 := i4.sz w7 w8
  have hl5 : l5.length ≤ 1048576 := by simp [bulkA, D.parts, bulkL, D.bulk] at hb; omega
  have hd5 : d5.length ≤ 1048576 := by simp [bulkA, D.parts, bulkL, D.bulk] at hb; omega
  obtain ⟨r, i5⟩ : ∃ x, RA s5 l5 d5 x 1048576 := ⟨_, rfl, hl5, hd5⟩
  obtain ⟨⟨_, w9⟩, _, w10⟩ := hv.rat 2 rfl
  have z5 := i5.sz w9 w10
  have o1 := loQ_le x y
  have o2 := loQ_le z v
  have c0 : ¬ cmpQ (hiQ x y - loQ x y) 0 < 0 := fun h => by have := (cmpQ_lt _ _).1 h; grind
  have c1 : cmpQ (hiQ x y - loQ x y) 0 = 0 ↔ cmpQ x y = 0 := by
    rw [cmpQ_zero, cmpQ_zero]
    rcases loQ_cases x y with ⟨e1, e2, e3⟩ | ⟨e1, e2, e3⟩ <;> rw [e1, e2] <;> constructor <;> intro h <;> grind
  obtain ⟨e1, e2⟩ := lohi (show loQ x y + loQ z v ≤ hiQ x y + hiQ z v by grind)
  have q1 : hiQ (loQ (loQ x y + loQ z v) (hiQ x y + hiQ z v)) (hiQ (loQ x y + loQ z v) (hiQ x y + hiQ z v)) - loQ (loQ (loQ x y + loQ z v) (hiQ x y + hiQ z v)) (hiQ (loQ x y + loQ z v) (hiQ x y + hiQ z v)) = (hiQ x y - loQ x y) + (hiQ z v - loQ z v) := by
    rw [e1, e2, e1, e2]; grind
  obtain ⟨e3, e4⟩ := lohi (show loQ x y - hiQ z v ≤ hiQ x y - loQ z v by grind)
  have q2 : hiQ (loQ (loQ x y - hiQ z v) (hiQ x y - loQ z v)) (hiQ (loQ x y - hiQ z v) (hiQ x y - loQ z v)) - loQ (loQ (loQ x y - hiQ z v) (hiQ x y - loQ z v)) (hiQ (loQ x y - hiQ z v) (hiQ x y - loQ z v)) = (hiQ x y - loQ x y) + (hiQ z v - loQ z v) := by
    rw [e3, e4, e3, e4]; grind
  obtain ⟨e5, e6⟩ := lohi (loQ_le (x * r) (y * r))
  have q3 : hiQ (loQ (x * r) (y * r)) (hiQ (x * r) (y * r)) - loQ (loQ (x * r) (y * r)) (hiQ (x * r) (y * r)) = (hiQ x y - loQ x y) * (if r < 0 then -r else r) := by
    rw [e5, e6]
    have m1 : ∀ {a b : Rat}, a ≤ b → 0 ≤ r → a * r ≤ b * r := fun h h0 => Rat.mul_le_mul_of_nonneg_right h h0
    have m2 : ∀ {a b : Rat}, a ≤ b → r < 0 → b * r ≤ a * r := fun {a b} h h0 => by
      have := Rat.mul_le_mul_of_nonneg_right h (show (0 : Rat) ≤ -r by grind)
      grind
    rcases loQ_cases x y with ⟨f1, f2, f3⟩ | ⟨f1, f2, f3⟩ <;> rw [f1, f2]
    · split
      · have := m2 f3 (by assumption)
        obtain ⟨g1, g2⟩ := lohi this
        rcases loQ_cases (x * r) (y * r) with ⟨k1, k2, k3⟩ | ⟨k1, k2, k3⟩ <;> rw [k1, k2] <;> grind
      · have := m1 f3 (by grind)
        rcases loQ_cases (x * r) (y * r) with ⟨k1, k2, k3⟩ | ⟨k1, k2, k3⟩ <;> rw [k1, k2] <;> grind
    · have f3 : y ≤ x := by grind
      split
      · have := m2 f3 (by assumption)
        rcases loQ_cases (x * r) (y * r) with ⟨k1, k2, k3⟩ | ⟨k1, k2, k3⟩ <;> rw [k1, k2] <;> grind
      · have := m1 f3 (by grind)
        rcases loQ_cases (x * r) (y * r) with ⟨k1, k2, k3⟩ | ⟨k1, k2, k3⟩ <;> rw [k1, k2] <;> grind
  repeat' (first
    | (apply RunL.step; exact rfl; first
      | fail)
    | (apply RunL.step; exact rfl; apply op_ev (τ := τ); exact rfl; (first | exact sequal_as | exact swidth | exact sadd | exact ssub | exact sscale | exact sawake | exact radd | exact rmul | exact rabs | exact rsign | exact rcmp); exact rfl)
    | (apply RunL.step; exact rfl; exact opA)
    | (apply RunL.hand; exact rfl; exact rfl; exact lenA; exact rfl)
    | (apply AWP.seq)
    | (apply AWP.region; exact rfl)
    | (apply AWP.block)
    | (apply AWP.skip)
    | (apply AWP.exit)
    | (apply AWP.retF; exact rfl; exact rfl; exact rfl; exact rfl; exact lenA; exact rfl)
    | (apply AWP.ret)
    | (apply RunL.nil)
    | (apply RunL.on; exact rfl; exact rfl; exact rfl; exact rfl; (first | exact rfl | assumption))
    | (apply RunL.noU; exact rfl; exact rfl; exact rfl; exact rfl; exact rfl; exact rfl)
    | (apply RunL.no; exact rfl; exact rfl; exact rfl; exact rfl; (first | exact rfl | assumption); exact rfl; exact rfl)
    | (refine AWP.cond _ (Rd.of rfl) (fun hc => ?_) (fun hc => ?_) <;> first | (exfalso; cases hc; done) | (have hc' := hc; (try simp only [decide_eq_true_eq, decide_eq_false_iff_not, Bool.not_true, Bool.not_false, bne_self_eq_false, beq_self_eq_true, ne_self_iff_false, Bool.true_bne, Bool.false_bne, Bool.true_beq, Bool.false_beq, Bool.false_eq_true, Bool.true_eq_false, reduceCtorEq, Bool.not_eq_true', Bool.not_eq_false', beq_iff_eq, bne_iff_ne, beq_eq_false_iff_ne, bne_eq_false_iff_eq, cmpOf] at hc'); try (exfalso; omega)))
    | (
      apply AWP.drawA
      repeat' (first
        | (apply DL.cons; (try (apply OpLoc.on; exact rfl; exact rfl; exact rfl; exact rfl; (first | exact rfl | assumption))); apply ol_ev (τ := τ); exact rfl; (first | exact sequal_as | exact swidth | exact sadd | exact ssub | exact sscale | exact sawake | exact radd | exact rmul | exact rabs | exact rsign | exact rcmp); exact rfl; exact rfl)
        | (apply DL.cons; exact olA; exact rfl)
        | (apply DL.nil; kernel_rfl)
        | (refine DL.split rfl rfl rfl rfl (fun hb => ?_) (fun hb => ?_) <;> have hb' := hb <;> (try simp only [decide_eq_true_eq, decide_eq_false_iff_not, Bool.not_true, Bool.not_false, bne_self_eq_false, beq_self_eq_true, ne_self_iff_false, Bool.true_bne, Bool.false_bne, Bool.true_beq, Bool.false_beq, Bool.false_eq_true, Bool.true_eq_false, reduceCtorEq, Bool.not_eq_true', Bool.not_eq_false', beq_iff_eq, bne_iff_ne, beq_eq_false_iff_ne, bne_eq_false_iff_eq, cmpOf] at hb') <;> try (exfalso; omega)))
      all_goals (fail_if_success apply DL.id))
    | (refine RunL.split rfl rfl rfl rfl (fun hb => ?_) (fun hb => ?_) <;> have hb' := hb <;> (try simp only [decide_eq_true_eq, decide_eq_false_iff_not, Bool.not_true, Bool.not_false, bne_self_eq_false, beq_self_eq_true, ne_self_iff_false, Bool.true_bne, Bool.false_bne, Bool.true_beq, Bool.false_beq, Bool.false_eq_true, Bool.true_eq_false, reduceCtorEq, Bool.not_eq_true', Bool.not_eq_false', beq_iff_eq, bne_iff_ne, beq_eq_false_iff_ne, bne_eq_false_iff_eq, cmpOf] at hb') <;> try (exfalso; omega))
    )
  all_goals
    first   | (apply Ends.mk (.cons (.tmp rfl) .nil); first | rfl | (simp only [pack]; congr 1; simp only [cmpOf, decide_eq_true_eq, beq_iff_eq, bne_iff_ne]; omega))   | (exfalso; omega)   | (exfalso; grind)
end Go.Proofs.YtfbpkohfpipliaaDoor.K
