/- The laws of layer 45 (examboardlaw45): LinkingChain. -/
import Derived.Test.YtgdejiajiljipaaDoorLawL6
import Derived.Test.YtgdejiajiljipaaDoorWalkY6
namespace Go.Proofs.YtgdejiajiljipaaDoor.K
open Go Go.RowKit
set_option linter.unusedVariables false
set_option linter.unusedSimpArgs false

section
variable {P : Program} {τ : Tys P} {B : Base} {s : St} {d : Nat} {ty : TypeId} {pos : String} {af : Array Edge} {gd : Option (Nat × Bool)}
/-- appending nothing -/
theorem op_appendG0 {T e k z : Nat} {x y : Operand} {L : List (List D)} {i j : TI} (hT : get τ.tab T = some i) (hk : i.k = .slice e) (he : get τ.tab e = some j) (hz : j.size = z) (hx : Rd s x (.vec k e z L)) (hy : Rd s y (.val (.sl z [])))
    (h0 : Nat.blt 0 k = true ∨ B.ex = fun _ => False) (hN : Nat.blt d B.N = true) :
    OpDo P B ⟨some d, .call ⟨.builtin .append, #[x, y], #[T, T]⟩, ty, pos, af, gd⟩ s ((s.forget k).setT d (.vec k e z L)) := .value fun R ad a w hi => by
  have hxv := hx.holds hi
  have hyv := hy.holds hi
  obtain ⟨xs, o1, o2, o3, o4, o5⟩ := own_of_vecG hxv
  have hu := Tys.slice hT hk
  obtain ⟨_, I, i1, i2, i3, zv, i4, i5, i6⟩ := τ.is he
  have hyv' : ∃ aa c, a.eval y = .slice aa 0 c := by
    simp only [HoldsT] at hyv
    generalize a.eval y = v at hyv
    cases hyv <;> exact ⟨_, _, rfl⟩
  obtain ⟨aa, c, hv⟩ := hyv'
  refine ⟨a.eval x, w, ?_, R, _, (hi.reown (k := k) (o := ad k) (grownBy_refl _ _) (fun b hb => .inl hb) h0).put hN (vec_of_ownG (base := 0) (xs := xs) o1 (by simp [o2]) o4 o5)⟩
  rcases o1.2 with ⟨hx0, hn⟩ | ⟨g, cap, cur, hx0, _, _, hnc, _⟩ <;> rcases aa with _ | aa <;>
    simp [execOp, resolve, invoke, builtin, hv, hx0, Builtin.append_, run_underlying hu, sizeOf, typeInfo, i1, Builtin.lenOf, Builtin.firstCells, loadCells, loadCellsFrom, storeCells] <;>
    omega
theorem op_appendGA {T e k z : Nat} {x y : Operand} {L M : List (List D)} {i j : TI} (hT : get τ.tab T = some i) (hk : i.k = .slice e) (he : get τ.tab e = some j) (hz : j.size = z) (hz0 : Nat.blt 0 z = true) (hzl : j.zero.length = z) (hx : Rd s x (.vec k e z L)) (hy : Rd s y (.val (.sl z M)))
    (hone : oneAll M = true) (hl : (L.length + M.length) * j.bytes ≤ 140737488355328) (hb : Nat.blt 0 j.bytes = true) (h0 : Nat.blt 0 k = true ∨ B.ex = fun _ => False) (hN : Nat.blt d B.N = true) :
    OpDo P B ⟨some d, .call ⟨.builtin .append, #[x, y], #[T, T]⟩, ty, pos, af, gd⟩ s ((s.forget k).setT d (.vec k e z (L ++ M))) := by
  rcases M with _ | ⟨r, M⟩
  · rw [List.append_nil]; exact op_appendG0 hT hk he hz hx hy h0 hN
  · exact op_appendG hT hk he hz hz0 hzl hx hy (by simp) hone hl hb h0 hN
theorem RunL.freezeG {ops : Array Oper} {o : Oper} {r : List Oper} {K : St → Prop} (t : Nat) {k T z : Nat} {L : List (List D)} (hs : s.t t = some (.vec k T z L)) (hx : B.ex = fun _ => False)
    (h : RunL P B ops (o :: r) K ((s.forget k).setT t (.val (.sl z L)))) : RunL P B ops (o :: r) K s := by
  cases h with
  | cons h1 h2 => exact .cons (fun a w ⟨R, ad, hi⟩ KK QQ hk => h1 a w (hi.freezeG hs hx) KK QQ hk) h2
/-- a slice of records of the call's own, handed to a function that reads it -/
theorem RunL.handG {ops : Array Oper} {r : List Oper} {K : St → Prop} {t d f : Nat} {ats : Array TypeId} {ty : TypeId} {pos : String} {af : Array Edge} {gd : Option (Nat × Bool)} {k T z : Nat} {L : List (List D)} (hs : s.t t = some (.vec k T z L)) (hx : B.ex = fun _ => False)
    (h : RunL P B ops (⟨some d, .call ⟨.value (.func f), #[.tmp t], ats⟩, ty, pos, af, gd⟩ :: r) K ((s.forget k).setT t (.val (.sl z L)))) : RunL P B ops (⟨some d, .call ⟨.value (.func f), #[.tmp t], ats⟩, ty, pos, af, gd⟩ :: r) K s :=
  .freezeG t hs hx h
end
theorem one_links (M : List Lk) : oneAll (M.map rowL) = true := by
  simp [oneAll, rowL, D.one]
theorem allV_append {a b : List Lk} : allV (a ++ b) ↔ allV a ∧ allV b :=
  ⟨fun h => ⟨fun p hp => h p (by simp [hp]), fun p hp => h p (by simp [hp])⟩, fun h p hp => (List.mem_append.1 hp).elim (h.1 p) (h.2 p)⟩
theorem LkOK.append {a b : List Lk} {K : Nat} (h : LkOK a K) (g : LkOK b K) : LkOK (a ++ b) K :=
  ⟨fun p hp => (List.mem_append.1 hp).elim (h.len p) (g.len p), fun p hp => (List.mem_append.1 hp).elim (h.lim p) (g.lim p)⟩
def chE (M : List Lk) : Prop := M.length ≤ 60 ∧ allV M
/-- a chain, with or without an error -/
theorem kChainX (M : List Lk) {K : Nat} (hM : LkOK M K) (hk : K ≤ 1048576) : ∃ b1 u1 v1 b2 u2 v2 e, Evals Tryd.prog 22 [.sl 6 (M.map rowL)] (.tup [.agg [.bool b1, .ints .u32 u1, .ints .u32 v1, .bool b2, .ints .u32 u2, .ints .u32 v2], .int .i64 e]) ∧ (e = 0 ↔ chE M) := by
  by_cases h60 : 60 < M.length
  · exact ⟨_, _, _, _, _, _, _, kChain5 M h60, ⟨fun h => by omega, fun h => by have := h.1; omega⟩⟩
  · by_cases hV : allV M
    · exact ⟨_, _, _, _, _, _, _, kChain1 M hM hk (by omega) hV, ⟨fun _ => ⟨by omega, hV⟩, fun _ => rfl⟩⟩
    · exact ⟨_, _, _, _, _, _, _, kChain2 M hM hk (by omega) hV, ⟨fun h => by omega, fun h => absurd h.2 hV⟩⟩
theorem cmp_lin {A B x y : Rat} (h : 0 < A) : cmpQ (A * x + B) (A * y + B) = cmpQ x y := by
  have key : ∀ x y : Rat, x < y → A * x + B < A * y + B := fun x y hxy => by
    have := Rat.mul_pos h (show 0 < y - x by grind)
    grind
  rcases cmpQ_cases x y with ⟨g1, g2⟩ | ⟨g1, g2⟩ | ⟨g1, g2⟩
  · rw [g2]; have := key x y g1
    rcases cmpQ_cases (A * x + B) (A * y + B) with ⟨f1, f2⟩ | ⟨f1, f2⟩ | ⟨f1, f2⟩ <;> first | omega | (exfalso; grind)
  · subst g1; rw [g2]; exact cmp0 rfl
  · rw [g2]; have := key y x g1
    rcases cmpQ_cases (A * x + B) (A * y + B) with ⟨f1, f2⟩ | ⟨f1, f2⟩ | ⟨f1, f2⟩ <;> first | omega | (exfalso; grind)
set_option maxHeartbeats 2000000 in
theorem law_LinkingChain (L1 : List (List D)) (hL1 : ∀ row ∈ L1, Oks [.bool, .ints .u32, .ints .u32, .bool, .ints .u32, .ints .u32] row) (L2 : List (List D)) (hL2 : ∀ row ∈ L2, Oks [.bool, .ints .u32, .ints .u32, .bool, .ints .u32, .ints .u32] row) (s3 : Bool) (l3 d3 : List Int) (s4 : Bool) (l4 d4 : List Int)
    (hb : bulkA [D.sl 6 L1, D.sl 6 L2, .agg [.bool s3, .ints .u32 l3, .ints .u32 d3], .agg [.bool s4, .ints .u32 l4, .ints .u32 d4]] ≤ 1048576) : Evals Tryd.prog 6 [.sl 6 L1, .sl 6 L2, .agg [.bool s3, .ints .u32 l3, .ints .u32 d3], .agg [.bool s4, .ints .u32 l4, .ints .u32 d4]] (.bool true) := by
  obtain ⟨M, rfl⟩ := rows_lk hL1
  obtain ⟨M', rfl⟩ := rows_lk hL2
  simp only [bulkA, D.parts, bulkL, D.bulk] at hb
  have hml := (bulk_links M).1
  have hml' := (bulk_links M').1
  have hln : (M.map rowL).length = M.length := by simp
  have hln' : (M'.map rowL).length = M'.length := by simp
  obtain ⟨q3, A3⟩ : ∃ q, RA s3 l3 d3 q 1048576 := ⟨_, rfl, by omega, by omega⟩
  obtain ⟨q4, A4⟩ : ∃ q, RA s4 l4 d4 q 1048576 := ⟨_, rfl, by omega, by omega⟩
  have hap : ([] ++ M.map rowL) ++ M'.map rowL = (M ++ M').map rowL := by simp
  have hapl : (M ++ M').length = M.length + M'.length := by simp
  refine evals_of_awp Tryd.func6 rfl (CallOK.of Tryd.func6 (by kernel_rfl) rfl) (Nat.le_of_ble_eq_true rfl) ?_
  rintro w R hR ⟨vs, hv⟩
  have hM : LkOK M 1048576 := LkOK.of 0 hv rfl (by omega)
  have hM' : LkOK M' 1048576 := LkOK.of 1 hv rfl (by omega)
  by_cases hgood : chE M ∧ chE M'
  · have hc := kChain1 M hM (by omega) hgood.1.1 hgood.1.2
    have hd := kChain1 M' hM' (by omega) hgood.2.1 hgood.2.2
    by_cases h60 : M.length + M'.length ≤ 60
    · have hV := allV_append.2 ⟨hgood.1.2, hgood.2.2⟩
      have hall := kChain1 (M ++ M') (hM.append hM') (by omega) (by omega) hV
      have hpos := chQ_pos _ hV
      have e1 : chQ (M ++ M') = comp (chQ M) (chQ M') := chQ_append M M'
      rw [← hap] at hall
      have sM := chQ_size (M := M) (K := 1048577) (fun p hp => ⟨hM.szA hp, hM.szB hp⟩) M.length (Nat.le_refl _)
      have sM' := chQ_size (M := M') (K := 1048577) (fun p hp => ⟨hM'.szA hp, hM'.szB hp⟩) M'.length (Nat.le_refl _)
      have sA := chQ_size (M := M ++ M') (K := 1048577) (fun p hp => ⟨(hM.append hM').szA hp, (hM.append hM').szB hp⟩) (M ++ M').length (Nat.le_refl _)
      rw [List.take_length] at sM sM' sA
      obtain ⟨⟨_, b1⟩, _, b2⟩ := hv.rat 2 rfl
      obtain ⟨⟨_, b3⟩, _, b4⟩ := hv.rat 3 rfl
      have z3 := A3.sz b1 b2
      have z4 := A4.sz b3 b4
      generalize chQ (M ++ M') = ca at *
      generalize chQ M = c1 at *
      generalize chQ M' = c2 at *
      obtain ⟨a1, a2⟩ := ca
      obtain ⟨p1, p2⟩ := c1
      obtain ⟨r1, r2⟩ := c2
      simp only [comp, Prod.mk.injEq] at e1
      simp only at hc hd hall hpos sM sM' sA
      obtain ⟨y1, y2⟩ := sM
      obtain ⟨y3, y4⟩ := sM'
      obtain ⟨y5, y6⟩ := sA
      replace y1 := y1.mono (m := 70000000) (by omega)
      replace y2 := y2.mono (m := 140000000) (by omega)
      replace y3 := y3.mono (m := 70000000) (by omega)
      replace y4 := y4.mono (m := 140000000) (by omega)
      replace y5 := y5.mono (m := 70000000) (by omega)
      replace y6 := y6.mono (m := 140000000) (by omega)
      have hco := kcompose (h := RA.ratD _ _ (h := y1)) (h' := RA.ratD _ _ (h := y2)) (g := RA.ratD _ _ (h := y3)) (g' := RA.ratD _ _ (h := y4)) (by omega)
      have hsm := r45same (p := a1) (q := a2) (p' := r1 * p1) (q' := r1 * p2 + r2) e1.1 e1.2
      have hva := kvalid (h := RA.ratD _ _ (h := y5)) (h' := RA.ratD _ _ (h := y6)) (by omega)
      rw [posQ, decide_eq_true hpos] at hva
      have ha1 := kapply (h := RA.ratD _ _ (h := y5)) (h' := RA.ratD _ _ (h := y6)) (g := A3) (by omega)
      have ha2 := kapply (h := RA.ratD _ _ (h := y5)) (h' := RA.ratD _ _ (h := y6)) (g := A4) (by omega)
      have w1 := SzR.add _ a2 _ _ (h := SzR.mul a1 q3 _ _ (h := y5) (g := z3)) (g := y6)
      have w2 := SzR.add _ a2 _ _ (h := SzR.mul a1 q4 _ _ (h := y5) (g := z4)) (g := y6)
      have hm1 := rcmp (h := RA.ratD _ _ (h := w1)) (h' := RA.ratD _ _ (h := w2)) (by omega)
      rw [cmp_lin hpos] at hm1
      have hm2 := rcmp (h := A3) (h' := A4) (by omega)
      generalize cmpQ q3 q4 = c at *
      repeat' (first
        | (apply RunL.step; exact rfl; first | (apply op_buildEG (τ := τ); exact rfl; exact rfl; exact rfl; exact rfl; exact .inl rfl; exact rfl) | (apply op_appendGA (τ := τ); exact rfl; exact rfl; exact rfl; exact rfl; exact rfl; exact rfl; exact Rd.of rfl; exact Rd.of rfl; exact one_links _; ((try dsimp only); (try simp only [List.length_append, List.length_nil, List.length_map]); omega); exact rfl; exact .inl rfl; exact rfl) | fail) | (apply RunL.step; exact rfl; apply op_ev (τ := τ); exact rfl; (first | exact hc | exact hd | exact hall | exact hco | exact hsm | exact hva | exact ha1 | exact ha2 | exact hm1 | exact hm2 | exact lawake); exact rfl) | (apply RunL.step; exact rfl; exact opA) | (apply RunL.hand; exact rfl; exact rfl; exact lenA; exact rfl) | (apply AWP.seq) | (apply AWP.region; exact rfl) | (apply AWP.block) | (apply AWP.skip) | (apply AWP.exit) | (apply AWP.retF; exact rfl; exact rfl; exact rfl; exact rfl; exact lenA; exact rfl) | (apply AWP.ret) | (apply RunL.nil) | (apply RunL.handG; exact rfl; exact rfl) | (apply RunL.on; exact rfl; exact rfl; exact rfl; exact rfl; (first | exact rfl | assumption)) | (apply RunL.noU; exact rfl; exact rfl; exact rfl; exact rfl; exact rfl; exact rfl) | (apply RunL.no; exact rfl; exact rfl; exact rfl; exact rfl; (first | exact rfl | assumption); exact rfl; exact rfl) | (refine AWP.cond _ (Rd.of rfl) (fun hc => ?_) (fun hc => ?_) <;> first | (exfalso; cases hc; done) | (have hc' := hc; (try simp only [sc, reduceCtorEq, cmpOf] at hc'); try (exfalso; omega)))
        | (
         apply AWP.drawA
         repeat' (first
           | (apply DL.cons; (try (apply OpLoc.on; exact rfl; exact rfl; exact rfl; exact rfl; (first | exact rfl | assumption))); apply ol_ev (τ := τ); exact rfl; (first | exact hc | exact hd | exact hall | exact hco | exact hsm | exact hva | exact ha1 | exact ha2 | exact hm1 | exact hm2 | exact lawake); exact rfl; exact rfl) | (apply DL.cons; exact olA; exact rfl) | (apply DL.nil; kernel_rfl) | (refine DL.split rfl rfl rfl rfl (fun hb => ?_) (fun hb => ?_) <;> have hb' := hb <;> (try simp only [sc, reduceCtorEq, cmpOf] at hb') <;> try (exfalso; omega)))
         all_goals (fail_if_success apply DL.id))
        | (refine RunL.split rfl rfl rfl rfl (fun hb => ?_) (fun hb => ?_) <;> have hb' := hb <;> (try simp only [sc, reduceCtorEq, cmpOf] at hb') <;> try (exfalso; omega)) )
      all_goals
        first   | (apply Ends.mk (.cons (.tmp rfl) .nil); first | rfl | (simp only [pack]; congr 1; simp only [cmpOf, decide_eq_true_eq, beq_iff_eq, bne_iff_ne]; omega))   | (apply Ends.mk (.cons (.tmp rfl) .nil); simp only [pack]; congr 1; simp only [cmpOf, sc]; omega)   | (exfalso; first | omega | (simp only [*, Bool.true_eq_false, Bool.false_eq_true, reduceCtorEq] at *; done) | grind)
    · have hall := kChain5 (M ++ M') (by omega)
      rw [← hap] at hall
      repeat' (first
        | (apply RunL.step; exact rfl; first | (apply op_buildEG (τ := τ); exact rfl; exact rfl; exact rfl; exact rfl; exact .inl rfl; exact rfl) | (apply op_appendGA (τ := τ); exact rfl; exact rfl; exact rfl; exact rfl; exact rfl; exact rfl; exact Rd.of rfl; exact Rd.of rfl; exact one_links _; ((try dsimp only); (try simp only [List.length_append, List.length_nil, List.length_map]); omega); exact rfl; exact .inl rfl; exact rfl) | fail) | (apply RunL.step; exact rfl; apply op_ev (τ := τ); exact rfl; (first | exact hc | exact hd | exact hall | exact hco | exact hsm | exact hva | exact ha1 | exact ha2 | exact hm1 | exact hm2 | exact lawake); exact rfl) | (apply RunL.step; exact rfl; exact opA) | (apply RunL.hand; exact rfl; exact rfl; exact lenA; exact rfl) | (apply AWP.seq) | (apply AWP.region; exact rfl) | (apply AWP.block) | (apply AWP.skip) | (apply AWP.exit) | (apply AWP.retF; exact rfl; exact rfl; exact rfl; exact rfl; exact lenA; exact rfl) | (apply AWP.ret) | (apply RunL.nil) | (apply RunL.handG; exact rfl; exact rfl) | (apply RunL.on; exact rfl; exact rfl; exact rfl; exact rfl; (first | exact rfl | assumption)) | (apply RunL.noU; exact rfl; exact rfl; exact rfl; exact rfl; exact rfl; exact rfl) | (apply RunL.no; exact rfl; exact rfl; exact rfl; exact rfl; (first | exact rfl | assumption); exact rfl; exact rfl) | (refine AWP.cond _ (Rd.of rfl) (fun hc => ?_) (fun hc => ?_) <;> first | (exfalso; cases hc; done) | (have hc' := hc; (try simp only [sc, reduceCtorEq, cmpOf] at hc'); try (exfalso; omega)))
        | (
         apply AWP.drawA
         repeat' (first
           | (apply DL.cons; (try (apply OpLoc.on; exact rfl; exact rfl; exact rfl; exact rfl; (first | exact rfl | assumption))); apply ol_ev (τ := τ); exact rfl; (first | exact hc | exact hd | exact hall | exact hco | exact hsm | exact hva | exact ha1 | exact ha2 | exact hm1 | exact hm2 | exact lawake); exact rfl; exact rfl) | (apply DL.cons; exact olA; exact rfl) | (apply DL.nil; kernel_rfl) | (refine DL.split rfl rfl rfl rfl (fun hb => ?_) (fun hb => ?_) <;> have hb' := hb <;> (try simp only [sc, reduceCtorEq, cmpOf] at hb') <;> try (exfalso; omega)))
         all_goals (fail_if_success apply DL.id))
        | (refine RunL.split rfl rfl rfl rfl (fun hb => ?_) (fun hb => ?_) <;> have hb' := hb <;> (try simp only [sc, reduceCtorEq, cmpOf] at hb') <;> try (exfalso; omega)) )
      all_goals
        first   | (apply Ends.mk (.cons (.tmp rfl) .nil); first | rfl | (simp only [pack]; congr 1; simp only [cmpOf, decide_eq_true_eq, beq_iff_eq, bne_iff_ne]; omega))   | (apply Ends.mk (.cons (.tmp rfl) .nil); simp only [pack]; congr 1; simp only [cmpOf, sc]; omega)   | (exfalso; first | omega | (simp only [*, Bool.true_eq_false, Bool.false_eq_true, reduceCtorEq] at *; done) | grind)
  · obtain ⟨b1, u1, v1, b2, u2, v2, e1, hc, f1⟩ := kChainX M hM (by omega)
    obtain ⟨b3, u3, v3, b4, u4, v4, e2, hd, f2⟩ := kChainX M' hM' (by omega)
    obtain ⟨b5, u5, v5, b6, u6, v6, e3, hall, f3⟩ := kChainX (M ++ M') (hM.append hM') (by omega)
    have f4 : e3 ≠ 0 := fun h => hgood (by
      obtain ⟨g1, g2⟩ := f3.1 h
      obtain ⟨g3, g4⟩ := allV_append.1 g2
      exact ⟨⟨by omega, g3⟩, by omega, g4⟩)
    rw [← hap] at hall
    have f5 : e1 ≠ 0 ∨ e2 ≠ 0 := by
      by_cases h1 : e1 = 0
      · exact .inr fun h2 => hgood ⟨f1.1 h1, f2.1 h2⟩
      · exact .inl h1
    clear f1 f2 f3
    by_cases h1 : e1 = 0
    · have h2 := f5.resolve_left (fun h => h h1)
      subst h1
      repeat' (first
        | (apply RunL.step; exact rfl; first | (apply op_buildEG (τ := τ); exact rfl; exact rfl; exact rfl; exact rfl; exact .inl rfl; exact rfl) | (apply op_appendGA (τ := τ); exact rfl; exact rfl; exact rfl; exact rfl; exact rfl; exact rfl; exact Rd.of rfl; exact Rd.of rfl; exact one_links _; ((try dsimp only); (try simp only [List.length_append, List.length_nil, List.length_map]); omega); exact rfl; exact .inl rfl; exact rfl) | fail) | (apply RunL.step; exact rfl; apply op_ev (τ := τ); exact rfl; (first | exact hc | exact hd | exact hall | exact hco | exact hsm | exact hva | exact ha1 | exact ha2 | exact hm1 | exact hm2 | exact lawake); exact rfl) | (apply RunL.step; exact rfl; exact opA) | (apply RunL.hand; exact rfl; exact rfl; exact lenA; exact rfl) | (apply AWP.seq) | (apply AWP.region; exact rfl) | (apply AWP.block) | (apply AWP.skip) | (apply AWP.exit) | (apply AWP.retF; exact rfl; exact rfl; exact rfl; exact rfl; exact lenA; exact rfl) | (apply AWP.ret) | (apply RunL.nil) | (apply RunL.handG; exact rfl; exact rfl) | (apply RunL.on; exact rfl; exact rfl; exact rfl; exact rfl; (first | exact rfl | assumption)) | (apply RunL.noU; exact rfl; exact rfl; exact rfl; exact rfl; exact rfl; exact rfl) | (apply RunL.no; exact rfl; exact rfl; exact rfl; exact rfl; (first | exact rfl | assumption); exact rfl; exact rfl) | (refine AWP.cond _ (Rd.of rfl) (fun hc => ?_) (fun hc => ?_) <;> first | (exfalso; cases hc; done) | (have hc' := hc; (try simp only [sc, reduceCtorEq, cmpOf] at hc'); try (exfalso; omega)))
        | (
         apply AWP.drawA
         repeat' (first
           | (apply DL.cons; (try (apply OpLoc.on; exact rfl; exact rfl; exact rfl; exact rfl; (first | exact rfl | assumption))); apply ol_ev (τ := τ); exact rfl; (first | exact hc | exact hd | exact hall | exact hco | exact hsm | exact hva | exact ha1 | exact ha2 | exact hm1 | exact hm2 | exact lawake); exact rfl; exact rfl) | (apply DL.cons; exact olA; exact rfl) | (apply DL.nil; kernel_rfl) | (refine DL.split rfl rfl rfl rfl (fun hb => ?_) (fun hb => ?_) <;> have hb' := hb <;> (try simp only [sc, reduceCtorEq, cmpOf] at hb') <;> try (exfalso; omega)))
         all_goals (fail_if_success apply DL.id))
        | (refine RunL.split rfl rfl rfl rfl (fun hb => ?_) (fun hb => ?_) <;> have hb' := hb <;> (try simp only [sc, reduceCtorEq, cmpOf] at hb') <;> try (exfalso; omega)) )
      all_goals
        first   | (apply Ends.mk (.cons (.tmp rfl) .nil); first | rfl | (simp only [pack]; congr 1; simp only [cmpOf, decide_eq_true_eq, beq_iff_eq, bne_iff_ne]; omega))   | (apply Ends.mk (.cons (.tmp rfl) .nil); simp only [pack]; congr 1; simp only [cmpOf, sc]; omega)   | (exfalso; first | omega | (simp only [*, Bool.true_eq_false, Bool.false_eq_true, reduceCtorEq] at *; done) | grind)
    · repeat' (first
      | (apply RunL.step; exact rfl; first | (apply op_buildEG (τ := τ); exact rfl; exact rfl; exact rfl; exact rfl; exact .inl rfl; exact rfl) | (apply op_appendGA (τ := τ); exact rfl; exact rfl; exact rfl; exact rfl; exact rfl; exact rfl; exact Rd.of rfl; exact Rd.of rfl; exact one_links _; ((try dsimp only); (try simp only [List.length_append, List.length_nil, List.length_map]); omega); exact rfl; exact .inl rfl; exact rfl) | fail) | (apply RunL.step; exact rfl; apply op_ev (τ := τ); exact rfl; (first | exact hc | exact hd | exact hall | exact hco | exact hsm | exact hva | exact ha1 | exact ha2 | exact hm1 | exact hm2 | exact lawake); exact rfl) | (apply RunL.step; exact rfl; exact opA) | (apply RunL.hand; exact rfl; exact rfl; exact lenA; exact rfl) | (apply AWP.seq) | (apply AWP.region; exact rfl) | (apply AWP.block) | (apply AWP.skip) | (apply AWP.exit) | (apply AWP.retF; exact rfl; exact rfl; exact rfl; exact rfl; exact lenA; exact rfl) | (apply AWP.ret) | (apply RunL.nil) | (apply RunL.handG; exact rfl; exact rfl) | (apply RunL.on; exact rfl; exact rfl; exact rfl; exact rfl; (first | exact rfl | assumption)) | (apply RunL.noU; exact rfl; exact rfl; exact rfl; exact rfl; exact rfl; exact rfl) | (apply RunL.no; exact rfl; exact rfl; exact rfl; exact rfl; (first | exact rfl | assumption); exact rfl; exact rfl) | (refine AWP.cond _ (Rd.of rfl) (fun hc => ?_) (fun hc => ?_) <;> first | (exfalso; cases hc; done) | (have hc' := hc; (try simp only [sc, reduceCtorEq, cmpOf] at hc'); try (exfalso; omega)))
      | (
       apply AWP.drawA
       repeat' (first
         | (apply DL.cons; (try (apply OpLoc.on; exact rfl; exact rfl; exact rfl; exact rfl; (first | exact rfl | assumption))); apply ol_ev (τ := τ); exact rfl; (first | exact hc | exact hd | exact hall | exact hco | exact hsm | exact hva | exact ha1 | exact ha2 | exact hm1 | exact hm2 | exact lawake); exact rfl; exact rfl) | (apply DL.cons; exact olA; exact rfl) | (apply DL.nil; kernel_rfl) | (refine DL.split rfl rfl rfl rfl (fun hb => ?_) (fun hb => ?_) <;> have hb' := hb <;> (try simp only [sc, reduceCtorEq, cmpOf] at hb') <;> try (exfalso; omega)))
       all_goals (fail_if_success apply DL.id))
      | (refine RunL.split rfl rfl rfl rfl (fun hb => ?_) (fun hb => ?_) <;> have hb' := hb <;> (try simp only [sc, reduceCtorEq, cmpOf] at hb') <;> try (exfalso; omega)) )
      all_goals
        first   | (apply Ends.mk (.cons (.tmp rfl) .nil); first | rfl | (simp only [pack]; congr 1; simp only [cmpOf, decide_eq_true_eq, beq_iff_eq, bne_iff_ne]; omega))   | (apply Ends.mk (.cons (.tmp rfl) .nil); simp only [pack]; congr 1; simp only [cmpOf, sc]; omega)   | (exfalso; first | omega | (simp only [*, Bool.true_eq_false, Bool.false_eq_true, reduceCtorEq] at *; done) | grind)
end Go.Proofs.YtgdejiajiljipaaDoor.K
