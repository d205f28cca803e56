/- Elements of a slice that the call has appended to; walks: package draws and its reference. -/
import Derived.Test.YtmefecfkajjajaaDoorRtA
namespace Go.Proofs.YtmefecfkajjajaaDoor.K
open Go Go.RowKit
set_option linter.unusedVariables false
set_option linter.unusedSimpArgs false

section
variable {P : Program} {τ : Tys P} {B : Base} {s : St} {d : Nat} {ty : TypeId} {pos : String} {af : Array Edge} {gd : Option (Nat × Bool)}
theorem vec_block {R : Nat → Prop} {ad : Nat → Option Nat} {w : World} {k U : Nat} {kk : IntKind} {l : List Int} {v : Value} (h : HoldsT R ad w (.vec k U 1 (iv kk l)) v) (hl : 0 < l.length) : ∃ b cap cs, ad k = some b ∧ v = .slice (some ⟨b, 0, none⟩) l.length cap ∧ w.heap[b]? = some (.cells cs U (0, 0)) ∧ cs.size = cap ∧ l.length ≤ cap ∧ cap ≤ maxLen ∧ (∀ j, (hj : j < l.length) → cs[j]? = some (.int kk l[j]) ∧ InR kk l[j]) := by
  rcases h with ⟨_, _, h2⟩ | ⟨b, cap, h1, h2, cs, h3, h4, h5, h6, h7, h8⟩
  · have : (iv kk l).length = 0 := by rw [h2]; rfl
    rw [iv_length] at this; omega
  · rw [iv_length] at h2 h5
    refine ⟨b, cap, cs, h1, h2, h3, by omega, h5, h6, fun j hj => ?_⟩
    have hjc : j < cs.size := by omega
    have g5 := h8 j [.int kk l[j]] 0 (.int kk l[j]) cs[j] (by simp [iv, hj]) rfl (by simp [hjc])
    have e : cs[j]? = some cs[j] := by simp [hjc]
    generalize cs[j] = u at g5 e
    cases g5
    exact ⟨e, by assumption⟩
theorem op_iaV {T e k : Nat} {x y : Operand} {kk k' : IntKind} {l : List Int} {m : Int} {i j : TI} (hT : get τ.tab T = some i) (hk : i.k = .slice e) (he : get τ.tab e = some j) (hz : j.size = 1) (hx : Rd s x (.vec k e 1 (iv kk l))) (hy : Rd s y (.val (.int k' m))) (h0 : 0 ≤ m) (hr : m < (l.length : Int)) (hN : Nat.blt d B.N = true) :
    OpDo P B ⟨some d, .indexAddr T x y, ty, pos, af, gd⟩ s (s.setT d (.pb k m.toNat)) :=
  .pure hN fun R ad a w hi => by
    obtain ⟨b, cap, cs, h1, hv, _⟩ := vec_block (hx.holds hi) (by omega)
    have hu := Tys.slice hT hk
    exact ⟨.pointer (some ⟨b, m.toNat, none⟩), by simp [execOp, Instr.indexAt, hv, (hy.int_inv hi).1, asIntOf, run_underlying hu, h0, hr, Tys.size he, hz, add_lit, Instr.sureAddr], b, h1, rfl⟩
theorem op_ldV {T k off U : Nat} {x : Operand} {kk : IntKind} {l : List Int} {i : TI} {n : Int} (tl : Nat) (hT : get τ.tab T = some i) (hk : i.k.isAgg = some false) (hx : Rd s x (.pb k off)) (hs : s.t tl = some (.vec k U 1 (iv kk l))) (hn : l[off]? = some n) (hN : Nat.blt d B.N = true) :
    OpDo P B ⟨some d, .load T x, ty, pos, af, gd⟩ s (s.setT d (.val (.int kk n))) :=
  .pure hN fun R ad a w hi => by
    obtain ⟨g, h1, h2⟩ := hx.holds hi
    obtain ⟨v, _, g2⟩ := hi.tm _ _ hs
    have hlt := (List.getElem?_eq_some_iff.1 hn).1
    obtain ⟨b, cap, cs, f1, _, f3, _, _, _, f4⟩ := vec_block g2 (by omega)
    rw [h1] at f1; cases f1
    obtain ⟨c1, c2⟩ := f4 off hlt
    have e : l[off] = n := by simpa [hlt] using hn
    rw [e] at c1 c2
    have hc : w.cell? ⟨g, off, none⟩ = some (.int kk n) := by rw [cells_of_row f3]; exact c1
    exact ⟨.int kk n, by simp [execOp, Instr.loadAt, h2, Instr.sureAddr, loadVar, Tys.isAgg hT hk, hc], .int _ _ c2⟩
theorem op_stV {T k off U tp : Nat} {xx : Operand} {kk : IntKind} {l : List Int} {i : TI} {n : Int} (tl : Nat) (hT : get τ.tab T = some i) (hn : i.size = 1) (hx : s.t tp = some (.pb k off)) (hs : s.t tl = some (.vec k U 1 (iv kk l))) (hlt : off < l.length) (hv : Rd s xx (.val (.int kk n))) (h0 : Nat.blt 0 k = true ∨ B.ex = fun _ => False) :
    OpDo P B ⟨none, .store T (.tmp tp) xx, ty, pos, af, gd⟩ s ((s.forget k).setT tl (.vec k U 1 (iv kk (l.set off n)))) := .skip rfl fun R ad a w hi => by
  obtain ⟨v1, g1, g, h1, rfl⟩ := hi.tm tp _ hx
  obtain ⟨v, f0, g2⟩ := hi.tm _ _ hs
  obtain ⟨b, cap, cs, f1, f2, f3, f4, f5, f6, f7⟩ := vec_block g2 (by omega)
  rw [h1] at f1; cases f1
  obtain ⟨e1, e2⟩ := hv.int_inv hi
  have hst := run_storeCells_at P g off U [Value.int kk n] 0 cs w f3 (by simp; omega) (fun v hv => by simp at hv; subst hv; rfl)
  simp only [Nat.add_zero] at hst
  have he : a.eval (.tmp tp) = .pointer (some ⟨g, off, none⟩) := by simp [Act.eval, g1]
  have hrun : (execOp a.eval ⟨none, .store T (.tmp tp) xx, ty, pos, af, gd⟩).run P w = .ok .skip (w.setRow g (cs.toList.take off ++ [Value.int kk n] ++ cs.toList.drop (off + [Value.int kk n].length)).toArray) := by
    have hc1 : (Value.int kk n).cells = #[Value.int kk n] := rfl
    simp [execOp, Instr.storeAt, he, Instr.sureAddr, storeVar, Tys.size hT, hn, e1, hc1]
    simp at hst
    rw [hst]
    simp
  generalize hcs' : (cs.toList.take off ++ [Value.int kk n] ++ cs.toList.drop (off + [Value.int kk n].length)).toArray = cs' at hrun
  have hg : w.grownBy (w.setRow g cs') (ad k) := ⟨rfl, rfl, rfl, by rw [setRow_size]; exact Nat.le_refl _, fun c _ hk => setRow_heap_ne w g c _ (fun e => hk (by rw [h1, e]))⟩
  have hre := hi.reown (k := k) (o := ad k) hg (fun b hb => .inl hb) h0
  have e : (fun i => if i = k then ad k else ad i) = ad := by
    funext i
    split
    · rename_i e; rw [e]
    · rfl
  rw [e] at hre
  refine ⟨_, hrun, R, ad, hre.know f0 (.inr ⟨g, cap, h1, by rw [f2, iv_length, List.length_set], cs', by simp [World.setRow, Array.getElem?_modify, f3], ?_, by rw [iv_length, List.length_set]; exact f5, f6, fun ds hds => ?_, fun i ds j dd u a1 a2 a3 => ?_⟩)⟩
  · rw [← hcs']; simp; omega
  · simp only [iv, List.mem_map] at hds
    obtain ⟨_, _, rfl⟩ := hds; rfl
  · simp only [iv, List.getElem?_map, Option.map_eq_some_iff] at a1
    obtain ⟨r, a4, rfl⟩ := a1
    have hj : j = 0 := by
      have := (List.getElem?_eq_some_iff.1 a2).1
      simpa using this
    subst hj
    simp at a2; subst a2
    rw [Nat.mul_one, Nat.add_zero] at a3
    have hil : i < l.length := by have := (List.getElem?_eq_some_iff.1 a4).1; simpa using this
    rw [← hcs'] at a3
    have a3' : (cs.toList.take off ++ [Value.int kk n] ++ cs.toList.drop (off + [Value.int kk n].length))[i]? = some u := by simpa using a3
    by_cases ei : i = off
    · subst ei
      rw [List.getElem?_set_self hlt] at a4
      cases a4
      have hlen : (cs.toList.take i).length = i := by simp; omega
      rw [List.append_assoc, List.getElem?_append_right (by omega), hlen] at a3'
      simp at a3'
      subst a3'
      exact .int _ _ e2
    · rw [List.getElem?_set_ne (fun h => ei h.symm)] at a4
      obtain ⟨c1, c2⟩ := f7 i hil
      have er : l[i] = r := by simpa [hil] using a4
      rw [er] at c1 c2
      have hu : cs[i]? = some u := by
        rcases splice_get cs.toList [Value.int kk n] off i u (by simp; omega) a3' with ⟨_, b2⟩ | ⟨b1, b2, _⟩ | ⟨_, b2⟩
        · simpa using b2
        · simp at b2; omega
        · simpa using b2
      rw [c1] at hu; cases hu
      exact .int _ _ c2
end
theorem stepU_eq (s : Int) : (s * 6364136223846793005 % 18446744073709551616 + 1442695040888963407) % 18446744073709551616 = stepU s := by unfold stepU; omega
theorem dNew (d : Int) : Evals Tryd.prog 88 [.int .u64 d] (.int .u64 (stepU d)) := by
  refine evals_of_awp Tryd.func88 rfl (CallOK.of Tryd.func88 (by kernel_rfl) rfl) (Nat.le_of_ble_eq_true rfl) ?_
  rintro w R hR ⟨vs, hv⟩
  rw [← stepU_eq]
  repeat' (first
    | (apply RunL.step; exact rfl; exact opA) | (apply RunL.hand; exact rfl; exact rfl; exact lenA; exact rfl) | (apply AWP.seq) | (apply AWP.region; exact rfl) | (apply AWP.block) | (apply AWP.skip) | (apply AWP.exit) | (apply AWP.retF; exact rfl; exact rfl; exact rfl; exact rfl; exact lenA; exact rfl) | (apply AWP.ret) | (apply RunL.nil) | (apply RunL.on; exact rfl; exact rfl; exact rfl; exact rfl; (first | exact rfl | assumption)) | (apply RunL.noU; exact rfl; exact rfl; exact rfl; exact rfl; exact rfl; exact rfl) | (apply RunL.no; exact rfl; exact rfl; exact rfl; exact rfl; (first | exact rfl | assumption); exact rfl; exact rfl) | (refine AWP.cond _ (Rd.of rfl) (fun hc => ?_) (fun hc => ?_) <;> first | (exfalso; cases hc; done) | (have hc' := hc; (try simp only [sc, reduceCtorEq, cmpOf] at hc'); try (exfalso; omega)))
    | (
     apply AWP.drawA
     repeat' (first
       | (apply DL.cons; (try (apply OpLoc.on; exact rfl; exact rfl; exact rfl; exact rfl; (first | exact rfl | assumption))); apply ol_ev (τ := τ); exact rfl; (fail); exact rfl; exact rfl) | (apply DL.cons; exact olA; exact rfl) | (apply DL.nil; kernel_rfl) | (refine DL.split rfl rfl rfl rfl (fun hb => ?_) (fun hb => ?_) <;> have hb' := hb <;> (try simp only [sc, reduceCtorEq, cmpOf] at hb') <;> try (exfalso; omega)))
     all_goals (fail_if_success apply DL.id))
    | (refine RunL.split rfl rfl rfl rfl (fun hb => ?_) (fun hb => ?_) <;> have hb' := hb <;> (try simp only [sc, reduceCtorEq, cmpOf] at hb') <;> try (exfalso; omega)) )
  all_goals
    apply Ends.mk (.cons (.tmp rfl) .nil)
    first | done | rfl
theorem r8step (d : Int) : Evals Tryd.prog 89 [.int .u64 d] (.int .u64 (stepU d)) := by
  refine evals_of_awp Tryd.func89 rfl (CallOK.of Tryd.func89 (by kernel_rfl) rfl) (Nat.le_of_ble_eq_true rfl) ?_
  rintro w R hR ⟨vs, hv⟩
  rw [← stepU_eq]
  repeat' (first
    | (apply RunL.step; exact rfl; exact opA) | (apply RunL.hand; exact rfl; exact rfl; exact lenA; exact rfl) | (apply AWP.seq) | (apply AWP.region; exact rfl) | (apply AWP.block) | (apply AWP.skip) | (apply AWP.exit) | (apply AWP.retF; exact rfl; exact rfl; exact rfl; exact rfl; exact lenA; exact rfl) | (apply AWP.ret) | (apply RunL.nil) | (apply RunL.on; exact rfl; exact rfl; exact rfl; exact rfl; (first | exact rfl | assumption)) | (apply RunL.noU; exact rfl; exact rfl; exact rfl; exact rfl; exact rfl; exact rfl) | (apply RunL.no; exact rfl; exact rfl; exact rfl; exact rfl; (first | exact rfl | assumption); exact rfl; exact rfl) | (refine AWP.cond _ (Rd.of rfl) (fun hc => ?_) (fun hc => ?_) <;> first | (exfalso; cases hc; done) | (have hc' := hc; (try simp only [sc, reduceCtorEq, cmpOf] at hc'); try (exfalso; omega)))
    | (
     apply AWP.drawA
     repeat' (first
       | (apply DL.cons; (try (apply OpLoc.on; exact rfl; exact rfl; exact rfl; exact rfl; (first | exact rfl | assumption))); apply ol_ev (τ := τ); exact rfl; (fail); exact rfl; exact rfl) | (apply DL.cons; exact olA; exact rfl) | (apply DL.nil; kernel_rfl) | (refine DL.split rfl rfl rfl rfl (fun hb => ?_) (fun hb => ?_) <;> have hb' := hb <;> (try simp only [sc, reduceCtorEq, cmpOf] at hb') <;> try (exfalso; omega)))
     all_goals (fail_if_success apply DL.id))
    | (refine RunL.split rfl rfl rfl rfl (fun hb => ?_) (fun hb => ?_) <;> have hb' := hb <;> (try simp only [sc, reduceCtorEq, cmpOf] at hb') <;> try (exfalso; omega)) )
  all_goals
    apply Ends.mk (.cons (.tmp rfl) .nil)
    first | done | rfl
theorem dNext (d : Int) : Evals Tryd.prog 80 [.int .u64 d] (.tup [.int .u32 (stepU d / 4294967296), .int .u64 (stepU d)]) := by
  have hs := dNew d
  refine evals_of_awp Tryd.func80 rfl (CallOK.of Tryd.func80 (by kernel_rfl) rfl) (Nat.le_of_ble_eq_true rfl) ?_
  rintro w R hR ⟨vs, hv⟩
  have h1 := stepU_bound d
  have h2 := hi_bound d
  generalize stepU d = e at *
  repeat' (first
    | (apply RunL.step; exact rfl; apply op_ev (τ := τ); exact rfl; (first | exact hs); exact rfl) | (apply RunL.step; exact rfl; exact opA) | (apply RunL.hand; exact rfl; exact rfl; exact lenA; exact rfl) | (apply AWP.seq) | (apply AWP.region; exact rfl) | (apply AWP.block) | (apply AWP.skip) | (apply AWP.exit) | (apply AWP.retF; exact rfl; exact rfl; exact rfl; exact rfl; exact lenA; exact rfl) | (apply AWP.ret) | (apply RunL.nil) | (apply RunL.on; exact rfl; exact rfl; exact rfl; exact rfl; (first | exact rfl | assumption)) | (apply RunL.noU; exact rfl; exact rfl; exact rfl; exact rfl; exact rfl; exact rfl) | (apply RunL.no; exact rfl; exact rfl; exact rfl; exact rfl; (first | exact rfl | assumption); exact rfl; exact rfl) | (refine AWP.cond _ (Rd.of rfl) (fun hc => ?_) (fun hc => ?_) <;> first | (exfalso; cases hc; done) | (have hc' := hc; (try simp only [sc, reduceCtorEq, cmpOf] at hc'); try (exfalso; omega)))
    | (
     apply AWP.drawA
     repeat' (first
       | (apply DL.cons; (try (apply OpLoc.on; exact rfl; exact rfl; exact rfl; exact rfl; (first | exact rfl | assumption))); apply ol_ev (τ := τ); exact rfl; (first | exact hs); exact rfl; exact rfl) | (apply DL.cons; exact olA; exact rfl) | (apply DL.nil; kernel_rfl) | (refine DL.split rfl rfl rfl rfl (fun hb => ?_) (fun hb => ?_) <;> have hb' := hb <;> (try simp only [sc, reduceCtorEq, cmpOf] at hb') <;> try (exfalso; omega)))
     all_goals (fail_if_success apply DL.id))
    | (refine RunL.split rfl rfl rfl rfl (fun hb => ?_) (fun hb => ?_) <;> have hb' := hb <;> (try simp only [sc, reduceCtorEq, cmpOf] at hb') <;> try (exfalso; omega)) )
  all_goals
    apply Ends.mk (.cons (.tmp rfl) (.cons (.tmp rfl) .nil))
    first | done | rfl
theorem r8next (d : Int) : Evals Tryd.prog 81 [.int .u64 d] (.tup [.int .u32 (stepU d / 4294967296), .int .u64 (stepU d)]) := by
  have hs := r8step d
  refine evals_of_awp Tryd.func81 rfl (CallOK.of Tryd.func81 (by kernel_rfl) rfl) (Nat.le_of_ble_eq_true rfl) ?_
  rintro w R hR ⟨vs, hv⟩
  have h1 := stepU_bound d
  have h2 := hi_bound d
  generalize stepU d = e at *
  repeat' (first
    | (apply RunL.step; exact rfl; apply op_ev (τ := τ); exact rfl; (first | exact hs); exact rfl) | (apply RunL.step; exact rfl; exact opA) | (apply RunL.hand; exact rfl; exact rfl; exact lenA; exact rfl) | (apply AWP.seq) | (apply AWP.region; exact rfl) | (apply AWP.block) | (apply AWP.skip) | (apply AWP.exit) | (apply AWP.retF; exact rfl; exact rfl; exact rfl; exact rfl; exact lenA; exact rfl) | (apply AWP.ret) | (apply RunL.nil) | (apply RunL.on; exact rfl; exact rfl; exact rfl; exact rfl; (first | exact rfl | assumption)) | (apply RunL.noU; exact rfl; exact rfl; exact rfl; exact rfl; exact rfl; exact rfl) | (apply RunL.no; exact rfl; exact rfl; exact rfl; exact rfl; (first | exact rfl | assumption); exact rfl; exact rfl) | (refine AWP.cond _ (Rd.of rfl) (fun hc => ?_) (fun hc => ?_) <;> first | (exfalso; cases hc; done) | (have hc' := hc; (try simp only [sc, reduceCtorEq, cmpOf] at hc'); try (exfalso; omega)))
    | (
     apply AWP.drawA
     repeat' (first
       | (apply DL.cons; (try (apply OpLoc.on; exact rfl; exact rfl; exact rfl; exact rfl; (first | exact rfl | assumption))); apply ol_ev (τ := τ); exact rfl; (first | exact hs); exact rfl; exact rfl) | (apply DL.cons; exact olA; exact rfl) | (apply DL.nil; kernel_rfl) | (refine DL.split rfl rfl rfl rfl (fun hb => ?_) (fun hb => ?_) <;> have hb' := hb <;> (try simp only [sc, reduceCtorEq, cmpOf] at hb') <;> try (exfalso; omega)))
     all_goals (fail_if_success apply DL.id))
    | (refine RunL.split rfl rfl rfl rfl (fun hb => ?_) (fun hb => ?_) <;> have hb' := hb <;> (try simp only [sc, reduceCtorEq, cmpOf] at hb') <;> try (exfalso; omega)) )
  all_goals
    apply Ends.mk (.cons (.tmp rfl) (.cons (.tmp rfl) .nil))
    first | done | rfl
theorem dBelow (d n : Int) (h : 1 ≤ n ∧ n ≤ 1024) : Evals Tryd.prog 67 [.int .u64 d, .int .i64 n] (.tup [.int .i64 (belowU d n), .int .u64 (stepU d)]) := by
  have hs := dNext d
  refine evals_of_awp Tryd.func67 rfl (CallOK.of Tryd.func67 (by kernel_rfl) rfl) (Nat.le_of_ble_eq_true rfl) ?_
  rintro w R hR ⟨vs, hv⟩
  have h2 := hi_bound d
  unfold belowU
  generalize stepU d / 4294967296 = x at *
  generalize stepU d = e at *
  have h3 : x * n ≤ 4294967295 * n := Int.mul_le_mul_of_nonneg_right (by omega) (by omega)
  have h4 : 0 ≤ x * n := Int.mul_nonneg h2.1 (by omega)
  repeat' (first
    | (apply RunL.step; exact rfl; apply op_ev (τ := τ); exact rfl; (first | exact hs); exact rfl) | (apply RunL.step; exact rfl; exact opA) | (apply RunL.hand; exact rfl; exact rfl; exact lenA; exact rfl) | (apply AWP.seq) | (apply AWP.region; exact rfl) | (apply AWP.block) | (apply AWP.skip) | (apply AWP.exit) | (apply AWP.retF; exact rfl; exact rfl; exact rfl; exact rfl; exact lenA; exact rfl) | (apply AWP.ret) | (apply RunL.nil) | (apply RunL.on; exact rfl; exact rfl; exact rfl; exact rfl; (first | exact rfl | assumption)) | (apply RunL.noU; exact rfl; exact rfl; exact rfl; exact rfl; exact rfl; exact rfl) | (apply RunL.no; exact rfl; exact rfl; exact rfl; exact rfl; (first | exact rfl | assumption); exact rfl; exact rfl) | (refine AWP.cond _ (Rd.of rfl) (fun hc => ?_) (fun hc => ?_) <;> first | (exfalso; cases hc; done) | (have hc' := hc; (try simp only [sc, reduceCtorEq, cmpOf] at hc'); try (exfalso; omega)))
    | (
     apply AWP.drawA
     repeat' (first
       | (apply DL.cons; (try (apply OpLoc.on; exact rfl; exact rfl; exact rfl; exact rfl; (first | exact rfl | assumption))); apply ol_ev (τ := τ); exact rfl; (first | exact hs); exact rfl; exact rfl) | (apply DL.cons; exact olA; exact rfl) | (apply DL.nil; kernel_rfl) | (refine DL.split rfl rfl rfl rfl (fun hb => ?_) (fun hb => ?_) <;> have hb' := hb <;> (try simp only [sc, reduceCtorEq, cmpOf] at hb') <;> try (exfalso; omega)))
     all_goals (fail_if_success apply DL.id))
    | (refine RunL.split rfl rfl rfl rfl (fun hb => ?_) (fun hb => ?_) <;> have hb' := hb <;> (try simp only [sc, reduceCtorEq, cmpOf] at hb') <;> try (exfalso; omega)) )
  all_goals
    apply Ends.mk (.cons (.tmp rfl) (.cons (.tmp rfl) .nil))
    first | done | rfl
theorem r8below (d n : Int) (h : 1 ≤ n ∧ n ≤ 1024) : Evals Tryd.prog 68 [.int .u64 d, .int .i64 n] (.tup [.int .i64 (belowU d n), .int .u64 (stepU d)]) := by
  have hs := r8next d
  refine evals_of_awp Tryd.func68 rfl (CallOK.of Tryd.func68 (by kernel_rfl) rfl) (Nat.le_of_ble_eq_true rfl) ?_
  rintro w R hR ⟨vs, hv⟩
  have h2 := hi_bound d
  unfold belowU
  generalize stepU d / 4294967296 = x at *
  generalize stepU d = e at *
  have h3 : x * n ≤ 4294967295 * n := Int.mul_le_mul_of_nonneg_right (by omega) (by omega)
  have h4 : 0 ≤ x * n := Int.mul_nonneg h2.1 (by omega)
  repeat' (first
    | (apply RunL.step; exact rfl; apply op_ev (τ := τ); exact rfl; (first | exact hs); exact rfl) | (apply RunL.step; exact rfl; exact opA) | (apply RunL.hand; exact rfl; exact rfl; exact lenA; exact rfl) | (apply AWP.seq) | (apply AWP.region; exact rfl) | (apply AWP.block) | (apply AWP.skip) | (apply AWP.exit) | (apply AWP.retF; exact rfl; exact rfl; exact rfl; exact rfl; exact lenA; exact rfl) | (apply AWP.ret) | (apply RunL.nil) | (apply RunL.on; exact rfl; exact rfl; exact rfl; exact rfl; (first | exact rfl | assumption)) | (apply RunL.noU; exact rfl; exact rfl; exact rfl; exact rfl; exact rfl; exact rfl) | (apply RunL.no; exact rfl; exact rfl; exact rfl; exact rfl; (first | exact rfl | assumption); exact rfl; exact rfl) | (refine AWP.cond _ (Rd.of rfl) (fun hc => ?_) (fun hc => ?_) <;> first | (exfalso; cases hc; done) | (have hc' := hc; (try simp only [sc, reduceCtorEq, cmpOf] at hc'); try (exfalso; omega)))
    | (
     apply AWP.drawA
     repeat' (first
       | (apply DL.cons; (try (apply OpLoc.on; exact rfl; exact rfl; exact rfl; exact rfl; (first | exact rfl | assumption))); apply ol_ev (τ := τ); exact rfl; (first | exact hs); exact rfl; exact rfl) | (apply DL.cons; exact olA; exact rfl) | (apply DL.nil; kernel_rfl) | (refine DL.split rfl rfl rfl rfl (fun hb => ?_) (fun hb => ?_) <;> have hb' := hb <;> (try simp only [sc, reduceCtorEq, cmpOf] at hb') <;> try (exfalso; omega)))
     all_goals (fail_if_success apply DL.id))
    | (refine RunL.split rfl rfl rfl rfl (fun hb => ?_) (fun hb => ?_) <;> have hb' := hb <;> (try simp only [sc, reduceCtorEq, cmpOf] at hb') <;> try (exfalso; omega)) )
  all_goals
    apply Ends.mk (.cons (.tmp rfl) (.cons (.tmp rfl) .nil))
    first | done | rfl
end Go.Proofs.YtmefecfkajjajaaDoor.K
namespace Go.Proofs.YtmefecfkajjajaaDoor.K
open Go Go.RowKit
set_option linter.unusedVariables false
set_option linter.unusedSimpArgs false

theorem iota_ext {l : List Int} {n : Nat} (h : l.length = n) (hj : ∀ j : Nat, j < n → ix l j = j) : l = iota n := by
  apply List.ext_getElem?
  intro j
  by_cases e : j < n
  · rw [iota_at e, idxN (by omega), hj j e]
  · rw [List.getElem?_eq_none (by omega), List.getElem?_eq_none (by rw [iota_length]; omega)]
theorem ix_set {l : List Int} {i j : Nat} {x : Int} (hi : i < l.length) : ix (l.set i x) (j : Int) = if j = i then x else ix l j := by
  by_cases e : j = i
  · subst e; simp [ix, hi]
  · rw [if_neg e]; simp [ix, List.getElem?_set_ne (fun h => e h.symm)]
theorem shuf_step {i : Int} {l : List Int} {d : Int} (h : 1 ≤ i) : shuf i.toNat l d = shuf (i - 1).toNat (swp l i.toNat (belowU d (i + 1)).toNat) (stepU d) := by
  obtain ⟨m, hm⟩ : ∃ m : Nat, i = m + 1 := ⟨(i - 1).toNat, by omega⟩
  subst hm
  rw [show ((m : Int) + 1).toNat = m + 1 by omega, show ((m : Int) + 1 - 1).toNat = m by omega, show (m : Int) + 1 + 1 = ((m + 2 : Nat) : Int) by omega]
  rfl
set_option maxHeartbeats 1000000 in
theorem dShuffle (d : Int) (n : Nat) (hn : n ≤ 1024) : Evals Tryd.prog 49 [.int .u64 d, .int .i64 n] (.tup [.ints .i64 (shuffle n d).1, .int .u64 (shuffle n d).2]) := by
  refine evals_of_awp Tryd.func49 rfl (CallOK.of Tryd.func49 (by kernel_rfl) rfl) (Nat.le_of_ble_eq_true rfl) ?_
  rintro w R hR ⟨vs, hv⟩
  repeat' (first
    | (apply RunL.step; exact rfl; apply op_ev (τ := τ); exact rfl; (first | exact hbl); exact rfl) | (apply RunL.step; exact rfl; exact opA) | (apply RunL.hand; exact rfl; exact rfl; exact lenA; exact rfl) | (apply AWP.seq) | (apply AWP.region; exact rfl) | (apply AWP.block) | (apply AWP.skip) | (apply AWP.exit) | (apply AWP.retF; exact rfl; exact rfl; exact rfl; exact rfl; exact lenA; exact rfl) | (apply AWP.ret) | (apply RunL.nil) | (apply RunL.on; exact rfl; exact rfl; exact rfl; exact rfl; (first | exact rfl | assumption)) | (apply RunL.noU; exact rfl; exact rfl; exact rfl; exact rfl; exact rfl; exact rfl) | (apply RunL.no; exact rfl; exact rfl; exact rfl; exact rfl; (first | exact rfl | assumption); exact rfl; exact rfl) | (refine AWP.cond _ (Rd.of rfl) (fun hc => ?_) (fun hc => ?_) <;> first | (exfalso; cases hc; done) | (have hc' := hc; (try simp only [sc, reduceCtorEq, cmpOf] at hc'); try (exfalso; omega)))
    | (
     apply AWP.drawA
     repeat' (first
       | (apply DL.cons; (try (apply OpLoc.on; exact rfl; exact rfl; exact rfl; exact rfl; (first | exact rfl | assumption))); apply ol_ev (τ := τ); exact rfl; (first | exact hbl); exact rfl; exact rfl) | (apply DL.cons; exact olA; exact rfl) | (apply DL.nil; kernel_rfl) | (refine DL.split rfl rfl rfl rfl (fun hb => ?_) (fun hb => ?_) <;> have hb' := hb <;> (try simp only [sc, reduceCtorEq, cmpOf] at hb') <;> try (exfalso; omega)))
     all_goals (fail_if_success apply DL.id))
    | (refine RunL.split rfl rfl rfl rfl (fun hb => ?_) (fun hb => ?_) <;> have hb' := hb <;> (try simp only [sc, reduceCtorEq, cmpOf] at hb') <;> try (exfalso; omega)) )
  refine AWP.loop2 (fun (i : Int) (l : List Int) => ⟨[(0, .val (.int .u64 d)), (1, .val (.int .i64 n)), (6, .sb 18 0 n n), (20, .val (.int .i64 n)), (21, .val (.int .i64 i))], [(18, .row 3 .i64 l)]⟩) (fun i l => 0 ≤ i ∧ i ≤ n ∧ l.length = n ∧ ∀ j : Nat, (j : Int) < i → ix l j = j) (fun i _ => (n - i).toNat) 0 (List.replicate n 0) ⟨by omega, by omega, by simp, fun j hj => by omega⟩ (St.Le.of (by repeat' (first | exact all_nil | refine all_cons rfl ?_)) (by repeat' (first | exact all_nil | refine all_cons rfl ?_))) ?_
  rintro i l ⟨k1, k2, k3, k4⟩
  by_cases hi : i < n
  · repeat' (first
    | (apply RunL.step; exact rfl; apply op_ev (τ := τ); exact rfl; (first | exact hbl); exact rfl) | (apply RunL.step; exact rfl; exact opA) | (apply RunL.hand; exact rfl; exact rfl; exact lenA; exact rfl) | (apply AWP.seq) | (apply AWP.region; exact rfl) | (apply AWP.block) | (apply AWP.skip) | (apply AWP.exit) | (apply AWP.retF; exact rfl; exact rfl; exact rfl; exact rfl; exact lenA; exact rfl) | (apply AWP.ret) | (apply RunL.nil) | (apply RunL.on; exact rfl; exact rfl; exact rfl; exact rfl; (first | exact rfl | assumption)) | (apply RunL.noU; exact rfl; exact rfl; exact rfl; exact rfl; exact rfl; exact rfl) | (apply RunL.no; exact rfl; exact rfl; exact rfl; exact rfl; (first | exact rfl | assumption); exact rfl; exact rfl) | (refine AWP.cond _ (Rd.of rfl) (fun hc => ?_) (fun hc => ?_) <;> first | (exfalso; cases hc; done) | (have hc' := hc; (try simp only [sc, reduceCtorEq, cmpOf] at hc'); try (exfalso; omega)))
    | (
     apply AWP.drawA
     repeat' (first
       | (apply DL.cons; (try (apply OpLoc.on; exact rfl; exact rfl; exact rfl; exact rfl; (first | exact rfl | assumption))); apply ol_ev (τ := τ); exact rfl; (first | exact hbl); exact rfl; exact rfl) | (apply DL.cons; exact olA; exact rfl) | (apply DL.nil; kernel_rfl) | (refine DL.split rfl rfl rfl rfl (fun hb => ?_) (fun hb => ?_) <;> have hb' := hb <;> (try simp only [sc, reduceCtorEq, cmpOf] at hb') <;> try (exfalso; omega)))
     all_goals (fail_if_success apply DL.id))
    | (refine RunL.split rfl rfl rfl rfl (fun hb => ?_) (fun hb => ?_) <;> have hb' := hb <;> (try simp only [sc, reduceCtorEq, cmpOf] at hb') <;> try (exfalso; omega)) )
    all_goals
      refine ⟨i + 1, _, St.Le.of (by repeat' (first | exact all_nil | refine all_cons rfl ?_)) (by repeat' (first | exact all_nil | refine all_cons rfl ?_)), ⟨by omega, by omega, by simp [k3], fun j hj => ?_⟩, by omega⟩
      rw [Nat.zero_add, ix_set (by omega)]
      split
      · omega
      · exact k4 j (by omega)
  · have hl := iota_ext k3 fun j hj => k4 j (by omega)
    repeat' (first
      | (apply RunL.step; exact rfl; apply op_ev (τ := τ); exact rfl; (first | exact hbl); exact rfl) | (apply RunL.step; exact rfl; exact opA) | (apply RunL.hand; exact rfl; exact rfl; exact lenA; exact rfl) | (apply AWP.seq) | (apply AWP.region; exact rfl) | (apply AWP.block) | (apply AWP.skip) | (apply AWP.exit) | (apply AWP.retF; exact rfl; exact rfl; exact rfl; exact rfl; exact lenA; exact rfl) | (apply AWP.ret) | (apply RunL.nil) | (apply RunL.on; exact rfl; exact rfl; exact rfl; exact rfl; (first | exact rfl | assumption)) | (apply RunL.noU; exact rfl; exact rfl; exact rfl; exact rfl; exact rfl; exact rfl) | (apply RunL.no; exact rfl; exact rfl; exact rfl; exact rfl; (first | exact rfl | assumption); exact rfl; exact rfl) | (refine AWP.cond _ (Rd.of rfl) (fun hc => ?_) (fun hc => ?_) <;> first | (exfalso; cases hc; done) | (have hc' := hc; (try simp only [sc, reduceCtorEq, cmpOf] at hc'); try (exfalso; omega)))
      | (
       apply AWP.drawA
       repeat' (first
         | (apply DL.cons; (try (apply OpLoc.on; exact rfl; exact rfl; exact rfl; exact rfl; (first | exact rfl | assumption))); apply ol_ev (τ := τ); exact rfl; (first | exact hbl); exact rfl; exact rfl) | (apply DL.cons; exact olA; exact rfl) | (apply DL.nil; kernel_rfl) | (refine DL.split rfl rfl rfl rfl (fun hb => ?_) (fun hb => ?_) <;> have hb' := hb <;> (try simp only [sc, reduceCtorEq, cmpOf] at hb') <;> try (exfalso; omega)))
       all_goals (fail_if_success apply DL.id))
      | (refine RunL.split rfl rfl rfl rfl (fun hb => ?_) (fun hb => ?_) <;> have hb' := hb <;> (try simp only [sc, reduceCtorEq, cmpOf] at hb') <;> try (exfalso; omega)) )
    refine AWP.loop3 (fun (i : Int) (l : List Int) (e : Int) => ⟨[(0, .val (.int .u64 e)), (6, .sb 18 0 n n), (8, .val (.int .i64 i))], [(18, .row 3 .i64 l)]⟩) (fun i l e => -1 ≤ i ∧ i ≤ (n : Int) - 1 ∧ l.length = n ∧ shuf i.toNat l e = shuffle n d) (fun i _ _ => i.toNat) ((n : Int) - 1) l d ⟨by omega, by omega, k3, by rw [hl, shuffle]; congr 1; omega⟩ (St.Le.of (by repeat' (first | exact all_nil | refine all_cons rfl ?_)) (by repeat' (first | exact all_nil | refine all_cons rfl ?_))) ?_
    clear hc hc' hi k1 k2 k3 k4 hl i l
    rintro i l e ⟨k1, k2, k3, k4⟩
    by_cases hi : 1 ≤ i
    · have hbl := dBelow e (i + 1) (by omega)
      have hbd := belowU_bound e (n := i + 1) (by omega)
      rw [shuf_step hi] at k4
      generalize belowU e (i + 1) = k at *
      repeat' (first
        | (apply RunL.step; exact rfl; apply op_ev (τ := τ); exact rfl; (first | exact hbl); exact rfl) | (apply RunL.step; exact rfl; exact opA) | (apply RunL.hand; exact rfl; exact rfl; exact lenA; exact rfl) | (apply AWP.seq) | (apply AWP.region; exact rfl) | (apply AWP.block) | (apply AWP.skip) | (apply AWP.exit) | (apply AWP.retF; exact rfl; exact rfl; exact rfl; exact rfl; exact lenA; exact rfl) | (apply AWP.ret) | (apply RunL.nil) | (apply RunL.on; exact rfl; exact rfl; exact rfl; exact rfl; (first | exact rfl | assumption)) | (apply RunL.noU; exact rfl; exact rfl; exact rfl; exact rfl; exact rfl; exact rfl) | (apply RunL.no; exact rfl; exact rfl; exact rfl; exact rfl; (first | exact rfl | assumption); exact rfl; exact rfl) | (refine AWP.cond _ (Rd.of rfl) (fun hc => ?_) (fun hc => ?_) <;> first | (exfalso; cases hc; done) | (have hc' := hc; (try simp only [sc, reduceCtorEq, cmpOf] at hc'); try (exfalso; omega)))
        | (
         apply AWP.drawA
         repeat' (first
           | (apply DL.cons; (try (apply OpLoc.on; exact rfl; exact rfl; exact rfl; exact rfl; (first | exact rfl | assumption))); apply ol_ev (τ := τ); exact rfl; (first | exact hbl); exact rfl; exact rfl) | (apply DL.cons; exact olA; exact rfl) | (apply DL.nil; kernel_rfl) | (refine DL.split rfl rfl rfl rfl (fun hb => ?_) (fun hb => ?_) <;> have hb' := hb <;> (try simp only [sc, reduceCtorEq, cmpOf] at hb') <;> try (exfalso; omega)))
         all_goals (fail_if_success apply DL.id))
        | (refine RunL.split rfl rfl rfl rfl (fun hb => ?_) (fun hb => ?_) <;> have hb' := hb <;> (try simp only [sc, reduceCtorEq, cmpOf] at hb') <;> try (exfalso; omega)) )
      all_goals
        refine ⟨i - 1, _, _, St.Le.of (by repeat' (first | exact all_nil | refine all_cons rfl ?_)) (by repeat' (first | exact all_nil | refine all_cons rfl ?_)), ⟨by omega, by omega, by simp [k3], ?_⟩, by omega⟩
        simp only [Nat.zero_add]
        exact k4
    · rw [show i.toNat = 0 by omega, shuf] at k4
      repeat' (first
        | (apply RunL.step; exact rfl; apply op_ev (τ := τ); exact rfl; (first | exact hbl); exact rfl) | (apply RunL.step; exact rfl; exact opA) | (apply RunL.hand; exact rfl; exact rfl; exact lenA; exact rfl) | (apply AWP.seq) | (apply AWP.region; exact rfl) | (apply AWP.block) | (apply AWP.skip) | (apply AWP.exit) | (apply AWP.retF; exact rfl; exact rfl; exact rfl; exact rfl; exact lenA; exact rfl) | (apply AWP.ret) | (apply RunL.nil) | (apply RunL.on; exact rfl; exact rfl; exact rfl; exact rfl; (first | exact rfl | assumption)) | (apply RunL.noU; exact rfl; exact rfl; exact rfl; exact rfl; exact rfl; exact rfl) | (apply RunL.no; exact rfl; exact rfl; exact rfl; exact rfl; (first | exact rfl | assumption); exact rfl; exact rfl) | (refine AWP.cond _ (Rd.of rfl) (fun hc => ?_) (fun hc => ?_) <;> first | (exfalso; cases hc; done) | (have hc' := hc; (try simp only [sc, reduceCtorEq, cmpOf] at hc'); try (exfalso; omega)))
        | (
         apply AWP.drawA
         repeat' (first
           | (apply DL.cons; (try (apply OpLoc.on; exact rfl; exact rfl; exact rfl; exact rfl; (first | exact rfl | assumption))); apply ol_ev (τ := τ); exact rfl; (first | exact hbl); exact rfl; exact rfl) | (apply DL.cons; exact olA; exact rfl) | (apply DL.nil; kernel_rfl) | (refine DL.split rfl rfl rfl rfl (fun hb => ?_) (fun hb => ?_) <;> have hb' := hb <;> (try simp only [sc, reduceCtorEq, cmpOf] at hb') <;> try (exfalso; omega)))
         all_goals (fail_if_success apply DL.id))
        | (refine RunL.split rfl rfl rfl rfl (fun hb => ?_) (fun hb => ?_) <;> have hb' := hb <;> (try simp only [sc, reduceCtorEq, cmpOf] at hb') <;> try (exfalso; omega)) )
      all_goals
        apply Ends.mk (.cons (.tmp rfl) (.cons (.tmp rfl) .nil))
        rw [← k4, List.drop_zero, List.take_of_length_le (by omega)]; rfl
set_option maxHeartbeats 1000000 in
theorem r8shuffle (d : Int) (n : Nat) (hn : n ≤ 1024) : Evals Tryd.prog 51 [.int .u64 d, .int .i64 n] (.tup [.ints .i64 (shuffle n d).1, .int .u64 (shuffle n d).2]) := by
  refine evals_of_awp Tryd.func51 rfl (CallOK.of Tryd.func51 (by kernel_rfl) rfl) (Nat.le_of_ble_eq_true rfl) ?_
  rintro w R hR ⟨vs, hv⟩
  repeat' (first
    | (apply RunL.step; exact rfl; first | (apply op_nilVec 3 .i64; exact .inl rfl; exact rfl) | (apply op_appendV (τ := τ); exact rfl; exact rfl; exact rfl; exact rfl; exact rfl; exact Rd.of rfl; exact Rd.of rfl; exact rfl; ((try dsimp only); (try simp only [List.length_cons, List.length_nil]); omega); exact rfl; exact .inl rfl; exact rfl) | (apply op_iaV (τ := τ); exact rfl; exact rfl; exact rfl; exact rfl; exact Rd.of rfl; exact Rd.of rfl; omega; ((try simp only [List.length_set]); omega); exact rfl) | (apply op_ldV (τ := τ) 6; exact rfl; exact rfl; exact Rd.of rfl; exact rfl; exact idxN (by (try simp only [List.length_set]); omega); exact rfl) | (apply op_stV (τ := τ) 6; exact rfl; exact rfl; exact rfl; exact rfl; ((try simp only [List.length_set]); omega); exact Rd.of rfl; exact .inl rfl) | fail) | (apply RunL.step; exact rfl; apply op_ev (τ := τ); exact rfl; (first | exact hbl); exact rfl) | (apply RunL.step; exact rfl; exact opA) | (apply RunL.hand; exact rfl; exact rfl; exact lenA; exact rfl) | (apply AWP.seq) | (apply AWP.region; exact rfl) | (apply AWP.block) | (apply AWP.skip) | (apply AWP.exit) | (apply AWP.retF; exact rfl; exact rfl; exact rfl; exact rfl; exact lenA; exact rfl) | (apply AWP.ret) | (apply RunL.nil) | (apply RunL.on; exact rfl; exact rfl; exact rfl; exact rfl; (first | exact rfl | assumption)) | (apply RunL.noU; exact rfl; exact rfl; exact rfl; exact rfl; exact rfl; exact rfl) | (apply RunL.no; exact rfl; exact rfl; exact rfl; exact rfl; (first | exact rfl | assumption); exact rfl; exact rfl) | (refine AWP.cond _ (Rd.of rfl) (fun hc => ?_) (fun hc => ?_) <;> first | (exfalso; cases hc; done) | (have hc' := hc; (try simp only [sc, reduceCtorEq, cmpOf] at hc'); try (exfalso; omega)))
    | (
     apply AWP.drawA
     repeat' (first
       | (apply DL.cons; (try (apply OpLoc.on; exact rfl; exact rfl; exact rfl; exact rfl; (first | exact rfl | assumption))); apply ol_ev (τ := τ); exact rfl; (first | exact hbl); exact rfl; exact rfl) | (apply DL.cons; exact olA; exact rfl) | (apply DL.nil; kernel_rfl) | (refine DL.split rfl rfl rfl rfl (fun hb => ?_) (fun hb => ?_) <;> have hb' := hb <;> (try simp only [sc, reduceCtorEq, cmpOf] at hb') <;> try (exfalso; omega)))
     all_goals (fail_if_success apply DL.id))
    | (refine RunL.split rfl rfl rfl rfl (fun hb => ?_) (fun hb => ?_) <;> have hb' := hb <;> (try simp only [sc, reduceCtorEq, cmpOf] at hb') <;> try (exfalso; omega)) )
  refine AWP.loop2 (fun (i : Int) (l : List Int) => ⟨[(0, .val (.int .u64 d)), (1, .val (.int .i64 n)), (6, .vec 6 3 1 (iv .i64 l)), (7, .val (.int .i64 i))], []⟩) (fun i l => 0 ≤ i ∧ i ≤ n ∧ l = iota i.toNat) (fun i _ => (n - i).toNat) 0 [] ⟨by omega, by omega, rfl⟩ (St.Le.of (by repeat' (first | exact all_nil | refine all_cons rfl ?_)) (by repeat' (first | exact all_nil | refine all_cons rfl ?_))) ?_
  rintro i l ⟨k1, k2, k3⟩
  have hll : l.length = i.toNat := by rw [k3, iota_length]
  by_cases hi : i < n
  · have hst := iota_succ i.toNat
    rw [← k3, show ((i.toNat : Nat) : Int) = i by omega, show i.toNat + 1 = (i + 1).toNat by omega] at hst
    repeat' (first
      | (apply RunL.step; exact rfl; first | (apply op_nilVec 3 .i64; exact .inl rfl; exact rfl) | (apply op_appendV (τ := τ); exact rfl; exact rfl; exact rfl; exact rfl; exact rfl; exact Rd.of rfl; exact Rd.of rfl; exact rfl; ((try dsimp only); (try simp only [List.length_cons, List.length_nil]); omega); exact rfl; exact .inl rfl; exact rfl) | (apply op_iaV (τ := τ); exact rfl; exact rfl; exact rfl; exact rfl; exact Rd.of rfl; exact Rd.of rfl; omega; ((try simp only [List.length_set]); omega); exact rfl) | (apply op_ldV (τ := τ) 6; exact rfl; exact rfl; exact Rd.of rfl; exact rfl; exact idxN (by (try simp only [List.length_set]); omega); exact rfl) | (apply op_stV (τ := τ) 6; exact rfl; exact rfl; exact rfl; exact rfl; ((try simp only [List.length_set]); omega); exact Rd.of rfl; exact .inl rfl) | fail) | (apply RunL.step; exact rfl; apply op_ev (τ := τ); exact rfl; (first | exact hbl); exact rfl) | (apply RunL.step; exact rfl; exact opA) | (apply RunL.hand; exact rfl; exact rfl; exact lenA; exact rfl) | (apply AWP.seq) | (apply AWP.region; exact rfl) | (apply AWP.block) | (apply AWP.skip) | (apply AWP.exit) | (apply AWP.retF; exact rfl; exact rfl; exact rfl; exact rfl; exact lenA; exact rfl) | (apply AWP.ret) | (apply RunL.nil) | (apply RunL.on; exact rfl; exact rfl; exact rfl; exact rfl; (first | exact rfl | assumption)) | (apply RunL.noU; exact rfl; exact rfl; exact rfl; exact rfl; exact rfl; exact rfl) | (apply RunL.no; exact rfl; exact rfl; exact rfl; exact rfl; (first | exact rfl | assumption); exact rfl; exact rfl) | (refine AWP.cond _ (Rd.of rfl) (fun hc => ?_) (fun hc => ?_) <;> first | (exfalso; cases hc; done) | (have hc' := hc; (try simp only [sc, reduceCtorEq, cmpOf] at hc'); try (exfalso; omega)))
      | (
       apply AWP.drawA
       repeat' (first
         | (apply DL.cons; (try (apply OpLoc.on; exact rfl; exact rfl; exact rfl; exact rfl; (first | exact rfl | assumption))); apply ol_ev (τ := τ); exact rfl; (first | exact hbl); exact rfl; exact rfl) | (apply DL.cons; exact olA; exact rfl) | (apply DL.nil; kernel_rfl) | (refine DL.split rfl rfl rfl rfl (fun hb => ?_) (fun hb => ?_) <;> have hb' := hb <;> (try simp only [sc, reduceCtorEq, cmpOf] at hb') <;> try (exfalso; omega)))
       all_goals (fail_if_success apply DL.id))
      | (refine RunL.split rfl rfl rfl rfl (fun hb => ?_) (fun hb => ?_) <;> have hb' := hb <;> (try simp only [sc, reduceCtorEq, cmpOf] at hb') <;> try (exfalso; omega)) )
    all_goals
      exact ⟨i + 1, _, St.Le.of (by repeat' (first | exact all_nil | refine all_cons rfl ?_)) (by repeat' (first | exact all_nil | refine all_cons rfl ?_)), ⟨by omega, by omega, hst.symm⟩, by omega⟩
  · rw [show i.toNat = n by omega] at k3 hll
    repeat' (first
      | (apply RunL.step; exact rfl; first | (apply op_nilVec 3 .i64; exact .inl rfl; exact rfl) | (apply op_appendV (τ := τ); exact rfl; exact rfl; exact rfl; exact rfl; exact rfl; exact Rd.of rfl; exact Rd.of rfl; exact rfl; ((try dsimp only); (try simp only [List.length_cons, List.length_nil]); omega); exact rfl; exact .inl rfl; exact rfl) | (apply op_iaV (τ := τ); exact rfl; exact rfl; exact rfl; exact rfl; exact Rd.of rfl; exact Rd.of rfl; omega; ((try simp only [List.length_set]); omega); exact rfl) | (apply op_ldV (τ := τ) 6; exact rfl; exact rfl; exact Rd.of rfl; exact rfl; exact idxN (by (try simp only [List.length_set]); omega); exact rfl) | (apply op_stV (τ := τ) 6; exact rfl; exact rfl; exact rfl; exact rfl; ((try simp only [List.length_set]); omega); exact Rd.of rfl; exact .inl rfl) | fail) | (apply RunL.step; exact rfl; apply op_ev (τ := τ); exact rfl; (first | exact hbl); exact rfl) | (apply RunL.step; exact rfl; exact opA) | (apply RunL.hand; exact rfl; exact rfl; exact lenA; exact rfl) | (apply AWP.seq) | (apply AWP.region; exact rfl) | (apply AWP.block) | (apply AWP.skip) | (apply AWP.exit) | (apply AWP.retF; exact rfl; exact rfl; exact rfl; exact rfl; exact lenA; exact rfl) | (apply AWP.ret) | (apply RunL.nil) | (apply RunL.on; exact rfl; exact rfl; exact rfl; exact rfl; (first | exact rfl | assumption)) | (apply RunL.noU; exact rfl; exact rfl; exact rfl; exact rfl; exact rfl; exact rfl) | (apply RunL.no; exact rfl; exact rfl; exact rfl; exact rfl; (first | exact rfl | assumption); exact rfl; exact rfl) | (refine AWP.cond _ (Rd.of rfl) (fun hc => ?_) (fun hc => ?_) <;> first | (exfalso; cases hc; done) | (have hc' := hc; (try simp only [sc, reduceCtorEq, cmpOf] at hc'); try (exfalso; omega)))
      | (
       apply AWP.drawA
       repeat' (first
         | (apply DL.cons; (try (apply OpLoc.on; exact rfl; exact rfl; exact rfl; exact rfl; (first | exact rfl | assumption))); apply ol_ev (τ := τ); exact rfl; (first | exact hbl); exact rfl; exact rfl) | (apply DL.cons; exact olA; exact rfl) | (apply DL.nil; kernel_rfl) | (refine DL.split rfl rfl rfl rfl (fun hb => ?_) (fun hb => ?_) <;> have hb' := hb <;> (try simp only [sc, reduceCtorEq, cmpOf] at hb') <;> try (exfalso; omega)))
       all_goals (fail_if_success apply DL.id))
      | (refine RunL.split rfl rfl rfl rfl (fun hb => ?_) (fun hb => ?_) <;> have hb' := hb <;> (try simp only [sc, reduceCtorEq, cmpOf] at hb') <;> try (exfalso; omega)) )
    refine AWP.loop3 (fun (i : Int) (l : List Int) (e : Int) => ⟨[(0, .val (.int .u64 e)), (6, .vec 6 3 1 (iv .i64 l)), (8, .val (.int .i64 i))], []⟩) (fun i l e => -1 ≤ i ∧ i ≤ (n : Int) - 1 ∧ l.length = n ∧ shuf i.toNat l e = shuffle n d) (fun i _ _ => i.toNat) ((n : Int) - 1) l d ⟨by omega, by omega, hll, by rw [k3, shuffle]; congr 1; omega⟩ (St.Le.of (by repeat' (first | exact all_nil | refine all_cons rfl ?_)) (by repeat' (first | exact all_nil | refine all_cons rfl ?_))) ?_
    clear hc hc' hi k1 k2 k3 hll i l
    rintro i l e ⟨k1, k2, k3, k4⟩
    by_cases hi : 1 ≤ i
    · have hbl := r8below e (i + 1) (by omega)
      have hbd := belowU_bound e (n := i + 1) (by omega)
      rw [shuf_step hi] at k4
      generalize belowU e (i + 1) = k at *
      repeat' (first
        | (apply RunL.step; exact rfl; first | (apply op_nilVec 3 .i64; exact .inl rfl; exact rfl) | (apply op_appendV (τ := τ); exact rfl; exact rfl; exact rfl; exact rfl; exact rfl; exact Rd.of rfl; exact Rd.of rfl; exact rfl; ((try dsimp only); (try simp only [List.length_cons, List.length_nil]); omega); exact rfl; exact .inl rfl; exact rfl) | (apply op_iaV (τ := τ); exact rfl; exact rfl; exact rfl; exact rfl; exact Rd.of rfl; exact Rd.of rfl; omega; ((try simp only [List.length_set]); omega); exact rfl) | (apply op_ldV (τ := τ) 6; exact rfl; exact rfl; exact Rd.of rfl; exact rfl; exact idxN (by (try simp only [List.length_set]); omega); exact rfl) | (apply op_stV (τ := τ) 6; exact rfl; exact rfl; exact rfl; exact rfl; ((try simp only [List.length_set]); omega); exact Rd.of rfl; exact .inl rfl) | fail) | (apply RunL.step; exact rfl; apply op_ev (τ := τ); exact rfl; (first | exact hbl); exact rfl) | (apply RunL.step; exact rfl; exact opA) | (apply RunL.hand; exact rfl; exact rfl; exact lenA; exact rfl) | (apply AWP.seq) | (apply AWP.region; exact rfl) | (apply AWP.block) | (apply AWP.skip) | (apply AWP.exit) | (apply AWP.retF; exact rfl; exact rfl; exact rfl; exact rfl; exact lenA; exact rfl) | (apply AWP.ret) | (apply RunL.nil) | (apply RunL.on; exact rfl; exact rfl; exact rfl; exact rfl; (first | exact rfl | assumption)) | (apply RunL.noU; exact rfl; exact rfl; exact rfl; exact rfl; exact rfl; exact rfl) | (apply RunL.no; exact rfl; exact rfl; exact rfl; exact rfl; (first | exact rfl | assumption); exact rfl; exact rfl) | (refine AWP.cond _ (Rd.of rfl) (fun hc => ?_) (fun hc => ?_) <;> first | (exfalso; cases hc; done) | (have hc' := hc; (try simp only [sc, reduceCtorEq, cmpOf] at hc'); try (exfalso; omega)))
        | (
         apply AWP.drawA
         repeat' (first
           | (apply DL.cons; (try (apply OpLoc.on; exact rfl; exact rfl; exact rfl; exact rfl; (first | exact rfl | assumption))); apply ol_ev (τ := τ); exact rfl; (first | exact hbl); exact rfl; exact rfl) | (apply DL.cons; exact olA; exact rfl) | (apply DL.nil; kernel_rfl) | (refine DL.split rfl rfl rfl rfl (fun hb => ?_) (fun hb => ?_) <;> have hb' := hb <;> (try simp only [sc, reduceCtorEq, cmpOf] at hb') <;> try (exfalso; omega)))
         all_goals (fail_if_success apply DL.id))
        | (refine RunL.split rfl rfl rfl rfl (fun hb => ?_) (fun hb => ?_) <;> have hb' := hb <;> (try simp only [sc, reduceCtorEq, cmpOf] at hb') <;> try (exfalso; omega)) )
      all_goals
        refine ⟨i - 1, _, _, St.Le.of (by repeat' (first | exact all_nil | refine all_cons rfl ?_)) (by repeat' (first | exact all_nil | refine all_cons rfl ?_)), ⟨by omega, by omega, ?_, ?_⟩, by omega⟩
        · simp only [List.length_set]; exact k3
        · exact k4
    · rw [show i.toNat = 0 by omega, shuf] at k4
      refine AWP.freezeV 6 rfl rfl ?_
      repeat' (first
        | (apply RunL.step; exact rfl; first | (apply op_nilVec 3 .i64; exact .inl rfl; exact rfl) | (apply op_appendV (τ := τ); exact rfl; exact rfl; exact rfl; exact rfl; exact rfl; exact Rd.of rfl; exact Rd.of rfl; exact rfl; ((try dsimp only); (try simp only [List.length_cons, List.length_nil]); omega); exact rfl; exact .inl rfl; exact rfl) | (apply op_iaV (τ := τ); exact rfl; exact rfl; exact rfl; exact rfl; exact Rd.of rfl; exact Rd.of rfl; omega; ((try simp only [List.length_set]); omega); exact rfl) | (apply op_ldV (τ := τ) 6; exact rfl; exact rfl; exact Rd.of rfl; exact rfl; exact idxN (by (try simp only [List.length_set]); omega); exact rfl) | (apply op_stV (τ := τ) 6; exact rfl; exact rfl; exact rfl; exact rfl; ((try simp only [List.length_set]); omega); exact Rd.of rfl; exact .inl rfl) | fail) | (apply RunL.step; exact rfl; apply op_ev (τ := τ); exact rfl; (first | exact hbl); exact rfl) | (apply RunL.step; exact rfl; exact opA) | (apply RunL.hand; exact rfl; exact rfl; exact lenA; exact rfl) | (apply AWP.seq) | (apply AWP.region; exact rfl) | (apply AWP.block) | (apply AWP.skip) | (apply AWP.exit) | (apply AWP.retF; exact rfl; exact rfl; exact rfl; exact rfl; exact lenA; exact rfl) | (apply AWP.ret) | (apply RunL.nil) | (apply RunL.on; exact rfl; exact rfl; exact rfl; exact rfl; (first | exact rfl | assumption)) | (apply RunL.noU; exact rfl; exact rfl; exact rfl; exact rfl; exact rfl; exact rfl) | (apply RunL.no; exact rfl; exact rfl; exact rfl; exact rfl; (first | exact rfl | assumption); exact rfl; exact rfl) | (refine AWP.cond _ (Rd.of rfl) (fun hc => ?_) (fun hc => ?_) <;> first | (exfalso; cases hc; done) | (have hc' := hc; (try simp only [sc, reduceCtorEq, cmpOf] at hc'); try (exfalso; omega)))
        | (
         apply AWP.drawA
         repeat' (first
           | (apply DL.cons; (try (apply OpLoc.on; exact rfl; exact rfl; exact rfl; exact rfl; (first | exact rfl | assumption))); apply ol_ev (τ := τ); exact rfl; (first | exact hbl); exact rfl; exact rfl) | (apply DL.cons; exact olA; exact rfl) | (apply DL.nil; kernel_rfl) | (refine DL.split rfl rfl rfl rfl (fun hb => ?_) (fun hb => ?_) <;> have hb' := hb <;> (try simp only [sc, reduceCtorEq, cmpOf] at hb') <;> try (exfalso; omega)))
         all_goals (fail_if_success apply DL.id))
        | (refine RunL.split rfl rfl rfl rfl (fun hb => ?_) (fun hb => ?_) <;> have hb' := hb <;> (try simp only [sc, reduceCtorEq, cmpOf] at hb') <;> try (exfalso; omega)) )
      all_goals
        apply Ends.mk (.cons (.tmp rfl) (.cons (.tmp rfl) .nil))
        rw [← k4]; rfl
end Go.Proofs.YtmefecfkajjajaaDoor.K
namespace Go.Proofs.YtmefecfkajjajaaDoor.K
open Go Go.RowKit
set_option linter.unusedVariables false
set_option linter.unusedSimpArgs false

theorem lightP_take {o : Int → Bool} {ld : Int → Int} {order : List Int} {i : Int} (h0 : 0 ≤ i) (h : i < order.length) : lightP o ld (order.take (i + 1).toNat) (-1) = if o (ix order i) = true ∧ (lightP o ld (order.take i.toNat) (-1) < 0 ∨ ld (ix order i) < ld (lightP o ld (order.take i.toNat) (-1))) then ix order i else lightP o ld (order.take i.toNat) (-1) := by
  rw [show (i + 1).toNat = i.toNat + 1 by omega, List.take_add_one, idx h0 h, Option.toList_some, lightP_append]
  rfl
theorem lightP_range {o : Int → Bool} {ld : Int → Int} {L : List Int} {n : Nat} (h : ∀ i ∈ L, 0 ≤ i ∧ i < (n : Int)) : lightP o ld L (-1) = -1 ∨ (0 ≤ lightP o ld L (-1) ∧ lightP o ld L (-1) < n) := by
  rcases (lightP_spec (o := o) (ld := ld) L (-1) fun i hi => (h i hi).1).1 with h1 | ⟨h1, _⟩
  · exact .inl h1
  · exact .inr (h _ h1)
theorem mem_at {l : List Int} {i : Int} (h0 : 0 ≤ i) (h : i < l.length) : ix l i ∈ l := mem_ix.2 ⟨i.toNat, by omega, by rw [show ((i.toNat : Nat) : Int) = i by omega]⟩
set_option maxHeartbeats 1000000 in
theorem klight (order loads : List Int) (f : Nat) (caps : List D) (o : Int → Bool) (ho : ∀ i ∈ order, 0 ≤ i ∧ i < (loads.length : Int)) (hf : ∀ i ∈ order, Evals Tryd.prog f ([.int .i64 i] ++ caps) (.bool (o i))) : Evals Tryd.prog 30 [.ints .i64 order, .ints .i64 loads, .fn f caps] (.int .i64 (lightP o (fun i => ix loads i) order (-1))) := by
  refine evals_of_awp Tryd.func30 rfl (CallOK.of Tryd.func30 (by kernel_rfl) rfl) (Nat.le_of_ble_eq_true rfl) ?_
  rintro w R hR ⟨vs, hv⟩
  obtain ⟨hl, _⟩ := hv.intsJ 0 rfl
  obtain ⟨hl2, _⟩ := hv.intsJ 1 rfl
  repeat' (first
    | (apply RunL.step; exact rfl; exact opA) | (apply RunL.hand; exact rfl; exact rfl; exact lenA; exact rfl) | (apply AWP.seq) | (apply AWP.region; exact rfl) | (apply AWP.block) | (apply AWP.skip) | (apply AWP.exit) | (apply AWP.retF; exact rfl; exact rfl; exact rfl; exact rfl; exact lenA; exact rfl) | (apply AWP.ret) | (apply RunL.nil) | (apply RunL.on; exact rfl; exact rfl; exact rfl; exact rfl; (first | exact rfl | assumption)) | (apply RunL.noU; exact rfl; exact rfl; exact rfl; exact rfl; exact rfl; exact rfl) | (apply RunL.no; exact rfl; exact rfl; exact rfl; exact rfl; (first | exact rfl | assumption); exact rfl; exact rfl) | (refine AWP.cond _ (Rd.of rfl) (fun hc => ?_) (fun hc => ?_) <;> first | (exfalso; cases hc; done) | (have hc' := hc; (try simp only [sc, reduceCtorEq, cmpOf] at hc'); try (exfalso; omega)))
    | (
     apply AWP.drawA
     repeat' (first
       | (apply DL.cons; apply ol_evFn (τ := τ); exact rfl; exact rfl; exact hcall; exact rfl; exact rfl) | (apply DL.cons; (try (apply OpLoc.on; exact rfl; exact rfl; exact rfl; exact rfl; (first | exact rfl | assumption))); apply ol_ev (τ := τ); exact rfl; (fail); exact rfl; exact rfl) | (apply DL.cons; exact olA; exact rfl) | (apply DL.nil; kernel_rfl) | (refine DL.split rfl rfl rfl rfl (fun hb => ?_) (fun hb => ?_) <;> have hb' := hb <;> (try simp only [sc, reduceCtorEq, cmpOf] at hb') <;> try (exfalso; omega)))
     all_goals (fail_if_success apply DL.id))
    | (refine RunL.split rfl rfl rfl rfl (fun hb => ?_) (fun hb => ?_) <;> have hb' := hb <;> (try simp only [sc, reduceCtorEq, cmpOf] at hb') <;> try (exfalso; omega)) )
  refine AWP.loop2 (fun i b : Int => ⟨[(1, .val (.ints .i64 loads)), (2, .val (.fn f caps)), (7, .val (.int .i64 b)), (10, .val (.ints .i64 order)), (11, .val (.int .i64 order.length)), (12, .val (.int .i64 i))], []⟩) (fun i b => 0 ≤ i ∧ i ≤ order.length ∧ b = lightP o (fun i => ix loads i) (order.take i.toNat) (-1)) (fun i _ => (order.length - i).toNat) 0 (-1) ⟨by omega, by omega, rfl⟩ (St.Le.of (by repeat' (first | exact all_nil | refine all_cons rfl ?_)) (by repeat' (first | exact all_nil | refine all_cons rfl ?_))) ?_
  rintro i b ⟨k1, k2, k3⟩
  have hrg := lightP_range (o := o) (ld := fun i => ix loads i) (L := order.take i.toNat) (n := loads.length) fun j hj => ho j (List.mem_of_mem_take hj)
  rw [← k3] at hrg
  by_cases hi : i < order.length
  · have hst := lightP_take (o := o) (ld := fun i => ix loads i) k1 hi
    rw [← k3] at hst
    have hxm := mem_at k1 hi
    have hcall := hf _ hxm
    obtain ⟨hx0, hx1⟩ := ho _ hxm
    by_cases hox : o (ix order i) = true
    · rw [hox] at hcall
      by_cases hb0 : b < 0
      · rw [if_pos ⟨hox, .inl hb0⟩] at hst
        repeat' (first
          | (apply RunL.step; exact rfl; exact opA) | (apply RunL.hand; exact rfl; exact rfl; exact lenA; exact rfl) | (apply AWP.seq) | (apply AWP.region; exact rfl) | (apply AWP.block) | (apply AWP.skip) | (apply AWP.exit) | (apply AWP.retF; exact rfl; exact rfl; exact rfl; exact rfl; exact lenA; exact rfl) | (apply AWP.ret) | (apply RunL.nil) | (apply RunL.on; exact rfl; exact rfl; exact rfl; exact rfl; (first | exact rfl | assumption)) | (apply RunL.noU; exact rfl; exact rfl; exact rfl; exact rfl; exact rfl; exact rfl) | (apply RunL.no; exact rfl; exact rfl; exact rfl; exact rfl; (first | exact rfl | assumption); exact rfl; exact rfl) | (refine AWP.cond _ (Rd.of rfl) (fun hc => ?_) (fun hc => ?_) <;> first | (exfalso; cases hc; done) | (have hc' := hc; (try simp only [sc, reduceCtorEq, cmpOf] at hc'); try (exfalso; omega)))
          | (
           apply AWP.drawA
           repeat' (first
             | (apply DL.cons; apply ol_evFn (τ := τ); exact rfl; exact rfl; exact hcall; exact rfl; exact rfl) | (apply DL.cons; (try (apply OpLoc.on; exact rfl; exact rfl; exact rfl; exact rfl; (first | exact rfl | assumption))); apply ol_ev (τ := τ); exact rfl; (fail); exact rfl; exact rfl) | (apply DL.cons; exact olA; exact rfl) | (apply DL.nil; kernel_rfl) | (refine DL.split rfl rfl rfl rfl (fun hb => ?_) (fun hb => ?_) <;> have hb' := hb <;> (try simp only [sc, reduceCtorEq, cmpOf] at hb') <;> try (exfalso; omega)))
           all_goals (fail_if_success apply DL.id))
          | (refine RunL.split rfl rfl rfl rfl (fun hb => ?_) (fun hb => ?_) <;> have hb' := hb <;> (try simp only [sc, reduceCtorEq, cmpOf] at hb') <;> try (exfalso; omega)) )
        all_goals
          exact ⟨_, _, St.Le.of (by repeat' (first | exact all_nil | refine all_cons rfl ?_)) (by repeat' (first | exact all_nil | refine all_cons rfl ?_)), ⟨by omega, by omega, hst.symm⟩, by omega⟩
      · by_cases hlt : ix loads (ix order i) < ix loads b
        · rw [if_pos ⟨hox, .inr hlt⟩] at hst
          repeat' (first
            | (apply RunL.step; exact rfl; exact opA) | (apply RunL.hand; exact rfl; exact rfl; exact lenA; exact rfl) | (apply AWP.seq) | (apply AWP.region; exact rfl) | (apply AWP.block) | (apply AWP.skip) | (apply AWP.exit) | (apply AWP.retF; exact rfl; exact rfl; exact rfl; exact rfl; exact lenA; exact rfl) | (apply AWP.ret) | (apply RunL.nil) | (apply RunL.on; exact rfl; exact rfl; exact rfl; exact rfl; (first | exact rfl | assumption)) | (apply RunL.noU; exact rfl; exact rfl; exact rfl; exact rfl; exact rfl; exact rfl) | (apply RunL.no; exact rfl; exact rfl; exact rfl; exact rfl; (first | exact rfl | assumption); exact rfl; exact rfl) | (refine AWP.cond _ (Rd.of rfl) (fun hc => ?_) (fun hc => ?_) <;> first | (exfalso; cases hc; done) | (have hc' := hc; (try simp only [sc, reduceCtorEq, cmpOf] at hc'); try (exfalso; omega)))
            | (
             apply AWP.drawA
             repeat' (first
               | (apply DL.cons; apply ol_evFn (τ := τ); exact rfl; exact rfl; exact hcall; exact rfl; exact rfl) | (apply DL.cons; (try (apply OpLoc.on; exact rfl; exact rfl; exact rfl; exact rfl; (first | exact rfl | assumption))); apply ol_ev (τ := τ); exact rfl; (fail); exact rfl; exact rfl) | (apply DL.cons; exact olA; exact rfl) | (apply DL.nil; kernel_rfl) | (refine DL.split rfl rfl rfl rfl (fun hb => ?_) (fun hb => ?_) <;> have hb' := hb <;> (try simp only [sc, reduceCtorEq, cmpOf] at hb') <;> try (exfalso; omega)))
             all_goals (fail_if_success apply DL.id))
            | (refine RunL.split rfl rfl rfl rfl (fun hb => ?_) (fun hb => ?_) <;> have hb' := hb <;> (try simp only [sc, reduceCtorEq, cmpOf] at hb') <;> try (exfalso; omega)) )
          all_goals
            exact ⟨_, _, St.Le.of (by repeat' (first | exact all_nil | refine all_cons rfl ?_)) (by repeat' (first | exact all_nil | refine all_cons rfl ?_)), ⟨by omega, by omega, hst.symm⟩, by omega⟩
        · rw [if_neg (by omega)] at hst
          repeat' (first
            | (apply RunL.step; exact rfl; exact opA) | (apply RunL.hand; exact rfl; exact rfl; exact lenA; exact rfl) | (apply AWP.seq) | (apply AWP.region; exact rfl) | (apply AWP.block) | (apply AWP.skip) | (apply AWP.exit) | (apply AWP.retF; exact rfl; exact rfl; exact rfl; exact rfl; exact lenA; exact rfl) | (apply AWP.ret) | (apply RunL.nil) | (apply RunL.on; exact rfl; exact rfl; exact rfl; exact rfl; (first | exact rfl | assumption)) | (apply RunL.noU; exact rfl; exact rfl; exact rfl; exact rfl; exact rfl; exact rfl) | (apply RunL.no; exact rfl; exact rfl; exact rfl; exact rfl; (first | exact rfl | assumption); exact rfl; exact rfl) | (refine AWP.cond _ (Rd.of rfl) (fun hc => ?_) (fun hc => ?_) <;> first | (exfalso; cases hc; done) | (have hc' := hc; (try simp only [sc, reduceCtorEq, cmpOf] at hc'); try (exfalso; omega)))
            | (
             apply AWP.drawA
             repeat' (first
               | (apply DL.cons; apply ol_evFn (τ := τ); exact rfl; exact rfl; exact hcall; exact rfl; exact rfl) | (apply DL.cons; (try (apply OpLoc.on; exact rfl; exact rfl; exact rfl; exact rfl; (first | exact rfl | assumption))); apply ol_ev (τ := τ); exact rfl; (fail); exact rfl; exact rfl) | (apply DL.cons; exact olA; exact rfl) | (apply DL.nil; kernel_rfl) | (refine DL.split rfl rfl rfl rfl (fun hb => ?_) (fun hb => ?_) <;> have hb' := hb <;> (try simp only [sc, reduceCtorEq, cmpOf] at hb') <;> try (exfalso; omega)))
             all_goals (fail_if_success apply DL.id))
            | (refine RunL.split rfl rfl rfl rfl (fun hb => ?_) (fun hb => ?_) <;> have hb' := hb <;> (try simp only [sc, reduceCtorEq, cmpOf] at hb') <;> try (exfalso; omega)) )
          all_goals
            exact ⟨_, _, St.Le.of (by repeat' (first | exact all_nil | refine all_cons rfl ?_)) (by repeat' (first | exact all_nil | refine all_cons rfl ?_)), ⟨by omega, by omega, hst.symm⟩, by omega⟩
    · have hox' : o (ix order i) = false := by simpa using hox
      rw [hox'] at hcall
      rw [if_neg (fun h => hox h.1)] at hst
      repeat' (first
        | (apply RunL.step; exact rfl; exact opA) | (apply RunL.hand; exact rfl; exact rfl; exact lenA; exact rfl) | (apply AWP.seq) | (apply AWP.region; exact rfl) | (apply AWP.block) | (apply AWP.skip) | (apply AWP.exit) | (apply AWP.retF; exact rfl; exact rfl; exact rfl; exact rfl; exact lenA; exact rfl) | (apply AWP.ret) | (apply RunL.nil) | (apply RunL.on; exact rfl; exact rfl; exact rfl; exact rfl; (first | exact rfl | assumption)) | (apply RunL.noU; exact rfl; exact rfl; exact rfl; exact rfl; exact rfl; exact rfl) | (apply RunL.no; exact rfl; exact rfl; exact rfl; exact rfl; (first | exact rfl | assumption); exact rfl; exact rfl) | (refine AWP.cond _ (Rd.of rfl) (fun hc => ?_) (fun hc => ?_) <;> first | (exfalso; cases hc; done) | (have hc' := hc; (try simp only [sc, reduceCtorEq, cmpOf] at hc'); try (exfalso; omega)))
        | (
         apply AWP.drawA
         repeat' (first
           | (apply DL.cons; apply ol_evFn (τ := τ); exact rfl; exact rfl; exact hcall; exact rfl; exact rfl) | (apply DL.cons; (try (apply OpLoc.on; exact rfl; exact rfl; exact rfl; exact rfl; (first | exact rfl | assumption))); apply ol_ev (τ := τ); exact rfl; (fail); exact rfl; exact rfl) | (apply DL.cons; exact olA; exact rfl) | (apply DL.nil; kernel_rfl) | (refine DL.split rfl rfl rfl rfl (fun hb => ?_) (fun hb => ?_) <;> have hb' := hb <;> (try simp only [sc, reduceCtorEq, cmpOf] at hb') <;> try (exfalso; omega)))
         all_goals (fail_if_success apply DL.id))
        | (refine RunL.split rfl rfl rfl rfl (fun hb => ?_) (fun hb => ?_) <;> have hb' := hb <;> (try simp only [sc, reduceCtorEq, cmpOf] at hb') <;> try (exfalso; omega)) )
      all_goals
        exact ⟨_, _, St.Le.of (by repeat' (first | exact all_nil | refine all_cons rfl ?_)) (by repeat' (first | exact all_nil | refine all_cons rfl ?_)), ⟨by omega, by omega, hst.symm⟩, by omega⟩
  · rw [List.take_of_length_le (by omega)] at k3
    repeat' (first
      | (apply RunL.step; exact rfl; exact opA) | (apply RunL.hand; exact rfl; exact rfl; exact lenA; exact rfl) | (apply AWP.seq) | (apply AWP.region; exact rfl) | (apply AWP.block) | (apply AWP.skip) | (apply AWP.exit) | (apply AWP.retF; exact rfl; exact rfl; exact rfl; exact rfl; exact lenA; exact rfl) | (apply AWP.ret) | (apply RunL.nil) | (apply RunL.on; exact rfl; exact rfl; exact rfl; exact rfl; (first | exact rfl | assumption)) | (apply RunL.noU; exact rfl; exact rfl; exact rfl; exact rfl; exact rfl; exact rfl) | (apply RunL.no; exact rfl; exact rfl; exact rfl; exact rfl; (first | exact rfl | assumption); exact rfl; exact rfl) | (refine AWP.cond _ (Rd.of rfl) (fun hc => ?_) (fun hc => ?_) <;> first | (exfalso; cases hc; done) | (have hc' := hc; (try simp only [sc, reduceCtorEq, cmpOf] at hc'); try (exfalso; omega)))
      | (
       apply AWP.drawA
       repeat' (first
         | (apply DL.cons; apply ol_evFn (τ := τ); exact rfl; exact rfl; exact hcall; exact rfl; exact rfl) | (apply DL.cons; (try (apply OpLoc.on; exact rfl; exact rfl; exact rfl; exact rfl; (first | exact rfl | assumption))); apply ol_ev (τ := τ); exact rfl; (fail); exact rfl; exact rfl) | (apply DL.cons; exact olA; exact rfl) | (apply DL.nil; kernel_rfl) | (refine DL.split rfl rfl rfl rfl (fun hb => ?_) (fun hb => ?_) <;> have hb' := hb <;> (try simp only [sc, reduceCtorEq, cmpOf] at hb') <;> try (exfalso; omega)))
       all_goals (fail_if_success apply DL.id))
      | (refine RunL.split rfl rfl rfl rfl (fun hb => ?_) (fun hb => ?_) <;> have hb' := hb <;> (try simp only [sc, reduceCtorEq, cmpOf] at hb') <;> try (exfalso; omega)) )
    all_goals
      apply Ends.mk (.cons (.tmp rfl) .nil)
      rw [k3]; rfl
set_option maxHeartbeats 1000000 in
theorem kOpen (l : List Rt) (loads : List Int) (c tk : Int) (i : Nat) (hi : i < l.length) (hl : loads.length = l.length) : Evals Tryd.prog 50 ([.int .i64 (i : Int)] ++ [.ref [.int .i64 tk], .ref [.sl 3 (l.map rowRt)], .ref [.int .i64 c], .ref [.ints .i64 loads]])
    (.bool (decide ((i : Int) ≠ tk) && (decide (c ∉ (atR l i).2.2) && decide (ix loads i < (atR l i).2.1)))) := by
  refine evals_of_awp Tryd.func50 rfl (CallOK.of Tryd.func50 (by kernel_rfl) rfl) (Nat.le_of_ble_eq_true rfl) ?_
  rintro w R hR ⟨vs, hv⟩
  obtain ⟨p, hp⟩ : ∃ p, l[i]? = some p := ⟨l[i], by simp [hi]⟩
  have hrow : (l.map rowRt)[(i : Int).toNat]? = some [.int .i64 p.1, .int .i64 p.2.1, .ints .i64 p.2.2] := by rw [List.getElem?_map, Int.toNat_natCast, hp]; rfl
  rw [atR_of hp]
  have hmay := kMay p.1 p.2.1 p.2.2 c
  by_cases h1 : (i : Int) = tk
  · rw [decide_eq_false (p := (i : Int) ≠ tk) (fun h => h h1), Bool.false_and]
    repeat' (first
      | (apply RunL.step; exact rfl; apply op_ev (τ := τ); exact rfl; (first | exact hmay | exact hcon); exact rfl) | (apply RunL.step; exact rfl; exact opA) | (apply RunL.hand; exact rfl; exact rfl; exact lenA; exact rfl) | (apply AWP.seq) | (apply AWP.region; exact rfl) | (apply AWP.block) | (apply AWP.skip) | (apply AWP.exit) | (apply AWP.retF; exact rfl; exact rfl; exact rfl; exact rfl; exact lenA; exact rfl) | (apply AWP.ret) | (apply RunL.nil) | (apply RunL.on; exact rfl; exact rfl; exact rfl; exact rfl; (first | exact rfl | assumption)) | (apply RunL.noU; exact rfl; exact rfl; exact rfl; exact rfl; exact rfl; exact rfl) | (apply RunL.no; exact rfl; exact rfl; exact rfl; exact rfl; (first | exact rfl | assumption); exact rfl; exact rfl) | (refine AWP.cond _ (Rd.of rfl) (fun hc => ?_) (fun hc => ?_) <;> first | (exfalso; cases hc; done) | (have hc' := hc; (try simp only [sc, reduceCtorEq, cmpOf] at hc'); try (exfalso; omega)))
      | (
       apply AWP.drawA
       repeat' (first
         | (apply DL.cons; (try (apply OpLoc.on; exact rfl; exact rfl; exact rfl; exact rfl; (first | exact rfl | assumption))); apply ol_ev (τ := τ); exact rfl; (first | exact hmay | exact hcon); exact rfl; exact rfl) | (apply DL.cons; exact olA; exact rfl) | (apply DL.nil; kernel_rfl) | (refine DL.split rfl rfl rfl rfl (fun hb => ?_) (fun hb => ?_) <;> have hb' := hb <;> (try simp only [sc, reduceCtorEq, cmpOf] at hb') <;> try (exfalso; omega)))
       all_goals (fail_if_success apply DL.id))
      | (refine RunL.split rfl rfl rfl rfl (fun hb => ?_) (fun hb => ?_) <;> have hb' := hb <;> (try simp only [sc, reduceCtorEq, cmpOf] at hb') <;> try (exfalso; omega)) )
    all_goals
      first   | (apply Ends.mk (.cons (.tmp rfl) .nil); first | rfl | (simp only [pack]; congr 1; simp only [cmpOf, decide_eq_true_eq, beq_iff_eq, bne_iff_ne]; omega))   | (apply Ends.mk (.cons (.tmp rfl) .nil); simp only [pack]; congr 1; simp only [cmpOf, sc]; omega)   | (exfalso; first | omega | (simp only [*, Bool.true_eq_false, Bool.false_eq_true, reduceCtorEq] at *; done) | grind)
  · rw [decide_eq_true (p := (i : Int) ≠ tk) h1, Bool.true_and]
    by_cases h2 : c ∈ p.2.2
    · rw [decide_eq_false (p := c ∉ p.2.2) (fun h => h h2)] at hmay ⊢
      rw [Bool.false_and]
      repeat' (first
        | (apply RunL.step; exact rfl; apply op_ev (τ := τ); exact rfl; (first | exact hmay | exact hcon); exact rfl) | (apply RunL.step; exact rfl; exact opA) | (apply RunL.hand; exact rfl; exact rfl; exact lenA; exact rfl) | (apply AWP.seq) | (apply AWP.region; exact rfl) | (apply AWP.block) | (apply AWP.skip) | (apply AWP.exit) | (apply AWP.retF; exact rfl; exact rfl; exact rfl; exact rfl; exact lenA; exact rfl) | (apply AWP.ret) | (apply RunL.nil) | (apply RunL.on; exact rfl; exact rfl; exact rfl; exact rfl; (first | exact rfl | assumption)) | (apply RunL.noU; exact rfl; exact rfl; exact rfl; exact rfl; exact rfl; exact rfl) | (apply RunL.no; exact rfl; exact rfl; exact rfl; exact rfl; (first | exact rfl | assumption); exact rfl; exact rfl) | (refine AWP.cond _ (Rd.of rfl) (fun hc => ?_) (fun hc => ?_) <;> first | (exfalso; cases hc; done) | (have hc' := hc; (try simp only [sc, reduceCtorEq, cmpOf] at hc'); try (exfalso; omega)))
        | (
         apply AWP.drawA
         repeat' (first
           | (apply DL.cons; (try (apply OpLoc.on; exact rfl; exact rfl; exact rfl; exact rfl; (first | exact rfl | assumption))); apply ol_ev (τ := τ); exact rfl; (first | exact hmay | exact hcon); exact rfl; exact rfl) | (apply DL.cons; exact olA; exact rfl) | (apply DL.nil; kernel_rfl) | (refine DL.split rfl rfl rfl rfl (fun hb => ?_) (fun hb => ?_) <;> have hb' := hb <;> (try simp only [sc, reduceCtorEq, cmpOf] at hb') <;> try (exfalso; omega)))
         all_goals (fail_if_success apply DL.id))
        | (refine RunL.split rfl rfl rfl rfl (fun hb => ?_) (fun hb => ?_) <;> have hb' := hb <;> (try simp only [sc, reduceCtorEq, cmpOf] at hb') <;> try (exfalso; omega)) )
      all_goals
        first   | (apply Ends.mk (.cons (.tmp rfl) .nil); first | rfl | (simp only [pack]; congr 1; simp only [cmpOf, decide_eq_true_eq, beq_iff_eq, bne_iff_ne]; omega))   | (apply Ends.mk (.cons (.tmp rfl) .nil); simp only [pack]; congr 1; simp only [cmpOf, sc]; omega)   | (exfalso; first | omega | (simp only [*, Bool.true_eq_false, Bool.false_eq_true, reduceCtorEq] at *; done) | grind)
    · rw [decide_eq_true (p := c ∉ p.2.2) h2] at hmay ⊢
      rw [Bool.true_and]
      by_cases h3 : ix loads i < p.2.1
      · rw [decide_eq_true h3]
        repeat' (first
          | (apply RunL.step; exact rfl; apply op_ev (τ := τ); exact rfl; (first | exact hmay | exact hcon); exact rfl) | (apply RunL.step; exact rfl; exact opA) | (apply RunL.hand; exact rfl; exact rfl; exact lenA; exact rfl) | (apply AWP.seq) | (apply AWP.region; exact rfl) | (apply AWP.block) | (apply AWP.skip) | (apply AWP.exit) | (apply AWP.retF; exact rfl; exact rfl; exact rfl; exact rfl; exact lenA; exact rfl) | (apply AWP.ret) | (apply RunL.nil) | (apply RunL.on; exact rfl; exact rfl; exact rfl; exact rfl; (first | exact rfl | assumption)) | (apply RunL.noU; exact rfl; exact rfl; exact rfl; exact rfl; exact rfl; exact rfl) | (apply RunL.no; exact rfl; exact rfl; exact rfl; exact rfl; (first | exact rfl | assumption); exact rfl; exact rfl) | (refine AWP.cond _ (Rd.of rfl) (fun hc => ?_) (fun hc => ?_) <;> first | (exfalso; cases hc; done) | (have hc' := hc; (try simp only [sc, reduceCtorEq, cmpOf] at hc'); try (exfalso; omega)))
          | (
           apply AWP.drawA
           repeat' (first
             | (apply DL.cons; (try (apply OpLoc.on; exact rfl; exact rfl; exact rfl; exact rfl; (first | exact rfl | assumption))); apply ol_ev (τ := τ); exact rfl; (first | exact hmay | exact hcon); exact rfl; exact rfl) | (apply DL.cons; exact olA; exact rfl) | (apply DL.nil; kernel_rfl) | (refine DL.split rfl rfl rfl rfl (fun hb => ?_) (fun hb => ?_) <;> have hb' := hb <;> (try simp only [sc, reduceCtorEq, cmpOf] at hb') <;> try (exfalso; omega)))
           all_goals (fail_if_success apply DL.id))
          | (refine RunL.split rfl rfl rfl rfl (fun hb => ?_) (fun hb => ?_) <;> have hb' := hb <;> (try simp only [sc, reduceCtorEq, cmpOf] at hb') <;> try (exfalso; omega)) )
        all_goals
          first   | (apply Ends.mk (.cons (.tmp rfl) .nil); first | rfl | (simp only [pack]; congr 1; simp only [cmpOf, decide_eq_true_eq, beq_iff_eq, bne_iff_ne]; omega))   | (apply Ends.mk (.cons (.tmp rfl) .nil); simp only [pack]; congr 1; simp only [cmpOf, sc]; omega)   | (exfalso; first | omega | (simp only [*, Bool.true_eq_false, Bool.false_eq_true, reduceCtorEq] at *; done) | grind)
      · rw [decide_eq_false h3]
        repeat' (first
          | (apply RunL.step; exact rfl; apply op_ev (τ := τ); exact rfl; (first | exact hmay | exact hcon); exact rfl) | (apply RunL.step; exact rfl; exact opA) | (apply RunL.hand; exact rfl; exact rfl; exact lenA; exact rfl) | (apply AWP.seq) | (apply AWP.region; exact rfl) | (apply AWP.block) | (apply AWP.skip) | (apply AWP.exit) | (apply AWP.retF; exact rfl; exact rfl; exact rfl; exact rfl; exact lenA; exact rfl) | (apply AWP.ret) | (apply RunL.nil) | (apply RunL.on; exact rfl; exact rfl; exact rfl; exact rfl; (first | exact rfl | assumption)) | (apply RunL.noU; exact rfl; exact rfl; exact rfl; exact rfl; exact rfl; exact rfl) | (apply RunL.no; exact rfl; exact rfl; exact rfl; exact rfl; (first | exact rfl | assumption); exact rfl; exact rfl) | (refine AWP.cond _ (Rd.of rfl) (fun hc => ?_) (fun hc => ?_) <;> first | (exfalso; cases hc; done) | (have hc' := hc; (try simp only [sc, reduceCtorEq, cmpOf] at hc'); try (exfalso; omega)))
          | (
           apply AWP.drawA
           repeat' (first
             | (apply DL.cons; (try (apply OpLoc.on; exact rfl; exact rfl; exact rfl; exact rfl; (first | exact rfl | assumption))); apply ol_ev (τ := τ); exact rfl; (first | exact hmay | exact hcon); exact rfl; exact rfl) | (apply DL.cons; exact olA; exact rfl) | (apply DL.nil; kernel_rfl) | (refine DL.split rfl rfl rfl rfl (fun hb => ?_) (fun hb => ?_) <;> have hb' := hb <;> (try simp only [sc, reduceCtorEq, cmpOf] at hb') <;> try (exfalso; omega)))
           all_goals (fail_if_success apply DL.id))
          | (refine RunL.split rfl rfl rfl rfl (fun hb => ?_) (fun hb => ?_) <;> have hb' := hb <;> (try simp only [sc, reduceCtorEq, cmpOf] at hb') <;> try (exfalso; omega)) )
        all_goals
          first   | (apply Ends.mk (.cons (.tmp rfl) .nil); first | rfl | (simp only [pack]; congr 1; simp only [cmpOf, decide_eq_true_eq, beq_iff_eq, bne_iff_ne]; omega))   | (apply Ends.mk (.cons (.tmp rfl) .nil); simp only [pack]; congr 1; simp only [cmpOf, sc]; omega)   | (exfalso; first | omega | (simp only [*, Bool.true_eq_false, Bool.false_eq_true, reduceCtorEq] at *; done) | grind)
set_option maxHeartbeats 1000000 in
theorem kOpen3 (l : List Rt) (asg loads : List Int) (c : Int) (i : Nat) (hi : i < l.length) (hl : loads.length = l.length) : Evals Tryd.prog 31 ([.int .i64 (i : Int)] ++ [.ref [.sl 3 (l.map rowRt)], .ref [.int .i64 c], .ref [.ints .i64 asg], .ref [.ints .i64 loads]])
    (.bool (decide (c ∉ (atR l i).2.2) && (decide ((atR l i).1 ∉ asg) && decide (ix loads i < (atR l i).2.1)))) := by
  refine evals_of_awp Tryd.func31 rfl (CallOK.of Tryd.func31 (by kernel_rfl) rfl) (Nat.le_of_ble_eq_true rfl) ?_
  rintro w R hR ⟨vs, hv⟩
  obtain ⟨p, hp⟩ : ∃ p, l[i]? = some p := ⟨l[i], by simp [hi]⟩
  have hrow : (l.map rowRt)[(i : Int).toNat]? = some [.int .i64 p.1, .int .i64 p.2.1, .ints .i64 p.2.2] := by rw [List.getElem?_map, Int.toNat_natCast, hp]; rfl
  rw [atR_of hp]
  have hmay := kMay p.1 p.2.1 p.2.2 c
  have hcon := sContains asg p.1
  by_cases h2 : c ∈ p.2.2
  · rw [decide_eq_false (p := c ∉ p.2.2) (fun h => h h2)] at hmay ⊢
    rw [Bool.false_and]
    repeat' (first
      | (apply RunL.step; exact rfl; apply op_ev (τ := τ); exact rfl; (first | exact hmay | exact hcon); exact rfl) | (apply RunL.step; exact rfl; exact opA) | (apply RunL.hand; exact rfl; exact rfl; exact lenA; exact rfl) | (apply AWP.seq) | (apply AWP.region; exact rfl) | (apply AWP.block) | (apply AWP.skip) | (apply AWP.exit) | (apply AWP.retF; exact rfl; exact rfl; exact rfl; exact rfl; exact lenA; exact rfl) | (apply AWP.ret) | (apply RunL.nil) | (apply RunL.on; exact rfl; exact rfl; exact rfl; exact rfl; (first | exact rfl | assumption)) | (apply RunL.noU; exact rfl; exact rfl; exact rfl; exact rfl; exact rfl; exact rfl) | (apply RunL.no; exact rfl; exact rfl; exact rfl; exact rfl; (first | exact rfl | assumption); exact rfl; exact rfl) | (refine AWP.cond _ (Rd.of rfl) (fun hc => ?_) (fun hc => ?_) <;> first | (exfalso; cases hc; done) | (have hc' := hc; (try simp only [sc, reduceCtorEq, cmpOf] at hc'); try (exfalso; omega)))
      | (
       apply AWP.drawA
       repeat' (first
         | (apply DL.cons; (try (apply OpLoc.on; exact rfl; exact rfl; exact rfl; exact rfl; (first | exact rfl | assumption))); apply ol_ev (τ := τ); exact rfl; (first | exact hmay | exact hcon); exact rfl; exact rfl) | (apply DL.cons; exact olA; exact rfl) | (apply DL.nil; kernel_rfl) | (refine DL.split rfl rfl rfl rfl (fun hb => ?_) (fun hb => ?_) <;> have hb' := hb <;> (try simp only [sc, reduceCtorEq, cmpOf] at hb') <;> try (exfalso; omega)))
       all_goals (fail_if_success apply DL.id))
      | (refine RunL.split rfl rfl rfl rfl (fun hb => ?_) (fun hb => ?_) <;> have hb' := hb <;> (try simp only [sc, reduceCtorEq, cmpOf] at hb') <;> try (exfalso; omega)) )
    all_goals
      first   | (apply Ends.mk (.cons (.tmp rfl) .nil); first | rfl | (simp only [pack]; congr 1; simp only [cmpOf, decide_eq_true_eq, beq_iff_eq, bne_iff_ne]; omega))   | (apply Ends.mk (.cons (.tmp rfl) .nil); simp only [pack]; congr 1; simp only [cmpOf, sc]; omega)   | (exfalso; first | omega | (simp only [*, Bool.true_eq_false, Bool.false_eq_true, reduceCtorEq] at *; done) | grind)
  · rw [decide_eq_true (p := c ∉ p.2.2) h2] at hmay ⊢
    rw [Bool.true_and]
    by_cases h1 : p.1 ∈ asg
    · rw [decide_eq_false (p := p.1 ∉ asg) (fun h => h h1), Bool.false_and]
      rw [decide_eq_true h1] at hcon
      repeat' (first
        | (apply RunL.step; exact rfl; apply op_ev (τ := τ); exact rfl; (first | exact hmay | exact hcon); exact rfl) | (apply RunL.step; exact rfl; exact opA) | (apply RunL.hand; exact rfl; exact rfl; exact lenA; exact rfl) | (apply AWP.seq) | (apply AWP.region; exact rfl) | (apply AWP.block) | (apply AWP.skip) | (apply AWP.exit) | (apply AWP.retF; exact rfl; exact rfl; exact rfl; exact rfl; exact lenA; exact rfl) | (apply AWP.ret) | (apply RunL.nil) | (apply RunL.on; exact rfl; exact rfl; exact rfl; exact rfl; (first | exact rfl | assumption)) | (apply RunL.noU; exact rfl; exact rfl; exact rfl; exact rfl; exact rfl; exact rfl) | (apply RunL.no; exact rfl; exact rfl; exact rfl; exact rfl; (first | exact rfl | assumption); exact rfl; exact rfl) | (refine AWP.cond _ (Rd.of rfl) (fun hc => ?_) (fun hc => ?_) <;> first | (exfalso; cases hc; done) | (have hc' := hc; (try simp only [sc, reduceCtorEq, cmpOf] at hc'); try (exfalso; omega)))
        | (
         apply AWP.drawA
         repeat' (first
           | (apply DL.cons; (try (apply OpLoc.on; exact rfl; exact rfl; exact rfl; exact rfl; (first | exact rfl | assumption))); apply ol_ev (τ := τ); exact rfl; (first | exact hmay | exact hcon); exact rfl; exact rfl) | (apply DL.cons; exact olA; exact rfl) | (apply DL.nil; kernel_rfl) | (refine DL.split rfl rfl rfl rfl (fun hb => ?_) (fun hb => ?_) <;> have hb' := hb <;> (try simp only [sc, reduceCtorEq, cmpOf] at hb') <;> try (exfalso; omega)))
         all_goals (fail_if_success apply DL.id))
        | (refine RunL.split rfl rfl rfl rfl (fun hb => ?_) (fun hb => ?_) <;> have hb' := hb <;> (try simp only [sc, reduceCtorEq, cmpOf] at hb') <;> try (exfalso; omega)) )
      all_goals
        first   | (apply Ends.mk (.cons (.tmp rfl) .nil); first | rfl | (simp only [pack]; congr 1; simp only [cmpOf, decide_eq_true_eq, beq_iff_eq, bne_iff_ne]; omega))   | (apply Ends.mk (.cons (.tmp rfl) .nil); simp only [pack]; congr 1; simp only [cmpOf, sc]; omega)   | (exfalso; first | omega | (simp only [*, Bool.true_eq_false, Bool.false_eq_true, reduceCtorEq] at *; done) | grind)
    · rw [decide_eq_true (p := p.1 ∉ asg) h1, Bool.true_and]
      rw [decide_eq_false h1] at hcon
      by_cases h3 : ix loads i < p.2.1
      · rw [decide_eq_true h3]
        repeat' (first
          | (apply RunL.step; exact rfl; apply op_ev (τ := τ); exact rfl; (first | exact hmay | exact hcon); exact rfl) | (apply RunL.step; exact rfl; exact opA) | (apply RunL.hand; exact rfl; exact rfl; exact lenA; exact rfl) | (apply AWP.seq) | (apply AWP.region; exact rfl) | (apply AWP.block) | (apply AWP.skip) | (apply AWP.exit) | (apply AWP.retF; exact rfl; exact rfl; exact rfl; exact rfl; exact lenA; exact rfl) | (apply AWP.ret) | (apply RunL.nil) | (apply RunL.on; exact rfl; exact rfl; exact rfl; exact rfl; (first | exact rfl | assumption)) | (apply RunL.noU; exact rfl; exact rfl; exact rfl; exact rfl; exact rfl; exact rfl) | (apply RunL.no; exact rfl; exact rfl; exact rfl; exact rfl; (first | exact rfl | assumption); exact rfl; exact rfl) | (refine AWP.cond _ (Rd.of rfl) (fun hc => ?_) (fun hc => ?_) <;> first | (exfalso; cases hc; done) | (have hc' := hc; (try simp only [sc, reduceCtorEq, cmpOf] at hc'); try (exfalso; omega)))
          | (
           apply AWP.drawA
           repeat' (first
             | (apply DL.cons; (try (apply OpLoc.on; exact rfl; exact rfl; exact rfl; exact rfl; (first | exact rfl | assumption))); apply ol_ev (τ := τ); exact rfl; (first | exact hmay | exact hcon); exact rfl; exact rfl) | (apply DL.cons; exact olA; exact rfl) | (apply DL.nil; kernel_rfl) | (refine DL.split rfl rfl rfl rfl (fun hb => ?_) (fun hb => ?_) <;> have hb' := hb <;> (try simp only [sc, reduceCtorEq, cmpOf] at hb') <;> try (exfalso; omega)))
           all_goals (fail_if_success apply DL.id))
          | (refine RunL.split rfl rfl rfl rfl (fun hb => ?_) (fun hb => ?_) <;> have hb' := hb <;> (try simp only [sc, reduceCtorEq, cmpOf] at hb') <;> try (exfalso; omega)) )
        all_goals
          first   | (apply Ends.mk (.cons (.tmp rfl) .nil); first | rfl | (simp only [pack]; congr 1; simp only [cmpOf, decide_eq_true_eq, beq_iff_eq, bne_iff_ne]; omega))   | (apply Ends.mk (.cons (.tmp rfl) .nil); simp only [pack]; congr 1; simp only [cmpOf, sc]; omega)   | (exfalso; first | omega | (simp only [*, Bool.true_eq_false, Bool.false_eq_true, reduceCtorEq] at *; done) | grind)
      · rw [decide_eq_false h3]
        repeat' (first
          | (apply RunL.step; exact rfl; apply op_ev (τ := τ); exact rfl; (first | exact hmay | exact hcon); exact rfl) | (apply RunL.step; exact rfl; exact opA) | (apply RunL.hand; exact rfl; exact rfl; exact lenA; exact rfl) | (apply AWP.seq) | (apply AWP.region; exact rfl) | (apply AWP.block) | (apply AWP.skip) | (apply AWP.exit) | (apply AWP.retF; exact rfl; exact rfl; exact rfl; exact rfl; exact lenA; exact rfl) | (apply AWP.ret) | (apply RunL.nil) | (apply RunL.on; exact rfl; exact rfl; exact rfl; exact rfl; (first | exact rfl | assumption)) | (apply RunL.noU; exact rfl; exact rfl; exact rfl; exact rfl; exact rfl; exact rfl) | (apply RunL.no; exact rfl; exact rfl; exact rfl; exact rfl; (first | exact rfl | assumption); exact rfl; exact rfl) | (refine AWP.cond _ (Rd.of rfl) (fun hc => ?_) (fun hc => ?_) <;> first | (exfalso; cases hc; done) | (have hc' := hc; (try simp only [sc, reduceCtorEq, cmpOf] at hc'); try (exfalso; omega)))
          | (
           apply AWP.drawA
           repeat' (first
             | (apply DL.cons; (try (apply OpLoc.on; exact rfl; exact rfl; exact rfl; exact rfl; (first | exact rfl | assumption))); apply ol_ev (τ := τ); exact rfl; (first | exact hmay | exact hcon); exact rfl; exact rfl) | (apply DL.cons; exact olA; exact rfl) | (apply DL.nil; kernel_rfl) | (refine DL.split rfl rfl rfl rfl (fun hb => ?_) (fun hb => ?_) <;> have hb' := hb <;> (try simp only [sc, reduceCtorEq, cmpOf] at hb') <;> try (exfalso; omega)))
           all_goals (fail_if_success apply DL.id))
          | (refine RunL.split rfl rfl rfl rfl (fun hb => ?_) (fun hb => ?_) <;> have hb' := hb <;> (try simp only [sc, reduceCtorEq, cmpOf] at hb') <;> try (exfalso; omega)) )
        all_goals
          first   | (apply Ends.mk (.cons (.tmp rfl) .nil); first | rfl | (simp only [pack]; congr 1; simp only [cmpOf, decide_eq_true_eq, beq_iff_eq, bne_iff_ne]; omega))   | (apply Ends.mk (.cons (.tmp rfl) .nil); simp only [pack]; congr 1; simp only [cmpOf, sc]; omega)   | (exfalso; first | omega | (simp only [*, Bool.true_eq_false, Bool.false_eq_true, reduceCtorEq] at *; done) | grind)
set_option maxHeartbeats 2000000 in
theorem rfree (l : List Rt) (order : List Int) (L : List As) (c tk : Int) (ho : ∀ i ∈ order, 0 ≤ i ∧ i < (l.length : Int)) : Evals Tryd.prog 52 [.sl 3 (l.map rowRt), .ints .i64 order, .sl 2 (L.map rowAs), .int .i64 c, .int .i64 tk] (.int .i64 (pickP l order L c tk)) := by
  refine evals_of_awp Tryd.func52 rfl (CallOK.of Tryd.func52 (by kernel_rfl) rfl) (Nat.le_of_ble_eq_true rfl) ?_
  rintro w R hR ⟨vs, hv⟩
  have hml : (l.map rowRt).length = l.length := by simp
  have hlen := hv.slen 0 rfl
  obtain ⟨hl, _⟩ := hv.intsJ 1 rfl
  unfold pickP
  repeat' (first
    | (apply RunL.step; exact rfl; apply op_ev (τ := τ); exact rfl; (first | exact hmay | exact hld | exact hlb); exact rfl) | (apply RunL.step; exact rfl; exact opA) | (apply RunL.hand; exact rfl; exact rfl; exact lenA; exact rfl) | (apply AWP.seq) | (apply AWP.region; exact rfl) | (apply AWP.block) | (apply AWP.skip) | (apply AWP.exit) | (apply AWP.retF; exact rfl; exact rfl; exact rfl; exact rfl; exact lenA; exact rfl) | (apply AWP.ret) | (apply RunL.nil) | (apply RunL.on; exact rfl; exact rfl; exact rfl; exact rfl; (first | exact rfl | assumption)) | (apply RunL.noU; exact rfl; exact rfl; exact rfl; exact rfl; exact rfl; exact rfl) | (apply RunL.no; exact rfl; exact rfl; exact rfl; exact rfl; (first | exact rfl | assumption); exact rfl; exact rfl) | (refine AWP.cond _ (Rd.of rfl) (fun hc => ?_) (fun hc => ?_) <;> first | (exfalso; cases hc; done) | (have hc' := hc; (try simp only [sc, reduceCtorEq, cmpOf] at hc'); try (exfalso; omega)))
    | (
     apply AWP.drawA
     repeat' (first
       | (apply DL.cons; (try (apply OpLoc.on; exact rfl; exact rfl; exact rfl; exact rfl; (first | exact rfl | assumption))); apply ol_ev (τ := τ); exact rfl; (first | exact hmay | exact hld | exact hlb); exact rfl; exact rfl) | (apply DL.cons; exact olA; exact rfl) | (apply DL.nil; kernel_rfl) | (refine DL.split rfl rfl rfl rfl (fun hb => ?_) (fun hb => ?_) <;> have hb' := hb <;> (try simp only [sc, reduceCtorEq, cmpOf] at hb') <;> try (exfalso; omega)))
     all_goals (fail_if_success apply DL.id))
    | (refine RunL.split rfl rfl rfl rfl (fun hb => ?_) (fun hb => ?_) <;> have hb' := hb <;> (try simp only [sc, reduceCtorEq, cmpOf] at hb') <;> try (exfalso; omega)) )
  refine AWP.loop2 (fun i b : Int => ⟨[(0, .val (.sl 3 (l.map rowRt))), (1, .val (.ints .i64 order)), (2, .val (.sl 2 (L.map rowAs))), (3, .val (.int .i64 c)), (4, .val (.int .i64 tk)), (11, .val (.int .i64 b)), (12, .val (.int .i64 i))], []⟩) (fun i b => 0 ≤ i ∧ i ≤ order.length ∧ b = lightP (openB l L c tk) (fun i => loadN L (atR l i.toNat).1) (order.take i.toNat) (-1)) (fun i _ => (order.length - i).toNat) 0 (-1) ⟨by omega, by omega, rfl⟩ (St.Le.of (by repeat' (first | exact all_nil | refine all_cons rfl ?_)) (by repeat' (first | exact all_nil | refine all_cons rfl ?_))) ?_
  rintro i b ⟨k1, k2, k3⟩
  have hrg := lightP_range (o := openB l L c tk) (ld := fun i => loadN L (atR l i.toNat).1) (L := order.take i.toNat) (n := l.length) fun j hj => ho j (List.mem_of_mem_take hj)
  rw [← k3] at hrg
  by_cases hi : i < order.length
  · have hst := lightP_take (o := openB l L c tk) (ld := fun i => loadN L (atR l i.toNat).1) k1 hi
    rw [← k3] at hst
    have hxm := mem_at k1 hi
    obtain ⟨hx0, hx1⟩ := ho _ hxm
    obtain ⟨p, hp⟩ := at_some hx0 hx1
    have hrow : (l.map rowRt)[(ix order i).toNat]? = some [.int .i64 p.1, .int .i64 p.2.1, .ints .i64 p.2.2] := by rw [List.getElem?_map, hp]; rfl
    have hat := atR_of hp
    have hmay := rMay p.1 p.2.1 p.2.2 c
    have hld := rLoad L p.1
    have hop := openB_iff (l := l) (out := L) (c := c) (tk := tk) (i := ix order i)
    rw [hat] at hop hst
    by_cases h1 : c ∈ p.2.2
    · rw [decide_eq_false (p := c ∉ p.2.2) (fun h => h h1)] at hmay
      rw [if_neg (fun h => (hop.1 h.1).2.1 h1)] at hst
      generalize loadN L p.1 = n at *
      repeat' (first
        | (apply RunL.step; exact rfl; apply op_ev (τ := τ); exact rfl; (first | exact hmay | exact hld | exact hlb); exact rfl) | (apply RunL.step; exact rfl; exact opA) | (apply RunL.hand; exact rfl; exact rfl; exact lenA; exact rfl) | (apply AWP.seq) | (apply AWP.region; exact rfl) | (apply AWP.block) | (apply AWP.skip) | (apply AWP.exit) | (apply AWP.retF; exact rfl; exact rfl; exact rfl; exact rfl; exact lenA; exact rfl) | (apply AWP.ret) | (apply RunL.nil) | (apply RunL.on; exact rfl; exact rfl; exact rfl; exact rfl; (first | exact rfl | assumption)) | (apply RunL.noU; exact rfl; exact rfl; exact rfl; exact rfl; exact rfl; exact rfl) | (apply RunL.no; exact rfl; exact rfl; exact rfl; exact rfl; (first | exact rfl | assumption); exact rfl; exact rfl) | (refine AWP.cond _ (Rd.of rfl) (fun hc => ?_) (fun hc => ?_) <;> first | (exfalso; cases hc; done) | (have hc' := hc; (try simp only [sc, reduceCtorEq, cmpOf] at hc'); try (exfalso; omega)))
        | (
         apply AWP.drawA
         repeat' (first
           | (apply DL.cons; (try (apply OpLoc.on; exact rfl; exact rfl; exact rfl; exact rfl; (first | exact rfl | assumption))); apply ol_ev (τ := τ); exact rfl; (first | exact hmay | exact hld | exact hlb); exact rfl; exact rfl) | (apply DL.cons; exact olA; exact rfl) | (apply DL.nil; kernel_rfl) | (refine DL.split rfl rfl rfl rfl (fun hb => ?_) (fun hb => ?_) <;> have hb' := hb <;> (try simp only [sc, reduceCtorEq, cmpOf] at hb') <;> try (exfalso; omega)))
         all_goals (fail_if_success apply DL.id))
        | (refine RunL.split rfl rfl rfl rfl (fun hb => ?_) (fun hb => ?_) <;> have hb' := hb <;> (try simp only [sc, reduceCtorEq, cmpOf] at hb') <;> try (exfalso; omega)) )
      all_goals
        exact ⟨_, _, St.Le.of (by repeat' (first | exact all_nil | refine all_cons rfl ?_)) (by repeat' (first | exact all_nil | refine all_cons rfl ?_)), ⟨by omega, by omega, hst.symm⟩, by omega⟩
    · rw [decide_eq_true (p := c ∉ p.2.2) h1] at hmay
      by_cases h2 : loadN L p.1 < p.2.1
      · by_cases h3 : ix order i = tk
        · rw [if_neg (fun h => (hop.1 h.1).1 h3)] at hst
          generalize loadN L p.1 = n at *
          repeat' (first
            | (apply RunL.step; exact rfl; apply op_ev (τ := τ); exact rfl; (first | exact hmay | exact hld | exact hlb); exact rfl) | (apply RunL.step; exact rfl; exact opA) | (apply RunL.hand; exact rfl; exact rfl; exact lenA; exact rfl) | (apply AWP.seq) | (apply AWP.region; exact rfl) | (apply AWP.block) | (apply AWP.skip) | (apply AWP.exit) | (apply AWP.retF; exact rfl; exact rfl; exact rfl; exact rfl; exact lenA; exact rfl) | (apply AWP.ret) | (apply RunL.nil) | (apply RunL.on; exact rfl; exact rfl; exact rfl; exact rfl; (first | exact rfl | assumption)) | (apply RunL.noU; exact rfl; exact rfl; exact rfl; exact rfl; exact rfl; exact rfl) | (apply RunL.no; exact rfl; exact rfl; exact rfl; exact rfl; (first | exact rfl | assumption); exact rfl; exact rfl) | (refine AWP.cond _ (Rd.of rfl) (fun hc => ?_) (fun hc => ?_) <;> first | (exfalso; cases hc; done) | (have hc' := hc; (try simp only [sc, reduceCtorEq, cmpOf] at hc'); try (exfalso; omega)))
            | (
             apply AWP.drawA
             repeat' (first
               | (apply DL.cons; (try (apply OpLoc.on; exact rfl; exact rfl; exact rfl; exact rfl; (first | exact rfl | assumption))); apply ol_ev (τ := τ); exact rfl; (first | exact hmay | exact hld | exact hlb); exact rfl; exact rfl) | (apply DL.cons; exact olA; exact rfl) | (apply DL.nil; kernel_rfl) | (refine DL.split rfl rfl rfl rfl (fun hb => ?_) (fun hb => ?_) <;> have hb' := hb <;> (try simp only [sc, reduceCtorEq, cmpOf] at hb') <;> try (exfalso; omega)))
             all_goals (fail_if_success apply DL.id))
            | (refine RunL.split rfl rfl rfl rfl (fun hb => ?_) (fun hb => ?_) <;> have hb' := hb <;> (try simp only [sc, reduceCtorEq, cmpOf] at hb') <;> try (exfalso; omega)) )
          all_goals
            exact ⟨_, _, St.Le.of (by repeat' (first | exact all_nil | refine all_cons rfl ?_)) (by repeat' (first | exact all_nil | refine all_cons rfl ?_)), ⟨by omega, by omega, hst.symm⟩, by omega⟩
        · have hopen := hop.2 ⟨h3, h1, h2⟩
          by_cases hb0 : b < 0
          · rw [if_pos ⟨hopen, .inl hb0⟩] at hst
            generalize loadN L p.1 = n at *
            repeat' (first
              | (apply RunL.step; exact rfl; apply op_ev (τ := τ); exact rfl; (first | exact hmay | exact hld | exact hlb); exact rfl) | (apply RunL.step; exact rfl; exact opA) | (apply RunL.hand; exact rfl; exact rfl; exact lenA; exact rfl) | (apply AWP.seq) | (apply AWP.region; exact rfl) | (apply AWP.block) | (apply AWP.skip) | (apply AWP.exit) | (apply AWP.retF; exact rfl; exact rfl; exact rfl; exact rfl; exact lenA; exact rfl) | (apply AWP.ret) | (apply RunL.nil) | (apply RunL.on; exact rfl; exact rfl; exact rfl; exact rfl; (first | exact rfl | assumption)) | (apply RunL.noU; exact rfl; exact rfl; exact rfl; exact rfl; exact rfl; exact rfl) | (apply RunL.no; exact rfl; exact rfl; exact rfl; exact rfl; (first | exact rfl | assumption); exact rfl; exact rfl) | (refine AWP.cond _ (Rd.of rfl) (fun hc => ?_) (fun hc => ?_) <;> first | (exfalso; cases hc; done) | (have hc' := hc; (try simp only [sc, reduceCtorEq, cmpOf] at hc'); try (exfalso; omega)))
              | (
               apply AWP.drawA
               repeat' (first
                 | (apply DL.cons; (try (apply OpLoc.on; exact rfl; exact rfl; exact rfl; exact rfl; (first | exact rfl | assumption))); apply ol_ev (τ := τ); exact rfl; (first | exact hmay | exact hld | exact hlb); exact rfl; exact rfl) | (apply DL.cons; exact olA; exact rfl) | (apply DL.nil; kernel_rfl) | (refine DL.split rfl rfl rfl rfl (fun hb => ?_) (fun hb => ?_) <;> have hb' := hb <;> (try simp only [sc, reduceCtorEq, cmpOf] at hb') <;> try (exfalso; omega)))
               all_goals (fail_if_success apply DL.id))
              | (refine RunL.split rfl rfl rfl rfl (fun hb => ?_) (fun hb => ?_) <;> have hb' := hb <;> (try simp only [sc, reduceCtorEq, cmpOf] at hb') <;> try (exfalso; omega)) )
            all_goals
              exact ⟨_, _, St.Le.of (by repeat' (first | exact all_nil | refine all_cons rfl ?_)) (by repeat' (first | exact all_nil | refine all_cons rfl ?_)), ⟨by omega, by omega, hst.symm⟩, by omega⟩
          · obtain ⟨q, hq⟩ := at_some (l := l) (i := b) (by omega) (by omega)
            have hrowq : (l.map rowRt)[b.toNat]? = some [.int .i64 q.1, .int .i64 q.2.1, .ints .i64 q.2.2] := by rw [List.getElem?_map, hq]; rfl
            have hatq := atR_of hq
            have hlb := rLoad L q.1
            rw [hatq] at hst
            by_cases hlt : loadN L p.1 < loadN L q.1
            · rw [if_pos ⟨hopen, .inr hlt⟩] at hst
              generalize loadN L p.1 = n at *
              generalize loadN L q.1 = m at *
              repeat' (first
                | (apply RunL.step; exact rfl; apply op_ev (τ := τ); exact rfl; (first | exact hmay | exact hld | exact hlb); exact rfl) | (apply RunL.step; exact rfl; exact opA) | (apply RunL.hand; exact rfl; exact rfl; exact lenA; exact rfl) | (apply AWP.seq) | (apply AWP.region; exact rfl) | (apply AWP.block) | (apply AWP.skip) | (apply AWP.exit) | (apply AWP.retF; exact rfl; exact rfl; exact rfl; exact rfl; exact lenA; exact rfl) | (apply AWP.ret) | (apply RunL.nil) | (apply RunL.on; exact rfl; exact rfl; exact rfl; exact rfl; (first | exact rfl | assumption)) | (apply RunL.noU; exact rfl; exact rfl; exact rfl; exact rfl; exact rfl; exact rfl) | (apply RunL.no; exact rfl; exact rfl; exact rfl; exact rfl; (first | exact rfl | assumption); exact rfl; exact rfl) | (refine AWP.cond _ (Rd.of rfl) (fun hc => ?_) (fun hc => ?_) <;> first | (exfalso; cases hc; done) | (have hc' := hc; (try simp only [sc, reduceCtorEq, cmpOf] at hc'); try (exfalso; omega)))
                | (
                 apply AWP.drawA
                 repeat' (first
                   | (apply DL.cons; (try (apply OpLoc.on; exact rfl; exact rfl; exact rfl; exact rfl; (first | exact rfl | assumption))); apply ol_ev (τ := τ); exact rfl; (first | exact hmay | exact hld | exact hlb); exact rfl; exact rfl) | (apply DL.cons; exact olA; exact rfl) | (apply DL.nil; kernel_rfl) | (refine DL.split rfl rfl rfl rfl (fun hb => ?_) (fun hb => ?_) <;> have hb' := hb <;> (try simp only [sc, reduceCtorEq, cmpOf] at hb') <;> try (exfalso; omega)))
                 all_goals (fail_if_success apply DL.id))
                | (refine RunL.split rfl rfl rfl rfl (fun hb => ?_) (fun hb => ?_) <;> have hb' := hb <;> (try simp only [sc, reduceCtorEq, cmpOf] at hb') <;> try (exfalso; omega)) )
              all_goals
                exact ⟨_, _, St.Le.of (by repeat' (first | exact all_nil | refine all_cons rfl ?_)) (by repeat' (first | exact all_nil | refine all_cons rfl ?_)), ⟨by omega, by omega, hst.symm⟩, by omega⟩
            · rw [if_neg (fun h => by rcases h.2 with h | h <;> omega)] at hst
              generalize loadN L p.1 = n at *
              generalize loadN L q.1 = m at *
              repeat' (first
                | (apply RunL.step; exact rfl; apply op_ev (τ := τ); exact rfl; (first | exact hmay | exact hld | exact hlb); exact rfl) | (apply RunL.step; exact rfl; exact opA) | (apply RunL.hand; exact rfl; exact rfl; exact lenA; exact rfl) | (apply AWP.seq) | (apply AWP.region; exact rfl) | (apply AWP.block) | (apply AWP.skip) | (apply AWP.exit) | (apply AWP.retF; exact rfl; exact rfl; exact rfl; exact rfl; exact lenA; exact rfl) | (apply AWP.ret) | (apply RunL.nil) | (apply RunL.on; exact rfl; exact rfl; exact rfl; exact rfl; (first | exact rfl | assumption)) | (apply RunL.noU; exact rfl; exact rfl; exact rfl; exact rfl; exact rfl; exact rfl) | (apply RunL.no; exact rfl; exact rfl; exact rfl; exact rfl; (first | exact rfl | assumption); exact rfl; exact rfl) | (refine AWP.cond _ (Rd.of rfl) (fun hc => ?_) (fun hc => ?_) <;> first | (exfalso; cases hc; done) | (have hc' := hc; (try simp only [sc, reduceCtorEq, cmpOf] at hc'); try (exfalso; omega)))
                | (
                 apply AWP.drawA
                 repeat' (first
                   | (apply DL.cons; (try (apply OpLoc.on; exact rfl; exact rfl; exact rfl; exact rfl; (first | exact rfl | assumption))); apply ol_ev (τ := τ); exact rfl; (first | exact hmay | exact hld | exact hlb); exact rfl; exact rfl) | (apply DL.cons; exact olA; exact rfl) | (apply DL.nil; kernel_rfl) | (refine DL.split rfl rfl rfl rfl (fun hb => ?_) (fun hb => ?_) <;> have hb' := hb <;> (try simp only [sc, reduceCtorEq, cmpOf] at hb') <;> try (exfalso; omega)))
                 all_goals (fail_if_success apply DL.id))
                | (refine RunL.split rfl rfl rfl rfl (fun hb => ?_) (fun hb => ?_) <;> have hb' := hb <;> (try simp only [sc, reduceCtorEq, cmpOf] at hb') <;> try (exfalso; omega)) )
              all_goals
                exact ⟨_, _, St.Le.of (by repeat' (first | exact all_nil | refine all_cons rfl ?_)) (by repeat' (first | exact all_nil | refine all_cons rfl ?_)), ⟨by omega, by omega, hst.symm⟩, by omega⟩
      · rw [if_neg (fun h => h2 (hop.1 h.1).2.2)] at hst
        generalize loadN L p.1 = n at *
        repeat' (first
          | (apply RunL.step; exact rfl; apply op_ev (τ := τ); exact rfl; (first | exact hmay | exact hld | exact hlb); exact rfl) | (apply RunL.step; exact rfl; exact opA) | (apply RunL.hand; exact rfl; exact rfl; exact lenA; exact rfl) | (apply AWP.seq) | (apply AWP.region; exact rfl) | (apply AWP.block) | (apply AWP.skip) | (apply AWP.exit) | (apply AWP.retF; exact rfl; exact rfl; exact rfl; exact rfl; exact lenA; exact rfl) | (apply AWP.ret) | (apply RunL.nil) | (apply RunL.on; exact rfl; exact rfl; exact rfl; exact rfl; (first | exact rfl | assumption)) | (apply RunL.noU; exact rfl; exact rfl; exact rfl; exact rfl; exact rfl; exact rfl) | (apply RunL.no; exact rfl; exact rfl; exact rfl; exact rfl; (first | exact rfl | assumption); exact rfl; exact rfl) | (refine AWP.cond _ (Rd.of rfl) (fun hc => ?_) (fun hc => ?_) <;> first | (exfalso; cases hc; done) | (have hc' := hc; (try simp only [sc, reduceCtorEq, cmpOf] at hc'); try (exfalso; omega)))
          | (
           apply AWP.drawA
           repeat' (first
             | (apply DL.cons; (try (apply OpLoc.on; exact rfl; exact rfl; exact rfl; exact rfl; (first | exact rfl | assumption))); apply ol_ev (τ := τ); exact rfl; (first | exact hmay | exact hld | exact hlb); exact rfl; exact rfl) | (apply DL.cons; exact olA; exact rfl) | (apply DL.nil; kernel_rfl) | (refine DL.split rfl rfl rfl rfl (fun hb => ?_) (fun hb => ?_) <;> have hb' := hb <;> (try simp only [sc, reduceCtorEq, cmpOf] at hb') <;> try (exfalso; omega)))
           all_goals (fail_if_success apply DL.id))
          | (refine RunL.split rfl rfl rfl rfl (fun hb => ?_) (fun hb => ?_) <;> have hb' := hb <;> (try simp only [sc, reduceCtorEq, cmpOf] at hb') <;> try (exfalso; omega)) )
        all_goals
          exact ⟨_, _, St.Le.of (by repeat' (first | exact all_nil | refine all_cons rfl ?_)) (by repeat' (first | exact all_nil | refine all_cons rfl ?_)), ⟨by omega, by omega, hst.symm⟩, by omega⟩
  · rw [List.take_of_length_le (by omega)] at k3
    repeat' (first
      | (apply RunL.step; exact rfl; apply op_ev (τ := τ); exact rfl; (first | exact hmay | exact hld | exact hlb); exact rfl) | (apply RunL.step; exact rfl; exact opA) | (apply RunL.hand; exact rfl; exact rfl; exact lenA; exact rfl) | (apply AWP.seq) | (apply AWP.region; exact rfl) | (apply AWP.block) | (apply AWP.skip) | (apply AWP.exit) | (apply AWP.retF; exact rfl; exact rfl; exact rfl; exact rfl; exact lenA; exact rfl) | (apply AWP.ret) | (apply RunL.nil) | (apply RunL.on; exact rfl; exact rfl; exact rfl; exact rfl; (first | exact rfl | assumption)) | (apply RunL.noU; exact rfl; exact rfl; exact rfl; exact rfl; exact rfl; exact rfl) | (apply RunL.no; exact rfl; exact rfl; exact rfl; exact rfl; (first | exact rfl | assumption); exact rfl; exact rfl) | (refine AWP.cond _ (Rd.of rfl) (fun hc => ?_) (fun hc => ?_) <;> first | (exfalso; cases hc; done) | (have hc' := hc; (try simp only [sc, reduceCtorEq, cmpOf] at hc'); try (exfalso; omega)))
      | (
       apply AWP.drawA
       repeat' (first
         | (apply DL.cons; (try (apply OpLoc.on; exact rfl; exact rfl; exact rfl; exact rfl; (first | exact rfl | assumption))); apply ol_ev (τ := τ); exact rfl; (first | exact hmay | exact hld | exact hlb); exact rfl; exact rfl) | (apply DL.cons; exact olA; exact rfl) | (apply DL.nil; kernel_rfl) | (refine DL.split rfl rfl rfl rfl (fun hb => ?_) (fun hb => ?_) <;> have hb' := hb <;> (try simp only [sc, reduceCtorEq, cmpOf] at hb') <;> try (exfalso; omega)))
       all_goals (fail_if_success apply DL.id))
      | (refine RunL.split rfl rfl rfl rfl (fun hb => ?_) (fun hb => ?_) <;> have hb' := hb <;> (try simp only [sc, reduceCtorEq, cmpOf] at hb') <;> try (exfalso; omega)) )
    all_goals
      apply Ends.mk (.cons (.tmp rfl) .nil)
      rw [k3]; rfl
end Go.Proofs.YtmefecfkajjajaaDoor.K
namespace Go.Proofs.YtmefecfkajjajaaDoor.K
open Go Go.RowKit
set_option linter.unusedVariables false
set_option linter.unusedSimpArgs false

/-- the loads of all raters -/
def LD (l : List Rt) (out : List As) : List Int := l.map fun p => loadN out p.1
theorem LD_length (l : List Rt) (out : List As) : (LD l out).length = l.length := by simp [LD]
theorem LD_ix {l : List Rt} {out : List As} {i : Nat} (h : i < l.length) : ix (LD l out) i = loadN out (atR l i).1 := by simp [LD, ix, atR, h]
theorem LD_nil (l : List Rt) : LD l [] = List.replicate l.length 0 := by
  apply List.ext_getElem?
  intro j
  simp only [LD, loadN, List.getElem?_map, List.getElem?_replicate]
  by_cases h : j < l.length
  · simp [h]
  · simp [h]
theorem LD_set {l : List Rt} (h : validE l = 0) (out : List As) (c : Int) {a : Nat} (ha : a < l.length) : (LD l out).set a (loadN out (atR l a).1 + 1) = LD l (out ++ [(c, (atR l a).1)]) := by
  apply List.ext_getElem?
  intro j
  by_cases hj : j < l.length
  · have e1 : (LD l (out ++ [(c, (atR l a).1)]))[j]? = some (loadN out (atR l j).1 + if (atR l a).1 = (atR l j).1 then 1 else 0) := by
      rw [idxN (by rw [LD_length]; exact hj), LD_ix hj, loadN_append, loadN_one]
    rw [e1]
    by_cases e : j = a
    · subst e
      rw [List.getElem?_set_self (by rw [LD_length]; exact hj)]; simp
    · rw [List.getElem?_set_ne (fun h => e h.symm), idxN (by rw [LD_length]; exact hj), LD_ix hj, if_neg (fun e2 => e (ids_inj h ha hj e2).symm)]; simp
  · rw [List.getElem?_eq_none (by simp [LD_length]; omega), List.getElem?_eq_none (by simp [LD_length]; omega)]
theorem kPick (l : List Rt) (order : List Int) (out : List As) (c tk : Int) (ho : ∀ i ∈ order, 0 ≤ i ∧ i < (l.length : Int)) : Evals Tryd.prog 30 [.ints .i64 order, .ints .i64 (LD l out), .fn 50 [.ref [.int .i64 tk], .ref [.sl 3 (l.map rowRt)], .ref [.int .i64 c], .ref [.ints .i64 (LD l out)]]] (.int .i64 (pickP l order out c tk)) := by
  have h := klight order (LD l out) 50 [.ref [.int .i64 tk], .ref [.sl 3 (l.map rowRt)], .ref [.int .i64 c], .ref [.ints .i64 (LD l out)]] (openB l out c tk) (fun i hi => by rw [LD_length]; exact ho i hi) (fun i hi => by
    obtain ⟨h0, h1⟩ := ho i hi
    obtain ⟨n, rfl⟩ : ∃ n : Nat, i = n := ⟨i.toNat, by omega⟩
    have := kOpen l (LD l out) c tk n (by omega) (LD_length l out)
    rw [LD_ix (by omega)] at this
    exact this)
  rw [lightP_congr (o' := openB l out c tk) (ld' := fun i => loadN out (atR l i.toNat).1) order (-1) (fun i hi => ⟨rfl, by
    obtain ⟨h0, h1⟩ := ho i hi
    obtain ⟨n, rfl⟩ : ∃ n : Nat, i = n := ⟨i.toNat, by omega⟩
    exact LD_ix (by omega)⟩) (fun h => by omega)] at h
  exact h
theorem pick_range {l : List Rt} {order : List Int} {out : List As} {c tk : Int} (ho : ∀ i ∈ order, 0 ≤ i ∧ i < (l.length : Int)) : pickP l order out c tk = -1 ∨ (0 ≤ pickP l order out c tk ∧ pickP l order out c tk < l.length) := lightP_range ho
theorem assignP_nil (l : List Rt) (order : List Int) (out : List As) : assignP l order [] out = some out := by rw [assignP]
theorem assignP_cons (l : List Rt) (order : List Int) (c : Int) (cs : List Int) (out : List As) : assignP l order (c :: cs) out = if pickP l order out c (-1) < 0 ∨ pickP l order out c (pickP l order out c (-1)) < 0 then none
    else assignP l order cs (out ++ both l c (pickP l order out c (-1)) (pickP l order out c (pickP l order out c (-1)))) := by rw [assignP]
theorem drop_ix {C : List Int} {i : Int} (h0 : 0 ≤ i) (h : i < C.length) : C.drop i.toNat = ix C i :: C.drop (i + 1).toNat := by
  rw [List.drop_eq_getElem_cons (by omega), show (i + 1).toNat = i.toNat + 1 by omega]
  congr 1
  simp [ix, show i.toNat < C.length by omega]
theorem kAssignV (l : List Rt) (C : List Int) (d : Int) (hv : validE l ≠ 0) : Evals Tryd.prog 25 [.sl 3 (l.map rowRt), .ints .i64 C, .int .u64 d] (.tup [.sl 2 [], .int .u64 d, .int .i64 (validE l)]) := by
  have hvd := kValid l
  generalize validE l = e at *
  refine evals_of_awp Tryd.func25 rfl (CallOK.of Tryd.func25 (by kernel_rfl) rfl) (Nat.le_of_ble_eq_true rfl) ?_
  rintro w R hR ⟨vs, hv⟩
  repeat' (first
    | (apply RunL.step; exact rfl; apply op_ev (τ := τ); exact rfl; (first | exact hvd | exact hca | exact hsh); exact rfl) | (apply RunL.step; exact rfl; exact opA) | (apply RunL.hand; exact rfl; exact rfl; exact lenA; exact rfl) | (apply AWP.seq) | (apply AWP.region; exact rfl) | (apply AWP.block) | (apply AWP.skip) | (apply AWP.exit) | (apply AWP.retF; exact rfl; exact rfl; exact rfl; exact rfl; exact lenA; exact rfl) | (apply AWP.ret) | (apply RunL.nil) | (apply RunL.on; exact rfl; exact rfl; exact rfl; exact rfl; (first | exact rfl | assumption)) | (apply RunL.noU; exact rfl; exact rfl; exact rfl; exact rfl; exact rfl; exact rfl) | (apply RunL.no; exact rfl; exact rfl; exact rfl; exact rfl; (first | exact rfl | assumption); exact rfl; exact rfl) | (refine AWP.cond _ (Rd.of rfl) (fun hc => ?_) (fun hc => ?_) <;> first | (exfalso; cases hc; done) | (have hc' := hc; (try simp only [sc, reduceCtorEq, cmpOf] at hc'); try (exfalso; omega)))
    | (
     apply AWP.drawA
     repeat' (first
       | (apply DL.cons; (try (apply OpLoc.on; exact rfl; exact rfl; exact rfl; exact rfl; (first | exact rfl | assumption))); apply ol_ev (τ := τ); exact rfl; (first | exact hvd | exact hca | exact hsh); exact rfl; exact rfl) | (apply DL.cons; exact olA; exact rfl) | (apply DL.nil; kernel_rfl) | (refine DL.split rfl rfl rfl rfl (fun hb => ?_) (fun hb => ?_) <;> have hb' := hb <;> (try simp only [sc, reduceCtorEq, cmpOf] at hb') <;> try (exfalso; omega)))
     all_goals (fail_if_success apply DL.id))
    | (refine RunL.split rfl rfl rfl rfl (fun hb => ?_) (fun hb => ?_) <;> have hb' := hb <;> (try simp only [sc, reduceCtorEq, cmpOf] at hb') <;> try (exfalso; omega)) )
  all_goals
    apply Ends.mk (.cons (.tmp rfl) (.cons (.tmp rfl) (.cons (.tmp rfl) .nil)))
    first | done | rfl
theorem kAssignC (l : List Rt) (C : List Int) (d : Int) (hv : validE l = 0) (hc : candE C ≠ 0) : Evals Tryd.prog 25 [.sl 3 (l.map rowRt), .ints .i64 C, .int .u64 d] (.tup [.sl 2 [], .int .u64 d, .int .i64 (candE C)]) := by
  have hvd := kValid l
  have hca := kCand C
  rw [hv] at hvd
  generalize candE C = e at *
  refine evals_of_awp Tryd.func25 rfl (CallOK.of Tryd.func25 (by kernel_rfl) rfl) (Nat.le_of_ble_eq_true rfl) ?_
  rintro w R hR ⟨vs, hv⟩
  repeat' (first
    | (apply RunL.step; exact rfl; apply op_ev (τ := τ); exact rfl; (first | exact hvd | exact hca | exact hsh); exact rfl) | (apply RunL.step; exact rfl; exact opA) | (apply RunL.hand; exact rfl; exact rfl; exact lenA; exact rfl) | (apply AWP.seq) | (apply AWP.region; exact rfl) | (apply AWP.block) | (apply AWP.skip) | (apply AWP.exit) | (apply AWP.retF; exact rfl; exact rfl; exact rfl; exact rfl; exact lenA; exact rfl) | (apply AWP.ret) | (apply RunL.nil) | (apply RunL.on; exact rfl; exact rfl; exact rfl; exact rfl; (first | exact rfl | assumption)) | (apply RunL.noU; exact rfl; exact rfl; exact rfl; exact rfl; exact rfl; exact rfl) | (apply RunL.no; exact rfl; exact rfl; exact rfl; exact rfl; (first | exact rfl | assumption); exact rfl; exact rfl) | (refine AWP.cond _ (Rd.of rfl) (fun hc => ?_) (fun hc => ?_) <;> first | (exfalso; cases hc; done) | (have hc' := hc; (try simp only [sc, reduceCtorEq, cmpOf] at hc'); try (exfalso; omega)))
    | (
     apply AWP.drawA
     repeat' (first
       | (apply DL.cons; (try (apply OpLoc.on; exact rfl; exact rfl; exact rfl; exact rfl; (first | exact rfl | assumption))); apply ol_ev (τ := τ); exact rfl; (first | exact hvd | exact hca | exact hsh); exact rfl; exact rfl) | (apply DL.cons; exact olA; exact rfl) | (apply DL.nil; kernel_rfl) | (refine DL.split rfl rfl rfl rfl (fun hb => ?_) (fun hb => ?_) <;> have hb' := hb <;> (try simp only [sc, reduceCtorEq, cmpOf] at hb') <;> try (exfalso; omega)))
     all_goals (fail_if_success apply DL.id))
    | (refine RunL.split rfl rfl rfl rfl (fun hb => ?_) (fun hb => ?_) <;> have hb' := hb <;> (try simp only [sc, reduceCtorEq, cmpOf] at hb') <;> try (exfalso; omega)) )
  all_goals
    apply Ends.mk (.cons (.tmp rfl) (.cons (.tmp rfl) (.cons (.tmp rfl) .nil)))
    first | done | rfl
set_option maxHeartbeats 4000000 in
theorem kAssign1 (l : List Rt) (C : List Int) (d : Int) (hv0 : validE l = 0) (hc0 : candE C = 0) : Evals Tryd.prog 25 [.sl 3 (l.map rowRt), .ints .i64 C, .int .u64 d]
    (match assignP l (shuffle l.length d).1 C [] with
      | some out => .tup [.sl 2 (out.map rowAs), .int .u64 (shuffle l.length d).2, .int .i64 0]
      | none => .tup [.sl 2 [], .int .u64 d, .int .i64 14]) := by
  have hvd := kValid l
  have hca := kCand C
  have hl20 := (valid_zero hv0).1
  have hC200 : C.length ≤ 200 := by unfold candE at hc0; split at hc0 <;> omega
  rw [hv0] at hvd
  rw [hc0] at hca
  have hsh := dShuffle d l.length (by omega)
  have ho : ∀ i ∈ (shuffle l.length d).1, 0 ≤ i ∧ i < (l.length : Int) := fun i hi => shuffle_mem.1 hi
  have hml : (l.map rowRt).length = l.length := by simp
  generalize (shuffle l.length d).1 = order at *
  generalize (shuffle l.length d).2 = nx at *
  rw [← hml] at hsh
  refine evals_of_awp Tryd.func25 rfl (CallOK.of Tryd.func25 (by kernel_rfl) rfl) (Nat.le_of_ble_eq_true rfl) ?_
  rintro w R hR ⟨vs, hv⟩
  generalize hres : (match assignP l order C [] with
      | some out => D.tup [.sl 2 (out.map rowAs), .int .u64 nx, .int .i64 0]
      | none => .tup [.sl 2 [], .int .u64 d, .int .i64 14]) = res
  generalize hT : assignP l order C [] = T at hres
  repeat' (first
    | (apply RunL.step; exact rfl; first | (apply op_nilG (d := 14) 29 2; exact .inl rfl; exact rfl) | (apply op_allocV (d := 13) 1013 3 1; kernel_rfl; exact rfl; exact rfl; exact .inl rfl; exact .inl rfl; exact rfl) | (apply op_storeSb (τ := τ); exact rfl; exact rfl; exact rfl; exact rfl; exact Rd.of rfl; exact .inl rfl) | (apply op_loadS (τ := τ); exact rfl; exact rfl; exact Rd.of rfl; exact rfl) | (apply op_clo; exact rfl; exact rfl) | (apply op_lendAll; exact .cons (.val (Rd.of rfl)) (.cons (.row (Rd.of rfl) rfl hle htk) (.cons (.clo (Rd.of rfl) (.cons (.box rfl) (.cons (.box rfl) (.cons (.box rfl) (.cons (.row (t := 13) rfl rfl hle htk) .nil))))) .nil)); (first | exact hp1 | exact hp2); exact rfl; exact rfl) | (apply op_appendG (τ := τ); exact rfl; exact rfl; exact rfl; exact rfl; exact rfl; exact rfl; exact Rd.of rfl; exact Rd.of rfl; (simp [chunk]); exact rfl; ((try dsimp only); (try simp only [List.length_cons, List.length_nil, List.length_map, chunk]); omega); exact rfl; exact .inl rfl; exact rfl) | fail) | (apply RunL.step; exact rfl; apply op_ev (τ := τ); exact rfl; (first | exact hvd | exact hca | exact hsh); exact rfl) | (apply RunL.step; exact rfl; exact opA) | (apply RunL.hand; exact rfl; exact rfl; exact lenA; exact rfl) | (apply AWP.seq) | (apply AWP.region; exact rfl) | (apply AWP.block) | (apply AWP.skip) | (apply AWP.exit) | (apply AWP.retF; exact rfl; exact rfl; exact rfl; exact rfl; exact lenA; exact rfl) | (apply AWP.ret) | (apply RunL.nil) | (apply RunL.on; exact rfl; exact rfl; exact rfl; exact rfl; (first | exact rfl | assumption)) | (apply RunL.noU; exact rfl; exact rfl; exact rfl; exact rfl; exact rfl; exact rfl) | (apply RunL.no; exact rfl; exact rfl; exact rfl; exact rfl; (first | exact rfl | assumption); exact rfl; exact rfl) | (refine AWP.cond _ (Rd.of rfl) (fun hc => ?_) (fun hc => ?_) <;> first | (exfalso; cases hc; done) | (have hc' := hc; (try simp only [sc, reduceCtorEq, cmpOf] at hc'); try (exfalso; omega)))
    | (
     refine AWP.drawTA 9 (of_decide_eq_true (by kernel_rfl)) (by kernel_rfl) (by kernel_rfl) (by kernel_rfl) (by kernel_rfl) ?_
     repeat' (first
       | (apply DL.cons; (try (apply OpLoc.on; exact rfl; exact rfl; exact rfl; exact rfl; (first | exact rfl | assumption))); apply ol_ev (τ := τ); exact rfl; (first | exact hvd | exact hca | exact hsh); exact rfl; exact rfl) | (apply DL.cons; exact olA; exact rfl) | (apply DL.nil; kernel_rfl) | (refine DL.split rfl rfl rfl rfl (fun hb => ?_) (fun hb => ?_) <;> have hb' := hb <;> (try simp only [sc, reduceCtorEq, cmpOf] at hb') <;> try (exfalso; omega)))
     all_goals (fail_if_success apply DL.id))
    | (refine RunL.split rfl rfl rfl rfl (fun hb => ?_) (fun hb => ?_) <;> have hb' := hb <;> (try simp only [sc, reduceCtorEq, cmpOf] at hb') <;> try (exfalso; omega)) )
  refine AWP.loop3 (fun (i : Int) (W : List (List D)) (ls : List Int) => ⟨[(2, .val (.int .u64 d)), (3, .pb 3 0), (11, .val (.ints .i64 order)), (12, .val (.int .u64 nx)), (13, .psb 13 30 44 0 (l.map rowRt).length (l.map rowRt).length), (14, .vec 14 29 2 W), (45, .val (.ints .i64 C)), (46, .val (.int .i64 C.length)), (47, .val (.int .i64 i))], [(3, .cells 22 [.sl 3 (l.map rowRt)]), (44, .row 3 .i64 ls)]⟩)
    (fun i W ls => ∃ out, 0 ≤ i ∧ i ≤ C.length ∧ W = out.map rowAs ∧ ls = LD l out ∧ (out.length : Int) = 2 * i ∧ assignP l order (C.drop i.toNat) out = T) (fun i _ _ => (C.length - i).toNat) 0 [] (List.replicate (l.map rowRt).length 0) ⟨[], by omega, by omega, rfl, by rw [hml, LD_nil], by simp, hT⟩ (St.Le.of (by repeat' (first | exact all_nil | refine all_cons rfl ?_)) (by repeat' (first | exact all_nil | refine all_cons rfl ?_))) ?_
  rintro i W ls ⟨out, k1, k2, rfl, rfl, k5, k6⟩
  have hLl := LD_length l out
  have htk : ((LD l out).drop 0).take (l.map rowRt).length = LD l out := by rw [List.drop_zero, List.take_of_length_le (by omega)]
  have hle : 0 + (l.map rowRt).length ≤ (LD l out).length := by omega
  by_cases hi : i < C.length
  · rw [drop_ix k1 hi, assignP_cons] at k6
    have hp1 := kPick l order out (ix C i) (-1) ho
    have hp2 := kPick l order out (ix C i) (pickP l order out (ix C i) (-1)) ho
    have r1 := pick_range (l := l) (out := out) (c := ix C i) (tk := -1) ho
    have r2 := pick_range (l := l) (out := out) (c := ix C i) (tk := pickP l order out (ix C i) (-1)) ho
    generalize pickP l order out (ix C i) (pickP l order out (ix C i) (-1)) = b at *
    generalize pickP l order out (ix C i) (-1) = a at *
    by_cases hno : a < 0 ∨ b < 0
    · rw [if_pos hno] at k6
      subst k6
      simp only at hres
      subst hres
      repeat' (first
        | (apply RunL.step; exact rfl; first | (apply op_nilG (d := 14) 29 2; exact .inl rfl; exact rfl) | (apply op_allocV (d := 13) 1013 3 1; kernel_rfl; exact rfl; exact rfl; exact .inl rfl; exact .inl rfl; exact rfl) | (apply op_storeSb (τ := τ); exact rfl; exact rfl; exact rfl; exact rfl; exact Rd.of rfl; exact .inl rfl) | (apply op_loadS (τ := τ); exact rfl; exact rfl; exact Rd.of rfl; exact rfl) | (apply op_clo; exact rfl; exact rfl) | (apply op_lendAll; exact .cons (.val (Rd.of rfl)) (.cons (.row (Rd.of rfl) rfl hle htk) (.cons (.clo (Rd.of rfl) (.cons (.box rfl) (.cons (.box rfl) (.cons (.box rfl) (.cons (.row (t := 13) rfl rfl hle htk) .nil))))) .nil)); (first | exact hp1 | exact hp2); exact rfl; exact rfl) | (apply op_appendG (τ := τ); exact rfl; exact rfl; exact rfl; exact rfl; exact rfl; exact rfl; exact Rd.of rfl; exact Rd.of rfl; (simp [chunk]); exact rfl; ((try dsimp only); (try simp only [List.length_cons, List.length_nil, List.length_map, chunk]); omega); exact rfl; exact .inl rfl; exact rfl) | fail) | (apply RunL.step; exact rfl; apply op_ev (τ := τ); exact rfl; (first | exact hvd | exact hca | exact hsh); exact rfl) | (apply RunL.step; exact rfl; exact opA) | (apply RunL.hand; exact rfl; exact rfl; exact lenA; exact rfl) | (apply AWP.seq) | (apply AWP.region; exact rfl) | (apply AWP.block) | (apply AWP.skip) | (apply AWP.exit) | (apply AWP.retF; exact rfl; exact rfl; exact rfl; exact rfl; exact lenA; exact rfl) | (apply AWP.ret) | (apply RunL.nil) | (apply RunL.on; exact rfl; exact rfl; exact rfl; exact rfl; (first | exact rfl | assumption)) | (apply RunL.noU; exact rfl; exact rfl; exact rfl; exact rfl; exact rfl; exact rfl) | (apply RunL.no; exact rfl; exact rfl; exact rfl; exact rfl; (first | exact rfl | assumption); exact rfl; exact rfl) | (refine AWP.cond _ (Rd.of rfl) (fun hc => ?_) (fun hc => ?_) <;> first | (exfalso; cases hc; done) | (have hc' := hc; (try simp only [sc, reduceCtorEq, cmpOf] at hc'); try (exfalso; omega)))
        | (
         refine AWP.drawTA 9 (of_decide_eq_true (by kernel_rfl)) (by kernel_rfl) (by kernel_rfl) (by kernel_rfl) (by kernel_rfl) ?_
         repeat' (first
           | (apply DL.cons; (try (apply OpLoc.on; exact rfl; exact rfl; exact rfl; exact rfl; (first | exact rfl | assumption))); apply ol_ev (τ := τ); exact rfl; (first | exact hvd | exact hca | exact hsh); exact rfl; exact rfl) | (apply DL.cons; exact olA; exact rfl) | (apply DL.nil; kernel_rfl) | (refine DL.split rfl rfl rfl rfl (fun hb => ?_) (fun hb => ?_) <;> have hb' := hb <;> (try simp only [sc, reduceCtorEq, cmpOf] at hb') <;> try (exfalso; omega)))
         all_goals (fail_if_success apply DL.id))
        | (refine RunL.split rfl rfl rfl rfl (fun hb => ?_) (fun hb => ?_) <;> have hb' := hb <;> (try simp only [sc, reduceCtorEq, cmpOf] at hb') <;> try (exfalso; omega)) )
      all_goals
        apply Ends.mk (.cons (.tmp rfl) (.cons (.tmp rfl) (.cons (.tmp rfl) .nil)))
        first | done | rfl
    · rw [if_neg hno] at k6
      obtain ⟨a, rfl⟩ : ∃ n : Nat, a = n := ⟨a.toNat, by omega⟩
      obtain ⟨b, rfl⟩ : ∃ n : Nat, b = n := ⟨b.toNat, by omega⟩
      have ha : a < l.length := by omega
      have hb : b < l.length := by omega
      repeat' (first
        | (apply RunL.step; exact rfl; first | (apply op_nilG (d := 14) 29 2; exact .inl rfl; exact rfl) | (apply op_allocV (d := 13) 1013 3 1; kernel_rfl; exact rfl; exact rfl; exact .inl rfl; exact .inl rfl; exact rfl) | (apply op_storeSb (τ := τ); exact rfl; exact rfl; exact rfl; exact rfl; exact Rd.of rfl; exact .inl rfl) | (apply op_loadS (τ := τ); exact rfl; exact rfl; exact Rd.of rfl; exact rfl) | (apply op_clo; exact rfl; exact rfl) | (apply op_lendAll; exact .cons (.val (Rd.of rfl)) (.cons (.row (Rd.of rfl) rfl hle htk) (.cons (.clo (Rd.of rfl) (.cons (.box rfl) (.cons (.box rfl) (.cons (.box rfl) (.cons (.row (t := 13) rfl rfl hle htk) .nil))))) .nil)); (first | exact hp1 | exact hp2); exact rfl; exact rfl) | (apply op_appendG (τ := τ); exact rfl; exact rfl; exact rfl; exact rfl; exact rfl; exact rfl; exact Rd.of rfl; exact Rd.of rfl; (simp [chunk]); exact rfl; ((try dsimp only); (try simp only [List.length_cons, List.length_nil, List.length_map, chunk]); omega); exact rfl; exact .inl rfl; exact rfl) | fail) | (apply RunL.step; exact rfl; apply op_ev (τ := τ); exact rfl; (first | exact hvd | exact hca | exact hsh); exact rfl) | (apply RunL.step; exact rfl; exact opA) | (apply RunL.hand; exact rfl; exact rfl; exact lenA; exact rfl) | (apply AWP.seq) | (apply AWP.region; exact rfl) | (apply AWP.block) | (apply AWP.skip) | (apply AWP.exit) | (apply AWP.retF; exact rfl; exact rfl; exact rfl; exact rfl; exact lenA; exact rfl) | (apply AWP.ret) | (apply RunL.nil) | (apply RunL.on; exact rfl; exact rfl; exact rfl; exact rfl; (first | exact rfl | assumption)) | (apply RunL.noU; exact rfl; exact rfl; exact rfl; exact rfl; exact rfl; exact rfl) | (apply RunL.no; exact rfl; exact rfl; exact rfl; exact rfl; (first | exact rfl | assumption); exact rfl; exact rfl) | (refine AWP.cond _ (Rd.of rfl) (fun hc => ?_) (fun hc => ?_) <;> first | (exfalso; cases hc; done) | (have hc' := hc; (try simp only [sc, reduceCtorEq, cmpOf] at hc'); try (exfalso; omega)))
        | (
         refine AWP.drawTA 9 (of_decide_eq_true (by kernel_rfl)) (by kernel_rfl) (by kernel_rfl) (by kernel_rfl) (by kernel_rfl) ?_
         repeat' (first
           | (apply DL.cons; (try (apply OpLoc.on; exact rfl; exact rfl; exact rfl; exact rfl; (first | exact rfl | assumption))); apply ol_ev (τ := τ); exact rfl; (first | exact hvd | exact hca | exact hsh); exact rfl; exact rfl) | (apply DL.cons; exact olA; exact rfl) | (apply DL.nil; kernel_rfl) | (refine DL.split rfl rfl rfl rfl (fun hb => ?_) (fun hb => ?_) <;> have hb' := hb <;> (try simp only [sc, reduceCtorEq, cmpOf] at hb') <;> try (exfalso; omega)))
         all_goals (fail_if_success apply DL.id))
        | (refine RunL.split rfl rfl rfl rfl (fun hb => ?_) (fun hb => ?_) <;> have hb' := hb <;> (try simp only [sc, reduceCtorEq, cmpOf] at hb') <;> try (exfalso; omega)) )
      refine AWP.loop3 (fun (k : Int) (W : List (List D)) (ls : List Int) => ⟨[(2, .val (.int .u64 d)), (3, .pb 3 0), (11, .val (.ints .i64 order)), (12, .val (.int .u64 nx)), (13, .psb 13 30 44 0 (l.map rowRt).length (l.map rowRt).length), (14, .vec 14 29 2 W), (16, .pb 16 0), (45, .val (.ints .i64 C)), (46, .val (.int .i64 C.length)), (47, .val (.int .i64 i)), (70, .val (.ints .i64 [(a : Int), (b : Int)])), (71, .val (.int .i64 ([(a : Int), (b : Int)] : List Int).length)), (72, .val (.int .i64 k))], [(3, .cells 22 [.sl 3 (l.map rowRt)]), (16, .cells 3 [.int .i64 (ix C i)]), (44, .row 3 .i64 ls)]⟩)
        (fun k W ls => 0 ≤ k ∧ k ≤ 2 ∧ W = (out ++ (both l (ix C i) a b).take k.toNat).map rowAs ∧ ls = LD l (out ++ (both l (ix C i) a b).take k.toNat)) (fun k _ _ => (2 - k).toNat) 0 (out.map rowAs) (LD l out) ⟨by omega, by omega, by simp, by simp⟩ (St.Le.of (by repeat' (first | exact all_nil | refine all_cons rfl ?_)) (by repeat' (first | exact all_nil | refine all_cons rfl ?_))) ?_
      rintro k W ls ⟨j1, j2, j3, j4⟩
      have hbl : ((out ++ (both l (ix C i) a b).take k.toNat).length : Int) ≤ 402 := by
        rw [List.length_append, List.length_take]
        have : (both l (ix C i) a b).length = 2 := rfl
        omega
      have hWl : (W.length : Int) ≤ 402 := by rw [j3, List.length_map]; exact hbl
      have hlsl : ls.length = l.length := by rw [j4, LD_length]
      have hab : ([(a : Int), (b : Int)] : List Int).length = 2 := rfl
      by_cases hk : k < 2
      · obtain ⟨x, hx1, hx2, hx3⟩ : ∃ x : Nat, x < l.length ∧ ix [(a : Int), (b : Int)] k = x ∧ (both l (ix C i) a b).take (k + 1).toNat = (both l (ix C i) a b).take k.toNat ++ [(ix C i, (atR l x).1)] := by
          rcases (show k = 0 ∨ k = 1 by omega) with rfl | rfl
          · exact ⟨a, ha, rfl, rfl⟩
          · exact ⟨b, hb, rfl, rfl⟩
        obtain ⟨p, hp⟩ : ∃ p, l[x]? = some p := ⟨l[x], by simp [hx1]⟩
        have hrowx : (l.map rowRt)[(ix [(a : Int), (b : Int)] k).toNat]? = some [.int .i64 p.1, .int .i64 p.2.1, .ints .i64 p.2.2] := by rw [hx2, List.getElem?_map, Int.toNat_natCast, hp]; rfl
        have hset := LD_set hv0 (out ++ (both l (ix C i) a b).take k.toNat) (ix C i) hx1
        rw [← j4, List.append_assoc, ← hx3, atR_of hp] at hset
        have hval : ix ls ((0 + (ix [(a : Int), (b : Int)] k).toNat : Nat) : Int) = loadN (out ++ (both l (ix C i) a b).take k.toNat) p.1 := by
          rw [hx2, Nat.zero_add, Int.toNat_natCast, j4, LD_ix hx1, atR_of hp]
        have hlo := loadN_le (out ++ (both l (ix C i) a b).take k.toNat) p.1
        have hlo0 := loadN_nonneg (out ++ (both l (ix C i) a b).take k.toNat) p.1
        have hx0 : 0 ≤ ix [(a : Int), (b : Int)] k ∧ ix [(a : Int), (b : Int)] k < l.length := by rw [hx2]; omega
        rw [← hval] at hset hlo hlo0
        repeat' (first
          | (apply RunL.step; exact rfl; first | (apply op_nilG (d := 14) 29 2; exact .inl rfl; exact rfl) | (apply op_allocV (d := 13) 1013 3 1; kernel_rfl; exact rfl; exact rfl; exact .inl rfl; exact .inl rfl; exact rfl) | (apply op_storeSb (τ := τ); exact rfl; exact rfl; exact rfl; exact rfl; exact Rd.of rfl; exact .inl rfl) | (apply op_loadS (τ := τ); exact rfl; exact rfl; exact Rd.of rfl; exact rfl) | (apply op_clo; exact rfl; exact rfl) | (apply op_lendAll; exact .cons (.val (Rd.of rfl)) (.cons (.row (Rd.of rfl) rfl hle htk) (.cons (.clo (Rd.of rfl) (.cons (.box rfl) (.cons (.box rfl) (.cons (.box rfl) (.cons (.row (t := 13) rfl rfl hle htk) .nil))))) .nil)); (first | exact hp1 | exact hp2); exact rfl; exact rfl) | (apply op_appendG (τ := τ); exact rfl; exact rfl; exact rfl; exact rfl; exact rfl; exact rfl; exact Rd.of rfl; exact Rd.of rfl; (simp [chunk]); exact rfl; ((try dsimp only); (try simp only [List.length_cons, List.length_nil, List.length_map, chunk]); omega); exact rfl; exact .inl rfl; exact rfl) | fail) | (apply RunL.step; exact rfl; apply op_ev (τ := τ); exact rfl; (first | exact hvd | exact hca | exact hsh); exact rfl) | (apply RunL.step; exact rfl; exact opA) | (apply RunL.hand; exact rfl; exact rfl; exact lenA; exact rfl) | (apply AWP.seq) | (apply AWP.region; exact rfl) | (apply AWP.block) | (apply AWP.skip) | (apply AWP.exit) | (apply AWP.retF; exact rfl; exact rfl; exact rfl; exact rfl; exact lenA; exact rfl) | (apply AWP.ret) | (apply RunL.nil) | (apply RunL.on; exact rfl; exact rfl; exact rfl; exact rfl; (first | exact rfl | assumption)) | (apply RunL.noU; exact rfl; exact rfl; exact rfl; exact rfl; exact rfl; exact rfl) | (apply RunL.no; exact rfl; exact rfl; exact rfl; exact rfl; (first | exact rfl | assumption); exact rfl; exact rfl) | (refine AWP.cond _ (Rd.of rfl) (fun hc => ?_) (fun hc => ?_) <;> first | (exfalso; cases hc; done) | (have hc' := hc; (try simp only [sc, reduceCtorEq, cmpOf] at hc'); try (exfalso; omega)))
          | (
           refine AWP.drawTA 9 (of_decide_eq_true (by kernel_rfl)) (by kernel_rfl) (by kernel_rfl) (by kernel_rfl) (by kernel_rfl) ?_
           repeat' (first
             | (apply DL.cons; (try (apply OpLoc.on; exact rfl; exact rfl; exact rfl; exact rfl; (first | exact rfl | assumption))); apply ol_ev (τ := τ); exact rfl; (first | exact hvd | exact hca | exact hsh); exact rfl; exact rfl) | (apply DL.cons; exact olA; exact rfl) | (apply DL.nil; kernel_rfl) | (refine DL.split rfl rfl rfl rfl (fun hb => ?_) (fun hb => ?_) <;> have hb' := hb <;> (try simp only [sc, reduceCtorEq, cmpOf] at hb') <;> try (exfalso; omega)))
           all_goals (fail_if_success apply DL.id))
          | (refine RunL.split rfl rfl rfl rfl (fun hb => ?_) (fun hb => ?_) <;> have hb' := hb <;> (try simp only [sc, reduceCtorEq, cmpOf] at hb') <;> try (exfalso; omega)) )
        all_goals
          have hxn : 0 + (ix [(a : Int), (b : Int)] k).toNat = x := by omega
          refine ⟨k + 1, _, _, St.Le.of (by repeat' (first | exact all_nil | refine all_cons rfl ?_)) (by repeat' (first | exact all_nil | refine all_cons rfl ?_)), ⟨by omega, by omega, ?_, ?_⟩, by omega⟩
          · rw [hx3, atR_of hp, ← List.append_assoc, List.map_append, ← j3]; rfl
          · rw [hxn] at hset ⊢
            exact hset
      · have e2 : k.toNat = 2 := by omega
        rw [e2] at j3 j4
        repeat' (first
          | (apply RunL.step; exact rfl; first | (apply op_nilG (d := 14) 29 2; exact .inl rfl; exact rfl) | (apply op_allocV (d := 13) 1013 3 1; kernel_rfl; exact rfl; exact rfl; exact .inl rfl; exact .inl rfl; exact rfl) | (apply op_storeSb (τ := τ); exact rfl; exact rfl; exact rfl; exact rfl; exact Rd.of rfl; exact .inl rfl) | (apply op_loadS (τ := τ); exact rfl; exact rfl; exact Rd.of rfl; exact rfl) | (apply op_clo; exact rfl; exact rfl) | (apply op_lendAll; exact .cons (.val (Rd.of rfl)) (.cons (.row (Rd.of rfl) rfl hle htk) (.cons (.clo (Rd.of rfl) (.cons (.box rfl) (.cons (.box rfl) (.cons (.box rfl) (.cons (.row (t := 13) rfl rfl hle htk) .nil))))) .nil)); (first | exact hp1 | exact hp2); exact rfl; exact rfl) | (apply op_appendG (τ := τ); exact rfl; exact rfl; exact rfl; exact rfl; exact rfl; exact rfl; exact Rd.of rfl; exact Rd.of rfl; (simp [chunk]); exact rfl; ((try dsimp only); (try simp only [List.length_cons, List.length_nil, List.length_map, chunk]); omega); exact rfl; exact .inl rfl; exact rfl) | fail) | (apply RunL.step; exact rfl; apply op_ev (τ := τ); exact rfl; (first | exact hvd | exact hca | exact hsh); exact rfl) | (apply RunL.step; exact rfl; exact opA) | (apply RunL.hand; exact rfl; exact rfl; exact lenA; exact rfl) | (apply AWP.seq) | (apply AWP.region; exact rfl) | (apply AWP.block) | (apply AWP.skip) | (apply AWP.exit) | (apply AWP.retF; exact rfl; exact rfl; exact rfl; exact rfl; exact lenA; exact rfl) | (apply AWP.ret) | (apply RunL.nil) | (apply RunL.on; exact rfl; exact rfl; exact rfl; exact rfl; (first | exact rfl | assumption)) | (apply RunL.noU; exact rfl; exact rfl; exact rfl; exact rfl; exact rfl; exact rfl) | (apply RunL.no; exact rfl; exact rfl; exact rfl; exact rfl; (first | exact rfl | assumption); exact rfl; exact rfl) | (refine AWP.cond _ (Rd.of rfl) (fun hc => ?_) (fun hc => ?_) <;> first | (exfalso; cases hc; done) | (have hc' := hc; (try simp only [sc, reduceCtorEq, cmpOf] at hc'); try (exfalso; omega)))
          | (
           refine AWP.drawTA 9 (of_decide_eq_true (by kernel_rfl)) (by kernel_rfl) (by kernel_rfl) (by kernel_rfl) (by kernel_rfl) ?_
           repeat' (first
             | (apply DL.cons; (try (apply OpLoc.on; exact rfl; exact rfl; exact rfl; exact rfl; (first | exact rfl | assumption))); apply ol_ev (τ := τ); exact rfl; (first | exact hvd | exact hca | exact hsh); exact rfl; exact rfl) | (apply DL.cons; exact olA; exact rfl) | (apply DL.nil; kernel_rfl) | (refine DL.split rfl rfl rfl rfl (fun hb => ?_) (fun hb => ?_) <;> have hb' := hb <;> (try simp only [sc, reduceCtorEq, cmpOf] at hb') <;> try (exfalso; omega)))
           all_goals (fail_if_success apply DL.id))
          | (refine RunL.split rfl rfl rfl rfl (fun hb => ?_) (fun hb => ?_) <;> have hb' := hb <;> (try simp only [sc, reduceCtorEq, cmpOf] at hb') <;> try (exfalso; omega)) )
        all_goals
          refine ⟨i + 1, W, ls, St.Le.of (by repeat' (first | exact all_nil | refine all_cons rfl ?_)) (by repeat' (first | exact all_nil | refine all_cons rfl ?_)), ⟨out ++ both l (ix C i) a b, by omega, by omega, j3, j4, ?_, k6⟩, by omega⟩
          rw [List.length_append]
          have : (both l (ix C i) a b).length = 2 := rfl
          omega
  · rw [List.drop_eq_nil_of_le (by omega), assignP_nil] at k6
    subst k6
    simp only at hres
    subst hres
    refine AWP.freezeG 14 rfl rfl ?_
    repeat' (first
      | (apply RunL.step; exact rfl; first | (apply op_nilG (d := 14) 29 2; exact .inl rfl; exact rfl) | (apply op_allocV (d := 13) 1013 3 1; kernel_rfl; exact rfl; exact rfl; exact .inl rfl; exact .inl rfl; exact rfl) | (apply op_storeSb (τ := τ); exact rfl; exact rfl; exact rfl; exact rfl; exact Rd.of rfl; exact .inl rfl) | (apply op_loadS (τ := τ); exact rfl; exact rfl; exact Rd.of rfl; exact rfl) | (apply op_clo; exact rfl; exact rfl) | (apply op_lendAll; exact .cons (.val (Rd.of rfl)) (.cons (.row (Rd.of rfl) rfl hle htk) (.cons (.clo (Rd.of rfl) (.cons (.box rfl) (.cons (.box rfl) (.cons (.box rfl) (.cons (.row (t := 13) rfl rfl hle htk) .nil))))) .nil)); (first | exact hp1 | exact hp2); exact rfl; exact rfl) | (apply op_appendG (τ := τ); exact rfl; exact rfl; exact rfl; exact rfl; exact rfl; exact rfl; exact Rd.of rfl; exact Rd.of rfl; (simp [chunk]); exact rfl; ((try dsimp only); (try simp only [List.length_cons, List.length_nil, List.length_map, chunk]); omega); exact rfl; exact .inl rfl; exact rfl) | fail) | (apply RunL.step; exact rfl; apply op_ev (τ := τ); exact rfl; (first | exact hvd | exact hca | exact hsh); exact rfl) | (apply RunL.step; exact rfl; exact opA) | (apply RunL.hand; exact rfl; exact rfl; exact lenA; exact rfl) | (apply AWP.seq) | (apply AWP.region; exact rfl) | (apply AWP.block) | (apply AWP.skip) | (apply AWP.exit) | (apply AWP.retF; exact rfl; exact rfl; exact rfl; exact rfl; exact lenA; exact rfl) | (apply AWP.ret) | (apply RunL.nil) | (apply RunL.on; exact rfl; exact rfl; exact rfl; exact rfl; (first | exact rfl | assumption)) | (apply RunL.noU; exact rfl; exact rfl; exact rfl; exact rfl; exact rfl; exact rfl) | (apply RunL.no; exact rfl; exact rfl; exact rfl; exact rfl; (first | exact rfl | assumption); exact rfl; exact rfl) | (refine AWP.cond _ (Rd.of rfl) (fun hc => ?_) (fun hc => ?_) <;> first | (exfalso; cases hc; done) | (have hc' := hc; (try simp only [sc, reduceCtorEq, cmpOf] at hc'); try (exfalso; omega)))
      | (
       refine AWP.drawTA 9 (of_decide_eq_true (by kernel_rfl)) (by kernel_rfl) (by kernel_rfl) (by kernel_rfl) (by kernel_rfl) ?_
       repeat' (first
         | (apply DL.cons; (try (apply OpLoc.on; exact rfl; exact rfl; exact rfl; exact rfl; (first | exact rfl | assumption))); apply ol_ev (τ := τ); exact rfl; (first | exact hvd | exact hca | exact hsh); exact rfl; exact rfl) | (apply DL.cons; exact olA; exact rfl) | (apply DL.nil; kernel_rfl) | (refine DL.split rfl rfl rfl rfl (fun hb => ?_) (fun hb => ?_) <;> have hb' := hb <;> (try simp only [sc, reduceCtorEq, cmpOf] at hb') <;> try (exfalso; omega)))
       all_goals (fail_if_success apply DL.id))
      | (refine RunL.split rfl rfl rfl rfl (fun hb => ?_) (fun hb => ?_) <;> have hb' := hb <;> (try simp only [sc, reduceCtorEq, cmpOf] at hb') <;> try (exfalso; omega)) )
    all_goals
      apply Ends.mk (.cons (.tmp rfl) (.cons (.tmp rfl) (.cons (.tmp rfl) .nil)))
      first | done | rfl
end Go.Proofs.YtmefecfkajjajaaDoor.K
namespace Go.Proofs.YtmefecfkajjajaaDoor.K
open Go Go.RowKit
set_option linter.unusedVariables false
set_option linter.unusedSimpArgs false

section
variable {P : Program} {τ : Tys P} {B : Base} {s : St} {d : Nat} {ty : TypeId} {pos : String} {af : Array Edge} {gd : Option (Nat × Bool)}
theorem vec_sl {R : Nat → Prop} {ad : Nat → Option Nat} {w : World} {k T z : Nat} {L : List (List D)} {v : Value} (h : HoldsT R ad w (.vec k T z L) v) : Holds (Own R ad) w (.sl z L) v := by
  obtain ⟨xs, o1, o2, o3, o4, o5⟩ := own_of_vecG h
  rcases o1.2 with ⟨rfl, h2⟩ | ⟨g, cap, cur, rfl, _, h2, h3, h4, h5, h6⟩
  · have hl : L = [] := List.eq_nil_of_length_eq_zero h2
    subst hl
    exact .slNil z
  · have hk : ad k = some g := by rw [← o2]; rfl
    have hle : L.length * z ≤ cur.size := by rw [h5]; exact Nat.mul_le_mul_right _ h3
    refine .sl z L g 0 cap (fun n => cur[n]?.getD undef) (.inr ⟨k, hk⟩) h3 o3 o4 (fun i hi => ?_) (fun i ds j d a1 a2 => ?_)
    · rw [cells_of_row h2, Nat.zero_add]
      simp [show i < cur.size by omega]
    · have hi := (List.getElem?_eq_some_iff.1 a1).1
      have hj := (List.getElem?_eq_some_iff.1 a2).1
      rw [o4 ds (List.mem_of_getElem? a1)] at hj
      have h9 : (i + 1) * z ≤ L.length * z := Nat.mul_le_mul_right _ hi
      rw [Nat.add_mul, Nat.one_mul] at h9
      have hc : cur[i * z + j]? = some (cur[i * z + j]'(by omega)) := by simp [show i * z + j < cur.size by omega]
      rw [hc]
      refine (o5 i ds j d _ a1 a2 ?_).mono (fun _ h => .inl h) (fun _ _ => rfl)
      rw [← h6, List.getElem?_take, if_pos (by omega), Array.getElem?_toList, hc]
      rfl
inductive ArgsW (s : St) : List Operand → List D → Prop
  | nil : ArgsW s [] []
  | cons {x : Operand} {d : D} {xs : List Operand} {ds : List D} (h : ArgV s x d) (hs : ArgsW s xs ds) : ArgsW s (x :: xs) (d :: ds)
  | consG {x : Operand} {k T z : Nat} {L : List (List D)} {xs : List Operand} {ds : List D} (h : Rd s x (.vec k T z L)) (hs : ArgsW s xs ds) : ArgsW s (x :: xs) (.sl z L :: ds)
theorem ArgsW.holds {R : Nat → Prop} {ad : Nat → Option Nat} {a : Act} {w : World} (hi : Inv B R ad s a w) {xs : List Operand} {ds : List D} (h : ArgsW s xs ds) : HoldsAll (Own R ad) w ds (xs.map a.eval).toArray := by
  induction h with
  | nil => exact ⟨rfl, fun i d v h => by simp at h⟩
  | cons h hs ih =>
    refine ⟨by simpa using ih.1, fun i d v h1 h2 => ?_⟩
    cases i with
    | zero => simp at h1 h2; subst h1 h2; exact h.holds hi
    | succ i => exact ih.2 i d v (by simpa using h1) (by simpa using h2)
  | consG h hs ih =>
    refine ⟨by simpa using ih.1, fun i d v h1 h2 => ?_⟩
    cases i with
    | zero => simp at h1 h2; subst h1 h2; exact vec_sl (h.holds hi)
    | succ i => exact ih.2 i d v (by simpa using h1) (by simpa using h2)
theorem op_lendW {f : FuncId} {args : Array Operand} {ats : Array TypeId} {ds : List D} {e : D} (ha : ArgsW s args.toList ds) (he : Evals P f ds e) (hsc : scalar e = true) (hN : Nat.blt d B.N = true) :
    OpDo P B ⟨some d, .call ⟨.value (.func f), args, ats⟩, ty, pos, af, gd⟩ s (s.setT d (.val e)) := .mk fun a w ⟨R, ad, hi⟩ K Q hk => by
  have e0 : args.map a.eval = (args.toList.map a.eval).toArray := by
    apply Array.ext'
    simp
  have hrun : (execOp a.eval ⟨some d, .call ⟨.value (.func f), args, ats⟩, ty, pos, af, gd⟩).run P w = .ok (.enter f (args.map a.eval)) w := by
    have := he.ok (args.map a.eval) w
    simp [execOp, resolve, invoke, Act.eval, Deferred.ofValue]
    simpa using this
  have hall : HoldsAll (Own R ad) w ds (args.map a.eval) := by rw [e0]; exact ha.holds hi
  simp only [Oper.wp, hrun, Oper.upon]
  refine (he.run _ w _ (fun c hc => ?_) hi.gam hall).mono ?_
  · rcases hc with hc | ⟨k, hc⟩
    · exact (hi.Rn c hc).2
    · exact (hi.adn k c hc).2.1
  · rintro e' w' ⟨v, R', rfl, hbel, hR, hR', hh⟩
    refine hk _ _ ⟨R, ad, (hi.grow hbel (fun _ h => h) (fun c hc => ⟨.inl hc, Nat.lt_of_lt_of_le (hi.Rn c hc).2 hbel.size⟩)).put hN ?_⟩
    exact scalar_holds hsc hh
end
theorem rAssignE (l : List Rt) (C : List Int) (d : Int) (hv : peopleE l C ≠ 0) : Evals Tryd.prog 26 [.sl 3 (l.map rowRt), .ints .i64 C, .int .u64 d] (.tup [.sl 2 [], .int .u64 d, .int .i64 (peopleE l C)]) := by
  have hpe := rpeople l C
  generalize peopleE l C = e at *
  refine evals_of_awp Tryd.func26 rfl (CallOK.of Tryd.func26 (by kernel_rfl) rfl) (Nat.le_of_ble_eq_true rfl) ?_
  rintro w R hR ⟨vs, hv⟩
  repeat' (first
    | (apply RunL.step; exact rfl; apply op_ev (τ := τ); exact rfl; (first | exact hpe | exact hsh); exact rfl) | (apply RunL.step; exact rfl; exact opA) | (apply RunL.hand; exact rfl; exact rfl; exact lenA; exact rfl) | (apply AWP.seq) | (apply AWP.region; exact rfl) | (apply AWP.block) | (apply AWP.skip) | (apply AWP.exit) | (apply AWP.retF; exact rfl; exact rfl; exact rfl; exact rfl; exact lenA; exact rfl) | (apply AWP.ret) | (apply RunL.nil) | (apply RunL.on; exact rfl; exact rfl; exact rfl; exact rfl; (first | exact rfl | assumption)) | (apply RunL.noU; exact rfl; exact rfl; exact rfl; exact rfl; exact rfl; exact rfl) | (apply RunL.no; exact rfl; exact rfl; exact rfl; exact rfl; (first | exact rfl | assumption); exact rfl; exact rfl) | (refine AWP.cond _ (Rd.of rfl) (fun hc => ?_) (fun hc => ?_) <;> first | (exfalso; cases hc; done) | (have hc' := hc; (try simp only [sc, reduceCtorEq, cmpOf] at hc'); try (exfalso; omega)))
    | (
     apply AWP.drawA
     repeat' (first
       | (apply DL.cons; (try (apply OpLoc.on; exact rfl; exact rfl; exact rfl; exact rfl; (first | exact rfl | assumption))); apply ol_ev (τ := τ); exact rfl; (first | exact hpe | exact hsh); exact rfl; exact rfl) | (apply DL.cons; exact olA; exact rfl) | (apply DL.nil; kernel_rfl) | (refine DL.split rfl rfl rfl rfl (fun hb => ?_) (fun hb => ?_) <;> have hb' := hb <;> (try simp only [sc, reduceCtorEq, cmpOf] at hb') <;> try (exfalso; omega)))
     all_goals (fail_if_success apply DL.id))
    | (refine RunL.split rfl rfl rfl rfl (fun hb => ?_) (fun hb => ?_) <;> have hb' := hb <;> (try simp only [sc, reduceCtorEq, cmpOf] at hb') <;> try (exfalso; omega)) )
  all_goals
    apply Ends.mk (.cons (.tmp rfl) (.cons (.tmp rfl) (.cons (.tmp rfl) .nil)))
    first | done | rfl
set_option maxHeartbeats 4000000 in
theorem rAssign1 (l : List Rt) (C : List Int) (d : Int) (hv0 : validE l = 0) (hc0 : candE C = 0) : Evals Tryd.prog 26 [.sl 3 (l.map rowRt), .ints .i64 C, .int .u64 d]
    (match assignP l (shuffle l.length d).1 C [] with
      | some out => .tup [.sl 2 (out.map rowAs), .int .u64 (shuffle l.length d).2, .int .i64 0]
      | none => .tup [.sl 2 [], .int .u64 d, .int .i64 14]) := by
  have hpe := rpeople l C
  have hl20 := (valid_zero hv0).1
  have hC200 : C.length ≤ 200 := by unfold candE at hc0; split at hc0 <;> omega
  rw [show peopleE l C = 0 by unfold peopleE; rw [if_neg (by omega), hc0]] at hpe
  have hsh := r8shuffle d l.length (by omega)
  have ho : ∀ i ∈ (shuffle l.length d).1, 0 ≤ i ∧ i < (l.length : Int) := fun i hi => shuffle_mem.1 hi
  have hml : (l.map rowRt).length = l.length := by simp
  generalize (shuffle l.length d).1 = order at *
  generalize (shuffle l.length d).2 = nx at *
  rw [← hml] at hsh
  refine evals_of_awp Tryd.func26 rfl (CallOK.of Tryd.func26 (by kernel_rfl) rfl) (Nat.le_of_ble_eq_true rfl) ?_
  rintro w R hR ⟨vs, hv⟩
  generalize hres : (match assignP l order C [] with
      | some out => D.tup [.sl 2 (out.map rowAs), .int .u64 nx, .int .i64 0]
      | none => .tup [.sl 2 [], .int .u64 d, .int .i64 14]) = res
  generalize hT : assignP l order C [] = T at hres
  repeat' (first
    | (apply RunL.step; exact rfl; first | (apply op_buildEG (d := 30) (τ := τ); exact rfl; exact rfl; exact rfl; exact rfl; exact .inl rfl; exact rfl) | (apply op_lendW; exact .cons (.val (Rd.of rfl)) (.cons (.val (Rd.of rfl)) (.consG (Rd.of rfl) (.cons (.val (Rd.of rfl)) (.cons (.val (Rd.of rfl)) .nil)))); (first | exact hp1 | exact hp2); exact rfl; exact rfl) | (apply op_appendG (τ := τ); exact rfl; exact rfl; exact rfl; exact rfl; exact rfl; exact rfl; exact Rd.of rfl; exact Rd.of rfl; (simp [chunk]); exact rfl; ((try dsimp only); (try simp only [List.length_cons, List.length_nil, List.length_map, chunk]); omega); exact rfl; exact .inl rfl; exact rfl) | fail) | (apply RunL.step; exact rfl; apply op_ev (τ := τ); exact rfl; (first | exact hpe | exact hsh); exact rfl) | (apply RunL.step; exact rfl; exact opA) | (apply RunL.hand; exact rfl; exact rfl; exact lenA; exact rfl) | (apply AWP.seq) | (apply AWP.region; exact rfl) | (apply AWP.block) | (apply AWP.skip) | (apply AWP.exit) | (apply AWP.retF; exact rfl; exact rfl; exact rfl; exact rfl; exact lenA; exact rfl) | (apply AWP.ret) | (apply RunL.nil) | (apply RunL.on; exact rfl; exact rfl; exact rfl; exact rfl; (first | exact rfl | assumption)) | (apply RunL.noU; exact rfl; exact rfl; exact rfl; exact rfl; exact rfl; exact rfl) | (apply RunL.no; exact rfl; exact rfl; exact rfl; exact rfl; (first | exact rfl | assumption); exact rfl; exact rfl) | (refine AWP.cond _ (Rd.of rfl) (fun hc => ?_) (fun hc => ?_) <;> first | (exfalso; cases hc; done) | (have hc' := hc; (try simp only [sc, reduceCtorEq, cmpOf] at hc'); try (exfalso; omega)))
    | (
     refine AWP.drawTA 22 (of_decide_eq_true (by kernel_rfl)) (by kernel_rfl) (by kernel_rfl) (by kernel_rfl) (by kernel_rfl) ?_
     repeat' (first
       | (apply DL.cons; (try (apply OpLoc.on; exact rfl; exact rfl; exact rfl; exact rfl; (first | exact rfl | assumption))); apply ol_ev (τ := τ); exact rfl; (first | exact hpe | exact hsh); exact rfl; exact rfl) | (apply DL.cons; exact olA; exact rfl) | (apply DL.nil; kernel_rfl) | (refine DL.split rfl rfl rfl rfl (fun hb => ?_) (fun hb => ?_) <;> have hb' := hb <;> (try simp only [sc, reduceCtorEq, cmpOf] at hb') <;> try (exfalso; omega)))
     all_goals (fail_if_success apply DL.id))
    | (refine RunL.split rfl rfl rfl rfl (fun hb => ?_) (fun hb => ?_) <;> have hb' := hb <;> (try simp only [sc, reduceCtorEq, cmpOf] at hb') <;> try (exfalso; omega)) )
  refine AWP.loop2 (fun (i : Int) (W : List (List D)) => ⟨[(0, .val (.sl 3 (l.map rowRt))), (1, .val (.ints .i64 C)), (2, .val (.int .u64 d)), (10, .val (.ints .i64 order)), (11, .val (.int .u64 nx)), (12, .vec 30 29 2 W), (13, .val (.int .i64 i))], []⟩)
    (fun i W => ∃ out, 0 ≤ i ∧ i ≤ C.length ∧ W = out.map rowAs ∧ (out.length : Int) = 2 * i ∧ assignP l order (C.drop i.toNat) out = T) (fun i _ => (C.length - i).toNat) 0 [] ⟨[], by omega, by omega, rfl, by simp, hT⟩ (St.Le.of (by repeat' (first | exact all_nil | refine all_cons rfl ?_)) (by repeat' (first | exact all_nil | refine all_cons rfl ?_))) ?_
  rintro i W ⟨out, k1, k2, rfl, k5, k6⟩
  have hWl : (out.map rowAs).length = out.length := by simp
  by_cases hi : i < C.length
  · rw [drop_ix k1 hi, assignP_cons] at k6
    have hp1 := rfree l order out (ix C i) (-1) ho
    have hp2 := rfree l order out (ix C i) (pickP l order out (ix C i) (-1)) ho
    have r1 := pick_range (l := l) (out := out) (c := ix C i) (tk := -1) ho
    have r2 := pick_range (l := l) (out := out) (c := ix C i) (tk := pickP l order out (ix C i) (-1)) ho
    generalize pickP l order out (ix C i) (pickP l order out (ix C i) (-1)) = b at *
    generalize pickP l order out (ix C i) (-1) = a at *
    by_cases hno : a < 0 ∨ b < 0
    · rw [if_pos hno] at k6
      subst k6
      simp only at hres
      subst hres
      repeat' (first
        | (apply RunL.step; exact rfl; first | (apply op_buildEG (d := 30) (τ := τ); exact rfl; exact rfl; exact rfl; exact rfl; exact .inl rfl; exact rfl) | (apply op_lendW; exact .cons (.val (Rd.of rfl)) (.cons (.val (Rd.of rfl)) (.consG (Rd.of rfl) (.cons (.val (Rd.of rfl)) (.cons (.val (Rd.of rfl)) .nil)))); (first | exact hp1 | exact hp2); exact rfl; exact rfl) | (apply op_appendG (τ := τ); exact rfl; exact rfl; exact rfl; exact rfl; exact rfl; exact rfl; exact Rd.of rfl; exact Rd.of rfl; (simp [chunk]); exact rfl; ((try dsimp only); (try simp only [List.length_cons, List.length_nil, List.length_map, chunk]); omega); exact rfl; exact .inl rfl; exact rfl) | fail) | (apply RunL.step; exact rfl; apply op_ev (τ := τ); exact rfl; (first | exact hpe | exact hsh); exact rfl) | (apply RunL.step; exact rfl; exact opA) | (apply RunL.hand; exact rfl; exact rfl; exact lenA; exact rfl) | (apply AWP.seq) | (apply AWP.region; exact rfl) | (apply AWP.block) | (apply AWP.skip) | (apply AWP.exit) | (apply AWP.retF; exact rfl; exact rfl; exact rfl; exact rfl; exact lenA; exact rfl) | (apply AWP.ret) | (apply RunL.nil) | (apply RunL.on; exact rfl; exact rfl; exact rfl; exact rfl; (first | exact rfl | assumption)) | (apply RunL.noU; exact rfl; exact rfl; exact rfl; exact rfl; exact rfl; exact rfl) | (apply RunL.no; exact rfl; exact rfl; exact rfl; exact rfl; (first | exact rfl | assumption); exact rfl; exact rfl) | (refine AWP.cond _ (Rd.of rfl) (fun hc => ?_) (fun hc => ?_) <;> first | (exfalso; cases hc; done) | (have hc' := hc; (try simp only [sc, reduceCtorEq, cmpOf] at hc'); try (exfalso; omega)))
        | (
         refine AWP.drawTA 22 (of_decide_eq_true (by kernel_rfl)) (by kernel_rfl) (by kernel_rfl) (by kernel_rfl) (by kernel_rfl) ?_
         repeat' (first
           | (apply DL.cons; (try (apply OpLoc.on; exact rfl; exact rfl; exact rfl; exact rfl; (first | exact rfl | assumption))); apply ol_ev (τ := τ); exact rfl; (first | exact hpe | exact hsh); exact rfl; exact rfl) | (apply DL.cons; exact olA; exact rfl) | (apply DL.nil; kernel_rfl) | (refine DL.split rfl rfl rfl rfl (fun hb => ?_) (fun hb => ?_) <;> have hb' := hb <;> (try simp only [sc, reduceCtorEq, cmpOf] at hb') <;> try (exfalso; omega)))
         all_goals (fail_if_success apply DL.id))
        | (refine RunL.split rfl rfl rfl rfl (fun hb => ?_) (fun hb => ?_) <;> have hb' := hb <;> (try simp only [sc, reduceCtorEq, cmpOf] at hb') <;> try (exfalso; omega)) )
      all_goals
        apply Ends.mk (.cons (.tmp rfl) (.cons (.tmp rfl) (.cons (.tmp rfl) .nil)))
        first | done | rfl
    · rw [if_neg hno] at k6
      obtain ⟨p, hp⟩ := at_some (l := l) (i := a) (by omega) (by omega)
      obtain ⟨q, hq⟩ := at_some (l := l) (i := b) (by omega) (by omega)
      have hrowp : (l.map rowRt)[a.toNat]? = some [.int .i64 p.1, .int .i64 p.2.1, .ints .i64 p.2.2] := by rw [List.getElem?_map, hp]; rfl
      have hrowq : (l.map rowRt)[b.toNat]? = some [.int .i64 q.1, .int .i64 q.2.1, .ints .i64 q.2.2] := by rw [List.getElem?_map, hq]; rfl
      have hbo : both l (ix C i) a b = [(ix C i, p.1), (ix C i, q.1)] := by rw [both, atR_of hp, atR_of hq]
      rw [hbo] at k6
      repeat' (first
        | (apply RunL.step; exact rfl; first | (apply op_buildEG (d := 30) (τ := τ); exact rfl; exact rfl; exact rfl; exact rfl; exact .inl rfl; exact rfl) | (apply op_lendW; exact .cons (.val (Rd.of rfl)) (.cons (.val (Rd.of rfl)) (.consG (Rd.of rfl) (.cons (.val (Rd.of rfl)) (.cons (.val (Rd.of rfl)) .nil)))); (first | exact hp1 | exact hp2); exact rfl; exact rfl) | (apply op_appendG (τ := τ); exact rfl; exact rfl; exact rfl; exact rfl; exact rfl; exact rfl; exact Rd.of rfl; exact Rd.of rfl; (simp [chunk]); exact rfl; ((try dsimp only); (try simp only [List.length_cons, List.length_nil, List.length_map, chunk]); omega); exact rfl; exact .inl rfl; exact rfl) | fail) | (apply RunL.step; exact rfl; apply op_ev (τ := τ); exact rfl; (first | exact hpe | exact hsh); exact rfl) | (apply RunL.step; exact rfl; exact opA) | (apply RunL.hand; exact rfl; exact rfl; exact lenA; exact rfl) | (apply AWP.seq) | (apply AWP.region; exact rfl) | (apply AWP.block) | (apply AWP.skip) | (apply AWP.exit) | (apply AWP.retF; exact rfl; exact rfl; exact rfl; exact rfl; exact lenA; exact rfl) | (apply AWP.ret) | (apply RunL.nil) | (apply RunL.on; exact rfl; exact rfl; exact rfl; exact rfl; (first | exact rfl | assumption)) | (apply RunL.noU; exact rfl; exact rfl; exact rfl; exact rfl; exact rfl; exact rfl) | (apply RunL.no; exact rfl; exact rfl; exact rfl; exact rfl; (first | exact rfl | assumption); exact rfl; exact rfl) | (refine AWP.cond _ (Rd.of rfl) (fun hc => ?_) (fun hc => ?_) <;> first | (exfalso; cases hc; done) | (have hc' := hc; (try simp only [sc, reduceCtorEq, cmpOf] at hc'); try (exfalso; omega)))
        | (
         refine AWP.drawTA 22 (of_decide_eq_true (by kernel_rfl)) (by kernel_rfl) (by kernel_rfl) (by kernel_rfl) (by kernel_rfl) ?_
         repeat' (first
           | (apply DL.cons; (try (apply OpLoc.on; exact rfl; exact rfl; exact rfl; exact rfl; (first | exact rfl | assumption))); apply ol_ev (τ := τ); exact rfl; (first | exact hpe | exact hsh); exact rfl; exact rfl) | (apply DL.cons; exact olA; exact rfl) | (apply DL.nil; kernel_rfl) | (refine DL.split rfl rfl rfl rfl (fun hb => ?_) (fun hb => ?_) <;> have hb' := hb <;> (try simp only [sc, reduceCtorEq, cmpOf] at hb') <;> try (exfalso; omega)))
         all_goals (fail_if_success apply DL.id))
        | (refine RunL.split rfl rfl rfl rfl (fun hb => ?_) (fun hb => ?_) <;> have hb' := hb <;> (try simp only [sc, reduceCtorEq, cmpOf] at hb') <;> try (exfalso; omega)) )
      all_goals
        refine ⟨i + 1, _, St.Le.of (by repeat' (first | exact all_nil | refine all_cons rfl ?_)) (by repeat' (first | exact all_nil | refine all_cons rfl ?_)), ⟨out ++ [(ix C i, p.1), (ix C i, q.1)], by omega, by omega, ?_, ?_, k6⟩, by omega⟩
        · rw [List.map_append]; rfl
        · simp; omega
  · rw [List.drop_eq_nil_of_le (by omega), assignP_nil] at k6
    subst k6
    simp only at hres
    subst hres
    refine AWP.freezeG 12 rfl rfl ?_
    repeat' (first
      | (apply RunL.step; exact rfl; first | (apply op_buildEG (d := 30) (τ := τ); exact rfl; exact rfl; exact rfl; exact rfl; exact .inl rfl; exact rfl) | (apply op_lendW; exact .cons (.val (Rd.of rfl)) (.cons (.val (Rd.of rfl)) (.consG (Rd.of rfl) (.cons (.val (Rd.of rfl)) (.cons (.val (Rd.of rfl)) .nil)))); (first | exact hp1 | exact hp2); exact rfl; exact rfl) | (apply op_appendG (τ := τ); exact rfl; exact rfl; exact rfl; exact rfl; exact rfl; exact rfl; exact Rd.of rfl; exact Rd.of rfl; (simp [chunk]); exact rfl; ((try dsimp only); (try simp only [List.length_cons, List.length_nil, List.length_map, chunk]); omega); exact rfl; exact .inl rfl; exact rfl) | fail) | (apply RunL.step; exact rfl; apply op_ev (τ := τ); exact rfl; (first | exact hpe | exact hsh); exact rfl) | (apply RunL.step; exact rfl; exact opA) | (apply RunL.hand; exact rfl; exact rfl; exact lenA; exact rfl) | (apply AWP.seq) | (apply AWP.region; exact rfl) | (apply AWP.block) | (apply AWP.skip) | (apply AWP.exit) | (apply AWP.retF; exact rfl; exact rfl; exact rfl; exact rfl; exact lenA; exact rfl) | (apply AWP.ret) | (apply RunL.nil) | (apply RunL.on; exact rfl; exact rfl; exact rfl; exact rfl; (first | exact rfl | assumption)) | (apply RunL.noU; exact rfl; exact rfl; exact rfl; exact rfl; exact rfl; exact rfl) | (apply RunL.no; exact rfl; exact rfl; exact rfl; exact rfl; (first | exact rfl | assumption); exact rfl; exact rfl) | (refine AWP.cond _ (Rd.of rfl) (fun hc => ?_) (fun hc => ?_) <;> first | (exfalso; cases hc; done) | (have hc' := hc; (try simp only [sc, reduceCtorEq, cmpOf] at hc'); try (exfalso; omega)))
      | (
       refine AWP.drawTA 22 (of_decide_eq_true (by kernel_rfl)) (by kernel_rfl) (by kernel_rfl) (by kernel_rfl) (by kernel_rfl) ?_
       repeat' (first
         | (apply DL.cons; (try (apply OpLoc.on; exact rfl; exact rfl; exact rfl; exact rfl; (first | exact rfl | assumption))); apply ol_ev (τ := τ); exact rfl; (first | exact hpe | exact hsh); exact rfl; exact rfl) | (apply DL.cons; exact olA; exact rfl) | (apply DL.nil; kernel_rfl) | (refine DL.split rfl rfl rfl rfl (fun hb => ?_) (fun hb => ?_) <;> have hb' := hb <;> (try simp only [sc, reduceCtorEq, cmpOf] at hb') <;> try (exfalso; omega)))
       all_goals (fail_if_success apply DL.id))
      | (refine RunL.split rfl rfl rfl rfl (fun hb => ?_) (fun hb => ?_) <;> have hb' := hb <;> (try simp only [sc, reduceCtorEq, cmpOf] at hb') <;> try (exfalso; omega)) )
    all_goals
      apply Ends.mk (.cons (.tmp rfl) (.cons (.tmp rfl) (.cons (.tmp rfl) .nil)))
      first | done | rfl
end Go.Proofs.YtmefecfkajjajaaDoor.K
