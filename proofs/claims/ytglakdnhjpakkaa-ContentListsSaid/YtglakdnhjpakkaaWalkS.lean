/- Walks: strings.Cut at a separator of one letter, and what it calls. -/
import Derived.Test.YtglakdnhjpakkaaWalkP
import Derived.Laws.Externs
import Derived.Lib.IndexLaws
namespace Go.Proofs.Ytglakdnhjpakkaa.K
open Go
set_option linter.unusedVariables false
set_option linter.unusedSimpArgs false

/-- a function without a body -/
def ExtIs (P : Program) (f : FuncId) (ds : List D) (d : D) : Prop := ∀ (R : Nat → Prop) (w : World) (vs : Array Value), HoldsAll R w ds vs → ∃ v, (callFunc f vs).run P w = .ok (.value v) w ∧ Holds R w d v
theorem op_ext {P : Program} {τ : Tys P} {B : Base} {s : St} {d : Nat} {ty : TypeId} {pos : String} {af : Array Edge} {gd : Option (Nat × Bool)} {f : FuncId} {args : Array Operand} {ats : Array TypeId} {ds : List D} {e : D} (hx : τ.rdAll s args.toList ats.toList = some ds) (he : ExtIs P f ds e) (hN : Nat.blt d B.N = true) :
    OpDo P B ⟨some d, .call ⟨.value (.func f), args, ats⟩, ty, pos, af, gd⟩ s (s.setT d (.val e)) := .mk fun a w ⟨R, ad, hi⟩ K Q hk => by
  have e0 : (args.toList.map a.eval).toArray = args.map a.eval := by apply Array.ext' ; simp
  have hv := (RdAll.of hx).holds hi
  rw [e0] at hv
  obtain ⟨v, h1, h2⟩ := he R w _ hv
  have hrun : (execOp a.eval ⟨some d, .call ⟨.value (.func f), args, ats⟩, ty, pos, af, gd⟩).run P w = .ok (.value v) w := by
    simp [execOp, resolve, invoke, Act.eval, Deferred.ofValue]
    simpa using h1
  simp only [Oper.wp, hrun, Oper.upon]
  exact hk _ _ ⟨R, ad, hi.put hN h2⟩

/-- the place of a letter, or -1 -/
def idx1 (l : List UInt8) (c : UInt8) : Int := Lib.indexByte l c
theorem idx1_cases (l : List UInt8) (c : UInt8) : (idx1 l c = -1 ∧ ∀ k : Nat, l[k]? ≠ some c) ∨ (0 ≤ idx1 l c ∧ idx1 l c < l.length ∧ l[(idx1 l c).toNat]? = some c ∧ ∀ k : Nat, (k : Int) < idx1 l c → l[k]? ≠ some c) := by
  have h := Lib.indexByte_ge l c
  by_cases e : Lib.indexByte l c = -1
  · exact .inl ⟨e, Lib.indexByte_none e⟩
  · obtain ⟨o, ho⟩ := Int.eq_ofNat_of_zero_le (show 0 ≤ Lib.indexByte l c by omega)
    obtain ⟨h1, h2⟩ := Lib.indexByte_some ho
    have hlt := (List.getElem?_eq_some_iff.1 h1).1
    refine .inr ⟨by unfold idx1; omega, by unfold idx1; omega, ?_, fun k hk => h2 k (by unfold idx1 at hk; omega)⟩
    rw [show (idx1 l c).toNat = o by unfold idx1; omega]
    exact h1
theorem ext_indexByte (l : List UInt8) (c : Int) : ExtIs Try.prog 40 [.str l, .int .u8 c] (.int .i64 (idx1 l c.toNat.toUInt8)) := fun R w vs h => by
  obtain ⟨h1, h2⟩ := h
  obtain ⟨v1, v2, rfl⟩ : ∃ v1 v2, vs = #[v1, v2] := ⟨vs[0]'(by simp at h1; omega), vs[1]'(by simp at h1; omega), by
    apply Array.ext
    · simpa using h1
    · intro i hi hi'
      match i, hi' with
      | 0, _ => rfl
      | 1, _ => rfl⟩
  have a1 := h2 0 _ _ rfl rfl
  have a2 := h2 1 _ _ rfl rfl
  cases a2
  cases a1 with
  | str s hs =>
    refine ⟨.int .i64 (idx1 s.data.toList c.toNat.toUInt8), ?_, .int _ _ ?_⟩
    · rw [run_callFunc_extern Try.func40 (by kernel_rfl) (by kernel_rfl) (by kernel_rfl) (e := Extern.BytealgIndexByte.indexByte) (by kernel_rfl), Lib.run_indexByteString]
      rfl
    · have := idx1_cases s.data.toList c.toNat.toUInt8
      simp only [maxLen] at hs
      have hl : s.data.toList.length = s.size := by rw [Array.length_toList]; rfl
      generalize idx1 s.data.toList c.toNat.toUInt8 = x at *
      simp [InR, IntKind.min, IntKind.max, IntKind.bits, IntKind.signed]
      omega

theorem slIndexByte (l : List UInt8) (c : Int) : Evals Try.prog 36 [.str l, .int .u8 c] (.int .i64 (idx1 l c.toNat.toUInt8)) := by
  refine evals_of_awp Try.func36 rfl (CallOK.of Try.func36 (by kernel_rfl) rfl) (Nat.le_of_ble_eq_true rfl) ?_
  rintro w R hR ⟨vs, hv⟩
  repeat' (first
    | (apply RunL.step; exact rfl; first | (apply op_ext (τ := τ); exact rfl; exact ext_indexByte _ _; exact rfl) | fail) | (apply RunL.step; exact rfl; exact opA) | (apply RunL.hand; exact rfl; exact rfl; exact lenA; exact rfl) | (apply AWP.seq) | (apply AWP.region; exact rfl) | (apply AWP.block) | (apply AWP.skip) | (apply AWP.exit) | (apply AWP.retF; exact rfl; exact rfl; exact rfl; exact rfl; exact lenA; exact rfl) | (apply AWP.ret) | (apply RunL.nil) | (apply RunL.on; exact rfl; exact rfl; exact rfl; exact rfl; (first | exact rfl | assumption)) | (apply RunL.noU; exact rfl; exact rfl; exact rfl; exact rfl; exact rfl; exact rfl) | (apply RunL.no; exact rfl; exact rfl; exact rfl; exact rfl; (first | exact rfl | assumption); exact rfl; exact rfl) | (refine AWP.cond _ (Rd.of rfl) (fun hc => ?_) (fun hc => ?_) <;> first | (exfalso; cases hc; done) | (have hc' := hc; (try simp only [sc, reduceCtorEq, cmpOf] at hc'); try (exfalso; omega)))
    | (
     apply AWP.drawA
     repeat' (first
       | (apply DL.cons; (try (apply OpLoc.on; exact rfl; exact rfl; exact rfl; exact rfl; (first | exact rfl | assumption))); apply ol_ev (τ := τ); exact rfl; (fail); exact rfl; exact rfl) | (apply DL.cons; exact olA; exact rfl) | (apply DL.nil; kernel_rfl) | (refine DL.split rfl rfl rfl rfl (fun hb => ?_) (fun hb => ?_) <;> have hb' := hb <;> (try simp only [sc, reduceCtorEq, cmpOf] at hb') <;> try (exfalso; omega)))
     all_goals (fail_if_success apply DL.id))
    | (refine RunL.split rfl rfl rfl rfl (fun hb => ?_) (fun hb => ?_) <;> have hb' := hb <;> (try simp only [sc, reduceCtorEq, cmpOf] at hb') <;> try (exfalso; omega)) )
  apply Ends.mk (.cons (.tmp rfl) .nil)
  rfl
theorem slIndex (l : List UInt8) (c : UInt8) : Evals Try.prog 35 [.str l, .str [c]] (.int .i64 (idx1 l c)) := by
  refine evals_of_awp Try.func35 rfl (CallOK.of Try.func35 (by kernel_rfl) rfl) (Nat.le_of_ble_eq_true rfl) ?_
  rintro w R hR ⟨vs, hv⟩
  repeat' (first
    | (apply RunL.step; exact rfl; apply op_ev (τ := τ); exact rfl; (first | exact slIndexByte _ _); exact rfl) | (apply RunL.step; exact rfl; exact opA) | (apply RunL.hand; exact rfl; exact rfl; exact lenA; exact rfl) | (apply AWP.seq) | (apply AWP.region; exact rfl) | (apply AWP.block) | (apply AWP.skip) | (apply AWP.exit) | (apply AWP.retF; exact rfl; exact rfl; exact rfl; exact rfl; exact lenA; exact rfl) | (apply AWP.ret) | (apply RunL.nil) | (apply RunL.on; exact rfl; exact rfl; exact rfl; exact rfl; (first | exact rfl | assumption)) | (apply RunL.noU; exact rfl; exact rfl; exact rfl; exact rfl; exact rfl; exact rfl) | (apply RunL.no; exact rfl; exact rfl; exact rfl; exact rfl; (first | exact rfl | assumption); exact rfl; exact rfl) | (refine AWP.cond _ (Rd.of rfl) (fun hc => ?_) (fun hc => ?_) <;> first | (exfalso; cases hc; done) | (have hc' := hc; (try simp only [sc, reduceCtorEq, cmpOf] at hc'); try (exfalso; omega)))
    | (
     apply AWP.drawA
     repeat' (first
       | (apply DL.cons; (try (apply OpLoc.on; exact rfl; exact rfl; exact rfl; exact rfl; (first | exact rfl | assumption))); apply ol_ev (τ := τ); exact rfl; (first | exact slIndexByte _ _); exact rfl; exact rfl) | (apply DL.cons; exact olA; exact rfl) | (apply DL.nil; kernel_rfl) | (refine DL.split rfl rfl rfl rfl (fun hb => ?_) (fun hb => ?_) <;> have hb' := hb <;> (try simp only [sc, reduceCtorEq, cmpOf] at hb') <;> try (exfalso; omega)))
     all_goals (fail_if_success apply DL.id))
    | (refine RunL.split rfl rfl rfl rfl (fun hb => ?_) (fun hb => ?_) <;> have hb' := hb <;> (try simp only [sc, reduceCtorEq, cmpOf] at hb') <;> try (exfalso; omega)) )
  · apply Ends.mk (.cons (.tmp rfl) .nil)
    have e : [c] = l := by simpa [cmpStr] using hc
    subst e
    simp [pack, idx1, Lib.indexByte]
  · apply Ends.mk (.cons (.tmp rfl) .nil)
    simp [pack, ixb]
theorem slice_rest {l : List UInt8} {i : Int} (h : 0 ≤ i) : ((l.take l.length).drop (i + 1).toNat) = l.drop (i.toNat + 1) := by
  rw [List.take_length, show (i + 1).toNat = i.toNat + 1 by omega]
/-- before, after, found -/
def cutD (l : List UInt8) (c : UInt8) : List D := if 0 ≤ idx1 l c then [.str (l.take (idx1 l c).toNat), .str (l.drop ((idx1 l c).toNat + 1)), .bool true] else [.str l, .str [], .bool false]
theorem slCut (l : List UInt8) (c : UInt8) : Evals Try.prog 34 [.str l, .str [c]] (.tup (cutD l c)) := by
  refine evals_of_awp Try.func34 rfl (CallOK.of Try.func34 (by kernel_rfl) rfl) (Nat.le_of_ble_eq_true rfl) ?_
  rintro w R hR ⟨vs, hv⟩
  have hl := hv.str 0 rfl
  have h := idx1_cases l c
  have h1 : (([c] : List UInt8).length : Int) = 1 := rfl
  repeat' (first
    | (apply RunL.step; exact rfl; apply op_ev (τ := τ); exact rfl; (first | exact slIndex _ _); exact rfl) | (apply RunL.step; exact rfl; exact opA) | (apply RunL.hand; exact rfl; exact rfl; exact lenA; exact rfl) | (apply AWP.seq) | (apply AWP.region; exact rfl) | (apply AWP.block) | (apply AWP.skip) | (apply AWP.exit) | (apply AWP.retF; exact rfl; exact rfl; exact rfl; exact rfl; exact lenA; exact rfl) | (apply AWP.ret) | (apply RunL.nil) | (apply RunL.on; exact rfl; exact rfl; exact rfl; exact rfl; (first | exact rfl | assumption)) | (apply RunL.noU; exact rfl; exact rfl; exact rfl; exact rfl; exact rfl; exact rfl) | (apply RunL.no; exact rfl; exact rfl; exact rfl; exact rfl; (first | exact rfl | assumption); exact rfl; exact rfl) | (refine AWP.cond _ (Rd.of rfl) (fun hc => ?_) (fun hc => ?_) <;> first | (exfalso; cases hc; done) | (have hc' := hc; (try simp only [sc, reduceCtorEq, cmpOf] at hc'); try (exfalso; omega)))
    | (
     apply AWP.drawA
     repeat' (first
       | (apply DL.cons; (try (apply OpLoc.on; exact rfl; exact rfl; exact rfl; exact rfl; (first | exact rfl | assumption))); apply ol_ev (τ := τ); exact rfl; (first | exact slIndex _ _); exact rfl; exact rfl) | (apply DL.cons; exact olA; exact rfl) | (apply DL.nil; kernel_rfl) | (refine DL.split rfl rfl rfl rfl (fun hb => ?_) (fun hb => ?_) <;> have hb' := hb <;> (try simp only [sc, reduceCtorEq, cmpOf] at hb') <;> try (exfalso; omega)))
     all_goals (fail_if_success apply DL.id))
    | (refine RunL.split rfl rfl rfl rfl (fun hb => ?_) (fun hb => ?_) <;> have hb' := hb <;> (try simp only [sc, reduceCtorEq, cmpOf] at hb') <;> try (exfalso; omega)) )
  · apply Ends.mk (.cons (.tmp rfl) (.cons (.tmp rfl) (.cons (.tmp rfl) .nil)))
    simp only [pack, cutD, if_pos hc']
    rw [h1, slice_rest hc', List.drop_zero]
  · apply Ends.mk (.cons (.tmp rfl) (.cons (.tmp rfl) (.cons (.tmp rfl) .nil)))
    simp only [pack, cutD, if_neg hc']
theorem scut (l : List UInt8) (c : UInt8) : Evals Try.prog 32 [.str l, .str [c]] (.tup (cutD l c)) := by
  have hcut := slCut l c
  refine evals_of_awp Try.func32 rfl (CallOK.of Try.func32 (by kernel_rfl) rfl) (Nat.le_of_ble_eq_true rfl) ?_
  rintro w R hR ⟨vs, hv⟩
  by_cases h : 0 ≤ idx1 l c
  · simp only [cutD, if_pos h] at hcut ⊢
    repeat' (first
      | (apply RunL.step; exact rfl; apply op_ev (τ := τ); exact rfl; (first | exact hcut); exact rfl) | (apply RunL.step; exact rfl; exact opA) | (apply RunL.hand; exact rfl; exact rfl; exact lenA; exact rfl) | (apply AWP.seq) | (apply AWP.region; exact rfl) | (apply AWP.block) | (apply AWP.skip) | (apply AWP.exit) | (apply AWP.retF; exact rfl; exact rfl; exact rfl; exact rfl; exact lenA; exact rfl) | (apply AWP.ret) | (apply RunL.nil) | (apply RunL.on; exact rfl; exact rfl; exact rfl; exact rfl; (first | exact rfl | assumption)) | (apply RunL.noU; exact rfl; exact rfl; exact rfl; exact rfl; exact rfl; exact rfl) | (apply RunL.no; exact rfl; exact rfl; exact rfl; exact rfl; (first | exact rfl | assumption); exact rfl; exact rfl) | (refine AWP.cond _ (Rd.of rfl) (fun hc => ?_) (fun hc => ?_) <;> first | (exfalso; cases hc; done) | (have hc' := hc; (try simp only [sc, reduceCtorEq, cmpOf] at hc'); try (exfalso; omega)))
      | (
       apply AWP.drawA
       repeat' (first
         | (apply DL.cons; (try (apply OpLoc.on; exact rfl; exact rfl; exact rfl; exact rfl; (first | exact rfl | assumption))); apply ol_ev (τ := τ); exact rfl; (first | exact hcut); exact rfl; exact rfl) | (apply DL.cons; exact olA; exact rfl) | (apply DL.nil; kernel_rfl) | (refine DL.split rfl rfl rfl rfl (fun hb => ?_) (fun hb => ?_) <;> have hb' := hb <;> (try simp only [sc, reduceCtorEq, cmpOf] at hb') <;> try (exfalso; omega)))
       all_goals (fail_if_success apply DL.id))
      | (refine RunL.split rfl rfl rfl rfl (fun hb => ?_) (fun hb => ?_) <;> have hb' := hb <;> (try simp only [sc, reduceCtorEq, cmpOf] at hb') <;> try (exfalso; omega)) )
    apply Ends.mk (.cons (.tmp rfl) (.cons (.tmp rfl) (.cons (.tmp rfl) .nil)))
    rfl
  · simp only [cutD, if_neg h] at hcut ⊢
    repeat' (first
      | (apply RunL.step; exact rfl; apply op_ev (τ := τ); exact rfl; (first | exact hcut); exact rfl) | (apply RunL.step; exact rfl; exact opA) | (apply RunL.hand; exact rfl; exact rfl; exact lenA; exact rfl) | (apply AWP.seq) | (apply AWP.region; exact rfl) | (apply AWP.block) | (apply AWP.skip) | (apply AWP.exit) | (apply AWP.retF; exact rfl; exact rfl; exact rfl; exact rfl; exact lenA; exact rfl) | (apply AWP.ret) | (apply RunL.nil) | (apply RunL.on; exact rfl; exact rfl; exact rfl; exact rfl; (first | exact rfl | assumption)) | (apply RunL.noU; exact rfl; exact rfl; exact rfl; exact rfl; exact rfl; exact rfl) | (apply RunL.no; exact rfl; exact rfl; exact rfl; exact rfl; (first | exact rfl | assumption); exact rfl; exact rfl) | (refine AWP.cond _ (Rd.of rfl) (fun hc => ?_) (fun hc => ?_) <;> first | (exfalso; cases hc; done) | (have hc' := hc; (try simp only [sc, reduceCtorEq, cmpOf] at hc'); try (exfalso; omega)))
      | (
       apply AWP.drawA
       repeat' (first
         | (apply DL.cons; (try (apply OpLoc.on; exact rfl; exact rfl; exact rfl; exact rfl; (first | exact rfl | assumption))); apply ol_ev (τ := τ); exact rfl; (first | exact hcut); exact rfl; exact rfl) | (apply DL.cons; exact olA; exact rfl) | (apply DL.nil; kernel_rfl) | (refine DL.split rfl rfl rfl rfl (fun hb => ?_) (fun hb => ?_) <;> have hb' := hb <;> (try simp only [sc, reduceCtorEq, cmpOf] at hb') <;> try (exfalso; omega)))
       all_goals (fail_if_success apply DL.id))
      | (refine RunL.split rfl rfl rfl rfl (fun hb => ?_) (fun hb => ?_) <;> have hb' := hb <;> (try simp only [sc, reduceCtorEq, cmpOf] at hb') <;> try (exfalso; omega)) )
    apply Ends.mk (.cons (.tmp rfl) (.cons (.tmp rfl) (.cons (.tmp rfl) .nil)))
    rfl
end Go.Proofs.Ytglakdnhjpakkaa.K
