/- Walks: strings.Cut at a separator of one letter, and what it calls. -/
import Derived.Test.YtffcpgebgoineaaDoorWalkP
import Derived.Laws.Externs
import Derived.Lib.IndexLaws
namespace Go.Proofs.YtffcpgebgoineaaDoor.K
open Go
set_option linter.unusedVariables false
set_option linter.unusedSimpArgs false

/-- a function without a body -/
def ExtIs (P : Program) (f : FuncId) (ds : List D) (d : D) : Prop := ∀ (R : Nat → Prop) (w : World) (vs : Array Value), HoldsAll R w ds vs → ∃ v, (callFunc f vs).run P w = .ok (.value v) w ∧ Holds R w d v
theorem op_ext {P : Program} {τ : Tys P} {B : Base} {s : St} {d : Nat} {ty : TypeId} {pos : String} {af : Array Edge} {gd : Option (Nat × Bool)} {f : FuncId} {args : Array Operand} {ats : Array TypeId} {ds : List D} {e : D} (hx : τ.rdAll s args.toList ats.toList = some ds) (he : ExtIs P f ds e) (hN : Nat.blt d B.N = true) :
    OpDo P B ⟨some d, .call ⟨.value (.func f), args, ats⟩, ty, pos, af, gd⟩ s (s.setT d (.val e)) := .mk fun a w ⟨R, ad, hi⟩ K Q hk => by
  have e0 : (args.toList.map a.eval).toArray = args.map a.eval := by apply Array.ext' ; simp
  have hv := (RdAll.of hx).holds hi
  rw [e0] at hv
  obtain ⟨v, h1, h2⟩ := he R w _ hv
  have hrun : (execOp a.eval ⟨some d, .call ⟨.value (.func f), args, ats⟩, ty, pos, af, gd⟩).run P w = .ok (.value v) w := by
    simp [execOp, resolve, invoke, Act.eval, Deferred.ofValue]
    simpa using h1
  simp only [Oper.wp, hrun, Oper.upon]
  exact hk _ _ ⟨R, ad, hi.put hN h2⟩

/-- the place of a letter, or -1 -/
def idx1 (l : List UInt8) (c : UInt8) : Int := Lib.indexByte l c
theorem idx1_cases (l : List UInt8) (c : UInt8) : (idx1 l c = -1 ∧ ∀ k : Nat, l[k]? ≠ some c) ∨ (0 ≤ idx1 l c ∧ idx1 l c < l.length ∧ l[(idx1 l c).toNat]? = some c ∧ ∀ k : Nat, (k : Int) < idx1 l c → l[k]? ≠ some c) := by
  have h := Lib.indexByte_ge l c
  by_cases e : Lib.indexByte l c = -1
  · exact .inl ⟨e, Lib.indexByte_none e⟩
  · obtain ⟨o, ho⟩ := Int.eq_ofNat_of_zero_le (show 0 ≤ Lib.indexByte l c by omega)
    obtain ⟨h1, h2⟩ := Lib.indexByte_some ho
    have hlt := (List.getElem?_eq_some_iff.1 h1).1
    refine .inr ⟨by unfold idx1; omega, by unfold idx1; omega, ?_, fun k hk => h2 k (by unfold idx1 at hk; omega)⟩
    rw [show (idx1 l c).toNat = o by unfold idx1; omega]
    exact h1
theorem slice_rest {l : List UInt8} {i : Int} (h : 0 ≤ i) : ((l.take l.length).drop (i + 1).toNat) = l.drop (i.toNat + 1) := by
  rw [List.take_length, show (i + 1).toNat = i.toNat + 1 by omega]
/-- before, after, found -/
def cutD (l : List UInt8) (c : UInt8) : List D := if 0 ≤ idx1 l c then [.str (l.take (idx1 l c).toNat), .str (l.drop ((idx1 l c).toNat + 1)), .bool true] else [.str l, .str [], .bool false]
end Go.Proofs.YtffcpgebgoineaaDoor.K
