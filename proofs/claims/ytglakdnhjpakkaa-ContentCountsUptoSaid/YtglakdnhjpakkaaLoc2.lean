/- Literals in a region that draws its order. -/
import Derived.Test.YtglakdnhjpakkaaBuild
namespace Go.Proofs.Ytglakdnhjpakkaa.K
open Go
set_option linter.unusedVariables false
set_option linter.unusedSimpArgs false

theorem fillD_ag {P : Program} {τ : Tys P} {s s' : St} {pl : Nat → Option (Nat × Nat × Nat)} : ∀ {z : List D} {parts : List (Nat × Operand)}, (∀ p ∈ parts, ∀ t, p.2 = .tmp t → s'.t t = s.t t) → fillD τ s' pl z parts = fillD τ s pl z parts
  | z, [], _ => rfl
  | z, (i, x) :: r, h => by
    have h1 := rdT_ag (τ := τ) (T := 0) (h (i, x) (by simp))
    simp only [fillD]
    cases pl i with
    | none => rfl
    | some q =>
      obtain ⟨off, size, T⟩ := q
      simp only
      rw [rdT_ag (τ := τ) (T := T) (h (i, x) (by simp))]
      cases τ.rdT s T x with
      | none => rfl
      | some td =>
        cases td with
        | val e =>
          simp only
          cases (Nat.beq e.cells.length size && Nat.ble (off + e.cells.length) z.length) with
          | true => exact fillD_ag fun p hp => h p (by simp [hp])
          | false => rfl
        | _ => rfl

section
variable {P : Program} {τ : Tys P} {B : Base} {ops : Array Oper} {s : St} {d : Nat} {ty : TypeId} {pos : String} {af : Array Edge}
theorem ag_parts {o : Oper} {s' : St} {parts : Array (Nat × Operand)} (hT : ∀ t ∈ tmpsOf ops o, s'.t t = s.t t) (ho : o.op.operands = (parts.toList.map (·.2)).toArray) : ∀ p ∈ parts.toList, ∀ t, p.2 = .tmp t → s'.t t = s.t t := fun p hp => ag_of hT (by rw [ho]; simp only [List.mem_toArray, List.mem_map]; exact ⟨p, hp, rfl⟩)
theorem ol_build {T : TypeId} {parts : Array (Nat × Operand)} {i : TI} {fs : List (Nat × Nat)} {ds : List D} (hT : get τ.tab T = some i) (hk : i.k = .struct fs) (hall : τ.allIn fs = true) (hf : fillD τ s (placeS τ fs) i.zero parts.toList = some ds) (hN : Nat.blt d B.N = true) :
    OpLoc P B ops ⟨some d, .build T parts, ty, pos, af, none⟩ s [] ⟨.val (.agg ds), none⟩ :=
  .pure rfl rfl fun s' gT gB => op_build (τ := τ) hT hk hall ((fillD_ag (ag_parts gT rfl)).trans hf) hN
theorem ol_buildE {T e : Nat} {i j : TI} {kz : IntKind} (hT : get τ.tab T = some i) (hk : i.k = .slice e) (he : get τ.tab e = some j) (hjk : j.k = .int kz) (hN : Nat.blt d B.N = true) :
    OpLoc P B ops ⟨some d, .buildSlice T 0 #[], ty, pos, af, none⟩ s [] ⟨.val (.ints kz []), none⟩ :=
  .pure rfl rfl fun s' gT gB => op_buildE (τ := τ) hT hk he hjk hN
theorem ol_buildESl {T e : Nat} {i j : TI} (hT : get τ.tab T = some i) (hk : i.k = .slice e) (he : get τ.tab e = some j) (hN : Nat.blt d B.N = true) :
    OpLoc P B ops ⟨some d, .buildSlice T 0 #[], ty, pos, af, none⟩ s [] ⟨.val (.sl j.size []), none⟩ :=
  .pure rfl rfl fun s' gT gB => op_buildESl (τ := τ) hT hk he hN
theorem ol_buildInts {T e len : Nat} {parts : Array (Nat × Operand)} {i j : TI} {ds : List D} {kz : IntKind} {l : List Int} (hT : get τ.tab T = some i) (hk : i.k = .slice e) (he : get τ.tab e = some j) (hjk : j.k = .int kz) (hlen : Nat.ble (len * j.size) 65536 = true) (hz0 : Nat.blt 0 (len * j.size) = true) (hzp : Nat.blt 0 j.zero.length = true)
    (hf : fillD τ s (placeI j.size e) ((List.range (len * j.size)).map fun n => j.zero.getD (n % j.zero.length) (.bool false)) parts.toList = some ds) (hl : intsOf kz ds = some l) (hll : l.length = len) (hN : Nat.blt d B.N = true) :
    OpLoc P B ops ⟨some d, .buildSlice T len parts, ty, pos, af, none⟩ s [] ⟨.val (.ints kz l), none⟩ :=
  .pure rfl rfl fun s' gT gB => op_buildInts (τ := τ) hT hk he hjk hlen hz0 hzp ((fillD_ag (ag_parts gT rfl)).trans hf) hl hll hN
theorem ol_buildSl {T e len : Nat} {parts : Array (Nat × Operand)} {i j : TI} {ds : List D} (hT : get τ.tab T = some i) (hk : i.k = .slice e) (he : get τ.tab e = some j) (hlen : Nat.ble (len * j.size) 65536 = true) (hz0 : Nat.blt 0 (len * j.size) = true) (hzp : Nat.blt 0 j.zero.length = true)
    (hf : fillD τ s (placeI j.size e) ((List.range (len * j.size)).map fun n => j.zero.getD (n % j.zero.length) (.bool false)) parts.toList = some ds) (hll : Nat.beq ds.length (len * j.size) = true) (hN : Nat.blt d B.N = true) :
    OpLoc P B ops ⟨some d, .buildSlice T len parts, ty, pos, af, none⟩ s [] ⟨.val (.sl j.size (chunk j.size len ds)), none⟩ :=
  .pure rfl rfl fun s' gT gB => op_buildSl (τ := τ) hT hk he hlen hz0 hzp ((fillD_ag (ag_parts gT rfl)).trans hf) hll hN
theorem ol_appendNil {T e : Nat} {x : Operand} {k : IntKind} {l : List Int} {i j : TI} (hT : get τ.tab T = some i) (hk : i.k = .slice e) (he : get τ.tab e = some j) (hz : j.size = 1) (hx : Rd s x (.val (.ints k l))) (hl : l.length * j.bytes ≤ 281474976710656) (hN : Nat.blt d B.N = true) :
    OpLoc P B ops ⟨some d, .call ⟨.builtin .append, #[.const (.slice none 0 0), x], #[T, T]⟩, ty, pos, af, none⟩ s [] ⟨.val (.ints k l), none⟩ :=
  .pure rfl rfl fun s' gT gB => op_appendNil (τ := τ) hT hk he hz (hx.ag (ag_of gT (x := x) (by simp [Op.operands, Call.operands]))) hl hN
end
end Go.Proofs.Ytglakdnhjpakkaa.K
