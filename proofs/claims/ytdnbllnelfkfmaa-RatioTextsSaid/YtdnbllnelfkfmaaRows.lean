/-
  No cell of these rows narrows 'for every input' (looked for: loops, veiled, ifaces, maps, wideKeys, modest, calm, conditions, laid).
  DERIVED. THE GIVEN ROWS OF THIS SEAT. 7 by the template 'for every input the law returns true; each argument reads behind the call as it read before'; 0 by the template 'total and deterministic' (their statements: YtdnbllnelfkfmaaTotals.lean).
  GIVEN WITH THE SEED: the statements are not yours to turn. If you find one false, say at which input.
  Laid BY PROGRAM, IN A SANDBOX (cutbox-rows.mjs): the forced cells as the released guide's own fill.sh prints them over the translation 44839b66a6c25461… (all of the seat's roots in one cut). By AI agents, Wed Nov 11 2026. No macro, syntax, notation, axiom, sorry.
-/
import Derived.Test.YtdnbllnelfkfmaaChecked
import GoSem.Claim
import GoSem.ClaimJoined
import GoSem.ClaimMapViews
import Derived.JoinedTies
import Derived.KernelRfl
namespace Go.Proofs.Ytdnbllnelfkfmaa
/- THE CELL 'sum', in the pinned program and in every row, IS THE sha256 OF THE DUMP (.gsa) THAT YtdnbllnelfkfmaaProg.lean LOADS. Nothing in Lean hashes anything: it is a label: what it is worth is what the hold of that sum in a sandbox is worth. -/
noncomputable def Try.pinned : Pinned := { name := "ytdnbllnelfkfmaa", sum := "44839b66a6c25461373a8a8f64fea244bebacbd4126629e0700c66810546a2f1", checked := Try.checked }
namespace Rows
def none {H : Type} : Left H := { results := [], args := [] }

/-- 'examboardlaw03.RatioMakes': WHATEVER THE INPUT: true; the input reads as it did. -/
def ratioMakesSpec : ChangeSpec := { name := "ratioMakes", fn := fun _ => fun
  | [d1, d2, d3, d4] => { results := [.lit (.bool true)], args := [d1, d2, d3, d4] }
  | _ => none }
def ratioMakesRow : OpenClaim := { program := "ytdnbllnelfkfmaa", sum := "44839b66a6c25461373a8a8f64fea244bebacbd4126629e0700c66810546a2f1", func := "examboard/examboardlaw03.RatioMakes", spec := "ratioMakes", apart := false }
def RatioMakesSaid : Prop := ratioMakesRow.holds Try.pinned (OpenSpec.ofChange ratioMakesSpec)

/-- ITS FALSE NEIGHBOUR: 'it returns false'. Refute it at one input. -/
def ratioMakesWrong : ChangeSpec := { name := "ratioMakes", fn := fun _ => fun
  | [d1, d2, d3, d4] => { results := [.lit (.bool false)], args := [d1, d2, d3, d4] }
  | _ => none }
def RatioMakesWrongFalsely : Prop := ratioMakesRow.holds Try.pinned (OpenSpec.ofChange ratioMakesWrong)

/-- 'examboardlaw03.RatioSums': WHATEVER THE INPUT: true; the input reads as it did. -/
def ratioSumsSpec : ChangeSpec := { name := "ratioSums", fn := fun _ => fun
  | [d] => { results := [.lit (.bool true)], args := [d] }
  | _ => none }
def ratioSumsRow : OpenClaim := { program := "ytdnbllnelfkfmaa", sum := "44839b66a6c25461373a8a8f64fea244bebacbd4126629e0700c66810546a2f1", func := "examboard/examboardlaw03.RatioSums", spec := "ratioSums", apart := false }
def RatioSumsSaid : Prop := ratioSumsRow.holds Try.pinned (OpenSpec.ofChange ratioSumsSpec)

/-- ITS FALSE NEIGHBOUR: 'it returns false'. Refute it at one input. -/
def ratioSumsWrong : ChangeSpec := { name := "ratioSums", fn := fun _ => fun
  | [d] => { results := [.lit (.bool false)], args := [d] }
  | _ => none }
def RatioSumsWrongFalsely : Prop := ratioSumsRow.holds Try.pinned (OpenSpec.ofChange ratioSumsWrong)

/-- 'examboardlaw03.RatioFloor': WHATEVER THE INPUT: true; the input reads as it did. -/
def ratioFloorSpec : ChangeSpec := { name := "ratioFloor", fn := fun _ => fun
  | [d] => { results := [.lit (.bool true)], args := [d] }
  | _ => none }
def ratioFloorRow : OpenClaim := { program := "ytdnbllnelfkfmaa", sum := "44839b66a6c25461373a8a8f64fea244bebacbd4126629e0700c66810546a2f1", func := "examboard/examboardlaw03.RatioFloor", spec := "ratioFloor", apart := false }
def RatioFloorSaid : Prop := ratioFloorRow.holds Try.pinned (OpenSpec.ofChange ratioFloorSpec)

/-- ITS FALSE NEIGHBOUR: 'it returns false'. Refute it at one input. -/
def ratioFloorWrong : ChangeSpec := { name := "ratioFloor", fn := fun _ => fun
  | [d] => { results := [.lit (.bool false)], args := [d] }
  | _ => none }
def RatioFloorWrongFalsely : Prop := ratioFloorRow.holds Try.pinned (OpenSpec.ofChange ratioFloorWrong)

/-- 'examboardlaw03.RatioArith': WHATEVER THE INPUT: true; the input reads as it did. -/
def ratioArithSpec : ChangeSpec := { name := "ratioArith", fn := fun _ => fun
  | [d1, d2] => { results := [.lit (.bool true)], args := [d1, d2] }
  | _ => none }
def ratioArithRow : OpenClaim := { program := "ytdnbllnelfkfmaa", sum := "44839b66a6c25461373a8a8f64fea244bebacbd4126629e0700c66810546a2f1", func := "examboard/examboardlaw03.RatioArith", spec := "ratioArith", apart := false }
def RatioArithSaid : Prop := ratioArithRow.holds Try.pinned (OpenSpec.ofChange ratioArithSpec)

/-- ITS FALSE NEIGHBOUR: 'it returns false'. Refute it at one input. -/
def ratioArithWrong : ChangeSpec := { name := "ratioArith", fn := fun _ => fun
  | [d1, d2] => { results := [.lit (.bool false)], args := [d1, d2] }
  | _ => none }
def RatioArithWrongFalsely : Prop := ratioArithRow.holds Try.pinned (OpenSpec.ofChange ratioArithWrong)

/-- 'examboardlaw03.RatioNormal': WHATEVER THE INPUT: true; the input reads as it did. -/
def ratioNormalSpec : ChangeSpec := { name := "ratioNormal", fn := fun _ => fun
  | [d1, d2] => { results := [.lit (.bool true)], args := [d1, d2] }
  | _ => none }
def ratioNormalRow : OpenClaim := { program := "ytdnbllnelfkfmaa", sum := "44839b66a6c25461373a8a8f64fea244bebacbd4126629e0700c66810546a2f1", func := "examboard/examboardlaw03.RatioNormal", spec := "ratioNormal", apart := false }
def RatioNormalSaid : Prop := ratioNormalRow.holds Try.pinned (OpenSpec.ofChange ratioNormalSpec)

/-- ITS FALSE NEIGHBOUR: 'it returns false'. Refute it at one input. -/
def ratioNormalWrong : ChangeSpec := { name := "ratioNormal", fn := fun _ => fun
  | [d1, d2] => { results := [.lit (.bool false)], args := [d1, d2] }
  | _ => none }
def RatioNormalWrongFalsely : Prop := ratioNormalRow.holds Try.pinned (OpenSpec.ofChange ratioNormalWrong)

/-- 'examboardlaw03.RatioField': WHATEVER THE INPUT: true; the input reads as it did. -/
def ratioFieldSpec : ChangeSpec := { name := "ratioField", fn := fun _ => fun
  | [d1, d2, d3] => { results := [.lit (.bool true)], args := [d1, d2, d3] }
  | _ => none }
def ratioFieldRow : OpenClaim := { program := "ytdnbllnelfkfmaa", sum := "44839b66a6c25461373a8a8f64fea244bebacbd4126629e0700c66810546a2f1", func := "examboard/examboardlaw03.RatioField", spec := "ratioField", apart := false }
def RatioFieldSaid : Prop := ratioFieldRow.holds Try.pinned (OpenSpec.ofChange ratioFieldSpec)

/-- ITS FALSE NEIGHBOUR: 'it returns false'. Refute it at one input. -/
def ratioFieldWrong : ChangeSpec := { name := "ratioField", fn := fun _ => fun
  | [d1, d2, d3] => { results := [.lit (.bool false)], args := [d1, d2, d3] }
  | _ => none }
def RatioFieldWrongFalsely : Prop := ratioFieldRow.holds Try.pinned (OpenSpec.ofChange ratioFieldWrong)

/-- 'examboardlaw03.RatioTexts': WHATEVER THE INPUT: true; the input reads as it did. -/
def ratioTextsSpec : ChangeSpec := { name := "ratioTexts", fn := fun _ => fun
  | [d] => { results := [.lit (.bool true)], args := [d] }
  | _ => none }
def ratioTextsRow : OpenClaim := { program := "ytdnbllnelfkfmaa", sum := "44839b66a6c25461373a8a8f64fea244bebacbd4126629e0700c66810546a2f1", func := "examboard/examboardlaw03.RatioTexts", spec := "ratioTexts", inPlace := ["internal/bytealg.IndexByteString", "internal/bytealg.IndexString"], named := ["internal/bytealg.MaxLen"], apart := false }
def RatioTextsSaid : Prop := ratioTextsRow.holds Try.pinned (OpenSpec.ofChange ratioTextsSpec)

/-- ITS FALSE NEIGHBOUR: 'it returns false'. Refute it at one input. -/
def ratioTextsWrong : ChangeSpec := { name := "ratioTexts", fn := fun _ => fun
  | [d] => { results := [.lit (.bool false)], args := [d] }
  | _ => none }
def RatioTextsWrongFalsely : Prop := ratioTextsRow.holds Try.pinned (OpenSpec.ofChange ratioTextsWrong)

/- THE SECOND FORM. 'bulk': how many values and letters a reading holds, each counted each time it is reached (what is shared counts as often as it is met; a slice's spare places count too). A statement '..UptoSaid' is the law's where the arguments, and the package variables that the reading takes, are together of bulk at most 1048576: NARROWER than '..Said'. Prove '..Said' where nothing that the law and all that it calls make is longer than what came in: it says more and counts as full. Else prove '..UptoSaid'. A law counts once. -/
mutual
def uptoBulk {H : Type} : DataW H → Nat
  | .lit (.string bytes) => bytes.length + 1
  | .lit _ => 1
  | .nil => 1
  | .ptr d => uptoBulk d + 1
  | .slice elems spare => uptoBulkAll elems + uptoBulkAll spare + 1
  | .agg parts => uptoBulkAll parts + 1
  | .iface _ d => uptoBulk d + 1
  | .map entries => uptoBulkEntries entries + 1
  | .held _ => 1
def uptoBulkAll {H : Type} : List (DataW H) → Nat
  | [] => 0
  | d :: r => uptoBulk d + uptoBulkAll r
def uptoBulkEntries {H : Type} : List (Lit × DataW H) → Nat
  | [] => 0
  | x :: r => uptoBulkEntry x + uptoBulkEntries r
def uptoBulkEntry {H : Type} : Lit × DataW H → Nat
  | (.string bytes, d) => bytes.length + uptoBulk d + 1
  | (_, d) => uptoBulk d + 1
 end
def uptoSmall : (H : Type) → List (DataW H) → Bool := fun _ ds => decide (uptoBulkAll ds ≤ 1048576)
def OpenSpec.upto (s : _root_.Go.ChangeSpec) : _root_.Go.OpenSpec := { _root_.Go.OpenSpec.ofChange s with cond := some uptoSmall }

/-- 'examboardlaw03.RatioMakes', WHERE WHAT IT READS IS OF BULK AT MOST 1048576: true; the input reads as it did. -/
def ratioMakesUptoRow : OpenClaim := { program := "ytdnbllnelfkfmaa", sum := "44839b66a6c25461373a8a8f64fea244bebacbd4126629e0700c66810546a2f1", func := "examboard/examboardlaw03.RatioMakes", spec := "ratioMakes", apart := false, narrowed := true }
def RatioMakesUptoSaid : Prop := ratioMakesUptoRow.holds Try.pinned (OpenSpec.upto ratioMakesSpec)

/-- 'examboardlaw03.RatioSums', WHERE WHAT IT READS IS OF BULK AT MOST 1048576: true; the input reads as it did. -/
def ratioSumsUptoRow : OpenClaim := { program := "ytdnbllnelfkfmaa", sum := "44839b66a6c25461373a8a8f64fea244bebacbd4126629e0700c66810546a2f1", func := "examboard/examboardlaw03.RatioSums", spec := "ratioSums", apart := false, narrowed := true }
def RatioSumsUptoSaid : Prop := ratioSumsUptoRow.holds Try.pinned (OpenSpec.upto ratioSumsSpec)

/-- 'examboardlaw03.RatioFloor', WHERE WHAT IT READS IS OF BULK AT MOST 1048576: true; the input reads as it did. -/
def ratioFloorUptoRow : OpenClaim := { program := "ytdnbllnelfkfmaa", sum := "44839b66a6c25461373a8a8f64fea244bebacbd4126629e0700c66810546a2f1", func := "examboard/examboardlaw03.RatioFloor", spec := "ratioFloor", apart := false, narrowed := true }
def RatioFloorUptoSaid : Prop := ratioFloorUptoRow.holds Try.pinned (OpenSpec.upto ratioFloorSpec)

/-- 'examboardlaw03.RatioArith', WHERE WHAT IT READS IS OF BULK AT MOST 1048576: true; the input reads as it did. -/
def ratioArithUptoRow : OpenClaim := { program := "ytdnbllnelfkfmaa", sum := "44839b66a6c25461373a8a8f64fea244bebacbd4126629e0700c66810546a2f1", func := "examboard/examboardlaw03.RatioArith", spec := "ratioArith", apart := false, narrowed := true }
def RatioArithUptoSaid : Prop := ratioArithUptoRow.holds Try.pinned (OpenSpec.upto ratioArithSpec)

/-- 'examboardlaw03.RatioNormal', WHERE WHAT IT READS IS OF BULK AT MOST 1048576: true; the input reads as it did. -/
def ratioNormalUptoRow : OpenClaim := { program := "ytdnbllnelfkfmaa", sum := "44839b66a6c25461373a8a8f64fea244bebacbd4126629e0700c66810546a2f1", func := "examboard/examboardlaw03.RatioNormal", spec := "ratioNormal", apart := false, narrowed := true }
def RatioNormalUptoSaid : Prop := ratioNormalUptoRow.holds Try.pinned (OpenSpec.upto ratioNormalSpec)

/-- 'examboardlaw03.RatioField', WHERE WHAT IT READS IS OF BULK AT MOST 1048576: true; the input reads as it did. -/
def ratioFieldUptoRow : OpenClaim := { program := "ytdnbllnelfkfmaa", sum := "44839b66a6c25461373a8a8f64fea244bebacbd4126629e0700c66810546a2f1", func := "examboard/examboardlaw03.RatioField", spec := "ratioField", apart := false, narrowed := true }
def RatioFieldUptoSaid : Prop := ratioFieldUptoRow.holds Try.pinned (OpenSpec.upto ratioFieldSpec)

/-- 'examboardlaw03.RatioTexts', WHERE WHAT IT READS IS OF BULK AT MOST 1048576: true; the input reads as it did. -/
def ratioTextsUptoRow : OpenClaim := { program := "ytdnbllnelfkfmaa", sum := "44839b66a6c25461373a8a8f64fea244bebacbd4126629e0700c66810546a2f1", func := "examboard/examboardlaw03.RatioTexts", spec := "ratioTexts", inPlace := ["internal/bytealg.IndexByteString", "internal/bytealg.IndexString"], named := ["internal/bytealg.MaxLen"], apart := false, narrowed := true }
def RatioTextsUptoSaid : Prop := ratioTextsUptoRow.holds Try.pinned (OpenSpec.upto ratioTextsSpec)

end Rows
end Go.Proofs.Ytdnbllnelfkfmaa
