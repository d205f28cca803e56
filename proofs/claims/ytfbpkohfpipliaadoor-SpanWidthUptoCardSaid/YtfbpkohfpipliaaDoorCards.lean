/-
  DERIVED. GIVEN WITH THE SEED: THE CARDS: each row of YtfbpkohfpipliaaDoorRows.lean that lists a variable, with what it lists TIED to the program's text (the seventh form; the later family's looks); each row that meets fmt, with fmt's text TOLD by the authors' own Lean function (tested against real Go, not proved from fmt's source: count such statements apart). THE CARD IS WHAT COUNTS. Prove the row's statement (the work); the ties are given (YtfbpkohfpipliaaDoorTie.lean); close each card by the builder's one call (the guide's Derived/Test/ToyasCard.lean, 'card_holds'). Laid BY PROGRAM, IN A SANDBOX (cutbox-door.mjs). By AI agents, Wed Nov 11 2026. No macro, syntax, notation, axiom, sorry.
-/
import Derived.Test.YtfbpkohfpipliaaDoorRows
import GoSem.ClaimSeven
namespace Go.Proofs.YtfbpkohfpipliaaDoor
namespace Rows

/-- THE TIED CARD OF 'examboardlaw05.SpanLattice'. -/
def spanLatticeCard : Claim7 := { stood := { row := spanLatticeRow, standIns := [], harness := (true, "55b1e6b287f0ccaf4331f4a1c037538e8457aaf743733fd52e773df159426980"), looks := false }, kinds := [], alts := [], laidByText := true, laidKinds := [.data, .data, .data], laidTests := true, laidLooks := .later }
def SpanLatticeCardSaid : Prop := Claim7.holds Tryd.pinned (.plain (OpenSpec.ofChange spanLatticeSpec)) spanLatticeCard

/-- THE TIED CARD OF 'examboardlaw05.SpanEncloses'. -/
def spanEnclosesCard : Claim7 := { stood := { row := spanEnclosesRow, standIns := [], harness := (true, "55b1e6b287f0ccaf4331f4a1c037538e8457aaf743733fd52e773df159426980"), looks := false }, kinds := [], alts := [], laidByText := true, laidKinds := [.data, .data, .data], laidTests := true, laidLooks := .later }
def SpanEnclosesCardSaid : Prop := Claim7.holds Tryd.pinned (.plain (OpenSpec.ofChange spanEnclosesSpec)) spanEnclosesCard

/-- THE TIED CARD OF 'examboardlaw05.SpanMonotone'. -/
def spanMonotoneCard : Claim7 := { stood := { row := spanMonotoneRow, standIns := [], harness := (true, "55b1e6b287f0ccaf4331f4a1c037538e8457aaf743733fd52e773df159426980"), looks := false }, kinds := [], alts := [], laidByText := true, laidKinds := [.data, .data, .data], laidTests := true, laidLooks := .later }
def SpanMonotoneCardSaid : Prop := Claim7.holds Tryd.pinned (.plain (OpenSpec.ofChange spanMonotoneSpec)) spanMonotoneCard

/-- THE TIED CARD OF 'examboardlaw05.SpanWidth'. -/
def spanWidthCard : Claim7 := { stood := { row := spanWidthRow, standIns := [], harness := (true, "55b1e6b287f0ccaf4331f4a1c037538e8457aaf743733fd52e773df159426980"), looks := false }, kinds := [], alts := [], laidByText := true, laidKinds := [.data, .data, .data], laidTests := true, laidLooks := .later }
def SpanWidthCardSaid : Prop := Claim7.holds Tryd.pinned (.plain (OpenSpec.ofChange spanWidthSpec)) spanWidthCard

/-- THE SECOND FORM's CARD OF 'examboardlaw05.SpanLattice'. -/
def spanLatticeUptoCard : Claim7 := { stood := { row := spanLatticeUptoRow, standIns := [], harness := (true, "55b1e6b287f0ccaf4331f4a1c037538e8457aaf743733fd52e773df159426980"), looks := false }, kinds := [], alts := [], laidByText := true, laidKinds := [.data, .data, .data], laidTests := true, laidLooks := .later }
def SpanLatticeUptoCardSaid : Prop := Claim7.holds Tryd.pinned (.plain (OpenSpec.upto spanLatticeSpec)) spanLatticeUptoCard

/-- THE SECOND FORM's CARD OF 'examboardlaw05.SpanEncloses'. -/
def spanEnclosesUptoCard : Claim7 := { stood := { row := spanEnclosesUptoRow, standIns := [], harness := (true, "55b1e6b287f0ccaf4331f4a1c037538e8457aaf743733fd52e773df159426980"), looks := false }, kinds := [], alts := [], laidByText := true, laidKinds := [.data, .data, .data], laidTests := true, laidLooks := .later }
def SpanEnclosesUptoCardSaid : Prop := Claim7.holds Tryd.pinned (.plain (OpenSpec.upto spanEnclosesSpec)) spanEnclosesUptoCard

/-- THE SECOND FORM's CARD OF 'examboardlaw05.SpanMonotone'. -/
def spanMonotoneUptoCard : Claim7 := { stood := { row := spanMonotoneUptoRow, standIns := [], harness := (true, "55b1e6b287f0ccaf4331f4a1c037538e8457aaf743733fd52e773df159426980"), looks := false }, kinds := [], alts := [], laidByText := true, laidKinds := [.data, .data, .data], laidTests := true, laidLooks := .later }
def SpanMonotoneUptoCardSaid : Prop := Claim7.holds Tryd.pinned (.plain (OpenSpec.upto spanMonotoneSpec)) spanMonotoneUptoCard

/-- THE SECOND FORM's CARD OF 'examboardlaw05.SpanWidth'. -/
def spanWidthUptoCard : Claim7 := { stood := { row := spanWidthUptoRow, standIns := [], harness := (true, "55b1e6b287f0ccaf4331f4a1c037538e8457aaf743733fd52e773df159426980"), looks := false }, kinds := [], alts := [], laidByText := true, laidKinds := [.data, .data, .data], laidTests := true, laidLooks := .later }
def SpanWidthUptoCardSaid : Prop := Claim7.holds Tryd.pinned (.plain (OpenSpec.upto spanWidthSpec)) spanWidthUptoCard
end Rows
end Go.Proofs.YtfbpkohfpipliaaDoor
