/-
  DERIVED. GIVEN WITH THE SEED: THE CARDS: each row of YtgdejiajiljipaaDoorRows.lean that lists a variable, with what it lists TIED to the program's text (the seventh form; the later family's looks); each row that meets fmt, with fmt's text TOLD by the authors' own Lean function (tested against real Go, not proved from fmt's source: count such statements apart). THE CARD IS WHAT COUNTS. Prove the row's statement (the work); the ties are given (YtgdejiajiljipaaDoorTie.lean); close each card by the builder's one call (the guide's Derived/Test/ToyasCard.lean, 'card_holds'). Laid BY PROGRAM, IN A SANDBOX (cutbox-door.mjs). By AI agents, Wed Nov 11 2026. No macro, syntax, notation, axiom, sorry.
-/
import Derived.Test.YtgdejiajiljipaaDoorRows
import GoSem.ClaimSeven
namespace Go.Proofs.YtgdejiajiljipaaDoor
namespace Rows

/-- THE TIED CARD OF 'examboardlaw45.LinkingInverse'. -/
def linkingInverseCard : Claim7 := { stood := { row := linkingInverseRow, standIns := [], harness := (true, "edfef52cf3d517571484489aff325d36120d3890ccb64056060b74d3e36feb82"), looks := false }, kinds := [], alts := [], laidByText := true, laidKinds := [.data, .data, .data], laidTests := true, laidLooks := .later }
def LinkingInverseCardSaid : Prop := Claim7.holds Tryd.pinned (.plain (OpenSpec.ofChange linkingInverseSpec)) linkingInverseCard

/-- THE TIED CARD OF 'examboardlaw45.LinkingMean'. -/
def linkingMeanCard : Claim7 := { stood := { row := linkingMeanRow, standIns := [], harness := (true, "edfef52cf3d517571484489aff325d36120d3890ccb64056060b74d3e36feb82"), looks := false }, kinds := [], alts := [], laidByText := true, laidKinds := [.data, .data, .data], laidTests := true, laidLooks := .later }
def LinkingMeanCardSaid : Prop := Claim7.holds Tryd.pinned (.plain (OpenSpec.ofChange linkingMeanSpec)) linkingMeanCard

/-- THE TIED CARD OF 'examboardlaw45.LinkingSpread'. -/
def linkingSpreadCard : Claim7 := { stood := { row := linkingSpreadRow, standIns := [], harness := (true, "edfef52cf3d517571484489aff325d36120d3890ccb64056060b74d3e36feb82"), looks := false }, kinds := [], alts := [], laidByText := true, laidKinds := [.data, .data, .data], laidTests := true, laidLooks := .later }
def LinkingSpreadCardSaid : Prop := Claim7.holds Tryd.pinned (.plain (OpenSpec.ofChange linkingSpreadSpec)) linkingSpreadCard

/-- THE TIED CARD OF 'examboardlaw45.LinkingChain'. -/
def linkingChainCard : Claim7 := { stood := { row := linkingChainRow, standIns := [], harness := (true, "edfef52cf3d517571484489aff325d36120d3890ccb64056060b74d3e36feb82"), looks := false }, kinds := [], alts := [], laidByText := true, laidKinds := [.data, .data, .data], laidTests := true, laidLooks := .later }
def LinkingChainCardSaid : Prop := Claim7.holds Tryd.pinned (.plain (OpenSpec.ofChange linkingChainSpec)) linkingChainCard

/-- THE SECOND FORM's CARD OF 'examboardlaw45.LinkingInverse'. -/
def linkingInverseUptoCard : Claim7 := { stood := { row := linkingInverseUptoRow, standIns := [], harness := (true, "edfef52cf3d517571484489aff325d36120d3890ccb64056060b74d3e36feb82"), looks := false }, kinds := [], alts := [], laidByText := true, laidKinds := [.data, .data, .data], laidTests := true, laidLooks := .later }
def LinkingInverseUptoCardSaid : Prop := Claim7.holds Tryd.pinned (.plain (OpenSpec.upto linkingInverseSpec)) linkingInverseUptoCard

/-- THE SECOND FORM's CARD OF 'examboardlaw45.LinkingMean'. -/
def linkingMeanUptoCard : Claim7 := { stood := { row := linkingMeanUptoRow, standIns := [], harness := (true, "edfef52cf3d517571484489aff325d36120d3890ccb64056060b74d3e36feb82"), looks := false }, kinds := [], alts := [], laidByText := true, laidKinds := [.data, .data, .data], laidTests := true, laidLooks := .later }
def LinkingMeanUptoCardSaid : Prop := Claim7.holds Tryd.pinned (.plain (OpenSpec.upto linkingMeanSpec)) linkingMeanUptoCard

/-- THE SECOND FORM's CARD OF 'examboardlaw45.LinkingSpread'. -/
def linkingSpreadUptoCard : Claim7 := { stood := { row := linkingSpreadUptoRow, standIns := [], harness := (true, "edfef52cf3d517571484489aff325d36120d3890ccb64056060b74d3e36feb82"), looks := false }, kinds := [], alts := [], laidByText := true, laidKinds := [.data, .data, .data], laidTests := true, laidLooks := .later }
def LinkingSpreadUptoCardSaid : Prop := Claim7.holds Tryd.pinned (.plain (OpenSpec.upto linkingSpreadSpec)) linkingSpreadUptoCard

/-- THE SECOND FORM's CARD OF 'examboardlaw45.LinkingChain'. -/
def linkingChainUptoCard : Claim7 := { stood := { row := linkingChainUptoRow, standIns := [], harness := (true, "edfef52cf3d517571484489aff325d36120d3890ccb64056060b74d3e36feb82"), looks := false }, kinds := [], alts := [], laidByText := true, laidKinds := [.data, .data, .data], laidTests := true, laidLooks := .later }
def LinkingChainUptoCardSaid : Prop := Claim7.holds Tryd.pinned (.plain (OpenSpec.upto linkingChainSpec)) linkingChainUptoCard
end Rows
end Go.Proofs.YtgdejiajiljipaaDoor
