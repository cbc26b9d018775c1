/-
  DERIVED. GIVEN WITH THE SEED: THE CARDS: each row of YtbffgpfkgmhmhaaGreatDoorRows.lean that lists a variable, with what it lists TIED to the program's text (the seventh form; the later family's looks); each row that meets fmt, with fmt's text TOLD by the authors' own Lean function (tested against real Go, not proved from fmt's source: count such statements apart). THE CARD IS WHAT COUNTS. Prove the row's statement (the work); the ties are given (YtbffgpfkgmhmhaaGreatDoorTie.lean); close each card by the builder's one call (the guide's Derived/Test/ToyasCard.lean, 'card_holds'). Laid BY PROGRAM, IN A SANDBOX (cutbox-door.mjs). By AI agents, Wed Nov 11 2026. No macro, syntax, notation, axiom, sorry.
-/
import Derived.Test.YtbffgpfkgmhmhaaGreatDoorRows
import GoSem.ClaimSeven
namespace Go.Proofs.YtbffgpfkgmhmhaaGreatDoor
namespace Rows

/-- THE TIED CARD OF 'hindcastlaw17.ManifestKnown'. -/
def manifestKnownCard : Claim7 := { stood := { row := manifestKnownRow, standIns := [], harness := (true, "262c987275fa12c69ccfff59c8a6a4328d02da52af56910ef063df7ff799f9d5"), looks := false }, kinds := [], alts := [], laidByText := true, laidKinds := [.data], laidTests := true, laidLooks := .later }
def ManifestKnownCardSaid : Prop := Claim7.holds Tryz.pinned (.plain (OpenSpec.ofChange manifestKnownSpec)) manifestKnownCard

/-- THE TIED CARD OF 'hindcastlaw17.ManifestWhole'. -/
def manifestWholeCard : Claim7 := { stood := { row := manifestWholeRow, standIns := [], harness := (true, "262c987275fa12c69ccfff59c8a6a4328d02da52af56910ef063df7ff799f9d5"), looks := false }, kinds := [], alts := [], laidByText := true, laidKinds := [.data], laidTests := true, laidLooks := .later }
def ManifestWholeCardSaid : Prop := Claim7.holds Tryz.pinned (.plain (OpenSpec.ofChange manifestWholeSpec)) manifestWholeCard

/-- THE TIED CARD OF 'hindcastlaw16.SegmentTorn'. -/
def segmentTornCard : Claim7 := { stood := { row := segmentTornRow, standIns := [], harness := (true, "262c987275fa12c69ccfff59c8a6a4328d02da52af56910ef063df7ff799f9d5"), looks := false }, kinds := [], alts := [], laidByText := true, laidKinds := [.data, .data, .data, .data], laidTests := true, laidLooks := .later }
def SegmentTornCardSaid : Prop := Claim7.holds Tryz.pinned (.plain (OpenSpec.ofChange segmentTornSpec)) segmentTornCard

/-- THE TIED CARD OF 'hindcastlaw16.SegmentKnown'. -/
def segmentKnownCard : Claim7 := { stood := { row := segmentKnownRow, standIns := [], harness := (true, "262c987275fa12c69ccfff59c8a6a4328d02da52af56910ef063df7ff799f9d5"), looks := false }, kinds := [], alts := [], laidByText := true, laidKinds := [.data, .data, .data, .data], laidTests := true, laidLooks := .later }
def SegmentKnownCardSaid : Prop := Claim7.holds Tryz.pinned (.plain (OpenSpec.ofChange segmentKnownSpec)) segmentKnownCard

/-- THE SECOND FORM's CARD OF 'hindcastlaw17.ManifestKnown'. -/
def manifestKnownUptoCard : Claim7 := { stood := { row := manifestKnownUptoRow, standIns := [], harness := (true, "262c987275fa12c69ccfff59c8a6a4328d02da52af56910ef063df7ff799f9d5"), looks := false }, kinds := [], alts := [], laidByText := true, laidKinds := [.data], laidTests := true, laidLooks := .later }
def ManifestKnownUptoCardSaid : Prop := Claim7.holds Tryz.pinned (.plain (OpenSpec.upto manifestKnownSpec)) manifestKnownUptoCard

/-- THE SECOND FORM's CARD OF 'hindcastlaw17.ManifestWhole'. -/
def manifestWholeUptoCard : Claim7 := { stood := { row := manifestWholeUptoRow, standIns := [], harness := (true, "262c987275fa12c69ccfff59c8a6a4328d02da52af56910ef063df7ff799f9d5"), looks := false }, kinds := [], alts := [], laidByText := true, laidKinds := [.data], laidTests := true, laidLooks := .later }
def ManifestWholeUptoCardSaid : Prop := Claim7.holds Tryz.pinned (.plain (OpenSpec.upto manifestWholeSpec)) manifestWholeUptoCard

/-- THE SECOND FORM's CARD OF 'hindcastlaw16.SegmentTorn'. -/
def segmentTornUptoCard : Claim7 := { stood := { row := segmentTornUptoRow, standIns := [], harness := (true, "262c987275fa12c69ccfff59c8a6a4328d02da52af56910ef063df7ff799f9d5"), looks := false }, kinds := [], alts := [], laidByText := true, laidKinds := [.data, .data, .data, .data], laidTests := true, laidLooks := .later }
def SegmentTornUptoCardSaid : Prop := Claim7.holds Tryz.pinned (.plain (OpenSpec.upto segmentTornSpec)) segmentTornUptoCard

/-- THE SECOND FORM's CARD OF 'hindcastlaw16.SegmentKnown'. -/
def segmentKnownUptoCard : Claim7 := { stood := { row := segmentKnownUptoRow, standIns := [], harness := (true, "262c987275fa12c69ccfff59c8a6a4328d02da52af56910ef063df7ff799f9d5"), looks := false }, kinds := [], alts := [], laidByText := true, laidKinds := [.data, .data, .data, .data], laidTests := true, laidLooks := .later }
def SegmentKnownUptoCardSaid : Prop := Claim7.holds Tryz.pinned (.plain (OpenSpec.upto segmentKnownSpec)) segmentKnownUptoCard
end Rows
end Go.Proofs.YtbffgpfkgmhmhaaGreatDoor
