/-
  DERIVED. GIVEN WITH THE SEED: THE CARDS: each row of YtnhjhaphfdlkfaaDoorRows.lean that lists a variable, with what it lists TIED to the program's text (the seventh form; the later family's looks); each row that meets fmt, with fmt's text TOLD by the authors' own Lean function (tested against real Go, not proved from fmt's source: count such statements apart). THE CARD IS WHAT COUNTS. Prove the row's statement (the work); the ties are given (YtnhjhaphfdlkfaaDoorTie.lean); close each card by the builder's one call (the guide's Derived/Test/ToyasCard.lean, 'card_holds'). Laid BY PROGRAM, IN A SANDBOX (cutbox-door.mjs). By AI agents, Wed Nov 11 2026. No macro, syntax, notation, axiom, sorry.
-/
import Derived.Test.YtnhjhaphfdlkfaaDoorRows
import GoSem.ClaimSeven
namespace Go.Proofs.YtnhjhaphfdlkfaaDoor
namespace Rows

/-- THE TIED CARD OF 'hindcastlaw17.ManifestPuts'. -/
def manifestPutsCard : Claim7 := { stood := { row := manifestPutsRow, standIns := [], harness := (true, "769683810366856b78047001fc7f544ec37876e349c97efb15abe709577f1666"), looks := false }, kinds := [], alts := [], laidByText := true, laidKinds := [.data], laidTests := true, laidLooks := .later }
def ManifestPutsCardSaid : Prop := Claim7.holds Tryd.pinned (.plain (OpenSpec.ofChange manifestPutsSpec)) manifestPutsCard

/-- THE TIED CARD OF 'hindcastlaw17.ManifestTakes'. -/
def manifestTakesCard : Claim7 := { stood := { row := manifestTakesRow, standIns := [], harness := (true, "769683810366856b78047001fc7f544ec37876e349c97efb15abe709577f1666"), looks := false }, kinds := [], alts := [], laidByText := true, laidKinds := [.data], laidTests := true, laidLooks := .later }
def ManifestTakesCardSaid : Prop := Claim7.holds Tryd.pinned (.plain (OpenSpec.ofChange manifestTakesSpec)) manifestTakesCard

/-- THE TIED CARD OF 'hindcastlaw17.ManifestBack'. -/
def manifestBackCard : Claim7 := { stood := { row := manifestBackRow, standIns := [], harness := (true, "769683810366856b78047001fc7f544ec37876e349c97efb15abe709577f1666"), looks := false }, kinds := [], alts := [], laidByText := true, laidKinds := [.data], laidTests := true, laidLooks := .later }
def ManifestBackCardSaid : Prop := Claim7.holds Tryd.pinned (.plain (OpenSpec.ofChange manifestBackSpec)) manifestBackCard

/-- THE TIED CARD OF 'hindcastlaw16.SegmentScans'. -/
def segmentScansCard : Claim7 := { stood := { row := segmentScansRow, standIns := [], harness := (true, "769683810366856b78047001fc7f544ec37876e349c97efb15abe709577f1666"), looks := false }, kinds := [], alts := [], laidByText := true, laidKinds := [.data], laidTests := true, laidLooks := .later }
def SegmentScansCardSaid : Prop := Claim7.holds Tryd.pinned (.plain (OpenSpec.ofChange segmentScansSpec)) segmentScansCard

/-- THE TIED CARD OF 'hindcastlaw16.SegmentBack'. -/
def segmentBackCard : Claim7 := { stood := { row := segmentBackRow, standIns := [], harness := (true, "769683810366856b78047001fc7f544ec37876e349c97efb15abe709577f1666"), looks := false }, kinds := [], alts := [], laidByText := true, laidKinds := [.data], laidTests := true, laidLooks := .later }
def SegmentBackCardSaid : Prop := Claim7.holds Tryd.pinned (.plain (OpenSpec.ofChange segmentBackSpec)) segmentBackCard

/-- THE TIED CARD OF 'hindcastlaw16.SegmentOrder'. -/
def segmentOrderCard : Claim7 := { stood := { row := segmentOrderRow, standIns := [], harness := (true, "769683810366856b78047001fc7f544ec37876e349c97efb15abe709577f1666"), looks := false }, kinds := [], alts := [], laidByText := true, laidKinds := [.data], laidTests := true, laidLooks := .later }
def SegmentOrderCardSaid : Prop := Claim7.holds Tryd.pinned (.plain (OpenSpec.ofChange segmentOrderSpec)) segmentOrderCard

/-- THE SECOND FORM's CARD OF 'hindcastlaw17.ManifestPuts'. -/
def manifestPutsUptoCard : Claim7 := { stood := { row := manifestPutsUptoRow, standIns := [], harness := (true, "769683810366856b78047001fc7f544ec37876e349c97efb15abe709577f1666"), looks := false }, kinds := [], alts := [], laidByText := true, laidKinds := [.data], laidTests := true, laidLooks := .later }
def ManifestPutsUptoCardSaid : Prop := Claim7.holds Tryd.pinned (.plain (OpenSpec.upto manifestPutsSpec)) manifestPutsUptoCard

/-- THE SECOND FORM's CARD OF 'hindcastlaw17.ManifestTakes'. -/
def manifestTakesUptoCard : Claim7 := { stood := { row := manifestTakesUptoRow, standIns := [], harness := (true, "769683810366856b78047001fc7f544ec37876e349c97efb15abe709577f1666"), looks := false }, kinds := [], alts := [], laidByText := true, laidKinds := [.data], laidTests := true, laidLooks := .later }
def ManifestTakesUptoCardSaid : Prop := Claim7.holds Tryd.pinned (.plain (OpenSpec.upto manifestTakesSpec)) manifestTakesUptoCard

/-- THE SECOND FORM's CARD OF 'hindcastlaw17.ManifestBack'. -/
def manifestBackUptoCard : Claim7 := { stood := { row := manifestBackUptoRow, standIns := [], harness := (true, "769683810366856b78047001fc7f544ec37876e349c97efb15abe709577f1666"), looks := false }, kinds := [], alts := [], laidByText := true, laidKinds := [.data], laidTests := true, laidLooks := .later }
def ManifestBackUptoCardSaid : Prop := Claim7.holds Tryd.pinned (.plain (OpenSpec.upto manifestBackSpec)) manifestBackUptoCard

/-- THE SECOND FORM's CARD OF 'hindcastlaw16.SegmentScans'. -/
def segmentScansUptoCard : Claim7 := { stood := { row := segmentScansUptoRow, standIns := [], harness := (true, "769683810366856b78047001fc7f544ec37876e349c97efb15abe709577f1666"), looks := false }, kinds := [], alts := [], laidByText := true, laidKinds := [.data], laidTests := true, laidLooks := .later }
def SegmentScansUptoCardSaid : Prop := Claim7.holds Tryd.pinned (.plain (OpenSpec.upto segmentScansSpec)) segmentScansUptoCard

/-- THE SECOND FORM's CARD OF 'hindcastlaw16.SegmentBack'. -/
def segmentBackUptoCard : Claim7 := { stood := { row := segmentBackUptoRow, standIns := [], harness := (true, "769683810366856b78047001fc7f544ec37876e349c97efb15abe709577f1666"), looks := false }, kinds := [], alts := [], laidByText := true, laidKinds := [.data], laidTests := true, laidLooks := .later }
def SegmentBackUptoCardSaid : Prop := Claim7.holds Tryd.pinned (.plain (OpenSpec.upto segmentBackSpec)) segmentBackUptoCard

/-- THE SECOND FORM's CARD OF 'hindcastlaw16.SegmentOrder'. -/
def segmentOrderUptoCard : Claim7 := { stood := { row := segmentOrderUptoRow, standIns := [], harness := (true, "769683810366856b78047001fc7f544ec37876e349c97efb15abe709577f1666"), looks := false }, kinds := [], alts := [], laidByText := true, laidKinds := [.data], laidTests := true, laidLooks := .later }
def SegmentOrderUptoCardSaid : Prop := Claim7.holds Tryd.pinned (.plain (OpenSpec.upto segmentOrderSpec)) segmentOrderUptoCard
end Rows
end Go.Proofs.YtnhjhaphfdlkfaaDoor
