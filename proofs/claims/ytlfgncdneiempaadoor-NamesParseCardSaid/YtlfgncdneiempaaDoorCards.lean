/-
  DERIVED. GIVEN WITH THE SEED: THE CARDS: each row of YtlfgncdneiempaaDoorRows.lean that lists a variable, with what it lists TIED to the program's text (the seventh form; the later family's looks); each row that meets fmt, with fmt's text TOLD by the authors' own Lean function (tested against real Go, not proved from fmt's source: count such statements apart). THE CARD IS WHAT COUNTS. Prove the row's statement (the work); the ties are given (YtlfgncdneiempaaDoorTie.lean); close each card by the builder's one call (the guide's Derived/Test/ToyasCard.lean, 'card_holds'). Laid BY PROGRAM, IN A SANDBOX (cutbox-door.mjs). By AI agents, Wed Nov 11 2026. No macro, syntax, notation, axiom, sorry.
-/
import Derived.Test.YtlfgncdneiempaaDoorRows
import GoSem.ClaimSeven
namespace Go.Proofs.YtlfgncdneiempaaDoor
namespace Rows

/-- THE TIED CARD OF 'hindcastlaw14.NamesParse'. -/
def namesParseCard : Claim7 := { stood := { row := namesParseRow, standIns := [], harness := (true, "24720737fc8c6ac223abcdc89f64a72dcae6d0e78cb00e981d02d469ad0a83a6"), looks := true }, kinds := [], alts := [], laidByText := true, laidKinds := [.data, .data, .data, .data, .sentinel, .sentinel, .pinned], laidTests := true, laidLooks := .later }
def NamesParseCardSaid : Prop := Claim7.holds Tryd.pinned (.plain (OpenSpec.ofChange namesParseSpec)) namesParseCard

/-- THE SECOND FORM's CARD OF 'hindcastlaw14.NamesParse'. -/
def namesParseUptoCard : Claim7 := { stood := { row := namesParseUptoRow, standIns := [], harness := (true, "24720737fc8c6ac223abcdc89f64a72dcae6d0e78cb00e981d02d469ad0a83a6"), looks := true }, kinds := [], alts := [], laidByText := true, laidKinds := [.data, .data, .data, .data, .sentinel, .sentinel, .pinned], laidTests := true, laidLooks := .later }
def NamesParseUptoCardSaid : Prop := Claim7.holds Tryd.pinned (.plain (OpenSpec.upto namesParseSpec)) namesParseUptoCard
end Rows
end Go.Proofs.YtlfgncdneiempaaDoor
