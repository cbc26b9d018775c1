/-
  No cell of these rows narrows 'for every input' (looked for: loops, veiled, ifaces, maps, wideKeys, modest, calm, conditions, laid).
  DERIVED. THE GIVEN ROWS OF THIS SEAT. 7 by the template 'for every input the law returns true; each argument reads behind the call as it read before'; 0 by the template 'total and deterministic' (their statements: YtmcmjhhkecflaaaTotals.lean).
  GIVEN WITH THE SEED: the statements are not yours to turn. If you find one false, say at which input.
  Laid BY PROGRAM, IN A SANDBOX (cutbox-rows.mjs): the forced cells as the released guide's own fill.sh prints them over the translation c42dcc4a7dcb781a… (all of the seat's roots in one cut). By AI agents, Wed Nov 11 2026. No macro, syntax, notation, axiom, sorry.
-/
import Derived.Test.YtmcmjhhkecflaaaChecked
import GoSem.Claim
import GoSem.ClaimJoined
import GoSem.ClaimMapViews
import Derived.JoinedTies
import Derived.KernelRfl
namespace Go.Proofs.Ytmcmjhhkecflaaa
/- THE CELL 'sum', in the pinned program and in every row, IS THE sha256 OF THE DUMP (.gsa) THAT YtmcmjhhkecflaaaProg.lean LOADS. Nothing in Lean hashes anything: it is a label: what it is worth is what the hold of that sum in a sandbox is worth. -/
noncomputable def Try.pinned : Pinned := { name := "ytmcmjhhkecflaaa", sum := "c42dcc4a7dcb781a56d00b976b84964496473962269a70fa6930ded448b7c634", checked := Try.checked }
namespace Rows
def none {H : Type} : Left H := { results := [], args := [] }

/-- 'hindcastlaw05.RngNext': WHATEVER THE INPUT: true; the input reads as it did. -/
def rngNextSpec : ChangeSpec := { name := "rngNext", fn := fun _ => fun
  | [d] => { results := [.lit (.bool true)], args := [d] }
  | _ => none }
def rngNextRow : OpenClaim := { program := "ytmcmjhhkecflaaa", sum := "c42dcc4a7dcb781a56d00b976b84964496473962269a70fa6930ded448b7c634", func := "hindcast/hindcastlaw05.RngNext", spec := "rngNext", apart := false }
def RngNextSaid : Prop := rngNextRow.holds Try.pinned (OpenSpec.ofChange rngNextSpec)

/-- ITS FALSE NEIGHBOUR: 'it returns false'. Refute it at one input. -/
def rngNextWrong : ChangeSpec := { name := "rngNext", fn := fun _ => fun
  | [d] => { results := [.lit (.bool false)], args := [d] }
  | _ => none }
def RngNextWrongFalsely : Prop := rngNextRow.holds Try.pinned (OpenSpec.ofChange rngNextWrong)

/-- 'hindcastlaw05.RngApart': WHATEVER THE INPUT: true; the input reads as it did. -/
def rngApartSpec : ChangeSpec := { name := "rngApart", fn := fun _ => fun
  | [d1, d2] => { results := [.lit (.bool true)], args := [d1, d2] }
  | _ => none }
def rngApartRow : OpenClaim := { program := "ytmcmjhhkecflaaa", sum := "c42dcc4a7dcb781a56d00b976b84964496473962269a70fa6930ded448b7c634", func := "hindcast/hindcastlaw05.RngApart", spec := "rngApart", apart := false }
def RngApartSaid : Prop := rngApartRow.holds Try.pinned (OpenSpec.ofChange rngApartSpec)

/-- ITS FALSE NEIGHBOUR: 'it returns false'. Refute it at one input. -/
def rngApartWrong : ChangeSpec := { name := "rngApart", fn := fun _ => fun
  | [d1, d2] => { results := [.lit (.bool false)], args := [d1, d2] }
  | _ => none }
def RngApartWrongFalsely : Prop := rngApartRow.holds Try.pinned (OpenSpec.ofChange rngApartWrong)

/-- 'hindcastlaw05.RngSkips': WHATEVER THE INPUT: true; the input reads as it did. -/
def rngSkipsSpec : ChangeSpec := { name := "rngSkips", fn := fun _ => fun
  | [d1, d2] => { results := [.lit (.bool true)], args := [d1, d2] }
  | _ => none }
def rngSkipsRow : OpenClaim := { program := "ytmcmjhhkecflaaa", sum := "c42dcc4a7dcb781a56d00b976b84964496473962269a70fa6930ded448b7c634", func := "hindcast/hindcastlaw05.RngSkips", spec := "rngSkips", unfollowed := true, recurses := true, apart := false }
def RngSkipsSaid : Prop := rngSkipsRow.holds Try.pinned (OpenSpec.ofChange rngSkipsSpec)

/-- ITS FALSE NEIGHBOUR: 'it returns false'. Refute it at one input. -/
def rngSkipsWrong : ChangeSpec := { name := "rngSkips", fn := fun _ => fun
  | [d1, d2] => { results := [.lit (.bool false)], args := [d1, d2] }
  | _ => none }
def RngSkipsWrongFalsely : Prop := rngSkipsRow.holds Try.pinned (OpenSpec.ofChange rngSkipsWrong)

/-- 'hindcastlaw05.RngGoes': WHATEVER THE INPUT: true; the input reads as it did. -/
def rngGoesSpec : ChangeSpec := { name := "rngGoes", fn := fun _ => fun
  | [d1, d2, d3] => { results := [.lit (.bool true)], args := [d1, d2, d3] }
  | _ => none }
def rngGoesRow : OpenClaim := { program := "ytmcmjhhkecflaaa", sum := "c42dcc4a7dcb781a56d00b976b84964496473962269a70fa6930ded448b7c634", func := "hindcast/hindcastlaw05.RngGoes", spec := "rngGoes", unfollowed := true, recurses := true, apart := false }
def RngGoesSaid : Prop := rngGoesRow.holds Try.pinned (OpenSpec.ofChange rngGoesSpec)

/-- ITS FALSE NEIGHBOUR: 'it returns false'. Refute it at one input. -/
def rngGoesWrong : ChangeSpec := { name := "rngGoes", fn := fun _ => fun
  | [d1, d2, d3] => { results := [.lit (.bool false)], args := [d1, d2, d3] }
  | _ => none }
def RngGoesWrongFalsely : Prop := rngGoesRow.holds Try.pinned (OpenSpec.ofChange rngGoesWrong)

/-- 'hindcastlaw05.RngBelow': WHATEVER THE INPUT: true; the input reads as it did. -/
def rngBelowSpec : ChangeSpec := { name := "rngBelow", fn := fun _ => fun
  | [d1, d2] => { results := [.lit (.bool true)], args := [d1, d2] }
  | _ => none }
def rngBelowRow : OpenClaim := { program := "ytmcmjhhkecflaaa", sum := "c42dcc4a7dcb781a56d00b976b84964496473962269a70fa6930ded448b7c634", func := "hindcast/hindcastlaw05.RngBelow", spec := "rngBelow", apart := false }
def RngBelowSaid : Prop := rngBelowRow.holds Try.pinned (OpenSpec.ofChange rngBelowSpec)

/-- ITS FALSE NEIGHBOUR: 'it returns false'. Refute it at one input. -/
def rngBelowWrong : ChangeSpec := { name := "rngBelow", fn := fun _ => fun
  | [d1, d2] => { results := [.lit (.bool false)], args := [d1, d2] }
  | _ => none }
def RngBelowWrongFalsely : Prop := rngBelowRow.holds Try.pinned (OpenSpec.ofChange rngBelowWrong)

/-- 'hindcastlaw05.RngWithin': WHATEVER THE INPUT: true; the input reads as it did. -/
def rngWithinSpec : ChangeSpec := { name := "rngWithin", fn := fun _ => fun
  | [d1, d2] => { results := [.lit (.bool true)], args := [d1, d2] }
  | _ => none }
def rngWithinRow : OpenClaim := { program := "ytmcmjhhkecflaaa", sum := "c42dcc4a7dcb781a56d00b976b84964496473962269a70fa6930ded448b7c634", func := "hindcast/hindcastlaw05.RngWithin", spec := "rngWithin", apart := false }
def RngWithinSaid : Prop := rngWithinRow.holds Try.pinned (OpenSpec.ofChange rngWithinSpec)

/-- ITS FALSE NEIGHBOUR: 'it returns false'. Refute it at one input. -/
def rngWithinWrong : ChangeSpec := { name := "rngWithin", fn := fun _ => fun
  | [d1, d2] => { results := [.lit (.bool false)], args := [d1, d2] }
  | _ => none }
def RngWithinWrongFalsely : Prop := rngWithinRow.holds Try.pinned (OpenSpec.ofChange rngWithinWrong)

/-- 'hindcastlaw05.RngKnown': WHATEVER THE INPUT: true; the input reads as it did. -/
def rngKnownSpec : ChangeSpec := { name := "rngKnown", fn := fun _ => fun
  | [] => { results := [.lit (.bool true)], args := [] }
  | _ => none }
def rngKnownRow : OpenClaim := { program := "ytmcmjhhkecflaaa", sum := "c42dcc4a7dcb781a56d00b976b84964496473962269a70fa6930ded448b7c634", func := "hindcast/hindcastlaw05.RngKnown", spec := "rngKnown", unfollowed := true, recurses := true, apart := false }
def RngKnownSaid : Prop := rngKnownRow.holds Try.pinned (OpenSpec.ofChange rngKnownSpec)

/-- ITS FALSE NEIGHBOUR: 'it returns false'. Refute it at one input. -/
def rngKnownWrong : ChangeSpec := { name := "rngKnown", fn := fun _ => fun
  | [] => { results := [.lit (.bool false)], args := [] }
  | _ => none }
def RngKnownWrongFalsely : Prop := rngKnownRow.holds Try.pinned (OpenSpec.ofChange rngKnownWrong)

/- THE SECOND FORM. 'bulk': how many values and letters a reading holds, each counted each time it is reached (what is shared counts as often as it is met; a slice's spare places count too). A statement '..UptoSaid' is the law's where the arguments, and the package variables that the reading takes, are together of bulk at most 1048576: NARROWER than '..Said'. Prove '..Said' where nothing that the law and all that it calls make is longer than what came in: it says more and counts as full. Else prove '..UptoSaid'. A law counts once. -/
mutual
def uptoBulk {H : Type} : DataW H → Nat
  | .lit (.string bytes) => bytes.length + 1
  | .lit _ => 1
  | .nil => 1
  | .ptr d => uptoBulk d + 1
  | .slice elems spare => uptoBulkAll elems + uptoBulkAll spare + 1
  | .agg parts => uptoBulkAll parts + 1
  | .iface _ d => uptoBulk d + 1
  | .map entries => uptoBulkEntries entries + 1
  | .held _ => 1
def uptoBulkAll {H : Type} : List (DataW H) → Nat
  | [] => 0
  | d :: r => uptoBulk d + uptoBulkAll r
def uptoBulkEntries {H : Type} : List (Lit × DataW H) → Nat
  | [] => 0
  | x :: r => uptoBulkEntry x + uptoBulkEntries r
def uptoBulkEntry {H : Type} : Lit × DataW H → Nat
  | (.string bytes, d) => bytes.length + uptoBulk d + 1
  | (_, d) => uptoBulk d + 1
 end
def uptoSmall : (H : Type) → List (DataW H) → Bool := fun _ ds => decide (uptoBulkAll ds ≤ 1048576)
def OpenSpec.upto (s : _root_.Go.ChangeSpec) : _root_.Go.OpenSpec := { _root_.Go.OpenSpec.ofChange s with cond := some uptoSmall }

/-- 'hindcastlaw05.RngNext', WHERE WHAT IT READS IS OF BULK AT MOST 1048576: true; the input reads as it did. -/
def rngNextUptoRow : OpenClaim := { program := "ytmcmjhhkecflaaa", sum := "c42dcc4a7dcb781a56d00b976b84964496473962269a70fa6930ded448b7c634", func := "hindcast/hindcastlaw05.RngNext", spec := "rngNext", apart := false, narrowed := true }
def RngNextUptoSaid : Prop := rngNextUptoRow.holds Try.pinned (OpenSpec.upto rngNextSpec)

/-- 'hindcastlaw05.RngApart', WHERE WHAT IT READS IS OF BULK AT MOST 1048576: true; the input reads as it did. -/
def rngApartUptoRow : OpenClaim := { program := "ytmcmjhhkecflaaa", sum := "c42dcc4a7dcb781a56d00b976b84964496473962269a70fa6930ded448b7c634", func := "hindcast/hindcastlaw05.RngApart", spec := "rngApart", apart := false, narrowed := true }
def RngApartUptoSaid : Prop := rngApartUptoRow.holds Try.pinned (OpenSpec.upto rngApartSpec)

/-- 'hindcastlaw05.RngSkips', WHERE WHAT IT READS IS OF BULK AT MOST 1048576: true; the input reads as it did. -/
def rngSkipsUptoRow : OpenClaim := { program := "ytmcmjhhkecflaaa", sum := "c42dcc4a7dcb781a56d00b976b84964496473962269a70fa6930ded448b7c634", func := "hindcast/hindcastlaw05.RngSkips", spec := "rngSkips", unfollowed := true, recurses := true, apart := false, narrowed := true }
def RngSkipsUptoSaid : Prop := rngSkipsUptoRow.holds Try.pinned (OpenSpec.upto rngSkipsSpec)

/-- 'hindcastlaw05.RngGoes', WHERE WHAT IT READS IS OF BULK AT MOST 1048576: true; the input reads as it did. -/
def rngGoesUptoRow : OpenClaim := { program := "ytmcmjhhkecflaaa", sum := "c42dcc4a7dcb781a56d00b976b84964496473962269a70fa6930ded448b7c634", func := "hindcast/hindcastlaw05.RngGoes", spec := "rngGoes", unfollowed := true, recurses := true, apart := false, narrowed := true }
def RngGoesUptoSaid : Prop := rngGoesUptoRow.holds Try.pinned (OpenSpec.upto rngGoesSpec)

/-- 'hindcastlaw05.RngBelow', WHERE WHAT IT READS IS OF BULK AT MOST 1048576: true; the input reads as it did. -/
def rngBelowUptoRow : OpenClaim := { program := "ytmcmjhhkecflaaa", sum := "c42dcc4a7dcb781a56d00b976b84964496473962269a70fa6930ded448b7c634", func := "hindcast/hindcastlaw05.RngBelow", spec := "rngBelow", apart := false, narrowed := true }
def RngBelowUptoSaid : Prop := rngBelowUptoRow.holds Try.pinned (OpenSpec.upto rngBelowSpec)

/-- 'hindcastlaw05.RngWithin', WHERE WHAT IT READS IS OF BULK AT MOST 1048576: true; the input reads as it did. -/
def rngWithinUptoRow : OpenClaim := { program := "ytmcmjhhkecflaaa", sum := "c42dcc4a7dcb781a56d00b976b84964496473962269a70fa6930ded448b7c634", func := "hindcast/hindcastlaw05.RngWithin", spec := "rngWithin", apart := false, narrowed := true }
def RngWithinUptoSaid : Prop := rngWithinUptoRow.holds Try.pinned (OpenSpec.upto rngWithinSpec)

/-- 'hindcastlaw05.RngKnown', WHERE WHAT IT READS IS OF BULK AT MOST 1048576: true; the input reads as it did. -/
def rngKnownUptoRow : OpenClaim := { program := "ytmcmjhhkecflaaa", sum := "c42dcc4a7dcb781a56d00b976b84964496473962269a70fa6930ded448b7c634", func := "hindcast/hindcastlaw05.RngKnown", spec := "rngKnown", unfollowed := true, recurses := true, apart := false, narrowed := true }
def RngKnownUptoSaid : Prop := rngKnownUptoRow.holds Try.pinned (OpenSpec.upto rngKnownSpec)

end Rows
end Go.Proofs.Ytmcmjhhkecflaaa
