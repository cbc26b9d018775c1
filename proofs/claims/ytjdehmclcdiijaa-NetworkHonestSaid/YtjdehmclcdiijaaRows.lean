/-
  No cell of these rows narrows 'for every input' (looked for: loops, veiled, ifaces, maps, wideKeys, modest, calm, conditions, laid).
  DERIVED. THE GIVEN ROWS OF THIS SEAT. 4 by the template 'for every input the law returns true; each argument reads behind the call as it read before'; 0 by the template 'total and deterministic' (their statements: YtjdehmclcdiijaaTotals.lean).
  GIVEN WITH THE SEED: the statements are not yours to turn. If you find one false, say at which input.
  Laid BY PROGRAM, IN A SANDBOX (cutbox-rows.mjs): the forced cells as the released guide's own fill.sh prints them over the translation af69915e89f370e3… (all of the seat's roots in one cut). By AI agents, Wed Nov 11 2026. No macro, syntax, notation, axiom, sorry.
-/
import Derived.Test.YtjdehmclcdiijaaChecked
import GoSem.Claim
import GoSem.ClaimJoined
import GoSem.ClaimMapViews
import Derived.JoinedTies
import Derived.KernelRfl
namespace Go.Proofs.Ytjdehmclcdiijaa
/- THE CELL 'sum', in the pinned program and in every row, IS THE sha256 OF THE DUMP (.gsa) THAT YtjdehmclcdiijaaProg.lean LOADS. Nothing in Lean hashes anything: it is a label: what it is worth is what the hold of that sum in a sandbox is worth. -/
noncomputable def Try.pinned : Pinned := { name := "ytjdehmclcdiijaa", sum := "af69915e89f370e3ebdce3f26bfcca1a6fe7c41e1285b80f656af3ec07186593", checked := Try.checked }
namespace Rows
def none {H : Type} : Left H := { results := [], args := [] }

/-- 'hindcastlaw22.NetworkApart': WHATEVER THE INPUT: true; the input reads as it did. -/
def networkApartSpec : ChangeSpec := { name := "networkApart", fn := fun _ => fun
  | [d1, d2] => { results := [.lit (.bool true)], args := [d1, d2] }
  | _ => none }
def networkApartRow : OpenClaim := { program := "ytjdehmclcdiijaa", sum := "af69915e89f370e3ebdce3f26bfcca1a6fe7c41e1285b80f656af3ec07186593", func := "hindcast/hindcastlaw22.NetworkApart", spec := "networkApart", inPlace := ["sync/atomic.AddInt64"], unfollowed := true, recurses := true, apart := false }
def NetworkApartSaid : Prop := networkApartRow.holds Try.pinned (OpenSpec.ofChange networkApartSpec)

/-- ITS FALSE NEIGHBOUR: 'it returns false'. Refute it at one input. -/
def networkApartWrong : ChangeSpec := { name := "networkApart", fn := fun _ => fun
  | [d1, d2] => { results := [.lit (.bool false)], args := [d1, d2] }
  | _ => none }
def NetworkApartWrongFalsely : Prop := networkApartRow.holds Try.pinned (OpenSpec.ofChange networkApartWrong)

/-- 'hindcastlaw22.NetworkHonest': WHATEVER THE INPUT: true; the input reads as it did. -/
def networkHonestSpec : ChangeSpec := { name := "networkHonest", fn := fun _ => fun
  | [d1, d2] => { results := [.lit (.bool true)], args := [d1, d2] }
  | _ => none }
def networkHonestRow : OpenClaim := { program := "ytjdehmclcdiijaa", sum := "af69915e89f370e3ebdce3f26bfcca1a6fe7c41e1285b80f656af3ec07186593", func := "hindcast/hindcastlaw22.NetworkHonest", spec := "networkHonest", inPlace := ["sync/atomic.AddInt64"], unfollowed := true, recurses := true, apart := false }
def NetworkHonestSaid : Prop := networkHonestRow.holds Try.pinned (OpenSpec.ofChange networkHonestSpec)

/-- ITS FALSE NEIGHBOUR: 'it returns false'. Refute it at one input. -/
def networkHonestWrong : ChangeSpec := { name := "networkHonest", fn := fun _ => fun
  | [d1, d2] => { results := [.lit (.bool false)], args := [d1, d2] }
  | _ => none }
def NetworkHonestWrongFalsely : Prop := networkHonestRow.holds Try.pinned (OpenSpec.ofChange networkHonestWrong)

/-- 'hindcastlaw22.NetworkPlays': WHATEVER THE INPUT: true; the input reads as it did. -/
def networkPlaysSpec : ChangeSpec := { name := "networkPlays", fn := fun _ => fun
  | [d1, d2] => { results := [.lit (.bool true)], args := [d1, d2] }
  | _ => none }
def networkPlaysRow : OpenClaim := { program := "ytjdehmclcdiijaa", sum := "af69915e89f370e3ebdce3f26bfcca1a6fe7c41e1285b80f656af3ec07186593", func := "hindcast/hindcastlaw22.NetworkPlays", spec := "networkPlays", inPlace := ["sync/atomic.AddInt64", "sync/atomic.LoadInt64"], unfollowed := true, recurses := true, apart := false }
def NetworkPlaysSaid : Prop := networkPlaysRow.holds Try.pinned (OpenSpec.ofChange networkPlaysSpec)

/-- ITS FALSE NEIGHBOUR: 'it returns false'. Refute it at one input. -/
def networkPlaysWrong : ChangeSpec := { name := "networkPlays", fn := fun _ => fun
  | [d1, d2] => { results := [.lit (.bool false)], args := [d1, d2] }
  | _ => none }
def NetworkPlaysWrongFalsely : Prop := networkPlaysRow.holds Try.pinned (OpenSpec.ofChange networkPlaysWrong)

/-- 'hindcastlaw22.NetworkKnown': WHATEVER THE INPUT: true; the input reads as it did. -/
def networkKnownSpec : ChangeSpec := { name := "networkKnown", fn := fun _ => fun
  | [] => { results := [.lit (.bool true)], args := [] }
  | _ => none }
def networkKnownRow : OpenClaim := { program := "ytjdehmclcdiijaa", sum := "af69915e89f370e3ebdce3f26bfcca1a6fe7c41e1285b80f656af3ec07186593", func := "hindcast/hindcastlaw22.NetworkKnown", spec := "networkKnown", inPlace := ["sync/atomic.AddInt64", "sync/atomic.LoadInt64"], unfollowed := true, recurses := true, apart := false }
def NetworkKnownSaid : Prop := networkKnownRow.holds Try.pinned (OpenSpec.ofChange networkKnownSpec)

/-- ITS FALSE NEIGHBOUR: 'it returns false'. Refute it at one input. -/
def networkKnownWrong : ChangeSpec := { name := "networkKnown", fn := fun _ => fun
  | [] => { results := [.lit (.bool false)], args := [] }
  | _ => none }
def NetworkKnownWrongFalsely : Prop := networkKnownRow.holds Try.pinned (OpenSpec.ofChange networkKnownWrong)

/- THE SECOND FORM. 'bulk': how many values and letters a reading holds, each counted each time it is reached (what is shared counts as often as it is met; a slice's spare places count too). A statement '..UptoSaid' is the law's where the arguments, and the package variables that the reading takes, are together of bulk at most 1048576: NARROWER than '..Said'. Prove '..Said' where nothing that the law and all that it calls make is longer than what came in: it says more and counts as full. Else prove '..UptoSaid'. A law counts once. -/
mutual
def uptoBulk {H : Type} : DataW H → Nat
  | .lit (.string bytes) => bytes.length + 1
  | .lit _ => 1
  | .nil => 1
  | .ptr d => uptoBulk d + 1
  | .slice elems spare => uptoBulkAll elems + uptoBulkAll spare + 1
  | .agg parts => uptoBulkAll parts + 1
  | .iface _ d => uptoBulk d + 1
  | .map entries => uptoBulkEntries entries + 1
  | .held _ => 1
def uptoBulkAll {H : Type} : List (DataW H) → Nat
  | [] => 0
  | d :: r => uptoBulk d + uptoBulkAll r
def uptoBulkEntries {H : Type} : List (Lit × DataW H) → Nat
  | [] => 0
  | x :: r => uptoBulkEntry x + uptoBulkEntries r
def uptoBulkEntry {H : Type} : Lit × DataW H → Nat
  | (.string bytes, d) => bytes.length + uptoBulk d + 1
  | (_, d) => uptoBulk d + 1
 end
def uptoSmall : (H : Type) → List (DataW H) → Bool := fun _ ds => decide (uptoBulkAll ds ≤ 1048576)
def OpenSpec.upto (s : _root_.Go.ChangeSpec) : _root_.Go.OpenSpec := { _root_.Go.OpenSpec.ofChange s with cond := some uptoSmall }

/-- 'hindcastlaw22.NetworkApart', WHERE WHAT IT READS IS OF BULK AT MOST 1048576: true; the input reads as it did. -/
def networkApartUptoRow : OpenClaim := { program := "ytjdehmclcdiijaa", sum := "af69915e89f370e3ebdce3f26bfcca1a6fe7c41e1285b80f656af3ec07186593", func := "hindcast/hindcastlaw22.NetworkApart", spec := "networkApart", inPlace := ["sync/atomic.AddInt64"], unfollowed := true, recurses := true, apart := false, narrowed := true }
def NetworkApartUptoSaid : Prop := networkApartUptoRow.holds Try.pinned (OpenSpec.upto networkApartSpec)

/-- 'hindcastlaw22.NetworkHonest', WHERE WHAT IT READS IS OF BULK AT MOST 1048576: true; the input reads as it did. -/
def networkHonestUptoRow : OpenClaim := { program := "ytjdehmclcdiijaa", sum := "af69915e89f370e3ebdce3f26bfcca1a6fe7c41e1285b80f656af3ec07186593", func := "hindcast/hindcastlaw22.NetworkHonest", spec := "networkHonest", inPlace := ["sync/atomic.AddInt64"], unfollowed := true, recurses := true, apart := false, narrowed := true }
def NetworkHonestUptoSaid : Prop := networkHonestUptoRow.holds Try.pinned (OpenSpec.upto networkHonestSpec)

/-- 'hindcastlaw22.NetworkPlays', WHERE WHAT IT READS IS OF BULK AT MOST 1048576: true; the input reads as it did. -/
def networkPlaysUptoRow : OpenClaim := { program := "ytjdehmclcdiijaa", sum := "af69915e89f370e3ebdce3f26bfcca1a6fe7c41e1285b80f656af3ec07186593", func := "hindcast/hindcastlaw22.NetworkPlays", spec := "networkPlays", inPlace := ["sync/atomic.AddInt64", "sync/atomic.LoadInt64"], unfollowed := true, recurses := true, apart := false, narrowed := true }
def NetworkPlaysUptoSaid : Prop := networkPlaysUptoRow.holds Try.pinned (OpenSpec.upto networkPlaysSpec)

/-- 'hindcastlaw22.NetworkKnown', WHERE WHAT IT READS IS OF BULK AT MOST 1048576: true; the input reads as it did. -/
def networkKnownUptoRow : OpenClaim := { program := "ytjdehmclcdiijaa", sum := "af69915e89f370e3ebdce3f26bfcca1a6fe7c41e1285b80f656af3ec07186593", func := "hindcast/hindcastlaw22.NetworkKnown", spec := "networkKnown", inPlace := ["sync/atomic.AddInt64", "sync/atomic.LoadInt64"], unfollowed := true, recurses := true, apart := false, narrowed := true }
def NetworkKnownUptoSaid : Prop := networkKnownUptoRow.holds Try.pinned (OpenSpec.upto networkKnownSpec)

end Rows
end Go.Proofs.Ytjdehmclcdiijaa
