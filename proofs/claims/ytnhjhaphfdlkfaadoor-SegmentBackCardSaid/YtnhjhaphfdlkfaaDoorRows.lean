/-
  NARROWER THAN 'FOR EVERY INPUT', by the rows' own cells (each row's printed sentence says how): ManifestPuts: laid · ManifestTakes: laid · ManifestBack: laid · SegmentScans: laid · SegmentBack: laid · SegmentOrder: laid.
  DERIVED. THE GIVEN ROWS OF THIS SEAT. 6 by the template 'for every input the law returns true; each argument reads behind the call as it read before'; 0 by the template 'total and deterministic' (their statements: YtnhjhaphfdlkfaaDoorTotals.lean).
  GIVEN WITH THE SEED: the statements are not yours to turn. If you find one false, say at which input.
  Laid BY PROGRAM, IN A SANDBOX (cutbox-rows.mjs): the forced cells as the released guide's own fill.sh prints them over the translation 2a35ce95e54e1436… (all of the seat's roots in one cut). By AI agents, Wed Nov 11 2026. No macro, syntax, notation, axiom, sorry.
-/
import Derived.Test.YtnhjhaphfdlkfaaDoorChecked
import GoSem.Claim
import GoSem.ClaimJoined
import GoSem.ClaimMapViews
import Derived.JoinedTies
import Derived.KernelRfl
namespace Go.Proofs.YtnhjhaphfdlkfaaDoor
/- THE CELL 'sum', in the pinned program and in every row, IS THE sha256 OF THE DUMP (.gsa) THAT YtnhjhaphfdlkfaaDoorProg.lean LOADS. Nothing in Lean hashes anything: it is a label: what it is worth is what the hold of that sum in a sandbox is worth. -/
noncomputable def Tryd.pinned : Pinned := { name := "ytnhjhaphfdlkfaadoor", sum := "2a35ce95e54e1436313ebaea2b0f313739ca6df6d2df3a04098f4814161ec24f", checked := Tryd.checked }
namespace Rows
def none {H : Type} : Left H := { results := [], args := [] }

/- WHAT THE LISTED PACKAGE-LEVEL VARIABLES READ AS WHEN THE CALL BEGINS. Each datum BY PROGRAM (the guide's laid-datum.mjs) off the statement by which the dump's own 'gosem.cut.vars' lays the variable. In a bare row this is a premise. The card (YtnhjhaphfdlkfaaDoorCards.lean) ties it to the program's text. -/
def laid_hindcast_crc_steps {H : Type} : DataW H := .agg [.lit (.int .u32 0), .lit (.int .u32 498536548), .lit (.int .u32 997073096), .lit (.int .u32 651767980), .lit (.int .u32 1994146192), .lit (.int .u32 1802195444), .lit (.int .u32 1303535960), .lit (.int .u32 1342533948), .lit (.int .u32 3988292384), .lit (.int .u32 4027552580), .lit (.int .u32 3604390888), .lit (.int .u32 3412177804), .lit (.int .u32 2607071920), .lit (.int .u32 2262029012), .lit (.int .u32 2685067896), .lit (.int .u32 3183342108)]

/-- 'hindcastlaw17.ManifestPuts': WHATEVER THE INPUT: true; the input reads as it did. -/
def manifestPutsSpec : ChangeSpec := { name := "manifestPuts", fn := fun _ => fun
  | [d] => { results := [.lit (.bool true)], args := [d] }
  | _ => none }
def manifestPutsRow : OpenClaim := { program := "ytnhjhaphfdlkfaadoor", sum := "2a35ce95e54e1436313ebaea2b0f313739ca6df6d2df3a04098f4814161ec24f", func := "hindcast/hindcastlaw17.ManifestPuts", spec := "manifestPuts", named := ["hindcast/crc.steps"], apart := false, laid := [("hindcast/crc.steps", laid_hindcast_crc_steps)] }
def ManifestPutsSaid : Prop := manifestPutsRow.holds Tryd.pinned (OpenSpec.ofChange manifestPutsSpec)

/-- ITS FALSE NEIGHBOUR: 'it returns false'. Refute it at one input. -/
def manifestPutsWrong : ChangeSpec := { name := "manifestPuts", fn := fun _ => fun
  | [d] => { results := [.lit (.bool false)], args := [d] }
  | _ => none }
def ManifestPutsWrongFalsely : Prop := manifestPutsRow.holds Tryd.pinned (OpenSpec.ofChange manifestPutsWrong)

/-- 'hindcastlaw17.ManifestTakes': WHATEVER THE INPUT: true; the input reads as it did. -/
def manifestTakesSpec : ChangeSpec := { name := "manifestTakes", fn := fun _ => fun
  | [d] => { results := [.lit (.bool true)], args := [d] }
  | _ => none }
def manifestTakesRow : OpenClaim := { program := "ytnhjhaphfdlkfaadoor", sum := "2a35ce95e54e1436313ebaea2b0f313739ca6df6d2df3a04098f4814161ec24f", func := "hindcast/hindcastlaw17.ManifestTakes", spec := "manifestTakes", named := ["hindcast/crc.steps"], apart := false, laid := [("hindcast/crc.steps", laid_hindcast_crc_steps)] }
def ManifestTakesSaid : Prop := manifestTakesRow.holds Tryd.pinned (OpenSpec.ofChange manifestTakesSpec)

/-- ITS FALSE NEIGHBOUR: 'it returns false'. Refute it at one input. -/
def manifestTakesWrong : ChangeSpec := { name := "manifestTakes", fn := fun _ => fun
  | [d] => { results := [.lit (.bool false)], args := [d] }
  | _ => none }
def ManifestTakesWrongFalsely : Prop := manifestTakesRow.holds Tryd.pinned (OpenSpec.ofChange manifestTakesWrong)

/-- 'hindcastlaw17.ManifestBack': WHATEVER THE INPUT: true; the input reads as it did. -/
def manifestBackSpec : ChangeSpec := { name := "manifestBack", fn := fun _ => fun
  | [d1, d2] => { results := [.lit (.bool true)], args := [d1, d2] }
  | _ => none }
def manifestBackRow : OpenClaim := { program := "ytnhjhaphfdlkfaadoor", sum := "2a35ce95e54e1436313ebaea2b0f313739ca6df6d2df3a04098f4814161ec24f", func := "hindcast/hindcastlaw17.ManifestBack", spec := "manifestBack", named := ["hindcast/crc.steps"], apart := false, laid := [("hindcast/crc.steps", laid_hindcast_crc_steps)] }
def ManifestBackSaid : Prop := manifestBackRow.holds Tryd.pinned (OpenSpec.ofChange manifestBackSpec)

/-- ITS FALSE NEIGHBOUR: 'it returns false'. Refute it at one input. -/
def manifestBackWrong : ChangeSpec := { name := "manifestBack", fn := fun _ => fun
  | [d1, d2] => { results := [.lit (.bool false)], args := [d1, d2] }
  | _ => none }
def ManifestBackWrongFalsely : Prop := manifestBackRow.holds Tryd.pinned (OpenSpec.ofChange manifestBackWrong)

/-- 'hindcastlaw16.SegmentScans': WHATEVER THE INPUT: true; the input reads as it did. -/
def segmentScansSpec : ChangeSpec := { name := "segmentScans", fn := fun _ => fun
  | [d1, d2] => { results := [.lit (.bool true)], args := [d1, d2] }
  | _ => none }
def segmentScansRow : OpenClaim := { program := "ytnhjhaphfdlkfaadoor", sum := "2a35ce95e54e1436313ebaea2b0f313739ca6df6d2df3a04098f4814161ec24f", func := "hindcast/hindcastlaw16.SegmentScans", spec := "segmentScans", unfollowed := true, recurses := true, named := ["hindcast/crc.steps"], apart := false, laid := [("hindcast/crc.steps", laid_hindcast_crc_steps)] }
def SegmentScansSaid : Prop := segmentScansRow.holds Tryd.pinned (OpenSpec.ofChange segmentScansSpec)

/-- ITS FALSE NEIGHBOUR: 'it returns false'. Refute it at one input. -/
def segmentScansWrong : ChangeSpec := { name := "segmentScans", fn := fun _ => fun
  | [d1, d2] => { results := [.lit (.bool false)], args := [d1, d2] }
  | _ => none }
def SegmentScansWrongFalsely : Prop := segmentScansRow.holds Tryd.pinned (OpenSpec.ofChange segmentScansWrong)

/-- 'hindcastlaw16.SegmentBack': WHATEVER THE INPUT: true; the input reads as it did. -/
def segmentBackSpec : ChangeSpec := { name := "segmentBack", fn := fun _ => fun
  | [d1, d2] => { results := [.lit (.bool true)], args := [d1, d2] }
  | _ => none }
def segmentBackRow : OpenClaim := { program := "ytnhjhaphfdlkfaadoor", sum := "2a35ce95e54e1436313ebaea2b0f313739ca6df6d2df3a04098f4814161ec24f", func := "hindcast/hindcastlaw16.SegmentBack", spec := "segmentBack", unfollowed := true, recurses := true, named := ["hindcast/crc.steps"], apart := false, laid := [("hindcast/crc.steps", laid_hindcast_crc_steps)] }
def SegmentBackSaid : Prop := segmentBackRow.holds Tryd.pinned (OpenSpec.ofChange segmentBackSpec)

/-- ITS FALSE NEIGHBOUR: 'it returns false'. Refute it at one input. -/
def segmentBackWrong : ChangeSpec := { name := "segmentBack", fn := fun _ => fun
  | [d1, d2] => { results := [.lit (.bool false)], args := [d1, d2] }
  | _ => none }
def SegmentBackWrongFalsely : Prop := segmentBackRow.holds Tryd.pinned (OpenSpec.ofChange segmentBackWrong)

/-- 'hindcastlaw16.SegmentOrder': WHATEVER THE INPUT: true; the input reads as it did. -/
def segmentOrderSpec : ChangeSpec := { name := "segmentOrder", fn := fun _ => fun
  | [d1, d2] => { results := [.lit (.bool true)], args := [d1, d2] }
  | _ => none }
def segmentOrderRow : OpenClaim := { program := "ytnhjhaphfdlkfaadoor", sum := "2a35ce95e54e1436313ebaea2b0f313739ca6df6d2df3a04098f4814161ec24f", func := "hindcast/hindcastlaw16.SegmentOrder", spec := "segmentOrder", unfollowed := true, recurses := true, named := ["hindcast/crc.steps"], apart := false, laid := [("hindcast/crc.steps", laid_hindcast_crc_steps)] }
def SegmentOrderSaid : Prop := segmentOrderRow.holds Tryd.pinned (OpenSpec.ofChange segmentOrderSpec)

/-- ITS FALSE NEIGHBOUR: 'it returns false'. Refute it at one input. -/
def segmentOrderWrong : ChangeSpec := { name := "segmentOrder", fn := fun _ => fun
  | [d1, d2] => { results := [.lit (.bool false)], args := [d1, d2] }
  | _ => none }
def SegmentOrderWrongFalsely : Prop := segmentOrderRow.holds Tryd.pinned (OpenSpec.ofChange segmentOrderWrong)

/- THE SECOND FORM. 'bulk': how many values and letters a reading holds, each counted each time it is reached (what is shared counts as often as it is met; a slice's spare places count too). A statement '..UptoSaid' is the law's where the arguments, and the package variables that the reading takes, are together of bulk at most 1048576: NARROWER than '..Said'. Prove '..Said' where nothing that the law and all that it calls make is longer than what came in: it says more and counts as full. Else prove '..UptoSaid'. A law counts once. -/
mutual
def uptoBulk {H : Type} : DataW H → Nat
  | .lit (.string bytes) => bytes.length + 1
  | .lit _ => 1
  | .nil => 1
  | .ptr d => uptoBulk d + 1
  | .slice elems spare => uptoBulkAll elems + uptoBulkAll spare + 1
  | .agg parts => uptoBulkAll parts + 1
  | .iface _ d => uptoBulk d + 1
  | .map entries => uptoBulkEntries entries + 1
  | .held _ => 1
def uptoBulkAll {H : Type} : List (DataW H) → Nat
  | [] => 0
  | d :: r => uptoBulk d + uptoBulkAll r
def uptoBulkEntries {H : Type} : List (Lit × DataW H) → Nat
  | [] => 0
  | x :: r => uptoBulkEntry x + uptoBulkEntries r
def uptoBulkEntry {H : Type} : Lit × DataW H → Nat
  | (.string bytes, d) => bytes.length + uptoBulk d + 1
  | (_, d) => uptoBulk d + 1
 end
def uptoSmall : (H : Type) → List (DataW H) → Bool := fun _ ds => decide (uptoBulkAll ds ≤ 1048576)
def OpenSpec.upto (s : _root_.Go.ChangeSpec) : _root_.Go.OpenSpec := { _root_.Go.OpenSpec.ofChange s with cond := some uptoSmall }

/-- 'hindcastlaw17.ManifestPuts', WHERE WHAT IT READS IS OF BULK AT MOST 1048576: true; the input reads as it did. -/
def manifestPutsUptoRow : OpenClaim := { program := "ytnhjhaphfdlkfaadoor", sum := "2a35ce95e54e1436313ebaea2b0f313739ca6df6d2df3a04098f4814161ec24f", func := "hindcast/hindcastlaw17.ManifestPuts", spec := "manifestPuts", named := ["hindcast/crc.steps"], apart := false, laid := [("hindcast/crc.steps", laid_hindcast_crc_steps)], narrowed := true }
def ManifestPutsUptoSaid : Prop := manifestPutsUptoRow.holds Tryd.pinned (OpenSpec.upto manifestPutsSpec)

/-- 'hindcastlaw17.ManifestTakes', WHERE WHAT IT READS IS OF BULK AT MOST 1048576: true; the input reads as it did. -/
def manifestTakesUptoRow : OpenClaim := { program := "ytnhjhaphfdlkfaadoor", sum := "2a35ce95e54e1436313ebaea2b0f313739ca6df6d2df3a04098f4814161ec24f", func := "hindcast/hindcastlaw17.ManifestTakes", spec := "manifestTakes", named := ["hindcast/crc.steps"], apart := false, laid := [("hindcast/crc.steps", laid_hindcast_crc_steps)], narrowed := true }
def ManifestTakesUptoSaid : Prop := manifestTakesUptoRow.holds Tryd.pinned (OpenSpec.upto manifestTakesSpec)

/-- 'hindcastlaw17.ManifestBack', WHERE WHAT IT READS IS OF BULK AT MOST 1048576: true; the input reads as it did. -/
def manifestBackUptoRow : OpenClaim := { program := "ytnhjhaphfdlkfaadoor", sum := "2a35ce95e54e1436313ebaea2b0f313739ca6df6d2df3a04098f4814161ec24f", func := "hindcast/hindcastlaw17.ManifestBack", spec := "manifestBack", named := ["hindcast/crc.steps"], apart := false, laid := [("hindcast/crc.steps", laid_hindcast_crc_steps)], narrowed := true }
def ManifestBackUptoSaid : Prop := manifestBackUptoRow.holds Tryd.pinned (OpenSpec.upto manifestBackSpec)

/-- 'hindcastlaw16.SegmentScans', WHERE WHAT IT READS IS OF BULK AT MOST 1048576: true; the input reads as it did. -/
def segmentScansUptoRow : OpenClaim := { program := "ytnhjhaphfdlkfaadoor", sum := "2a35ce95e54e1436313ebaea2b0f313739ca6df6d2df3a04098f4814161ec24f", func := "hindcast/hindcastlaw16.SegmentScans", spec := "segmentScans", unfollowed := true, recurses := true, named := ["hindcast/crc.steps"], apart := false, laid := [("hindcast/crc.steps", laid_hindcast_crc_steps)], narrowed := true }
def SegmentScansUptoSaid : Prop := segmentScansUptoRow.holds Tryd.pinned (OpenSpec.upto segmentScansSpec)

/-- 'hindcastlaw16.SegmentBack', WHERE WHAT IT READS IS OF BULK AT MOST 1048576: true; the input reads as it did. -/
def segmentBackUptoRow : OpenClaim := { program := "ytnhjhaphfdlkfaadoor", sum := "2a35ce95e54e1436313ebaea2b0f313739ca6df6d2df3a04098f4814161ec24f", func := "hindcast/hindcastlaw16.SegmentBack", spec := "segmentBack", unfollowed := true, recurses := true, named := ["hindcast/crc.steps"], apart := false, laid := [("hindcast/crc.steps", laid_hindcast_crc_steps)], narrowed := true }
def SegmentBackUptoSaid : Prop := segmentBackUptoRow.holds Tryd.pinned (OpenSpec.upto segmentBackSpec)

/-- 'hindcastlaw16.SegmentOrder', WHERE WHAT IT READS IS OF BULK AT MOST 1048576: true; the input reads as it did. -/
def segmentOrderUptoRow : OpenClaim := { program := "ytnhjhaphfdlkfaadoor", sum := "2a35ce95e54e1436313ebaea2b0f313739ca6df6d2df3a04098f4814161ec24f", func := "hindcast/hindcastlaw16.SegmentOrder", spec := "segmentOrder", unfollowed := true, recurses := true, named := ["hindcast/crc.steps"], apart := false, laid := [("hindcast/crc.steps", laid_hindcast_crc_steps)], narrowed := true }
def SegmentOrderUptoSaid : Prop := segmentOrderUptoRow.holds Tryd.pinned (OpenSpec.upto segmentOrderSpec)

end Rows
end Go.Proofs.YtnhjhaphfdlkfaaDoor
