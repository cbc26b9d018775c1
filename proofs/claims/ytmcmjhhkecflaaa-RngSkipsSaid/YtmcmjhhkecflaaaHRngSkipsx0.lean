-- out of the translation's print, by a program and by hand (wip/tools/hp.py)
import Derived.Test.YtmcmjhhkecflaaaProg
import Derived.Below
import Derived.Deep.Draws
import Derived.Deep.AppendLies
import Derived.Maps.AppendAt
import Derived.OwnWalk
import Derived.Laws.BytesArg
import Derived.Laws.MakeOwn
import Derived.Laws.OwnMore
import Derived.Deep.OwnRows
import Derived.Tactics
import Derived.Lib.ConvBytes
import Derived.Laws.Slices
import Derived.WalkKit
import Derived.KernelRfl
import Derived.RowKit3
import Derived.Deep.LoopGhost
import Derived.Deep.QuietTactic
import Derived.BigQuiet
import Derived.WideLaws
import Derived.Deep.DeepCutAuto
import Derived.Deep.CutBlock
import Derived.Deep.RegionHeld3
import Derived.Laws.Rows
import Derived.Lib.AppendStr
import Derived.ArgAppend
import Derived.Laws.IdiomCopy
import Derived.OrdersHeld
import Derived.Laws.BitsLemmas
import Derived.RowKit
import Derived.Test.YtmcmjhhkecflaaaWWords
import Derived.Test.YtmcmjhhkecflaaaWLast
import Derived.Test.YtmcmjhhkecflaaaWTab
import Derived.Test.YtmcmjhhkecflaaaWFour
import Derived.Test.YtmcmjhhkecflaaaWQPut
import Derived.Test.YtmcmjhhkecflaaaWApart
import Derived.Test.YtmcmjhhkecflaaaWArr
import Derived.Test.YtmcmjhhkecflaaaWZeros
import Derived.Test.YtmcmjhhkecflaaaWFoot
import Derived.Test.YtmcmjhhkecflaaaWKept
import Derived.Test.YtmcmjhhkecflaaaWShare
import Derived.Test.YtmcmjhhkecflaaaWN
import Derived.Test.YtmcmjhhkecflaaaWFootNe
import Derived.Test.YtmcmjhhkecflaaaWAt
import Derived.Test.YtmcmjhhkecflaaaWEqStruct
import Derived.Test.YtmcmjhhkecflaaaWRepsOne
import Derived.Test.YtmcmjhhkecflaaaWInv
import Derived.Test.YtmcmjhhkecflaaaWInvWords
import Derived.Test.YtmcmjhhkecflaaaWGuard
import Derived.Test.YtmcmjhhkecflaaaWNEv
import Derived.Test.YtmcmjhhkecflaaaWMore
namespace Go.Proofs.Ytmcmjhhkecflaaa.HRngSkips
open Go.RowKit Go.Proofs.YtmcmjhhkecflaaaW.PrintWords Go.Proofs.YtmcmjhhkecflaaaW.PrintLast Go.Proofs.YtmcmjhhkecflaaaW.PrintMore
attribute [local go_sem] max2_int min2_int max_two min_two max_three min_three max_four min_four   -- for this text's walks alone
set_option linter.unusedVariables false
set_option linter.unusedSimpArgs false



def errW : Option Int → Value
  | none => .nilIface
  | some c => .iface 0 (.int .i64 c)
theorem errW_none : errW none = .nilIface := rfl
theorem errW_some (c : Int) : errW (some c) = .iface 0 (.int .i64 c) := rfl

-- the values' own types

end Go.Proofs.Ytmcmjhhkecflaaa.HRngSkips
