/- The chapter's examples hold: a closed statement. -/
import Derived.Test.YtmcmjhhkecflaaaHRngKnownx1
namespace Go.Proofs.Ytmcmjhhkecflaaa.Pure
open Go.RowKit Go.Proofs.Ytmcmjhhkecflaaa.HRngKnown Go.Proofs.YtmcmjhhkecflaaaW.PrintWords Go.Proofs.YtmcmjhhkecflaaaW.PrintLast

theorem RngKnown : hindcastlaw05_RngKnown.Pure := by
  unfold hindcastlaw05_RngKnown.Pure
  decide +kernel

end Go.Proofs.Ytmcmjhhkecflaaa.Pure
