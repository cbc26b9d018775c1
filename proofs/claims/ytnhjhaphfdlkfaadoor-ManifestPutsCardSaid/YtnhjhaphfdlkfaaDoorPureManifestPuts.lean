/- Whether any manifest may be, and its text, are the document's. Conditions: none but the law's own guard. -/
import Derived.Test.YtnhjhaphfdlkfaaDoorPM
import Derived.Test.YtnhjhaphfdlkfaaDoorHMx7
set_option linter.unusedVariables false
namespace Go.Proofs.YtnhjhaphfdlkfaaDoor.PM
open Go.RowKit Go.Proofs.YtnhjhaphfdlkfaaDoor.HM Go.Proofs.YtnhjhaphfdlkfaaDoorW.PrintWords Go.Proofs.YtnhjhaphfdlkfaaDoorW.PrintLast Go.Proofs.YtnhjhaphfdlkfaaDoorW.PrintMore
open Go.Proofs.YtnhjhaphfdlkfaaDoor.PB

set_option maxRecDepth 100000 in
theorem awake_f : hindcastlaw17_awake.f 100001 = some true := by decide +kernel

theorem puts_f (e p : Int) (l2 : List S78) (l3 : List Int) (he : 0 ≤ e ∧ e < 18446744073709551616) (hp : 0 ≤ p ∧ p < 256) (ho : okNums l2 l3) : hindcastlaw17_ManifestPuts.f 100001 e p l2 l3 = some true := by
  unfold hindcastlaw17_ManifestPuts.f hindcastlaw17_few.f
  by_cases h2 : (l2.length : Int) ≤ 50
  · rw [if_pos h2, Option.bind_some]
    by_cases h3 : (l3.length : Int) ≤ 50
    · have d3 : decide ((l3.length : Int) ≤ 50) = true := decide_eq_true h3
      rw [if_pos d3, put_f e p l2 l3 he hp ho (by omega) (by omega) _ (by decide), theirs_f e p l2 l3 (by omega) (by omega) _ (by decide), Option.bind_some, Option.bind_some, ref_put e p l2 l3 he hp ho (by omega) (by omega) _ (by decide), Option.bind_some, if_pos rfl, if_pos rfl, check_f e p l2 l3 _ (by decide), Option.bind_some, awake_f]
      by_cases h : okB e p l2 l3 = true
      · rw [if_pos h, if_pos h, if_pos rfl]; rfl
      · rw [if_neg h, if_neg h, if_pos rfl]; rfl
    · have d3 : decide ((l3.length : Int) ≤ 50) = false := decide_eq_false h3
      rw [if_neg (by rw [d3]; decide), awake_f]; rfl
  · rw [if_neg h2, Option.bind_some, if_neg (by decide), awake_f]; rfl
end Go.Proofs.YtnhjhaphfdlkfaaDoor.PM
