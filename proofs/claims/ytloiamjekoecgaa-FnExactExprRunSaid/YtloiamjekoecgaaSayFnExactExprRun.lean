/- The pure statement of the law FnExactExprRun: numbers and lists alone. No condition but the kinds' own ranges. -/
import Derived.Test.YtloiamjekoecgaaPFnExactExprRunx8
namespace Go.Proofs.Ytloiamjekoecgaa.Say
open Go.RowKit Go.Proofs.Ytloiamjekoecgaa.PFnExactExprRun Go.Proofs.YtloiamjekoecgaaW.PrintWords Go.Proofs.YtloiamjekoecgaaW.PrintLast Go.Proofs.YtloiamjekoecgaaW.PrintMore

def FnExactExprRun : Prop := ∀ (l0 : List (S48)) (a1_0 : Int) (a1_1 : Int) (a1_2 : Int) (a1_3 : Int), (l0.length ≤ 9223372036854775807) → (∀ x ∈ l0, (-9223372036854775808 ≤ x.f0 ∧ x.f0 ≤ 9223372036854775807) ∧ (-9223372036854775808 ≤ x.f1 ∧ x.f1 ≤ 9223372036854775807)) → (-9223372036854775808 ≤ a1_0 ∧ a1_0 ≤ 9223372036854775807) → (-9223372036854775808 ≤ a1_1 ∧ a1_1 ≤ 9223372036854775807) → (-9223372036854775808 ≤ a1_2 ∧ a1_2 ≤ 9223372036854775807) → (-9223372036854775808 ≤ a1_3 ∧ a1_3 ≤ 9223372036854775807) → ∃ k, laws_FnExactExprRun.f k l0 a1_0 a1_1 a1_2 a1_3 = some true

end Go.Proofs.Ytloiamjekoecgaa.Say
