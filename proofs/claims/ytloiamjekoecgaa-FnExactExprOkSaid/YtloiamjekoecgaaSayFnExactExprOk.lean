/- The pure statement of the law FnExactExprOk: numbers and lists alone. No condition but the kinds' own ranges. -/
import Derived.Test.YtloiamjekoecgaaPFnExactExprOkx3
namespace Go.Proofs.Ytloiamjekoecgaa.Say
open Go.RowKit Go.Proofs.Ytloiamjekoecgaa.PFnExactExprOk Go.Proofs.YtloiamjekoecgaaW.PrintWords Go.Proofs.YtloiamjekoecgaaW.PrintLast Go.Proofs.YtloiamjekoecgaaW.PrintMore

def FnExactExprOk : Prop := ∀ (l0 : List (S48)), (l0.length ≤ 9223372036854775807) → (∀ x ∈ l0, (-9223372036854775808 ≤ x.f0 ∧ x.f0 ≤ 9223372036854775807) ∧ (-9223372036854775808 ≤ x.f1 ∧ x.f1 ≤ 9223372036854775807)) → ∃ k, laws_FnExactExprOk.f k l0 = some true

end Go.Proofs.Ytloiamjekoecgaa.Say
