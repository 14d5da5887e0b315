/- The pure statement of the law FnExactExprDepth: numbers and lists alone. No condition but the kinds' own ranges. -/
import Derived.Test.YtloiamjekoecgaaPFnExactExprDepthx2
namespace Go.Proofs.Ytloiamjekoecgaa.Say
open Go.RowKit Go.Proofs.Ytloiamjekoecgaa.PFnExactExprDepth Go.Proofs.YtloiamjekoecgaaW.PrintWords Go.Proofs.YtloiamjekoecgaaW.PrintLast Go.Proofs.YtloiamjekoecgaaW.PrintMore

def FnExactExprDepth : Prop := ∀ (l0 : List (S48)), (l0.length ≤ 9223372036854775807) → (∀ x ∈ l0, (-9223372036854775808 ≤ x.f0 ∧ x.f0 ≤ 9223372036854775807) ∧ (-9223372036854775808 ≤ x.f1 ∧ x.f1 ≤ 9223372036854775807)) → ∃ k, laws_FnExactExprDepth.f k l0 = some true

end Go.Proofs.Ytloiamjekoecgaa.Say
