/- The pure statement of the law FnExactExprText: numbers and lists alone. No condition but the kinds' own ranges. -/
import Derived.Test.YtloiamjekoecgaaDoorQFnExactExprTextx5
namespace Go.Proofs.YtloiamjekoecgaaDoor.Say
open Go.RowKit Go.Proofs.YtloiamjekoecgaaDoor.QFnExactExprText Go.Proofs.YtloiamjekoecgaaDoorW.PrintWords Go.Proofs.YtloiamjekoecgaaDoorW.PrintLast Go.Proofs.YtloiamjekoecgaaDoorW.PrintMore

def FnExactExprText : Prop := ∀ (l0 : List (S57)), (l0.length ≤ 9223372036854775807) → (∀ x ∈ l0, (-9223372036854775808 ≤ x.f0 ∧ x.f0 ≤ 9223372036854775807) ∧ (-9223372036854775808 ≤ x.f1 ∧ x.f1 ≤ 9223372036854775807)) → ∃ k, laws_FnExactExprText.f k l0 = some true

end Go.Proofs.YtloiamjekoecgaaDoor.Say
