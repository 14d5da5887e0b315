/- The pure statement of the law FnExactExprRead: numbers and lists alone. No condition but the kinds' own ranges. -/
import Derived.Test.YtloiamjekoecgaaDoorQFnExactExprReadx8
namespace Go.Proofs.YtloiamjekoecgaaDoor.Say
open Go.RowKit Go.Proofs.YtloiamjekoecgaaDoor.QFnExactExprRead Go.Proofs.YtloiamjekoecgaaDoorW.PrintWords Go.Proofs.YtloiamjekoecgaaDoorW.PrintLast Go.Proofs.YtloiamjekoecgaaDoorW.PrintMore

def FnExactExprRead : Prop := ∀ (a0 : ByteArray), (a0.size ≤ 9223372036854775807) → ∃ k, laws_FnExactExprRead.f k a0 = some true

end Go.Proofs.YtloiamjekoecgaaDoor.Say
