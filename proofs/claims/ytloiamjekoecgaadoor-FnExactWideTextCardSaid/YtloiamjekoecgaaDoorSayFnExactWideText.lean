/- The pure statement of the law FnExactWideText: numbers and lists alone. No condition but the kinds' own ranges. -/
import Derived.Test.YtloiamjekoecgaaDoorQFnExactWideTextx3
namespace Go.Proofs.YtloiamjekoecgaaDoor.Say
open Go.RowKit Go.Proofs.YtloiamjekoecgaaDoor.QFnExactWideText Go.Proofs.YtloiamjekoecgaaDoorW.PrintWords Go.Proofs.YtloiamjekoecgaaDoorW.PrintLast Go.Proofs.YtloiamjekoecgaaDoorW.PrintMore

def FnExactWideText : Prop := ∀ (a0_0 : Int) (a0_1 : Int), (-9223372036854775808 ≤ a0_0 ∧ a0_0 ≤ 9223372036854775807) → (0 ≤ a0_1 ∧ a0_1 ≤ 18446744073709551615) → ∃ k, laws_FnExactWideText.f k a0_0 a0_1 = some true

end Go.Proofs.YtloiamjekoecgaaDoor.Say
