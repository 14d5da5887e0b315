/- The pure statement of the law FnExactWideMean: numbers and lists alone. No condition but the kinds' own ranges. -/
import Derived.Test.YtloiamjekoecgaaQFnExactWideMeanx5
namespace Go.Proofs.Ytloiamjekoecgaa.Say
open Go.RowKit Go.Proofs.Ytloiamjekoecgaa.QFnExactWideMean Go.Proofs.YtloiamjekoecgaaW.PrintWords Go.Proofs.YtloiamjekoecgaaW.PrintLast Go.Proofs.YtloiamjekoecgaaW.PrintMore

def FnExactWideMean : Prop := ∀ (a0_0 : Int) (a0_1 : Int) (a1 : Int), (-9223372036854775808 ≤ a0_0 ∧ a0_0 ≤ 9223372036854775807) → (0 ≤ a0_1 ∧ a0_1 ≤ 18446744073709551615) → (-9223372036854775808 ≤ a1 ∧ a1 ≤ 9223372036854775807) → ∃ k, laws_FnExactWideMean.f k a0_0 a0_1 a1 = some true

end Go.Proofs.Ytloiamjekoecgaa.Say
