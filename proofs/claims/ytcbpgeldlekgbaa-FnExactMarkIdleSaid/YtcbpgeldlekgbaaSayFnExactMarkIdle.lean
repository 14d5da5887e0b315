/- The pure statement of the law FnExactMarkIdle: numbers and lists alone. No condition but the kinds' own ranges. -/
import Derived.Test.YtcbpgeldlekgbaaQFnExactMarkIdlex8
namespace Go.Proofs.Ytcbpgeldlekgbaa.Say
open Go.RowKit Go.Proofs.Ytcbpgeldlekgbaa.QFnExactMarkIdle Go.Proofs.YtcbpgeldlekgbaaW.PrintWords Go.Proofs.YtcbpgeldlekgbaaW.PrintLast Go.Proofs.YtcbpgeldlekgbaaW.PrintMore

def FnExactMarkIdle : Prop := ∀ (a0_0 : Int) (l0_1 : List (S96)) (a1 : Int) (a2 : Bool), (-9223372036854775808 ≤ a0_0 ∧ a0_0 ≤ 9223372036854775807) → (l0_1.length ≤ 9223372036854775807) → (∀ x ∈ l0_1, (-9223372036854775808 ≤ x.f0 ∧ x.f0 ≤ 9223372036854775807)) → (-9223372036854775808 ≤ a1 ∧ a1 ≤ 9223372036854775807) → ∃ k, laws_FnExactMarkIdle.f k a0_0 l0_1 a1 a2 = some true

end Go.Proofs.Ytcbpgeldlekgbaa.Say
