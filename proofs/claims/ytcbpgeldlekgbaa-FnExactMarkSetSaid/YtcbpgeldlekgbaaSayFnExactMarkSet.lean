/- The pure statement of the law FnExactMarkSet: numbers and lists alone. No condition but the kinds' own ranges. -/
import Derived.Test.YtcbpgeldlekgbaaQFnExactMarkSetx8
namespace Go.Proofs.Ytcbpgeldlekgbaa.Say
open Go.RowKit Go.Proofs.Ytcbpgeldlekgbaa.QFnExactMarkSet Go.Proofs.YtcbpgeldlekgbaaW.PrintWords Go.Proofs.YtcbpgeldlekgbaaW.PrintLast Go.Proofs.YtcbpgeldlekgbaaW.PrintMore

def FnExactMarkSet : Prop := ∀ (a0_0 : Int) (l0_1 : List (S96)) (a1 : Int) (a2 : Int), (-9223372036854775808 ≤ a0_0 ∧ a0_0 ≤ 9223372036854775807) → (l0_1.length ≤ 9223372036854775807) → (∀ x ∈ l0_1, (-9223372036854775808 ≤ x.f0 ∧ x.f0 ≤ 9223372036854775807)) → (-9223372036854775808 ≤ a1 ∧ a1 ≤ 9223372036854775807) → (-9223372036854775808 ≤ a2 ∧ a2 ≤ 9223372036854775807) → ∃ k, laws_FnExactMarkSet.f k a0_0 l0_1 a1 a2 = some true

end Go.Proofs.Ytcbpgeldlekgbaa.Say
