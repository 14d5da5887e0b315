/- The pure statement of the law FnExactMarksOk: numbers and lists alone. No condition but the kinds' own ranges. -/
import Derived.Test.YtcbpgeldlekgbaaPFnExactMarksOkx4
namespace Go.Proofs.Ytcbpgeldlekgbaa.Say
open Go.RowKit Go.Proofs.Ytcbpgeldlekgbaa.PFnExactMarksOk Go.Proofs.YtcbpgeldlekgbaaW.PrintWords Go.Proofs.YtcbpgeldlekgbaaW.PrintLast Go.Proofs.YtcbpgeldlekgbaaW.PrintMore

def FnExactMarksOk : Prop := ∀ (a0_0 : Int) (l0_1 : List (S96)), (-9223372036854775808 ≤ a0_0 ∧ a0_0 ≤ 9223372036854775807) → (l0_1.length ≤ 9223372036854775807) → (∀ x ∈ l0_1, (-9223372036854775808 ≤ x.f0 ∧ x.f0 ≤ 9223372036854775807)) → ∃ k, laws_FnExactMarksOk.f k a0_0 l0_1 = some true

end Go.Proofs.Ytcbpgeldlekgbaa.Say
