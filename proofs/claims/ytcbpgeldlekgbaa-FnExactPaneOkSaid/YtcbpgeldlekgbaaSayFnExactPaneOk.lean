/- The pure statement of the law FnExactPaneOk: numbers and lists alone. No condition but the kinds' own ranges. -/
import Derived.Test.YtcbpgeldlekgbaaPFnExactPaneOkx2
namespace Go.Proofs.Ytcbpgeldlekgbaa.Say
open Go.RowKit Go.Proofs.Ytcbpgeldlekgbaa.PFnExactPaneOk Go.Proofs.YtcbpgeldlekgbaaW.PrintWords Go.Proofs.YtcbpgeldlekgbaaW.PrintLast Go.Proofs.YtcbpgeldlekgbaaW.PrintMore

def FnExactPaneOk : Prop := ∀ (a0_0 : Int) (a0_1 : Int) (a0_2 : Int) (a0_3 : Int) (a0_4 : Int) (a0_5 : Int) (l0_6 : List (Int)) (a0_7 : Bool), (-9223372036854775808 ≤ a0_0 ∧ a0_0 ≤ 9223372036854775807) → (-9223372036854775808 ≤ a0_1 ∧ a0_1 ≤ 9223372036854775807) → (-9223372036854775808 ≤ a0_2 ∧ a0_2 ≤ 9223372036854775807) → (-9223372036854775808 ≤ a0_3 ∧ a0_3 ≤ 9223372036854775807) → (-9223372036854775808 ≤ a0_4 ∧ a0_4 ≤ 9223372036854775807) → (-9223372036854775808 ≤ a0_5 ∧ a0_5 ≤ 9223372036854775807) → (l0_6.length ≤ 9223372036854775807) → (∀ x ∈ l0_6, -9223372036854775808 ≤ x ∧ x ≤ 9223372036854775807) → ∃ k, laws_FnExactPaneOk.f k a0_0 a0_1 a0_2 a0_3 a0_4 a0_5 l0_6 a0_7 = some true

end Go.Proofs.Ytcbpgeldlekgbaa.Say
