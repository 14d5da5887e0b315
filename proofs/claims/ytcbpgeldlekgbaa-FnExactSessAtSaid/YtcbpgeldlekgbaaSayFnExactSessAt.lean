/- The pure statement of the law FnExactSessAt: numbers and lists alone. No condition but the kinds' own ranges. -/
import Derived.Test.YtcbpgeldlekgbaaPFnExactSessAtx5
namespace Go.Proofs.Ytcbpgeldlekgbaa.Say
open Go.RowKit Go.Proofs.Ytcbpgeldlekgbaa.PFnExactSessAt Go.Proofs.YtcbpgeldlekgbaaW.PrintWords Go.Proofs.YtcbpgeldlekgbaaW.PrintLast Go.Proofs.YtcbpgeldlekgbaaW.PrintMore

def FnExactSessAt : Prop := ∀ (l0 : List (S62)) (a1 : Int), (l0.length ≤ 9223372036854775807) → (∀ x ∈ l0, (-9223372036854775808 ≤ x.f0 ∧ x.f0 ≤ 9223372036854775807) ∧ (-9223372036854775808 ≤ x.f1 ∧ x.f1 ≤ 9223372036854775807)) → (-9223372036854775808 ≤ a1 ∧ a1 ≤ 9223372036854775807) → ∃ k, laws_FnExactSessAt.f k l0 a1 = some true

end Go.Proofs.Ytcbpgeldlekgbaa.Say
