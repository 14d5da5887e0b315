/- The pure statement of the law FnExactAggOf: numbers and lists alone. No condition but the kinds' own ranges. -/
import Derived.Test.YtnnahpmnkpmopaaZAggOfQFnExactAggOfx5
namespace Go.Proofs.Ytnnahpmnkpmopaa.Say
open Go.RowKit Go.Proofs.Ytnnahpmnkpmopaa.QFnExactAggOf Go.Proofs.YtnnahpmnkpmopaaW.PrintWords Go.Proofs.YtnnahpmnkpmopaaW.PrintLast Go.Proofs.YtnnahpmnkpmopaaW.PrintMore

def FnExactAggOf : Prop := ∀ (l0 : List (Int)), (l0.length ≤ 9223372036854775807) → (∀ x ∈ l0, -9223372036854775808 ≤ x ∧ x ≤ 9223372036854775807) → ∃ k, laws_FnExactAggOf.f k l0 = some true

end Go.Proofs.Ytnnahpmnkpmopaa.Say
