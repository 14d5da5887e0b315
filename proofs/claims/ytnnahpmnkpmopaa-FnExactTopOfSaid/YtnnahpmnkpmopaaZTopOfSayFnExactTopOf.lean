/- The pure statement of the law FnExactTopOf: numbers and lists alone. No condition but the kinds' own ranges. -/
import Derived.Test.YtnnahpmnkpmopaaZTopOfQFnExactTopOfx3
namespace Go.Proofs.Ytnnahpmnkpmopaa.Say
open Go.RowKit Go.Proofs.Ytnnahpmnkpmopaa.QFnExactTopOf Go.Proofs.YtnnahpmnkpmopaaW.PrintWords Go.Proofs.YtnnahpmnkpmopaaW.PrintLast Go.Proofs.YtnnahpmnkpmopaaW.PrintMore

def FnExactTopOf : Prop := ∀ (l0 : List (Int)) (l1 : List (Int)), (l0.length ≤ 9223372036854775807) → (∀ x ∈ l0, -9223372036854775808 ≤ x ∧ x ≤ 9223372036854775807) → (l1.length ≤ 9223372036854775807) → (∀ x ∈ l1, -9223372036854775808 ≤ x ∧ x ≤ 9223372036854775807) → ∃ k, laws_FnExactTopOf.f k l0 l1 = some true

end Go.Proofs.Ytnnahpmnkpmopaa.Say
