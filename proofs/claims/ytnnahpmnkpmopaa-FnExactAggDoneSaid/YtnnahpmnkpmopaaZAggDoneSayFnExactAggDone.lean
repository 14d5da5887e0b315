/- The pure statement of the law FnExactAggDone: numbers and lists alone. No condition but the kinds' own ranges. -/
import Derived.Test.YtnnahpmnkpmopaaZAggDoneQFnExactAggDonex13
namespace Go.Proofs.Ytnnahpmnkpmopaa.Say
open Go.RowKit Go.Proofs.Ytnnahpmnkpmopaa.QFnExactAggDone Go.Proofs.YtnnahpmnkpmopaaW.PrintWords Go.Proofs.YtnnahpmnkpmopaaW.PrintLast Go.Proofs.YtnnahpmnkpmopaaW.PrintMore

def FnExactAggDone : Prop := ∀ (a0 : Int) (a1 : Int) (a2_0 : Int) (a2_1 : Int) (a2_2 : Int) (a2_3 : Int) (a2_4 : Int) (l2_5 : List (Int)), (-9223372036854775808 ≤ a0 ∧ a0 ≤ 9223372036854775807) → (-9223372036854775808 ≤ a1 ∧ a1 ≤ 9223372036854775807) → (-9223372036854775808 ≤ a2_0 ∧ a2_0 ≤ 9223372036854775807) → (-9223372036854775808 ≤ a2_1 ∧ a2_1 ≤ 9223372036854775807) → (0 ≤ a2_2 ∧ a2_2 ≤ 18446744073709551615) → (-9223372036854775808 ≤ a2_3 ∧ a2_3 ≤ 9223372036854775807) → (-9223372036854775808 ≤ a2_4 ∧ a2_4 ≤ 9223372036854775807) → (l2_5.length ≤ 9223372036854775807) → (∀ x ∈ l2_5, -9223372036854775808 ≤ x ∧ x ≤ 9223372036854775807) → ∃ k, laws_FnExactAggDone.f k a0 a1 a2_0 a2_1 a2_2 a2_3 a2_4 l2_5 = some true

end Go.Proofs.Ytnnahpmnkpmopaa.Say
