/- The pure statement of the law FnExactAggJoin: numbers and lists alone. No condition but the kinds' own ranges. -/
import Derived.Test.YtnnahpmnkpmopaaZAggJoinQFnExactAggJoinx11
namespace Go.Proofs.Ytnnahpmnkpmopaa.Say
open Go.RowKit Go.Proofs.Ytnnahpmnkpmopaa.QFnExactAggJoin Go.Proofs.YtnnahpmnkpmopaaW.PrintWords Go.Proofs.YtnnahpmnkpmopaaW.PrintLast Go.Proofs.YtnnahpmnkpmopaaW.PrintMore

def FnExactAggJoin : Prop := ∀ (a0_0 : Int) (a0_1 : Int) (a0_2 : Int) (a0_3 : Int) (a0_4 : Int) (l0_5 : List (Int)) (a1_0 : Int) (a1_1 : Int) (a1_2 : Int) (a1_3 : Int) (a1_4 : Int) (l1_5 : List (Int)), (-9223372036854775808 ≤ a0_0 ∧ a0_0 ≤ 9223372036854775807) → (-9223372036854775808 ≤ a0_1 ∧ a0_1 ≤ 9223372036854775807) → (0 ≤ a0_2 ∧ a0_2 ≤ 18446744073709551615) → (-9223372036854775808 ≤ a0_3 ∧ a0_3 ≤ 9223372036854775807) → (-9223372036854775808 ≤ a0_4 ∧ a0_4 ≤ 9223372036854775807) → (l0_5.length ≤ 9223372036854775807) → (∀ x ∈ l0_5, -9223372036854775808 ≤ x ∧ x ≤ 9223372036854775807) → (-9223372036854775808 ≤ a1_0 ∧ a1_0 ≤ 9223372036854775807) → (-9223372036854775808 ≤ a1_1 ∧ a1_1 ≤ 9223372036854775807) → (0 ≤ a1_2 ∧ a1_2 ≤ 18446744073709551615) → (-9223372036854775808 ≤ a1_3 ∧ a1_3 ≤ 9223372036854775807) → (-9223372036854775808 ≤ a1_4 ∧ a1_4 ≤ 9223372036854775807) → (l1_5.length ≤ 9223372036854775807) → (∀ x ∈ l1_5, -9223372036854775808 ≤ x ∧ x ≤ 9223372036854775807) → ∃ k, laws_FnExactAggJoin.f k a0_0 a0_1 a0_2 a0_3 a0_4 l0_5 a1_0 a1_1 a1_2 a1_3 a1_4 l1_5 = some true

end Go.Proofs.Ytnnahpmnkpmopaa.Say
