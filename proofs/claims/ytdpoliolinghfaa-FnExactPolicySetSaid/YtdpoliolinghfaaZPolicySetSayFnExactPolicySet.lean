/- The pure statement of the law FnExactPolicySet: numbers and lists alone. No condition but the kinds' own ranges. -/
import Derived.Test.YtdpoliolinghfaaZPolicySetQFnExactPolicySetx17
namespace Go.Proofs.Ytdpoliolinghfaa.Say
open Go.RowKit Go.Proofs.Ytdpoliolinghfaa.QFnExactPolicySet Go.Proofs.YtdpoliolinghfaaW.PrintWords Go.Proofs.YtdpoliolinghfaaW.PrintLast Go.Proofs.YtdpoliolinghfaaW.PrintMore

def FnExactPolicySet : Prop := ∀ (a0_0 : Int) (l0_1 : List (Int)) (l1 : List (S56)) (a2_0 : Int) (a2_1 : Int) (a2_2 : Int) (a2_3 : Int), (-9223372036854775808 ≤ a0_0 ∧ a0_0 ≤ 9223372036854775807) → (l0_1.length ≤ 9223372036854775807) → (∀ x ∈ l0_1, 0 ≤ x ∧ x ≤ 18446744073709551615) → (l1.length ≤ 9223372036854775807) → (∀ x ∈ l1, (-9223372036854775808 ≤ x.f0 ∧ x.f0 ≤ 9223372036854775807) ∧ (-9223372036854775808 ≤ x.f1 ∧ x.f1 ≤ 9223372036854775807) ∧ (-9223372036854775808 ≤ x.f2 ∧ x.f2 ≤ 9223372036854775807) ∧ (-9223372036854775808 ≤ x.f3 ∧ x.f3 ≤ 9223372036854775807)) → (-9223372036854775808 ≤ a2_0 ∧ a2_0 ≤ 9223372036854775807) → (-9223372036854775808 ≤ a2_1 ∧ a2_1 ≤ 9223372036854775807) → (-9223372036854775808 ≤ a2_2 ∧ a2_2 ≤ 9223372036854775807) → (-9223372036854775808 ≤ a2_3 ∧ a2_3 ≤ 9223372036854775807) → ∃ k, laws_FnExactPolicySet.f k a0_0 l0_1 l1 a2_0 a2_1 a2_2 a2_3 = some true

end Go.Proofs.Ytdpoliolinghfaa.Say
