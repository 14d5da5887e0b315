/- The pure statement of the law FnExactLatJoinAll: numbers and lists alone. No condition but the kinds' own ranges. -/
import Derived.Test.YtdpoliolinghfaaQFnExactLatJoinAllx8
namespace Go.Proofs.Ytdpoliolinghfaa.Say
open Go.RowKit Go.Proofs.Ytdpoliolinghfaa.QFnExactLatJoinAll Go.Proofs.YtdpoliolinghfaaW.PrintWords Go.Proofs.YtdpoliolinghfaaW.PrintLast Go.Proofs.YtdpoliolinghfaaW.PrintMore

def FnExactLatJoinAll : Prop := ∀ (a0_0 : Int) (l0_1 : List (Int)) (l1 : List (Int)), (-9223372036854775808 ≤ a0_0 ∧ a0_0 ≤ 9223372036854775807) → (l0_1.length ≤ 9223372036854775807) → (∀ x ∈ l0_1, 0 ≤ x ∧ x ≤ 18446744073709551615) → (l1.length ≤ 9223372036854775807) → (∀ x ∈ l1, -9223372036854775808 ≤ x ∧ x ≤ 9223372036854775807) → ∃ k, laws_FnExactLatJoinAll.f k a0_0 l0_1 l1 = some true

end Go.Proofs.Ytdpoliolinghfaa.Say
