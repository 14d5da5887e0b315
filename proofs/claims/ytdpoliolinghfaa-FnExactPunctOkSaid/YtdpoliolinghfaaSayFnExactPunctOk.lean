/- The pure statement of the law FnExactPunctOk: numbers and lists alone. No condition but the kinds' own ranges. -/
import Derived.Test.YtdpoliolinghfaaQFnExactPunctOkx8
namespace Go.Proofs.Ytdpoliolinghfaa.Say
open Go.RowKit Go.Proofs.Ytdpoliolinghfaa.QFnExactPunctOk Go.Proofs.YtdpoliolinghfaaW.PrintWords Go.Proofs.YtdpoliolinghfaaW.PrintLast Go.Proofs.YtdpoliolinghfaaW.PrintMore

def FnExactPunctOk : Prop := ∀ (a0_0 : Int) (l0_1 : List (Int)) (a1_0 : Int) (a1_1 : Int) (a1_2 : Int) (a1_3 : Int), (-9223372036854775808 ≤ a0_0 ∧ a0_0 ≤ 9223372036854775807) → (l0_1.length ≤ 9223372036854775807) → (∀ x ∈ l0_1, 0 ≤ x ∧ x ≤ 18446744073709551615) → (-9223372036854775808 ≤ a1_0 ∧ a1_0 ≤ 9223372036854775807) → (-9223372036854775808 ≤ a1_1 ∧ a1_1 ≤ 9223372036854775807) → (-9223372036854775808 ≤ a1_2 ∧ a1_2 ≤ 9223372036854775807) → (-9223372036854775808 ≤ a1_3 ∧ a1_3 ≤ 9223372036854775807) → ∃ k, laws_FnExactPunctOk.f k a0_0 l0_1 a1_0 a1_1 a1_2 a1_3 = some true

end Go.Proofs.Ytdpoliolinghfaa.Say
