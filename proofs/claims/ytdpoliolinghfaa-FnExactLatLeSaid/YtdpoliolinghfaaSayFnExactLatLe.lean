/- The pure statement of the law FnExactLatLe: numbers and lists alone. No condition but the kinds' own ranges. -/
import Derived.Test.YtdpoliolinghfaaQFnExactLatLex7
namespace Go.Proofs.Ytdpoliolinghfaa.Say
open Go.RowKit Go.Proofs.Ytdpoliolinghfaa.QFnExactLatLe Go.Proofs.YtdpoliolinghfaaW.PrintWords Go.Proofs.YtdpoliolinghfaaW.PrintLast Go.Proofs.YtdpoliolinghfaaW.PrintMore

def FnExactLatLe : Prop := ∀ (a0_0 : Int) (l0_1 : List (Int)) (a1 : Int) (a2 : Int), (-9223372036854775808 ≤ a0_0 ∧ a0_0 ≤ 9223372036854775807) → (l0_1.length ≤ 9223372036854775807) → (∀ x ∈ l0_1, 0 ≤ x ∧ x ≤ 18446744073709551615) → (-9223372036854775808 ≤ a1 ∧ a1 ≤ 9223372036854775807) → (-9223372036854775808 ≤ a2 ∧ a2 ≤ 9223372036854775807) → ∃ k, laws_FnExactLatLe.f k a0_0 l0_1 a1 a2 = some true

end Go.Proofs.Ytdpoliolinghfaa.Say
