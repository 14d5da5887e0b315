/- The pure statement of the law FnExactLatEdges: numbers and lists alone. No condition but the kinds' own ranges. -/
import Derived.Test.YtdpoliolinghfaaQFnExactLatEdgesx10
namespace Go.Proofs.Ytdpoliolinghfaa.Say
open Go.RowKit Go.Proofs.Ytdpoliolinghfaa.QFnExactLatEdges Go.Proofs.YtdpoliolinghfaaW.PrintWords Go.Proofs.YtdpoliolinghfaaW.PrintLast Go.Proofs.YtdpoliolinghfaaW.PrintMore

def FnExactLatEdges : Prop := ∀ (a0_0 : Int) (l0_1 : List (Int)), (-9223372036854775808 ≤ a0_0 ∧ a0_0 ≤ 9223372036854775807) → (l0_1.length ≤ 9223372036854775807) → (∀ x ∈ l0_1, 0 ≤ x ∧ x ≤ 18446744073709551615) → ∃ k, laws_FnExactLatEdges.f k a0_0 l0_1 = some true

end Go.Proofs.Ytdpoliolinghfaa.Say
