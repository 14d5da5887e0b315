/- The pure statement of the law FnExactLatOf: numbers and lists alone. No condition but the kinds' own ranges. -/
import Derived.Test.YtdpoliolinghfaaZLatOfQFnExactLatOfx10
namespace Go.Proofs.Ytdpoliolinghfaa.Say
open Go.RowKit Go.Proofs.Ytdpoliolinghfaa.QFnExactLatOf Go.Proofs.YtdpoliolinghfaaW.PrintWords Go.Proofs.YtdpoliolinghfaaW.PrintLast Go.Proofs.YtdpoliolinghfaaW.PrintMore

def FnExactLatOf : Prop := ∀ (a0 : Int) (l1 : List (S94)), (-9223372036854775808 ≤ a0 ∧ a0 ≤ 9223372036854775807) → (l1.length ≤ 9223372036854775807) → (∀ x ∈ l1, (-9223372036854775808 ≤ x.f0 ∧ x.f0 ≤ 9223372036854775807) ∧ (-9223372036854775808 ≤ x.f1 ∧ x.f1 ≤ 9223372036854775807)) → ∃ k, laws_FnExactLatOf.f k a0 l1 = some true

end Go.Proofs.Ytdpoliolinghfaa.Say
