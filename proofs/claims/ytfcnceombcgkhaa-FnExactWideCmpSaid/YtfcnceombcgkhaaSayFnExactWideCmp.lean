/- The pure statement of the law FnExactWideCmp: numbers and lists alone. No condition but the kinds' own ranges. -/
import Derived.Test.YtfcnceombcgkhaaPFnExactWideCmpx2
namespace Go.Proofs.Ytfcnceombcgkhaa.Say
open Go.RowKit Go.Proofs.Ytfcnceombcgkhaa.PFnExactWideCmp Go.Proofs.YtfcnceombcgkhaaW.PrintWords Go.Proofs.YtfcnceombcgkhaaW.PrintLast Go.Proofs.YtfcnceombcgkhaaW.PrintMore

def FnExactWideCmp : Prop := ∀ (a0_0 : Int) (a0_1 : Int) (a1_0 : Int) (a1_1 : Int), (-9223372036854775808 ≤ a0_0 ∧ a0_0 ≤ 9223372036854775807) → (0 ≤ a0_1 ∧ a0_1 ≤ 18446744073709551615) → (-9223372036854775808 ≤ a1_0 ∧ a1_0 ≤ 9223372036854775807) → (0 ≤ a1_1 ∧ a1_1 ≤ 18446744073709551615) → ∃ k, laws_FnExactWideCmp.f k a0_0 a0_1 a1_0 a1_1 = some true

end Go.Proofs.Ytfcnceombcgkhaa.Say
