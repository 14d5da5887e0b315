/- The pure statement of the law FnExactWinOk: numbers and lists alone. No condition but the kinds' own ranges. -/
import Derived.Test.YtfcnceombcgkhaaPFnExactWinOkx1
namespace Go.Proofs.Ytfcnceombcgkhaa.Say
open Go.RowKit Go.Proofs.Ytfcnceombcgkhaa.PFnExactWinOk Go.Proofs.YtfcnceombcgkhaaW.PrintWords Go.Proofs.YtfcnceombcgkhaaW.PrintLast Go.Proofs.YtfcnceombcgkhaaW.PrintMore

def FnExactWinOk : Prop := ∀ (a0_0 : Int) (a0_1 : Int) (a0_2 : Int), (-9223372036854775808 ≤ a0_0 ∧ a0_0 ≤ 9223372036854775807) → (-9223372036854775808 ≤ a0_1 ∧ a0_1 ≤ 9223372036854775807) → (-9223372036854775808 ≤ a0_2 ∧ a0_2 ≤ 9223372036854775807) → ∃ k, laws_FnExactWinOk.f k a0_0 a0_1 a0_2 = some true

end Go.Proofs.Ytfcnceombcgkhaa.Say
