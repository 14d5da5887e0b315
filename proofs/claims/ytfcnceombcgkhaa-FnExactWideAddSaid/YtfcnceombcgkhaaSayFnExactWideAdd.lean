/- The pure statement of the law FnExactWideAdd: numbers and lists alone. No condition but the kinds' own ranges. -/
import Derived.Test.YtfcnceombcgkhaaQFnExactWideAddx2
namespace Go.Proofs.Ytfcnceombcgkhaa.Say
open Go.RowKit Go.Proofs.Ytfcnceombcgkhaa.QFnExactWideAdd Go.Proofs.YtfcnceombcgkhaaW.PrintWords Go.Proofs.YtfcnceombcgkhaaW.PrintLast Go.Proofs.YtfcnceombcgkhaaW.PrintMore

def FnExactWideAdd : Prop := ∀ (a0_0 : Int) (a0_1 : Int) (a1_0 : Int) (a1_1 : Int), (-9223372036854775808 ≤ a0_0 ∧ a0_0 ≤ 9223372036854775807) → (0 ≤ a0_1 ∧ a0_1 ≤ 18446744073709551615) → (-9223372036854775808 ≤ a1_0 ∧ a1_0 ≤ 9223372036854775807) → (0 ≤ a1_1 ∧ a1_1 ≤ 18446744073709551615) → laws_FnExactWideAdd.f a0_0 a0_1 a1_0 a1_1 = some true

end Go.Proofs.Ytfcnceombcgkhaa.Say
