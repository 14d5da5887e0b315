/- The pure statement of the law FnExactWideNeg: numbers and lists alone. No condition but the kinds' own ranges. -/
import Derived.Test.YtfcnceombcgkhaaQFnExactWideNegx1
namespace Go.Proofs.Ytfcnceombcgkhaa.Say
open Go.RowKit Go.Proofs.Ytfcnceombcgkhaa.QFnExactWideNeg Go.Proofs.YtfcnceombcgkhaaW.PrintWords Go.Proofs.YtfcnceombcgkhaaW.PrintLast Go.Proofs.YtfcnceombcgkhaaW.PrintMore

def FnExactWideNeg : Prop := ∀ (a0_0 : Int) (a0_1 : Int), (-9223372036854775808 ≤ a0_0 ∧ a0_0 ≤ 9223372036854775807) → (0 ≤ a0_1 ∧ a0_1 ≤ 18446744073709551615) → laws_FnExactWideNeg.f a0_0 a0_1 = some true

end Go.Proofs.Ytfcnceombcgkhaa.Say
