/- The pure statement of the law FnExactSessOk: numbers and lists alone. No condition but the kinds' own ranges. -/
import Derived.Test.YtfcnceombcgkhaaPFnExactSessOkx5
namespace Go.Proofs.Ytfcnceombcgkhaa.Say
open Go.RowKit Go.Proofs.Ytfcnceombcgkhaa.PFnExactSessOk Go.Proofs.YtfcnceombcgkhaaW.PrintWords Go.Proofs.YtfcnceombcgkhaaW.PrintLast Go.Proofs.YtfcnceombcgkhaaW.PrintMore

def FnExactSessOk : Prop := ∀ (l0 : List (S83)), (l0.length ≤ 9223372036854775807) → (∀ x ∈ l0, (-9223372036854775808 ≤ x.f0 ∧ x.f0 ≤ 9223372036854775807) ∧ (-9223372036854775808 ≤ x.f1 ∧ x.f1 ≤ 9223372036854775807)) → ∃ k, laws_FnExactSessOk.f k l0 = some true

end Go.Proofs.Ytfcnceombcgkhaa.Say
