/- Proved: every exported constant has the value of the specification. No condition. -/
import Derived.Test.YtfcnceombcgkhaaPFnExactConstantsx1
namespace Go.Proofs.Ytfcnceombcgkhaa.Pure
open Go.RowKit Go.Proofs.Ytfcnceombcgkhaa.PFnExactConstants Go.Proofs.YtfcnceombcgkhaaW.PrintWords Go.Proofs.YtfcnceombcgkhaaW.PrintLast

theorem FnExactConstants : laws_FnExactConstants.Pure := rfl

end Go.Proofs.Ytfcnceombcgkhaa.Pure
