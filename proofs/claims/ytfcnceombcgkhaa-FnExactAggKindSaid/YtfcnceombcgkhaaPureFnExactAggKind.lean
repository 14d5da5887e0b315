/- Proved: for every two ints the program's AggKind and the reference's AggKind give the same answer. No other condition. -/
import Derived.Test.YtfcnceombcgkhaaPFnExactAggKindx1
namespace Go.Proofs.Ytfcnceombcgkhaa.Pure
open Go.RowKit Go.Proofs.Ytfcnceombcgkhaa.PFnExactAggKind Go.Proofs.YtfcnceombcgkhaaW.PrintWords Go.Proofs.YtfcnceombcgkhaaW.PrintLast

theorem FnExactAggKind : laws_FnExactAggKind.Pure := by
  intro a0 a1 _ _
  unfold laws_FnExactAggKind.f spec_AggKind.f impl_AggKind.f impl_isAggKind.f impl_in.f
  by_cases c : a0 = 6
  · subst c
    by_cases d : a1 ≥ 1 <;> simp [d]
  · by_cases d : a0 ≥ 1
    · by_cases e : a0 < 6
      · have e' : a0 ≤ 5 := by omega
        simp [c, d, e, e']
      · have e' : ¬ a0 ≤ 5 := by omega
        simp [c, d, e, e']
    · simp [c, d]

end Go.Proofs.Ytfcnceombcgkhaa.Pure
