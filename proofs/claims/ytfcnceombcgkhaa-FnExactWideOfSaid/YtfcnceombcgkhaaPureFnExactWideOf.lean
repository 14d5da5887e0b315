/- Proved: for every int of 64 bits the program's WideOf and the reference's WideOf give the same two halves. No other condition. -/
import Derived.Test.YtfcnceombcgkhaaPFnExactWideOfx1
namespace Go.Proofs.Ytfcnceombcgkhaa.Pure
open Go.RowKit Go.Proofs.Ytfcnceombcgkhaa.PFnExactWideOf Go.Proofs.YtfcnceombcgkhaaW.PrintWords Go.Proofs.YtfcnceombcgkhaaW.PrintLast

theorem bounds64 {n : Int} (h : (Lit.int .i64 n).wf = true) : -9223372036854775808 ≤ n ∧ n ≤ 9223372036854775807 := by
  simp only [Lit.wf, IntKind.min, IntKind.max, IntKind.signed, IntKind.bits, Bool.and_eq_true, decide_eq_true_eq, if_true] at h
  omega

theorem FnExactWideOf : laws_FnExactWideOf.Pure := by
  intro a0 h
  have hb := bounds64 h
  unfold laws_FnExactWideOf.f spec_WideOf.f impl_WideOf.f laws_eqWide.f
  by_cases c : a0 < 0
  · have h1 : a0 / 9223372036854775808 = -1 := by omega
    simp [c, h1]
  · have h1 : a0 / 9223372036854775808 = 0 := by omega
    simp [c, h1]

end Go.Proofs.Ytfcnceombcgkhaa.Pure
