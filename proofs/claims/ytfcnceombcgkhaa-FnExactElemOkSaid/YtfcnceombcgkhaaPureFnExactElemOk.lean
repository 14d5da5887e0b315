/- Proved: for all arguments (each number of its kind) the program's ElemOk answers as the reference's ElemOk. No other condition. -/
import Derived.Test.YtfcnceombcgkhaaSayFnExactElemOk
import Derived.Test.YtfcnceombcgkhaaBase
namespace Go.Proofs.Ytfcnceombcgkhaa.Pure
open Go.RowKit Go.Proofs.Ytfcnceombcgkhaa.PFnExactElemOk Go.Proofs.YtfcnceombcgkhaaW.PrintWords Go.Proofs.YtfcnceombcgkhaaW.PrintLast Go.Proofs.YtfcnceombcgkhaaW.PrintMore
open Go.Proofs.Ytfcnceombcgkhaa.Base
set_option linter.unusedSimpArgs false
set_option linter.unusedVariables false

theorem in_le (a l h : Int) : impl_in.f a l h = some (decide (l ≤ a) && decide (a ≤ h)) := by
  unfold impl_in.f
  by_cases c : l ≤ a <;> simp [c]
theorem FnExactElemOk : Say.FnExactElemOk := by
  intro a b c d _ _ _ _
  simp only [laws_FnExactElemOk.f, laws_toElem.f, spec_ElemOk.f, spec_l04Src.f, spec_l04Key.f, spec_l05Time.f, impl_ElemOk.f, impl_isElem.f, impl_isSource.f, impl_isKey.f, impl_isTime.f, in_le, Option.bind_some]
  have e1 : decide (a < 4) = decide (a ≤ 3) := decide_eq_decide.2 (by omega)
  by_cases h1 : 0 ≤ a <;> by_cases h2 : a ≤ 3 <;> by_cases h3 : 0 ≤ b <;> by_cases h4 : b ≤ 15 <;> by_cases h5 : 0 ≤ d <;> by_cases h6 : d ≤ 1000 <;> simp [h1, h2, h3, h4, h5, h6, e1]

end Go.Proofs.Ytfcnceombcgkhaa.Pure
