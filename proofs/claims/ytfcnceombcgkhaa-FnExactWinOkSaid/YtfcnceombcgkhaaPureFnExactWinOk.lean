/- Proved: for all arguments (each number of its kind) the program's WinOk answers as the reference's WinOk. No other condition. -/
import Derived.Test.YtfcnceombcgkhaaSayFnExactWinOk
import Derived.Test.YtfcnceombcgkhaaBase
namespace Go.Proofs.Ytfcnceombcgkhaa.Pure
open Go.RowKit Go.Proofs.Ytfcnceombcgkhaa.PFnExactWinOk Go.Proofs.YtfcnceombcgkhaaW.PrintWords Go.Proofs.YtfcnceombcgkhaaW.PrintLast Go.Proofs.YtfcnceombcgkhaaW.PrintMore
open Go.Proofs.Ytfcnceombcgkhaa.Base
set_option linter.unusedSimpArgs false
set_option linter.unusedVariables false

theorem in_le (a l h : Int) : impl_in.f a l h = some (decide (l ≤ a) && decide (a ≤ h)) := by
  unfold impl_in.f
  by_cases c : l ≤ a <;> simp [c]
theorem FnExactWinOk : Say.FnExactWinOk := by
  intro a b c _ _ _
  refine ⟨1, ?_⟩
  simp only [laws_FnExactWinOk.f, laws_toWinDef.f, spec_WinOk.f, spec_WinOk.j0, impl_WinOk.f, impl_isWinDef.f, impl_isWinDef.j0, in_le, Option.bind_some]
  by_cases h1 : 1 ≤ b <;> by_cases h2 : b ≤ 100 <;> by_cases h3 : a = 1 <;> by_cases h4 : a = 2 <;> by_cases h5 : a = 3
  all_goals first | (exfalso; omega) | skip
  all_goals
    have g1 : (a < 1) = (a < 1) := rfl
    by_cases k1 : a < 1 <;> by_cases k2 : a > 3 <;> by_cases k3 : b < 1 <;> by_cases k4 : b > 100
  all_goals first | (exfalso; omega) | (simp [h1, h2, h3, h4, h5, k1, k2, k3, k4]; done) | skip
  all_goals by_cases m1 : 1 ≤ c <;> by_cases m2 : c ≤ b <;> simp [h1, h2, h3, h4, h5, k1, k2, k3, k4, m1, m2]

end Go.Proofs.Ytfcnceombcgkhaa.Pure
