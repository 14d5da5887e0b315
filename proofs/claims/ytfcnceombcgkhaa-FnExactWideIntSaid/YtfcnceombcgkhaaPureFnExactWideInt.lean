/- Proved: for all arguments (each number of its kind) the program's WideInt answers as the reference's WideInt. No other condition. -/
import Derived.Test.YtfcnceombcgkhaaSayFnExactWideInt
import Derived.Test.YtfcnceombcgkhaaBase
namespace Go.Proofs.Ytfcnceombcgkhaa.Pure
open Go.RowKit Go.Proofs.Ytfcnceombcgkhaa.PFnExactWideInt Go.Proofs.YtfcnceombcgkhaaW.PrintWords Go.Proofs.YtfcnceombcgkhaaW.PrintLast Go.Proofs.YtfcnceombcgkhaaW.PrintMore
open Go.Proofs.Ytfcnceombcgkhaa.Base
set_option linter.unusedSimpArgs false
set_option linter.unusedVariables false

theorem core (n a0 a1 : Int) (hw : -9223372036854775808 ≤ n ∧ n ≤ 9223372036854775807) (hn : wrap64 a1 = n) : laws_FnExactWideInt.f a0 a1 = some true := by
  unfold laws_FnExactWideInt.f laws_toWide.f
  simp only [Option.bind_some]
  unfold spec_WideInt.f impl_WideInt.f
  rw [hn]
  unfold spec_WideOf.f impl_WideOf.f
  generalize IntKind.u64.wrap n = m
  by_cases c : n < 0
  · have h1 : n / 9223372036854775808 = -1 := by omega
    by_cases e1 : -1 = a0 <;> by_cases e2 : m = a1 <;> simp [c, h1, e1, e2]
  · have h1 : n / 9223372036854775808 = 0 := by omega
    rw [h1, if_neg c]
    by_cases e1 : a0 = 0
    · subst e1
      by_cases e2 : m = a1 <;> simp [e2]
    · have e3 : ¬ 0 = a0 := fun h => e1 h.symm
      by_cases e2 : m = a1 <;> simp [e3, e2]
theorem FnExactWideInt : Say.FnExactWideInt := by
  intro a0 a1 _ _
  exact core (wrap64 a1) a0 a1 (by unfold wrap64; omega) rfl

end Go.Proofs.Ytfcnceombcgkhaa.Pure
