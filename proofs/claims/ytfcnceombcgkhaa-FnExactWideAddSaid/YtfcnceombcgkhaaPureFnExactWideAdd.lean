/- Proved: for all two wide numbers the program's WideAdd gives the reference's sum. No other condition. -/
import Derived.Test.YtfcnceombcgkhaaSayFnExactWideAdd
import Derived.Test.YtfcnceombcgkhaaBase
namespace Go.Proofs.Ytfcnceombcgkhaa.Pure
open Go.RowKit Go.Proofs.Ytfcnceombcgkhaa.QFnExactWideAdd Go.Proofs.YtfcnceombcgkhaaW.PrintWords Go.Proofs.YtfcnceombcgkhaaW.PrintLast Go.Proofs.YtfcnceombcgkhaaW.PrintMore
open Go.Proofs.Ytfcnceombcgkhaa.Base
set_option linter.unusedSimpArgs false
set_option linter.unusedVariables false

/-- The program's sum is the reference's. -/
theorem add_same (a b c d : Int) (hb : 0 ≤ b ∧ b ≤ 18446744073709551615) (hd : 0 ≤ d ∧ d ≤ 18446744073709551615) : impl_WideAdd.f a b c d = spec_WideAdd.f a b c d := by
  unfold impl_WideAdd.f spec_WideAdd.f
  rw [if_pos ⟨hb.1, hb.2, hd.1, hd.2⟩]
  simp only [wu64]
  by_cases c1 : (b + d) % 18446744073709551616 < b
  · rw [if_pos c1]
    have e : (b + d) / 18446744073709551616 = 1 := by omega
    rw [e]
    congr 2
    unfold wrap64
    omega
  · rw [if_neg c1]
    have e : (b + d) / 18446744073709551616 = 0 := by omega
    rw [e]
    congr 2
    unfold wrap64
    omega
theorem spec_add_some (a b c d : Int) : ∃ r, spec_WideAdd.f a b c d = some r := by
  unfold spec_WideAdd.f
  split <;> exact ⟨_, rfl⟩
theorem FnExactWideAdd : Say.FnExactWideAdd := by
  intro a b c d _ hb _ hd
  unfold laws_FnExactWideAdd.f laws_toWide.f
  simp only [Option.bind_some]
  rw [add_same a b c d hb hd]
  obtain ⟨r, hr⟩ := spec_add_some a b c d
  rw [hr]
  simp only [Option.bind_some, laws_eqWide.f, if_true]

end Go.Proofs.Ytfcnceombcgkhaa.Pure
