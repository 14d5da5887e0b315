/- Proved: for all arguments (each number of its kind) the program's WideCmp answers as the reference's WideCmp. No other condition. -/
import Derived.Test.YtfcnceombcgkhaaSayFnExactWideCmp
import Derived.Test.YtfcnceombcgkhaaBase
namespace Go.Proofs.Ytfcnceombcgkhaa.Pure
open Go.RowKit Go.Proofs.Ytfcnceombcgkhaa.PFnExactWideCmp Go.Proofs.YtfcnceombcgkhaaW.PrintWords Go.Proofs.YtfcnceombcgkhaaW.PrintLast Go.Proofs.YtfcnceombcgkhaaW.PrintMore
open Go.Proofs.Ytfcnceombcgkhaa.Base
set_option linter.unusedSimpArgs false
set_option linter.unusedVariables false

theorem or2 (a b : Int) : cmp_Or_int.f 3 [a, b] = some (if a = 0 then b else a) := by
  have w1 : wrap64 (0 + 1) = 1 := by decide +kernel
  have w2 : wrap64 (1 + 1) = 2 := by decide +kernel
  have r0 : rd [a, b] 0 = a := rfl
  have r1 : rd [a, b] 1 = b := rfl
  simp only [cmp_Or_int.f, cmp_Or_int.l0, List.length_cons, List.length_nil, w1, w2, r0, r1]
  by_cases h : a = 0 <;> by_cases g : b = 0 <;> simp [h, g]
theorem FnExactWideCmp : Say.FnExactWideCmp := by
  intro a b c d _ _ _ _
  refine ⟨3, ?_⟩
  simp only [laws_FnExactWideCmp.f, laws_toWide.f, spec_WideCmp.f, impl_WideCmp.f, cmp_Compare_int.f, cmp_Compare_uint64.f, cmp_isNaN_int.f, cmp_isNaN_uint64.f, Option.bind_some, bne_self_eq_false, Bool.false_eq_true, if_false]
  rcases Int.lt_trichotomy a c with h | h | h
  · rw [if_pos h, if_neg (by omega), if_pos h]
    by_cases e : b < d
    · simp [e, or2]
    · by_cases e2 : b > d <;> simp [e, e2, or2]
  · subst h
    rcases Int.lt_trichotomy b d with g | g | g
    · have : ¬ b = d := by omega
      simp [g, this, or2]
    · subst g
      simp [or2]
    · have h1 : ¬ b = d := by omega
      have h2 : ¬ b < d := by omega
      simp [g, h1, h2, or2]
  · have h1 : ¬ a < c := by omega
    have h2 : ¬ a = c := by omega
    by_cases e : b < d
    · simp [e, or2, h, h1, h2]
    · by_cases e2 : b > d <;> simp [e, e2, or2, h, h1, h2]

end Go.Proofs.Ytfcnceombcgkhaa.Pure
