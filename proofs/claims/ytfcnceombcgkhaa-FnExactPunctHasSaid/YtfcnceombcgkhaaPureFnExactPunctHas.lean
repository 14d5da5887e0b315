/- Proved: for all arguments (each number of its kind) the program's PunctHas answers as the reference's PunctHas. No other condition. -/
import Derived.Test.YtfcnceombcgkhaaSayFnExactPunctHas
import Derived.Test.YtfcnceombcgkhaaBase
namespace Go.Proofs.Ytfcnceombcgkhaa.Pure
open Go.RowKit Go.Proofs.Ytfcnceombcgkhaa.PFnExactPunctHas Go.Proofs.YtfcnceombcgkhaaW.PrintWords Go.Proofs.YtfcnceombcgkhaaW.PrintLast Go.Proofs.YtfcnceombcgkhaaW.PrintMore
open Go.Proofs.Ytfcnceombcgkhaa.Base
set_option linter.unusedSimpArgs false
set_option linter.unusedVariables false

theorem in_le (a l h : Int) : impl_in.f a l h = some (decide (l ≤ a) && decide (a ≤ h)) := by
  unfold impl_in.f
  by_cases c : l ≤ a <;> simp [c]
theorem pow4 : spec_l04Pow.f 6 4 = some 16 := by decide +kernel
theorem pow3 : spec_l04Pow.f 6 3 = some 8 := by decide +kernel
theorem pow2 : spec_l04Pow.f 6 2 = some 4 := by decide +kernel
theorem pow1 : spec_l04Pow.f 6 1 = some 2 := by decide +kernel
theorem pow0 : spec_l04Pow.f 6 0 = some 1 := by decide +kernel
theorem quo (x m : Int) (h : 0 ≤ x ∧ x ≤ 15) (hm : 1 ≤ m) : wrap64 (Int.tdiv x m) = x / m := by
  rw [Int.tdiv_eq_ediv_of_nonneg h.1]
  have h1 : 0 ≤ x / m := Int.ediv_nonneg h.1 (by omega)
  have h2 : x / m ≤ x := Int.ediv_le_self m h.1
  exact w64 (by omega) (by omega)
theorem shr4 (x : Int) : shr .i64 x 4 = x / 16 := rfl
theorem shr3 (x : Int) : shr .i64 x 3 = x / 8 := rfl
theorem shr2 (x : Int) : shr .i64 x 2 = x / 4 := rfl
theorem shr1 (x : Int) : shr .i64 x 1 = x / 2 := rfl
theorem shr0 (x : Int) : shr .i64 x 0 = x / 1 := rfl
theorem FnExactPunctHas : Say.FnExactPunctHas := by
  intro s b key l src k2 _ _ _ _ _ _
  refine ⟨6, ?_⟩
  simp only [laws_FnExactPunctHas.f, laws_toPunct.f, spec_PunctHas.f, spec_l04Src.f, spec_l04Bits.f, spec_l04Key.f, impl_PunctHas.f, impl_Punct_isPlace.f, impl_isSource.f, impl_isKey.f, impl_Punct_matches.f, impl_Punct_front.f, in_le, Option.bind_some]
  have e1 : decide (s < 4) = decide (s ≤ 3) := decide_eq_decide.2 (by omega)
  by_cases h1 : 0 ≤ s ∧ s ≤ 3
  rotate_left
  · by_cases g : 0 ≤ s
    · have g2 : ¬ s ≤ 3 := by omega
      simp [g, g2, e1]
    · simp [g]
  by_cases h2 : 0 ≤ b ∧ b ≤ 4
  rotate_left
  · by_cases g : 0 ≤ b
    · have g2 : ¬ b ≤ 4 := by omega
      simp [h1, g, g2, e1]
    · simp [h1, g, e1]
  by_cases h3 : 0 ≤ key ∧ key ≤ 15
  rotate_left
  · by_cases h4 : s = src
    · subst h4
      by_cases h5 : 0 ≤ k2 <;> by_cases h6 : k2 ≤ 15 <;> by_cases g : 0 ≤ key <;> by_cases g2 : key ≤ 15
      all_goals first | (exfalso; omega) | simp [h1, h2, h5, h6, g, g2, e1]
    · have h7 : ¬ src = s := fun h => h4 h.symm
      by_cases h5 : 0 ≤ k2 <;> by_cases h6 : k2 ≤ 15 <;> by_cases g : 0 ≤ key <;> by_cases g2 : key ≤ 15
      all_goals first | (exfalso; omega) | simp [h1, h2, h4, h7, h5, h6, g, g2, e1]
  by_cases h4 : 0 ≤ k2 ∧ k2 ≤ 15
  rotate_left
  · by_cases h5 : s = src
    · subst h5
      by_cases g : 0 ≤ k2 <;> by_cases g2 : k2 ≤ 15
      all_goals first | (exfalso; omega) | simp [h1, h2, h3, g, g2, e1]
    · have h7 : ¬ src = s := fun h => h5 h.symm
      by_cases g : 0 ≤ k2 <;> by_cases g2 : k2 ≤ 15
      all_goals first | (exfalso; omega) | simp [h1, h2, h3, h5, h7, g, g2, e1]
  by_cases h5 : s = src
  rotate_left
  · have h6 : ¬ src = s := fun h => h5 h.symm
    simp [h1, h2, h3, h4, h5, h6, e1]
  subst h5
  obtain rfl | rfl | rfl | rfl | rfl : b = 0 ∨ b = 1 ∨ b = 2 ∨ b = 3 ∨ b = 4 := by omega
  · have w : wrap64 4 = 4 := by decide +kernel
    simp [h1, h3, h4, e1, w, pow4, shr4, quo _ 16 h3 (by omega), quo _ 16 h4 (by omega)]
  · have w : wrap64 3 = 3 := by decide +kernel
    simp [h1, h3, h4, e1, w, pow3, shr3, quo _ 8 h3 (by omega), quo _ 8 h4 (by omega)]
  · have w : wrap64 2 = 2 := by decide +kernel
    simp [h1, h3, h4, e1, w, pow2, shr2, quo _ 4 h3 (by omega), quo _ 4 h4 (by omega)]
  · have w : wrap64 1 = 1 := by decide +kernel
    simp [h1, h3, h4, e1, w, pow1, shr1, quo _ 2 h3 (by omega), quo _ 2 h4 (by omega)]
  · have w : wrap64 0 = 0 := by decide +kernel
    have q1 := quo _ 1 h3 (by omega)
    have q2 := quo _ 1 h4 (by omega)
    simp only [Int.ediv_one, Int.tdiv_one] at q1 q2
    simp [h1, h3, h4, e1, w, pow0, shr0, q1, q2]

end Go.Proofs.Ytfcnceombcgkhaa.Pure
