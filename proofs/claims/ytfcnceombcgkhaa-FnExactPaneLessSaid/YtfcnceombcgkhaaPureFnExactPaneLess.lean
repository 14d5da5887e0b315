/- Proved: for all two panes the program's PaneLess answers as the reference's PaneLess. No other condition. -/
import Derived.Test.YtfcnceombcgkhaaSayFnExactPaneLess
import Derived.Test.YtfcnceombcgkhaaBase
namespace Go.Proofs.Ytfcnceombcgkhaa.Pure
open Go.RowKit Go.Proofs.Ytfcnceombcgkhaa.QFnExactPaneLess Go.Proofs.YtfcnceombcgkhaaW.PrintWords Go.Proofs.YtfcnceombcgkhaaW.PrintLast Go.Proofs.YtfcnceombcgkhaaW.PrintMore
open Go.Proofs.Ytfcnceombcgkhaa.Base
set_option linter.unusedSimpArgs false
set_option linter.unusedVariables false

theorem toIntS_step (l ys : List Int) (i k : Nat) (hi : i < l.length) (hl : ys.length = l.length) (hb : l.length ≤ 1048576) :
    laws_toIntS.l0 (k + 1) l ys (i : Int) = laws_toIntS.l0 k l (ys.set i (id l[i])) ((i + 1 : Nat) : Int) := by
  have e : rd l (i : Int) = l[i] := rd_nat l i hi
  simp only [laws_toIntS.l0]
  rw [if_pos (by omega), if_pos (by omega), if_pos (by omega), e, w64 (by omega) (by omega)]
  simp
theorem toIntS_eq (l : List Int) (k : Nat) (hk : l.length < k) (hb : l.length ≤ 1048576) : laws_toIntS.f k l = some l := by
  unfold laws_toIntS.f
  rw [if_pos (by omega), if_pos (by simp; omega)]
  refine up_loop0 (fun k (ys : List Int) i => laws_toIntS.l0 k l ys (i : Int)) l.length (fun i ys => ys.length = l.length ∧ ys.take i = (l.take i).map id) (fun r => r = some l) ?_ ?_ k _ ?_ hk
  · rintro k s i hi ⟨h1, h2⟩
    left
    obtain ⟨h3, h4⟩ := copied_step id l s i hi h1 h2
    exact ⟨_, ⟨h3, h4⟩, toIntS_step l s i k hi h1 hb⟩
  · rintro k s ⟨h1, h2⟩
    simp only [laws_toIntS.l0]
    rw [if_neg (by omega), copied_end _ l s h1 h2]
    simp
  · simp
theorem eqIntS_refl (l : List Int) (k : Nat) (hk : l.length < k) (hb : l.length ≤ 4611686018427387904) : laws_eqIntS.f k l l = some true := by
  unfold laws_eqIntS.f
  rw [if_pos rfl]
  refine up_loop0 (fun k (_ : Unit) i => laws_eqIntS.l0 k l l (i : Int)) l.length (fun _ _ => True) (fun r => r = some true) ?_ ?_ k () trivial hk
  · rintro k _ i hi _
    left
    refine ⟨(), trivial, ?_⟩
    simp only [laws_eqIntS.l0, if_true]
    rw [if_pos (by omega), if_pos (by omega), if_pos (by omega), w64 (by omega) (by omega)]
    simp
  · rintro k _ _
    simp only [laws_eqIntS.l0]
    rw [if_neg (by omega)]
theorem or4 (a b c d : Int) : cmp_Or_int.f 6 [a, b, c, d] = some (if a = 0 then if b = 0 then if c = 0 then d else c else b else a) := by
  have w1 : wrap64 (0 + 1) = 1 := by decide +kernel
  have w2 : wrap64 (1 + 1) = 2 := by decide +kernel
  have w3 : wrap64 (2 + 1) = 3 := by decide +kernel
  have w4 : wrap64 (3 + 1) = 4 := by decide +kernel
  have r0 : rd [a, b, c, d] 0 = a := rfl
  have r1 : rd [a, b, c, d] 1 = b := rfl
  have r2 : rd [a, b, c, d] 2 = c := rfl
  have r3 : rd [a, b, c, d] 3 = d := rfl
  simp only [cmp_Or_int.f, cmp_Or_int.l0, List.length_cons, List.length_nil, w1, w2, w3, w4, r0, r1, r2, r3]
  by_cases h : a = 0 <;> by_cases g : b = 0 <;> by_cases e : c = 0 <;> by_cases f : d = 0 <;> simp [h, g, e, f]
theorem sz_eq (a b c d e f : Int) (l : List Int) (o : Bool) (z : Int) (hz : 0 ≤ z ∧ z ≤ 1048576) (hl : l.length ≤ 9223372036854775807) : laws_szPane.f a b c d e f l o z = if z < l.length then some (-1) else some (z - (l.length : Int)) := by
  unfold laws_szPane.f laws_szIntS.f
  rw [w64 (by omega) (by omega)]
  by_cases h : z < l.length
  · rw [if_pos (by omega), if_pos h]
    rfl
  · rw [if_neg (by omega), if_neg h]
    simp only [Option.bind_some]
    rw [if_neg (by omega)]
def sgn (a b : Int) : Int := if a < b then -1 else if a > b then 1 else 0
theorem cmp_sgn (a b : Int) : cmp_Compare_int.f a b = some (sgn a b) := by
  unfold cmp_Compare_int.f cmp_isNaN_int.f sgn
  simp only [bne_self_eq_false, Option.bind_some, Bool.false_eq_true, if_false]
  split
  · rfl
  · split <;> rfl
theorem or_mono (j : Nat) (l : List Int) (r : Int) (h : cmp_Or_int.f 6 l = some r) : cmp_Or_int.f (6 + j) l = some r := by
  induction j with
  | zero => exact h
  | succ j ih => exact cmp_Or_int.mono l (6 + j) r ih
theorem FnExactPaneLess : Say.FnExactPaneLess := by
  intro q k f t lb n l o q' k' f' t' lb' n' l' o' _ _ _ _ _ _ hl _ _ _ _ _ _ _ hl' _
  refine ⟨6 + (l.length + l'.length), ?_⟩
  unfold laws_FnExactPaneLess.f
  rw [sz_eq _ _ _ _ _ _ l _ _ (by omega) hl]
  by_cases h : (1048576 : Int) < l.length
  · rw [if_pos h]
    rfl
  rw [if_neg h]
  simp only [Option.bind_some]
  rw [if_neg (by omega), sz_eq _ _ _ _ _ _ l' _ _ (by omega) hl']
  by_cases h' : (1048576 - (l.length : Int)) < l'.length
  · rw [if_pos h']
    rfl
  rw [if_neg h']
  simp only [Option.bind_some]
  rw [if_neg (by omega)]
  unfold laws_toPane.f
  rw [toIntS_eq l _ (by omega) (by omega), toIntS_eq l' _ (by omega) (by omega)]
  simp only [Option.bind_some]
  have key : ∃ r, spec_PaneLess.f q k f t lb n l o q' k' f' t' lb' n' l' o' = some r ∧ impl_PaneLess.f (6 + (l.length + l'.length)) q k f t lb n l o q' k' f' t' lb' n' l' o' = some r := by
    unfold spec_PaneLess.f impl_PaneLess.f impl_comparePanes.f
    simp only [cmp_sgn, Option.bind_some]
    rw [or_mono _ _ _ (or4 _ _ _ _)]
    simp only [Option.bind_some]
    have s0 : ∀ a b : Int, (sgn a b = 0) = (a = b) := by intro a b; apply propext; unfold sgn; split <;> (try split) <;> omega
    have s1 : ∀ a b : Int, decide (sgn a b < 0) = decide (a < b) := by intro a b; apply decide_eq_decide.2; unfold sgn; split <;> (try split) <;> omega
    simp only [s0]
    by_cases c1 : q = q'
    · simp only [if_pos c1]
      by_cases c2 : k = k'
      · simp only [if_pos c2]
        by_cases c3 : f = f'
        · simp only [if_pos c3, s1]
          exact ⟨_, rfl, rfl⟩
        · simp only [if_neg c3, s1]
          exact ⟨_, rfl, rfl⟩
      · simp only [if_neg c2, s1]
        exact ⟨_, rfl, rfl⟩
    · simp only [if_neg c1, s1]
      exact ⟨_, rfl, rfl⟩
  obtain ⟨r, hr1, hr2⟩ := key
  rw [hr1, hr2]
  simp only [Option.bind_some, bne_self_eq_false, Bool.false_eq_true, if_false]
  have e1 : ∀ (q k f t lb n : Int) (z : List Int) (o : Bool), z.length < 6 + (l.length + l'.length) → z.length ≤ 4611686018427387904 → laws_eqPane.f (6 + (l.length + l'.length)) q k f t lb n z o q k f t lb n z o = some true := by
    intro q k f t lb n z o h1 h2
    unfold laws_eqPane.f
    simp only [if_true, eqIntS_refl z (6 + (l.length + l'.length)) h1 h2, Option.bind_some, bne_self_eq_false, Bool.false_eq_true, if_false]
  rw [e1 q k f t lb n l o (by omega) (by omega)]
  simp only [Option.bind_some, if_true]
  rw [e1 q' k' f' t' lb' n' l' o' (by omega) (by omega)]
  rfl

end Go.Proofs.Ytfcnceombcgkhaa.Pure
