/- Proved: for every pane the program's PaneOk answers as the reference's PaneOk. No other condition. -/
import Derived.Test.YtcbpgeldlekgbaaSayFnExactPaneOk
import Derived.Test.YtcbpgeldlekgbaaBase
namespace Go.Proofs.Ytcbpgeldlekgbaa.Pure
open Go.RowKit Go.Proofs.Ytcbpgeldlekgbaa.PFnExactPaneOk Go.Proofs.YtcbpgeldlekgbaaW.PrintWords Go.Proofs.YtcbpgeldlekgbaaW.PrintLast Go.Proofs.YtcbpgeldlekgbaaW.PrintMore
open Go.Proofs.Ytcbpgeldlekgbaa.Base
set_option linter.unusedSimpArgs false
set_option linter.unusedVariables false

theorem toIntS_step (l ys : List Int) (i k : Nat) (hi : i < l.length) (hl : ys.length = l.length) (hb : l.length ≤ 1048576) :
    laws_toIntS.l0 (k + 1) l ys (i : Int) = laws_toIntS.l0 k l (ys.set i (id l[i])) ((i + 1 : Nat) : Int) := by
  have e : rd l (i : Int) = l[i] := rd_nat l i hi
  simp only [laws_toIntS.l0]
  rw [if_pos (by omega), if_pos (by omega), if_pos (by omega), e, w64 (by omega) (by omega)]
  simp
theorem toIntS_eq (l : List Int) (k : Nat) (hk : l.length < k) (hb : l.length ≤ 1048576) : laws_toIntS.f k l = some l := by
  unfold laws_toIntS.f
  rw [if_pos (by omega), if_pos (by simp; omega)]
  refine up_loop0 (fun k (ys : List Int) i => laws_toIntS.l0 k l ys (i : Int)) l.length (fun i ys => ys.length = l.length ∧ ys.take i = (l.take i).map id) (fun r => r = some l) ?_ ?_ k _ ?_ hk
  · rintro k s i hi ⟨h1, h2⟩
    left
    obtain ⟨h3, h4⟩ := copied_step id l s i hi h1 h2
    exact ⟨_, ⟨h3, h4⟩, toIntS_step l s i k hi h1 hb⟩
  · rintro k s ⟨h1, h2⟩
    simp only [laws_toIntS.l0]
    rw [if_neg (by omega), copied_end _ l s h1 h2]
    simp
  · simp
theorem eqIntS_refl (l : List Int) (k : Nat) (hk : l.length < k) (hb : l.length ≤ 4611686018427387904) : laws_eqIntS.f k l l = some true := by
  unfold laws_eqIntS.f
  rw [if_pos rfl]
  refine up_loop0 (fun k (_ : Unit) i => laws_eqIntS.l0 k l l (i : Int)) l.length (fun _ _ => True) (fun r => r = some true) ?_ ?_ k () trivial hk
  · rintro k _ i hi _
    left
    refine ⟨(), trivial, ?_⟩
    simp only [laws_eqIntS.l0, if_true]
    rw [if_pos (by omega), if_pos (by omega), if_pos (by omega), w64 (by omega) (by omega)]
    simp
  · rintro k _ _
    simp only [laws_eqIntS.l0]
    rw [if_neg (by omega)]
theorem in_le (a l h : Int) : impl_in.f a l h = some (decide (l ≤ a) && decide (a ≤ h)) := by
  unfold impl_in.f
  by_cases c : l ≤ a <;> simp [c]
theorem sz_eq (a b c d e f : Int) (l : List Int) (o : Bool) (hl : l.length ≤ 9223372036854775807) : laws_szPane.f a b c d e f l o 1048576 = if 1048576 < l.length then some (-1) else some (1048576 - (l.length : Int)) := by
  unfold laws_szPane.f laws_szIntS.f
  rw [w64 (by omega) (by omega)]
  by_cases h : 1048576 < l.length
  · rw [if_pos (by omega), if_pos h]
    rfl
  · rw [if_neg (by omega), if_neg h]
    simp only [Option.bind_some]
    rw [if_neg (by omega)]
def vw (a b : Int) : Bool := decide (0 ≤ a) && decide (a < b) && decide (b ≤ 1100)
theorem spec_vw (a b : Int) : spec_l06Win.f a b = some (vw a b) := by
  unfold spec_l06Win.f vw
  by_cases h1 : 0 ≤ a <;> by_cases h2 : a < b <;> simp [h1, h2]
theorem impl_vw (a b : Int) : impl_isWin.f a b = some (vw a b) := by
  unfold impl_isWin.f vw
  by_cases h1 : 0 ≤ a <;> by_cases h2 : a < b <;> simp [h1, h2]
/-- A pane is valid. -/
def pok (q k f t lb n : Int) (m : Nat) (o : Bool) : Bool := decide (0 ≤ q) && decide (q ≤ 3) && (decide (0 ≤ k) && decide (k ≤ 15) && (vw f t && (decide (0 ≤ lb) && decide (lb ≤ 15) && (decide (1 ≤ n) && decide (n ≤ 1000000) && (decide (m ≤ 4) && ((m : Int) == 0) == o)))))
theorem spec_pok (j : Nat) (q k f t lb n : Int) (l : List Int) (o : Bool) : spec_PaneOk.f (j + 1) q k f t lb n l o = some (pok q k f t lb n l.length o) := by
  unfold spec_PaneOk.f spec_l04Key.f pok
  simp only [spec_vw, spec_PaneOk.j0, Option.bind_some]
  by_cases h1 : 0 ≤ q
  rotate_left
  · rw [if_pos (by omega), decide_eq_false h1]
    simp
  rw [if_neg (by omega)]
  by_cases h2 : q ≤ 3
  rotate_left
  · rw [if_pos (by omega), decide_eq_false h2]
    simp
  rw [if_neg (by omega), decide_eq_true h1, decide_eq_true h2]
  by_cases h3 : 0 ≤ k
  rotate_left
  · have : ¬ k ≥ 0 := h3
    simp [this]
  have h3' : k ≥ 0 := h3
  by_cases h4 : k ≤ 15
  rotate_left
  · simp [h3', h4]
  simp only [h3', h4, h3, if_true, decide_true, Option.bind_some, Bool.and_self, Bool.true_and]
  cases vw f t with
  | false => simp
  | true =>
    simp only [Bool.not_true, Bool.false_eq_true, if_false, Bool.true_and]
    by_cases h5 : 0 ≤ lb
    rotate_left
    · rw [if_pos (by omega), decide_eq_false h5]
      simp
    rw [if_neg (by omega)]
    by_cases h6 : lb ≤ 15
    rotate_left
    · rw [if_pos (by omega), decide_eq_false h6]
      simp
    rw [if_neg (by omega), decide_eq_true h5, decide_eq_true h6]
    by_cases h7 : 1 ≤ n
    rotate_left
    · rw [if_pos (by omega), decide_eq_false h7]
      simp
    rw [if_neg (by omega)]
    by_cases h8 : n ≤ 1000000
    rotate_left
    · rw [if_pos (by omega), decide_eq_false h8]
      simp
    rw [if_neg (by omega), decide_eq_true h7, decide_eq_true h8]
    by_cases h9 : l.length ≤ 4
    · rw [if_neg (by omega), decide_eq_true h9]
      simp
    · rw [if_pos (by omega), decide_eq_false h9]
      simp
theorem impl_pok (q k f t lb n : Int) (l : List Int) (o : Bool) : impl_isPane.f q k f t lb n l o = some (pok q k f t lb n l.length o) := by
  unfold impl_isPane.f impl_isId.f impl_isKey.f pok
  have d : decide ((l.length : Int) ≤ 4) = decide (l.length ≤ 4) := decide_eq_decide.2 (by omega)
  simp only [impl_vw, in_le, Option.bind_some]
  cases decide (0 ≤ q) && decide (q ≤ 3) <;> cases decide (0 ≤ k) && decide (k ≤ 15) <;> cases vw f t <;> cases decide (0 ≤ lb) && decide (lb ≤ 15) <;> cases decide (1 ≤ n) && decide (n ≤ 1000000)
  all_goals first
    | rfl
    | (by_cases h9 : l.length ≤ 4
       · simp only [if_true, Bool.true_and, decide_eq_true h9]
         rw [if_pos (by omega)]
       · simp only [if_true, Bool.true_and, decide_eq_false h9]
         rw [if_neg (by omega)]
         rfl)
theorem FnExactPaneOk : Say.FnExactPaneOk := by
  intro q k f t lb n l o _ _ _ _ _ _ hl _
  refine ⟨l.length + 1, ?_⟩
  unfold laws_FnExactPaneOk.f
  rw [sz_eq _ _ _ _ _ _ l _ hl]
  by_cases h : 1048576 < l.length
  · rw [if_pos h]
    rfl
  · rw [if_neg h]
    simp only [Option.bind_some]
    rw [if_neg (by omega)]
    unfold laws_toPane.f
    rw [toIntS_eq l _ (by omega) (by omega)]
    simp only [Option.bind_some, impl_PaneOk.f, spec_pok, impl_pok, bne_self_eq_false, Bool.false_eq_true, if_false]
    have h2 : laws_eqPane.f (l.length + 1) q k f t lb n l o q k f t lb n l o = some true := by
      unfold laws_eqPane.f
      simp only [if_true, eqIntS_refl l (l.length + 1) (by omega) (by omega), Option.bind_some, bne_self_eq_false, Bool.false_eq_true, if_false]
    rw [h2]
    rfl

end Go.Proofs.Ytcbpgeldlekgbaa.Pure
