/- Proved: for all marks the program's MarksLeast answers as the reference's MarksLeast. No other condition. -/
import Derived.Test.YtcbpgeldlekgbaaSayFnExactMarksLeast
import Derived.Test.YtcbpgeldlekgbaaBase
namespace Go.Proofs.Ytcbpgeldlekgbaa.Pure
open Go.RowKit Go.Proofs.Ytcbpgeldlekgbaa.PFnExactMarksLeast Go.Proofs.YtcbpgeldlekgbaaW.PrintWords Go.Proofs.YtcbpgeldlekgbaaW.PrintLast Go.Proofs.YtcbpgeldlekgbaaW.PrintMore
open Go.Proofs.Ytcbpgeldlekgbaa.Base
set_option linter.unusedSimpArgs false
set_option linter.unusedVariables false

theorem toMarkS_step (l : List S96) (ys : List S85) (i k : Nat) (hi : i < l.length) (hl : ys.length = l.length) (hb : l.length ≤ 1048576) :
    laws_toMarkS.l0 (k + 1) l ys (i : Int) = laws_toMarkS.l0 k l (ys.set i ((fun x : S96 => (⟨x.f0, x.f1⟩ : S85)) l[i])) ((i + 1 : Nat) : Int) := by
  have e : rd_T96 l (i : Int) = l[i] := getD_nat l _ i hi
  simp only [laws_toMarkS.l0, laws_toMark.f, Option.bind_some]
  rw [if_pos (by omega), if_pos (by omega), if_pos (by omega), e, w64 (by omega) (by omega)]
  simp
theorem toMarkS_eq (l : List S96) (k : Nat) (hk : l.length < k) (hb : l.length ≤ 1048576) : laws_toMarkS.f k l = some (l.map (fun x : S96 => (⟨x.f0, x.f1⟩ : S85))) := by
  unfold laws_toMarkS.f
  rw [if_pos (by omega), if_pos (by simp; omega)]
  refine up_loop0 (fun k (ys : List S85) i => laws_toMarkS.l0 k l ys (i : Int)) l.length (fun i ys => ys.length = l.length ∧ ys.take i = (l.take i).map (fun x : S96 => (⟨x.f0, x.f1⟩ : S85))) (fun r => r = some (l.map (fun x : S96 => (⟨x.f0, x.f1⟩ : S85)))) ?_ ?_ k _ ?_ hk
  · rintro k s i hi ⟨h1, h2⟩
    left
    obtain ⟨h3, h4⟩ := copied_step (fun x : S96 => (⟨x.f0, x.f1⟩ : S85)) l s i hi h1 h2
    exact ⟨_, ⟨h3, h4⟩, toMarkS_step l s i k hi h1 hb⟩
  · rintro k s ⟨h1, h2⟩
    simp only [laws_toMarkS.l0]
    rw [if_neg (by omega), copied_end _ l s h1 h2]
  · simp

theorem eqMarkS_refl (l : List S85) (k : Nat) (hk : l.length < k) (hb : l.length ≤ 4611686018427387904) : laws_eqMarkS.f k l l = some true := by
  unfold laws_eqMarkS.f
  rw [if_pos rfl]
  refine up_loop0 (fun k (_ : Unit) i => laws_eqMarkS.l0 k l l (i : Int)) l.length (fun _ _ => True) (fun r => r = some true) ?_ ?_ k () trivial hk
  · rintro k _ i hi _
    left
    refine ⟨(), trivial, ?_⟩
    simp only [laws_eqMarkS.l0, laws_eqMark.f, bne_self_eq_false, Bool.false_eq_true, if_true, if_false, Option.bind_some]
    rw [if_pos (by omega), if_pos (by omega), if_pos (by omega), w64 (by omega) (by omega)]
    simp
  · rintro k _ _
    simp only [laws_eqMarkS.l0]
    rw [if_neg (by omega)]

theorem sz_eq (g : Int) (l : List S96) (hl : l.length ≤ 9223372036854775807) : laws_szMarks.f g l 1048576 = if 1048576 < l.length then some (-1) else some (1048576 - (l.length : Int)) := by
  unfold laws_szMarks.f laws_szMarkS.f
  rw [w64 (by omega) (by omega)]
  by_cases h : 1048576 < l.length
  · rw [if_pos (by omega), if_pos h]
    rfl
  · rw [if_neg (by omega), if_neg h]
    simp only [Option.bind_some]
    rw [if_neg (by omega)]
theorem eqMarks_refl (g : Int) (l : List S85) (k : Nat) (hk : l.length < k) (hb : l.length ≤ 4611686018427387904) : laws_eqMarks.f k g l g l = some true := by
  unfold laws_eqMarks.f
  rw [if_pos rfl, eqMarkS_refl l k hk hb]
  rfl
theorem drop_rd (l : List S85) (i : Nat) (hi : i < l.length) : l.drop i = rd_T85 l (i : Int) :: l.drop (i + 1) := by
  rw [List.drop_eq_getElem_cons hi]
  congr 1
  exact (getD_nat l _ i hi).symm
def leastF : Int → Bool → List S85 → Int
  | y, _, [] => y
  | y, n, x :: r => if x.f1 = true then leastF y n r else if n = true then leastF x.f0 false r else if x.f0 < y then leastF x.f0 false r else leastF y n r
theorem spec_least_loop (l : List S85) (g : Int) (hl : l.length ≤ 4611686018427387904) : ∀ (d k i : Nat) (y : Int) (n : Bool), i + d = l.length → d < k → spec_MarksLeast.l0 k y n (i : Int) g l = some (leastF y n (l.drop i)) := by
  intro d
  induction d with
  | zero =>
    intro k i y n hi hk
    obtain ⟨k, rfl⟩ : ∃ m, k = m + 1 := ⟨k - 1, by omega⟩
    simp only [spec_MarksLeast.l0]
    rw [if_neg (by omega), List.drop_eq_nil_of_le (by omega)]
    rfl
  | succ d ih =>
    intro k i y n hi hk
    obtain ⟨k, rfl⟩ : ∃ m, k = m + 1 := ⟨k - 1, by omega⟩
    have e1 : wrap64 ((i : Int) + 1) = ((i + 1 : Nat) : Int) := (w64 (by omega) (by omega)).trans (by omega)
    rw [drop_rd l i (by omega)]
    simp only [spec_MarksLeast.l0, e1, leastF, ih k (i + 1) _ _ (show i + 1 + d = l.length by omega) (show d < k by omega)]
    rw [if_pos (by omega), if_pos (by omega)]
    split
    · rfl
    · split
      · rfl
      · split <;> rfl
theorem spec_least (l : List S85) (g : Int) (k : Nat) (hk : l.length < k) (hl : l.length ≤ 4611686018427387904) : spec_MarksLeast.f k g l = some (leastF (-1) true l) := by
  unfold spec_MarksLeast.f
  exact spec_least_loop l g hl l.length k 0 (-1) true (by omega) hk
theorem impl_least_loop (l : List S85) (hl : l.length ≤ 4611686018427387904) : ∀ (d k i : Nat) (y : Int) (n : Bool), i + d = l.length → d < k → impl_MarksLeast.l0 k y n l (l.length : Int) (i : Int) = some (leastF y n (l.drop i)) := by
  intro d
  induction d with
  | zero =>
    intro k i y n hi hk
    obtain ⟨k, rfl⟩ : ∃ m, k = m + 1 := ⟨k - 1, by omega⟩
    simp only [impl_MarksLeast.l0]
    rw [if_neg (by omega), List.drop_eq_nil_of_le (by omega)]
    rfl
  | succ d ih =>
    intro k i y n hi hk
    obtain ⟨k, rfl⟩ : ∃ m, k = m + 1 := ⟨k - 1, by omega⟩
    have e1 : wrap64 ((i : Int) + 1) = ((i + 1 : Nat) : Int) := (w64 (by omega) (by omega)).trans (by omega)
    rw [drop_rd l i (by omega)]
    simp only [impl_MarksLeast.l0, e1, leastF, ih k (i + 1) _ _ (show i + 1 + d = l.length by omega) (show d < k by omega)]
    rw [if_pos (by omega), if_pos (by omega), if_pos (by omega)]
    split
    · rfl
    · split
      · rfl
      · split <;> rfl
theorem FnExactMarksLeast : Say.FnExactMarksLeast := by
  intro g l _ hl _
  refine ⟨l.length + 1, ?_⟩
  unfold laws_FnExactMarksLeast.f
  rw [sz_eq g l hl]
  by_cases h : 1048576 < l.length
  · rw [if_pos h]
    rfl
  · rw [if_neg h]
    simp only [Option.bind_some]
    rw [if_neg (by omega)]
    unfold laws_toMarks.f
    rw [toMarkS_eq l _ (by omega) (by omega)]
    simp only [Option.bind_some]
    rw [spec_least _ _ _ (by simp) (by simp; omega)]
    have h2 : impl_MarksLeast.f (l.length + 1) g (l.map fun x : S96 => (⟨x.f0, x.f1⟩ : S85)) = some (leastF (-1) true (l.map fun x : S96 => (⟨x.f0, x.f1⟩ : S85))) := by
      unfold impl_MarksLeast.f
      exact impl_least_loop _ (by simp; omega) _ _ 0 (-1) true (by simp; rfl) (by simp)
    rw [h2]
    simp only [Option.bind_some, if_true]
    rw [eqMarks_refl _ _ _ (by simp) (by simp; omega)]
    rfl

end Go.Proofs.Ytcbpgeldlekgbaa.Pure
