/- Proved: for all marks and sources the program's MarkIdle gives what the reference's MarkIdle gives, in memory of its own. No other condition. -/
import Derived.Test.YtcbpgeldlekgbaaSayFnExactMarkIdle
import Derived.Test.YtcbpgeldlekgbaaBase
namespace Go.Proofs.Ytcbpgeldlekgbaa.Pure
open Go.RowKit Go.Proofs.Ytcbpgeldlekgbaa.QFnExactMarkIdle Go.Proofs.YtcbpgeldlekgbaaW.PrintWords Go.Proofs.YtcbpgeldlekgbaaW.PrintLast Go.Proofs.YtcbpgeldlekgbaaW.PrintMore
open Go.Proofs.Ytcbpgeldlekgbaa.Base
set_option linter.unusedSimpArgs false
set_option linter.unusedVariables false

theorem toMarkS_step (l : List S96) (ys : List S85) (i k : Nat) (hi : i < l.length) (hl : ys.length = l.length) (hb : l.length ≤ 1048576) :
    laws_toMarkS.l0 (k + 1) l ys (i : Int) = laws_toMarkS.l0 k l (ys.set i ((fun x : S96 => (⟨x.f0, x.f1⟩ : S85)) l[i])) ((i + 1 : Nat) : Int) := by
  have e : rd_T96 l (i : Int) = l[i] := getD_nat l _ i hi
  simp only [laws_toMarkS.l0, laws_toMark.f, Option.bind_some]
  rw [if_pos (by omega), if_pos (by omega), if_pos (by omega), e, w64 (by omega) (by omega)]
  simp
theorem toMarkS_eq (l : List S96) (k : Nat) (hk : l.length < k) (hb : l.length ≤ 1048576) : laws_toMarkS.f k l = some (l.map (fun x : S96 => (⟨x.f0, x.f1⟩ : S85))) := by
  unfold laws_toMarkS.f
  rw [if_pos (by omega), if_pos (by simp; omega)]
  refine up_loop0 (fun k (ys : List S85) i => laws_toMarkS.l0 k l ys (i : Int)) l.length (fun i ys => ys.length = l.length ∧ ys.take i = (l.take i).map (fun x : S96 => (⟨x.f0, x.f1⟩ : S85))) (fun r => r = some (l.map (fun x : S96 => (⟨x.f0, x.f1⟩ : S85)))) ?_ ?_ k _ ?_ hk
  · rintro k s i hi ⟨h1, h2⟩
    left
    obtain ⟨h3, h4⟩ := copied_step (fun x : S96 => (⟨x.f0, x.f1⟩ : S85)) l s i hi h1 h2
    exact ⟨_, ⟨h3, h4⟩, toMarkS_step l s i k hi h1 hb⟩
  · rintro k s ⟨h1, h2⟩
    simp only [laws_toMarkS.l0]
    rw [if_neg (by omega), copied_end _ l s h1 h2]
  · simp

theorem eqMarkS_refl (l : List S85) (k : Nat) (hk : l.length < k) (hb : l.length ≤ 4611686018427387904) : laws_eqMarkS.f k l l = some true := by
  unfold laws_eqMarkS.f
  rw [if_pos rfl]
  refine up_loop0 (fun k (_ : Unit) i => laws_eqMarkS.l0 k l l (i : Int)) l.length (fun _ _ => True) (fun r => r = some true) ?_ ?_ k () trivial hk
  · rintro k _ i hi _
    left
    refine ⟨(), trivial, ?_⟩
    simp only [laws_eqMarkS.l0, laws_eqMark.f, bne_self_eq_false, Bool.false_eq_true, if_true, if_false, Option.bind_some]
    rw [if_pos (by omega), if_pos (by omega), if_pos (by omega), w64 (by omega) (by omega)]
    simp
  · rintro k _ _
    simp only [laws_eqMarkS.l0]
    rw [if_neg (by omega)]

def patMark (a : Int) (n : Nat) : List S85 := (List.range n).map (fun j : Nat => (⟨(a + 2 * (j : Int)), (Int.tmod ((a + 2 * (j : Int)) + 1) 3) == 0⟩ : S85))
theorem markMarkS_step (xs : List S85) (z : Int) (i k : Nat) (hi : i < xs.length) (h0 : 0 ≤ z) (hz : z ≤ 1152921504606846976) (hl : xs.length ≤ 1152921504606846976) :
    laws_markMarkS.l0 (k + 1) xs z (i : Int) = laws_markMarkS.l0 k (xs.set i (⟨z, (Int.tmod (z + 1) 3) == 0⟩ : S85)) (z + 2) ((i + 1 : Nat) : Int) := by
  have v1 : wrap64 (z + 1) = z + 1 := (w64 (by omega) (by omega)).trans (by omega)
  have v2 : wrap64 (z + 1 + 1) = z + 2 := (w64 (by omega) (by omega)).trans (by omega)
  have vi : wrap64 ((i : Int) + 1) = ((i + 1 : Nat) : Int) := (w64 (by omega) (by omega)).trans (by omega)
  simp only [laws_markMarkS.l0, Option.bind_some]
  rw [if_pos (by omega), if_pos (by omega)]
  simp only [v1, v2, vi, rd_T85, Int.toNat_natCast, List.set_set, List.getD_eq_getElem?_getD, List.getElem?_set_self hi, Option.getD_some]
theorem markMarkS_eq (l : List S85) (a : Int) (k : Nat) (hk : l.length < k) (h0 : 0 ≤ a) (ha : a ≤ 1000000000) (hb : l.length ≤ 4611686018427) : laws_markMarkS.f k l a = some (a + 2 * l.length, patMark a l.length) := by
  unfold laws_markMarkS.f
  refine up_loop0 (fun k (s : List S85 × Int) i => laws_markMarkS.l0 k s.1 s.2 (i : Int)) l.length (fun i s => s.1.length = l.length ∧ s.1.take i = ((List.range l.length).take i).map (fun j : Nat => (⟨(a + 2 * (j : Int)), (Int.tmod ((a + 2 * (j : Int)) + 1) 3) == 0⟩ : S85)) ∧ s.2 = a + 2 * (i : Int)) (fun r => r = some (a + 2 * l.length, patMark a l.length)) ?_ ?_ k (l, a) ?_ hk
  · rintro k ⟨xs, z⟩ i hi ⟨h1, h2, h3⟩
    simp only at h1 h2 h3
    left
    have hi' : i < (List.range l.length).length := by simpa using hi
    obtain ⟨h4, h5⟩ := copied_step (fun j : Nat => (⟨(a + 2 * (j : Int)), (Int.tmod ((a + 2 * (j : Int)) + 1) 3) == 0⟩ : S85)) (List.range l.length) xs i hi' (by simpa using h1) h2
    refine ⟨(_, z + 2), ⟨?_, ?_, ?_⟩, markMarkS_step xs z i k (by omega) (by omega) (by omega) (by omega)⟩
    · simp only [List.length_set]
      exact h1
    · rw [List.getElem_range] at h5
      subst h3
      exact h5
    · simp only [h3]
      omega
  · rintro k ⟨xs, z⟩ ⟨h1, h2, h3⟩
    simp only at h1 h2 h3
    simp only [laws_markMarkS.l0]
    rw [if_neg (by omega)]
    have h4 := copied_end (fun j : Nat => (⟨(a + 2 * (j : Int)), (Int.tmod ((a + 2 * (j : Int)) + 1) 3) == 0⟩ : S85)) (List.range l.length) xs (by simpa using h1) (by simpa using h2)
    rw [h3, h4]
    rfl
  · exact ⟨rfl, by simp, by simp⟩
theorem heldMarkS_step (a : Int) (n i k : Nat) (hi : i < n) (h0 : 0 ≤ a) (ha : a ≤ 1000000000) (hl : n ≤ 4611686018427) :
    laws_heldMarkS.l0 (k + 1) (patMark a n) (a + 2 * (i : Int)) (i : Int) = laws_heldMarkS.l0 k (patMark a n) (a + 2 * ((i + 1 : Nat) : Int)) ((i + 1 : Nat) : Int) := by
  have hlen : (patMark a n).length = n := by simp [patMark]
  have vi : wrap64 ((i : Int) + 1) = ((i + 1 : Nat) : Int) := (w64 (by omega) (by omega)).trans (by omega)
  have e : rd_T85 (patMark a n) (i : Int) = (fun j : Nat => (⟨(a + 2 * (j : Int)), (Int.tmod ((a + 2 * (j : Int)) + 1) 3) == 0⟩ : S85)) i := by
    unfold rd_T85
    rw [getD_nat _ _ i (by omega)]
    simp only [patMark, List.getElem_map, List.getElem_range]
  have hz : ((a + 2 * ((i + 1 : Nat) : Int)) : Int) = a + 2 * (i : Int) + 2 := by omega
  rw [hz]
  generalize hzz : a + 2 * (i : Int) = z at *
  have hz0 : 0 ≤ z := by omega
  have hz1 : z ≤ 1152921504606846976 := by omega
  have v1 : wrap64 (z + 1) = z + 1 := (w64 (by omega) (by omega)).trans (by omega)
  have v2 : wrap64 (z + 1 + 1) = z + 2 := (w64 (by omega) (by omega)).trans (by omega)
  simp only [laws_heldMarkS.l0]
  rw [if_pos (by omega), if_pos (by omega), e]
  simp only [v1, v2, vi, bne_self_eq_false, Bool.false_eq_true, if_true, if_false, hzz]
theorem heldMarkS_eq (a : Int) (n k : Nat) (hk : n < k) (h0 : 0 ≤ a) (ha : a ≤ 1000000000) (hl : n ≤ 4611686018427) : laws_heldMarkS.f k (patMark a n) a = some (a + 2 * n) := by
  unfold laws_heldMarkS.f
  have hlen : (patMark a n).length = n := by simp [patMark]
  refine up_loop0 (fun k (s : Int) i => laws_heldMarkS.l0 k (patMark a n) s (i : Int)) n (fun i s => s = a + 2 * (i : Int)) (fun r => r = some (a + 2 * n)) ?_ ?_ k a ?_ hk
  · rintro k s i hi rfl
    left
    exact ⟨_, rfl, heldMarkS_step a n i k hi h0 ha hl⟩
  · rintro k s rfl
    simp only [laws_heldMarkS.l0]
    rw [if_neg (by omega)]
  · simp

theorem sz_eq (g : Int) (l : List S96) (hl : l.length ≤ 9223372036854775807) : laws_szMarks.f g l 1048576 = if 1048576 < l.length then some (-1) else some (1048576 - (l.length : Int)) := by
  unfold laws_szMarks.f laws_szMarkS.f
  rw [w64 (by omega) (by omega)]
  by_cases h : 1048576 < l.length
  · rw [if_pos (by omega), if_pos h]
    rfl
  · rw [if_neg (by omega), if_neg h]
    simp only [Option.bind_some]
    rw [if_neg (by omega)]
theorem eqMarks_refl (g : Int) (l : List S85) (k : Nat) (hk : l.length < k) (hb : l.length ≤ 4611686018427387904) : laws_eqMarks.f k g l g l = some true := by
  unfold laws_eqMarks.f
  rw [if_pos rfl, eqMarkS_refl l k hk hb]
  rfl
theorem in_le (a l h : Int) : impl_in.f a l h = some (decide (l ≤ a) && decide (a ≤ h)) := by
  unfold impl_in.f
  by_cases c : l ≤ a <;> simp [c]
def tm (a : Int) : Bool := decide (0 ≤ a) && decide (a ≤ 1000)
theorem spec_tm (a : Int) : spec_l05Time.f a = some (tm a) := by
  unfold spec_l05Time.f tm
  by_cases h : 0 ≤ a
  · have h' : a ≥ 0 := h
    simp [h, h']
  · have h' : ¬ a ≥ 0 := h
    simp [h, h']
theorem impl_tm (a : Int) : impl_isTime.f a = some (tm a) := by
  unfold impl_isTime.f
  rw [in_le]
  rfl
theorem drop_rd (l : List S85) (i : Nat) (hi : i < l.length) : l.drop i = rd_T85 l (i : Int) :: l.drop (i + 1) := by
  rw [List.drop_eq_getElem_cons hi]
  congr 1
  exact (getD_nat l _ i hi).symm
def timesF (l : List S85) : Bool := l.all fun x => tm x.f0
def mostF (m : Int) : List S85 → Int
  | [] => m
  | x :: r => mostF (mx m x.f0) r
def leastF : Int → Bool → List S85 → Int
  | y, _, [] => y
  | y, n, x :: r => if x.f1 = true then leastF y n r else if n = true then leastF x.f0 false r else if x.f0 < y then leastF x.f0 false r else leastF y n r
theorem spec_least_loop (l : List S85) (g : Int) (hl : l.length ≤ 4611686018427387904) : ∀ (d k i : Nat) (y : Int) (n : Bool), i + d = l.length → d < k → spec_MarksLeast.l0 k y n (i : Int) g l = some (leastF y n (l.drop i)) := by
  intro d
  induction d with
  | zero =>
    intro k i y n hi hk
    obtain ⟨k, rfl⟩ : ∃ m, k = m + 1 := ⟨k - 1, by omega⟩
    simp only [spec_MarksLeast.l0]
    rw [if_neg (by omega), List.drop_eq_nil_of_le (by omega)]
    rfl
  | succ d ih =>
    intro k i y n hi hk
    obtain ⟨k, rfl⟩ : ∃ m, k = m + 1 := ⟨k - 1, by omega⟩
    have e1 : wrap64 ((i : Int) + 1) = ((i + 1 : Nat) : Int) := (w64 (by omega) (by omega)).trans (by omega)
    rw [drop_rd l i (by omega)]
    simp only [spec_MarksLeast.l0, e1, leastF, ih k (i + 1) _ _ (show i + 1 + d = l.length by omega) (show d < k by omega)]
    rw [if_pos (by omega), if_pos (by omega)]
    split
    · rfl
    · split
      · rfl
      · split <;> rfl
theorem spec_least (l : List S85) (g : Int) (k : Nat) (hk : l.length < k) (hl : l.length ≤ 4611686018427387904) : spec_MarksLeast.f k g l = some (leastF (-1) true l) := by
  unfold spec_MarksLeast.f
  exact spec_least_loop l g hl l.length k 0 (-1) true (by omega) hk
/-- Where all times are right, 'no time yet' is '-1'. -/
theorem least_loop (l : List S85) (hl : l.length ≤ 4611686018427387904) (ht : timesF l = true) : ∀ (d k i : Nat) (y : Int) (n : Bool), i + d = l.length → d < k → (n = true → y = -1) → (n = false → 0 ≤ y) → impl_Marks_least.l0 k y l (l.length : Int) (i : Int) = some (leastF y n (l.drop i)) := by
  intro d
  induction d with
  | zero =>
    intro k i y n hi hk h1 h2
    obtain ⟨k, rfl⟩ : ∃ m, k = m + 1 := ⟨k - 1, by omega⟩
    simp only [impl_Marks_least.l0]
    rw [if_neg (by omega), List.drop_eq_nil_of_le (by omega)]
    rfl
  | succ d ih =>
    intro k i y n hi hk h1 h2
    obtain ⟨k, rfl⟩ : ∃ m, k = m + 1 := ⟨k - 1, by omega⟩
    have e1 : wrap64 ((i : Int) + 1) = ((i + 1 : Nat) : Int) := (w64 (by omega) (by omega)).trans (by omega)
    have ht0 : 0 ≤ (rd_T85 l (i : Int)).f0 := by
      have h3 : rd_T85 l (i : Int) ∈ l := by
        have : rd_T85 l (i : Int) = l[i] := getD_nat l _ i (by omega)
        rw [this]
        exact List.getElem_mem _
      have h4 := List.all_eq_true.1 ht _ h3
      simp only [tm, Bool.and_eq_true, decide_eq_true_eq] at h4
      exact h4.1
    rw [drop_rd l i (by omega)]
    simp only [impl_Marks_least.l0, e1, leastF]
    rw [if_pos (by omega), if_pos (by omega), if_pos (by omega)]
    by_cases c1 : (rd_T85 l (i : Int)).f1 = true
    · rw [if_pos c1, if_pos c1]
      exact ih k (i + 1) y n (by omega) (by omega) h1 h2
    · rw [if_neg c1, if_neg c1]
      cases n with
      | true =>
        rw [if_pos (by have := h1 rfl; omega), if_pos rfl]
        exact ih k (i + 1) _ false (by omega) (by omega) (fun h => by cases h) (fun _ => ht0)
      | false =>
        rw [if_neg (by have := h2 rfl; omega), if_neg (show ¬ (false = true) by simp)]
        by_cases c2 : (rd_T85 l (i : Int)).f0 < y
        · rw [if_pos c2, if_pos c2]
          exact ih k (i + 1) _ false (by omega) (by omega) (fun h => by cases h) (fun _ => ht0)
        · rw [if_neg c2, if_neg c2]
          exact ih k (i + 1) _ false (by omega) (by omega) (fun h => by cases h) h2
theorem impl_least (l : List S85) (g : Int) (k : Nat) (hk : l.length < k) (hl : l.length ≤ 4611686018427387904) (ht : timesF l = true) : impl_Marks_least.f k g l = some (leastF (-1) true l) := by
  unfold impl_Marks_least.f
  exact least_loop l hl ht l.length k 0 (-1) true (by omega) hk (fun _ => rfl) (fun h => by cases h)
theorem rd_time (l : List S85) (i : Nat) (hi : i < l.length) : (l.drop i).all (fun x => tm x.f0) = (tm (rd_T85 l (i : Int)).f0 && (l.drop (i + 1)).all fun x => tm x.f0) := by
  rw [drop_rd l i hi, List.all_cons]
theorem spec_marks_loop (l : List S85) (g : Int) (hl : l.length ≤ 4611686018427387904) : ∀ (d k i : Nat) (m : Int), i + d = l.length → d + l.length + 1 < k → spec_MarksOk.l0 k m (i : Int) g l = some (timesF (l.drop i) && (decide (leastF (-1) true l ≤ g) && decide (g ≤ mostF m (l.drop i)))) := by
  intro d
  induction d with
  | zero =>
    intro k i m hi hk
    obtain ⟨k, rfl⟩ : ∃ m, k = m + 1 := ⟨k - 1, by omega⟩
    simp only [spec_MarksOk.l0]
    rw [if_neg (by omega), List.drop_eq_nil_of_le (by omega)]
    rw [spec_least l g k (by omega) hl]
    simp only [Option.bind_some, timesF, List.all_nil, Bool.true_and, mostF]
    by_cases c : leastF (-1) true l ≤ g
    · have c' : g ≥ leastF (-1) true l := c
      rw [if_pos c', decide_eq_true c, Bool.true_and]
      rfl
    · have c' : ¬ g ≥ leastF (-1) true l := c
      simp [c, c']
  | succ d ih =>
    intro k i m hi hk
    obtain ⟨k, rfl⟩ : ∃ m, k = m + 1 := ⟨k - 1, by omega⟩
    have e1 : wrap64 ((i : Int) + 1) = ((i + 1 : Nat) : Int) := (w64 (by omega) (by omega)).trans (by omega)
    rw [drop_rd l i (by omega)]
    simp only [spec_MarksOk.l0, e1, spec_tm, Option.bind_some, ih k (i + 1) _ (show i + 1 + d = l.length by omega) (show d + l.length + 1 < k by omega), timesF, List.all_cons, mostF]
    rw [if_pos (by omega), if_pos (by omega)]
    cases tm (rd_T85 l (i : Int)).f0 <;> simp <;> rfl
theorem impl_marks_loop (l : List S85) (g : Int) (hl : l.length ≤ 4611686018427387904) : ∀ (d k i : Nat) (m : Int), i + d = l.length → d + l.length + 1 < k → (timesF (l.take i) = true) → impl_areMarks.l0 k m l (l.length : Int) (i : Int) g l = some (timesF (l.drop i) && (decide (1 ≤ l.length) && decide (l.length ≤ 4) && (tm g && (decide (leastF (-1) true l ≤ g) && decide (g ≤ mostF m (l.drop i)))))) := by
  intro d
  induction d with
  | zero =>
    intro k i m hi hk ht
    obtain ⟨k, rfl⟩ : ∃ m, k = m + 1 := ⟨k - 1, by omega⟩
    simp only [impl_areMarks.l0]
    rw [List.take_of_length_le (by omega)] at ht
    rw [if_neg (by omega), List.drop_eq_nil_of_le (by omega)]
    rw [impl_least l g k (by omega) hl ht]
    simp only [in_le, impl_tm, Option.bind_some, timesF, List.all_nil, Bool.true_and, mostF]
    have d1 : decide ((1 : Int) ≤ (l.length : Int)) = decide (1 ≤ l.length) := decide_eq_decide.2 (by omega)
    have d2 : decide ((l.length : Int) ≤ 4) = decide (l.length ≤ 4) := decide_eq_decide.2 (by omega)
    rw [d1, d2]
    cases decide (1 ≤ l.length) <;> cases decide (l.length ≤ 4) <;> cases tm g <;> simp <;> rfl
  | succ d ih =>
    intro k i m hi hk ht
    obtain ⟨k, rfl⟩ : ∃ m, k = m + 1 := ⟨k - 1, by omega⟩
    have e1 : wrap64 ((i : Int) + 1) = ((i + 1 : Nat) : Int) := (w64 (by omega) (by omega)).trans (by omega)
    have hr : rd_T85 l (i : Int) = l[i] := getD_nat l _ i (by omega)
    rw [drop_rd l i (by omega)]
    simp only [impl_areMarks.l0, e1, impl_tm, Option.bind_some, timesF, List.all_cons, mostF]
    rw [if_pos (by omega), if_pos (by omega), if_pos (by omega)]
    cases hv : tm (rd_T85 l (i : Int)).f0 with
    | false => simp
    | true =>
      rw [if_pos rfl]
      have h5 := ih k (i + 1) (mx m (rd_T85 l (i : Int)).f0) (by omega) (by omega) (by
        rw [List.take_succ_eq_append_getElem (by omega)]
        unfold timesF at ht ⊢
        rw [List.all_append, ht, ← hr]
        simp [hv])
      rw [h5]
      simp [timesF]
      rfl
def mok (g : Int) (l : List S85) : Bool := decide (1 ≤ l.length) && decide (l.length ≤ 4) && (tm g && (timesF l && (decide (leastF (-1) true l ≤ g) && decide (g ≤ mostF 0 l))))
theorem most_m1 (l : List S85) (h1 : 1 ≤ l.length) (ht : timesF l = true) : mostF (-1) l = mostF 0 l := by
  cases l with
  | nil => simp at h1
  | cons x r =>
    simp only [timesF, List.all_cons, Bool.and_eq_true, tm, decide_eq_true_eq] at ht
    have e : mx (-1) x.f0 = mx 0 x.f0 := by unfold mx; split <;> split <;> omega
    simp only [mostF, e]
theorem spec_mok (l : List S85) (g : Int) (k : Nat) (hk : 2 * l.length + 3 < k) (hl : l.length ≤ 4611686018427387904) : spec_MarksOk.f k g l = some (mok g l) := by
  obtain ⟨k, rfl⟩ : ∃ m, k = m + 1 := ⟨k - 1, by omega⟩
  have h := spec_marks_loop l g hl l.length k 0 0 (by omega) (by omega)
  simp only [Int.natCast_zero, List.drop_zero] at h
  unfold spec_MarksOk.f mok
  simp only [spec_tm, Option.bind_some, spec_MarksOk.j0, h]
  by_cases c1 : (l.length : Int) < 1
  · have : ¬ 1 ≤ l.length := by omega
    rw [if_pos c1, decide_eq_false this]
    simp
  rw [if_neg c1]
  by_cases c2 : (l.length : Int) > 4
  · have : ¬ l.length ≤ 4 := by omega
    rw [if_pos c2, decide_eq_false this]
    simp
  rw [if_neg c2, decide_eq_true (show 1 ≤ l.length by omega), decide_eq_true (show l.length ≤ 4 by omega)]
  cases tm g <;> simp
theorem impl_mok (l : List S85) (g : Int) (k : Nat) (hk : 2 * l.length + 3 < k) (hl : l.length ≤ 4611686018427387904) : impl_areMarks.f k g l = some (mok g l) := by
  have h := impl_marks_loop l g hl l.length k 0 (-1) (by omega) (by omega) (by simp [timesF])
  simp only [Int.natCast_zero, List.drop_zero] at h
  unfold impl_areMarks.f mok
  rw [h]
  congr 1
  cases ht : timesF l with
  | false => simp
  | true =>
    by_cases c1 : 1 ≤ l.length
    · rw [most_m1 l c1 ht]
      simp
    · rw [decide_eq_false c1]
      simp
theorem spec_with (g : Int) (l : List S85) (i a : Int) (b : Bool) (k : Nat) (hk : l.length < k) (hl : l.length ≤ 4) (h0 : 0 ≤ i) (h1 : i < l.length) : spec_l05With.f k g l i a b = some (mx g (leastF (-1) true (l.set i.toNat ⟨a, b⟩)), l.set i.toNat ⟨a, b⟩) := by
  unfold spec_l05With.f
  simp only [Option.bind_some, List.length_nil, List.nil_append]
  rw [if_pos (by omega), if_pos h0, if_pos h1, spec_least _ _ _ (by simp; omega) (by simp; omega)]
  rfl
theorem impl_with (g : Int) (l : List S85) (i a : Int) (b : Bool) (k : Nat) (hk : l.length < k) (hl : l.length ≤ 4) (h0 : 0 ≤ i) (h1 : i < l.length) (ht : timesF l = true) (ha : tm a = true) : impl_Marks_with.f k g l i a b = some (mx g (leastF (-1) true (l.set i.toNat ⟨a, b⟩)), l.set i.toNat ⟨a, b⟩) := by
  unfold impl_Marks_with.f impl_Mark.f
  rw [if_pos (by omega)]
  simp only [Option.bind_some]
  rw [if_pos h0, if_pos h1, impl_least _ _ _ (by simp; omega) (by simp; omega)]
  · rfl
  · unfold timesF at ht ⊢
    rw [List.all_eq_true] at ht ⊢
    intro x hx
    rcases List.mem_or_eq_of_mem_set hx with h | h
    · exact ht x h
    · rw [h]
      exact ha
theorem mok_parts {g : Int} {l : List S85} (h : mok g l = true) : 1 ≤ l.length ∧ l.length ≤ 4 ∧ timesF l = true := by
  unfold mok at h
  simp only [Bool.and_eq_true, decide_eq_true_eq] at h
  exact ⟨h.1.1, h.1.2, h.2.2.1⟩
theorem srcs (g : Int) (l : List S85) (i : Int) (hi : -9223372036854775808 ≤ i ∧ i ≤ 9223372036854775807) (k : Nat) (hk : 2 * l.length + 3 < k) (hl : l.length ≤ 1048576) :
    spec_l05Src.f k g l i = some (mok g l && (decide (0 ≤ i) && decide (i < l.length))) ∧ impl_hasMark.f k g l i = some (mok g l && (decide (0 ≤ i) && decide (i < l.length))) := by
  unfold spec_l05Src.f impl_hasMark.f
  rw [spec_mok l g k hk (by omega), impl_mok l g k hk (by omega)]
  simp only [Option.bind_some, in_le]
  rw [w64 (by omega) (by omega)]
  cases mok g l with
  | false => exact ⟨rfl, rfl⟩
  | true =>
    simp only [if_true, Bool.true_and]
    constructor
    · by_cases c : 0 ≤ i
      · rw [if_pos (show i ≥ 0 from c), decide_eq_true c, Bool.true_and]
      · rw [if_neg (show ¬ i ≥ 0 from c), decide_eq_false c, Bool.false_and]
    · rw [show decide (i ≤ (l.length : Int) - 1) = decide (i < (l.length : Int)) from decide_eq_decide.2 (by omega)]
theorem rd_tm (l : List S85) (i : Int) (h0 : 0 ≤ i) (h1 : i < l.length) (ht : timesF l = true) : tm (rd_T85 l i).f0 = true := by
  obtain ⟨n, rfl⟩ := Int.eq_ofNat_of_zero_le h0
  unfold rd_T85
  rw [getD_nat l _ n (by omega)]
  exact List.all_eq_true.1 ht _ (List.getElem_mem _)
theorem markM (g : Int) (l : List S85) (k : Nat) (hk : l.length < k) (hl : l.length ≤ 1048576) : laws_markMarks.f k g l 1 = some (1 + 2 * (l.length : Int), patMark 1 l.length) := by
  unfold laws_markMarks.f
  rw [markMarkS_eq l 1 k hk (by omega) (by omega) (by omega)]
  rfl
theorem heldM (g : Int) (n : Nat) (k : Nat) (hk : n < k) (hl : n ≤ 1048576) : laws_heldMarks.f k g (patMark 1 n) 1 = some (1 + 2 * (n : Int)) := by
  unfold laws_heldMarks.f
  rw [heldMarkS_eq 1 n k hk (by omega) (by omega) (by omega)]
  simp only [Option.bind_some]
  rw [if_neg (by omega)]
theorem both (g : Int) (l : List S85) (i : Int) (a : Bool) (hi : -9223372036854775808 ≤ i ∧ i ≤ 9223372036854775807) (hl : l.length ≤ 1048576) : ∃ r : Int × List S85 × Int, r.2.1.length ≤ 4 ∧ ∀ k, 2 * l.length + 10 < k → spec_MarkIdle.f k g l i a = some r ∧ impl_MarkIdle.f k g l i a = some r := by
  by_cases hs : (mok g l && (decide (0 ≤ i) && decide (i < (l.length : Int)))) = true
  · have hs0 := hs
    simp only [Bool.and_eq_true, decide_eq_true_eq] at hs
    obtain ⟨hm, h0, h1⟩ := hs
    obtain ⟨hp1, hp2, hp3⟩ := mok_parts hm
    refine ⟨(mx g (leastF (-1) true (l.set i.toNat ⟨(rd_T85 l i).f0, a⟩)), l.set i.toNat ⟨(rd_T85 l i).f0, a⟩, 0), by simpa using hp2, fun k hk => ?_⟩
    obtain ⟨s1, s2⟩ := srcs g l i hi k (by omega) hl
    unfold spec_MarkIdle.f impl_MarkIdle.f
    rw [s1, s2, hs0]
    simp only [Option.bind_some, if_true, if_pos h0, if_pos h1, spec_with g l i (rd_T85 l i).f0 a k (by omega) hp2 h0 h1, impl_with g l i (rd_T85 l i).f0 a k (by omega) hp2 h0 h1 hp3 (rd_tm l i h0 h1 hp3), and_self]
  · have hs' : (mok g l && (decide (0 ≤ i) && decide (i < (l.length : Int)))) = false := by simpa using hs
    refine ⟨(0, [], 1), by simp, fun k hk => ?_⟩
    obtain ⟨s1, s2⟩ := srcs g l i hi k (by omega) hl
    unfold spec_MarkIdle.f impl_MarkIdle.f
    rw [s1, s2, hs']
    simp only [Option.bind_some, Bool.false_eq_true, if_false, and_self]
theorem FnExactMarkIdle : Say.FnExactMarkIdle := by
  intro g l i a _ hl _ hi 
  generalize hK : 2 * l.length + 100 = K
  refine ⟨K + 3, ?_⟩
  unfold laws_FnExactMarkIdle.f
  rw [sz_eq g l hl]
  by_cases h : 1048576 < l.length
  · rw [if_pos h]
    rfl
  rw [if_neg h]
  simp only [Option.bind_some]
  rw [if_neg (by omega)]
  have T : ∀ k, l.length < k → laws_toMarks.f k g l = some (g, l.map fun x : S96 => (⟨x.f0, x.f1⟩ : S85)) := fun k hk => by
    unfold laws_toMarks.f
    rw [toMarkS_eq l k hk (by omega)]
    rfl
  have hm : (l.map fun x : S96 => (⟨x.f0, x.f1⟩ : S85)).length = l.length := by simp
  generalize (l.map fun x : S96 => (⟨x.f0, x.f1⟩ : S85)) = m at hm T
  obtain ⟨⟨rg, rl, rc⟩, hr4, hB⟩ := both g m i a hi (by omega)
  simp only at hr4
  have hS : ∀ k, K ≤ k → spec_MarkIdle.f k g m i a = some (rg, rl, rc) := fun k hk => (hB k (by omega)).1
  have hI : ∀ k, K ≤ k → impl_MarkIdle.f k g m i a = some (rg, rl, rc) := fun k hk => (hB k (by omega)).2
  simp only [T _ (show l.length < K + 3 by omega), Option.bind_some, hS _ (show K ≤ K + 3 by omega), hI _ (show K ≤ K + 3 by omega), eqMarks_refl rg rl (K + 3) (by omega) (by omega), if_true, bne_self_eq_false]
  simp only [laws_FnExactMarkIdle.j0, Bool.false_eq_true, if_false, T _ (show l.length < K + 2 by omega), Option.bind_some, eqMarks_refl g m (K + 2) (by omega) (by omega), eqMarks_refl rg rl (K + 2) (by omega) (by omega), if_true, bne_self_eq_false, markM g m (K + 2) (by omega) (by omega), if_neg (show ¬ (1 + 2 * (m.length : Int) < 0) by omega)]
  simp only [laws_FnExactMarkIdle.j1, Bool.false_eq_true, if_false, T _ (show l.length < K + 1 by omega), Option.bind_some, eqMarks_refl rg rl (K + 1) (by omega) (by omega), if_true, bne_self_eq_false, markM rg rl (K + 1) (by omega) (by omega), heldM rg rl.length (K + 1) (by omega) (by omega), if_neg (show ¬ (1 + 2 * (rl.length : Int) < 0) by omega), hI _ (show K ≤ K + 1 by omega)]
  simp only [laws_FnExactMarkIdle.j2, Bool.false_eq_true, if_false, Option.bind_some, if_true, heldM rg rl.length K (by omega) (by omega), if_neg (show ¬ (1 + 2 * (rl.length : Int) < 0) by omega)]

end Go.Proofs.Ytcbpgeldlekgbaa.Pure
