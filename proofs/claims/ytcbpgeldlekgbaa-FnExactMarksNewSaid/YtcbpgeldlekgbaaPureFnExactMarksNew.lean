/- Proved: for every number the program's MarksNew gives the reference's marks, in memory of its own. No other condition. -/
import Derived.Test.YtcbpgeldlekgbaaPFnExactMarksNewx2
import Derived.Test.YtcbpgeldlekgbaaBase
namespace Go.Proofs.Ytcbpgeldlekgbaa.Pure
open Go.RowKit Go.Proofs.Ytcbpgeldlekgbaa.PFnExactMarksNew Go.Proofs.YtcbpgeldlekgbaaW.PrintWords Go.Proofs.YtcbpgeldlekgbaaW.PrintLast Go.Proofs.YtcbpgeldlekgbaaW.PrintMore
open Go.Proofs.Ytcbpgeldlekgbaa.Base
set_option linter.unusedSimpArgs false
set_option linter.unusedVariables false

theorem eqMarkS_refl (l : List S85) (k : Nat) (hk : l.length < k) (hb : l.length ≤ 4611686018427387904) : laws_eqMarkS.f k l l = some true := by
  unfold laws_eqMarkS.f
  rw [if_pos rfl]
  refine up_loop0 (fun k (_ : Unit) i => laws_eqMarkS.l0 k l l (i : Int)) l.length (fun _ _ => True) (fun r => r = some true) ?_ ?_ k () trivial hk
  · rintro k _ i hi _
    left
    refine ⟨(), trivial, ?_⟩
    simp only [laws_eqMarkS.l0, laws_eqMark.f, bne_self_eq_false, Bool.false_eq_true, if_true, if_false, Option.bind_some]
    rw [if_pos (by omega), if_pos (by omega), if_pos (by omega), w64 (by omega) (by omega)]
    simp
  · rintro k _ _
    simp only [laws_eqMarkS.l0]
    rw [if_neg (by omega)]

def patMark (a : Int) (n : Nat) : List S85 := (List.range n).map (fun j : Nat => (⟨(a + 2 * (j : Int)), (Int.tmod ((a + 2 * (j : Int)) + 1) 3) == 0⟩ : S85))
theorem markMarkS_step (xs : List S85) (z : Int) (i k : Nat) (hi : i < xs.length) (h0 : 0 ≤ z) (hz : z ≤ 1152921504606846976) (hl : xs.length ≤ 1152921504606846976) :
    laws_markMarkS.l0 (k + 1) xs z (i : Int) = laws_markMarkS.l0 k (xs.set i (⟨z, (Int.tmod (z + 1) 3) == 0⟩ : S85)) (z + 2) ((i + 1 : Nat) : Int) := by
  have v1 : wrap64 (z + 1) = z + 1 := (w64 (by omega) (by omega)).trans (by omega)
  have v2 : wrap64 (z + 1 + 1) = z + 2 := (w64 (by omega) (by omega)).trans (by omega)
  have vi : wrap64 ((i : Int) + 1) = ((i + 1 : Nat) : Int) := (w64 (by omega) (by omega)).trans (by omega)
  simp only [laws_markMarkS.l0, Option.bind_some]
  rw [if_pos (by omega), if_pos (by omega)]
  simp only [v1, v2, vi, rd_T85, Int.toNat_natCast, List.set_set, List.getD_eq_getElem?_getD, List.getElem?_set_self hi, Option.getD_some]
theorem markMarkS_eq (l : List S85) (a : Int) (k : Nat) (hk : l.length < k) (h0 : 0 ≤ a) (ha : a ≤ 1000) (hb : l.length ≤ 4611686018427) : laws_markMarkS.f k l a = some (a + 2 * l.length, patMark a l.length) := by
  unfold laws_markMarkS.f
  refine up_loop0 (fun k (s : List S85 × Int) i => laws_markMarkS.l0 k s.1 s.2 (i : Int)) l.length (fun i s => s.1.length = l.length ∧ s.1.take i = ((List.range l.length).take i).map (fun j : Nat => (⟨(a + 2 * (j : Int)), (Int.tmod ((a + 2 * (j : Int)) + 1) 3) == 0⟩ : S85)) ∧ s.2 = a + 2 * (i : Int)) (fun r => r = some (a + 2 * l.length, patMark a l.length)) ?_ ?_ k (l, a) ?_ hk
  · rintro k ⟨xs, z⟩ i hi ⟨h1, h2, h3⟩
    simp only at h1 h2 h3
    left
    have hi' : i < (List.range l.length).length := by simpa using hi
    obtain ⟨h4, h5⟩ := copied_step (fun j : Nat => (⟨(a + 2 * (j : Int)), (Int.tmod ((a + 2 * (j : Int)) + 1) 3) == 0⟩ : S85)) (List.range l.length) xs i hi' (by simpa using h1) h2
    refine ⟨(_, z + 2), ⟨?_, ?_, ?_⟩, markMarkS_step xs z i k (by omega) (by omega) (by omega) (by omega)⟩
    · simp only [List.length_set]
      exact h1
    · rw [List.getElem_range] at h5
      subst h3
      exact h5
    · simp only [h3]
      omega
  · rintro k ⟨xs, z⟩ ⟨h1, h2, h3⟩
    simp only at h1 h2 h3
    simp only [laws_markMarkS.l0]
    rw [if_neg (by omega)]
    have h4 := copied_end (fun j : Nat => (⟨(a + 2 * (j : Int)), (Int.tmod ((a + 2 * (j : Int)) + 1) 3) == 0⟩ : S85)) (List.range l.length) xs (by simpa using h1) (by simpa using h2)
    rw [h3, h4]
    rfl
  · exact ⟨rfl, by simp, by simp⟩
theorem heldMarkS_step (a : Int) (n i k : Nat) (hi : i < n) (h0 : 0 ≤ a) (ha : a ≤ 1000) (hl : n ≤ 4611686018427) :
    laws_heldMarkS.l0 (k + 1) (patMark a n) (a + 2 * (i : Int)) (i : Int) = laws_heldMarkS.l0 k (patMark a n) (a + 2 * ((i + 1 : Nat) : Int)) ((i + 1 : Nat) : Int) := by
  have hlen : (patMark a n).length = n := by simp [patMark]
  have vi : wrap64 ((i : Int) + 1) = ((i + 1 : Nat) : Int) := (w64 (by omega) (by omega)).trans (by omega)
  have e : rd_T85 (patMark a n) (i : Int) = (fun j : Nat => (⟨(a + 2 * (j : Int)), (Int.tmod ((a + 2 * (j : Int)) + 1) 3) == 0⟩ : S85)) i := by
    unfold rd_T85
    rw [getD_nat _ _ i (by omega)]
    simp only [patMark, List.getElem_map, List.getElem_range]
  have hz : ((a + 2 * ((i + 1 : Nat) : Int)) : Int) = a + 2 * (i : Int) + 2 := by omega
  rw [hz]
  generalize hzz : a + 2 * (i : Int) = z at *
  have hz0 : 0 ≤ z := by omega
  have hz1 : z ≤ 1152921504606846976 := by omega
  have v1 : wrap64 (z + 1) = z + 1 := (w64 (by omega) (by omega)).trans (by omega)
  have v2 : wrap64 (z + 1 + 1) = z + 2 := (w64 (by omega) (by omega)).trans (by omega)
  simp only [laws_heldMarkS.l0]
  rw [if_pos (by omega), if_pos (by omega), e]
  simp only [v1, v2, vi, bne_self_eq_false, Bool.false_eq_true, if_true, if_false, hzz]
theorem heldMarkS_eq (a : Int) (n k : Nat) (hk : n < k) (h0 : 0 ≤ a) (ha : a ≤ 1000) (hl : n ≤ 4611686018427) : laws_heldMarkS.f k (patMark a n) a = some (a + 2 * n) := by
  unfold laws_heldMarkS.f
  have hlen : (patMark a n).length = n := by simp [patMark]
  refine up_loop0 (fun k (s : Int) i => laws_heldMarkS.l0 k (patMark a n) s (i : Int)) n (fun i s => s = a + 2 * (i : Int)) (fun r => r = some (a + 2 * n)) ?_ ?_ k a ?_ hk
  · rintro k s i hi rfl
    left
    exact ⟨_, rfl, heldMarkS_step a n i k hi h0 ha hl⟩
  · rintro k s rfl
    simp only [laws_heldMarkS.l0]
    rw [if_neg (by omega)]
  · simp

theorem eqMarks_refl (g : Int) (l : List S85) (k : Nat) (hk : l.length < k) (hb : l.length ≤ 4611686018427387904) : laws_eqMarks.f k g l g l = some true := by
  unfold laws_eqMarks.f
  rw [if_pos rfl, eqMarkS_refl l k hk hb]
  rfl
theorem in_le (a l h : Int) : impl_in.f a l h = some (decide (l ≤ a) && decide (a ≤ h)) := by
  unfold impl_in.f
  by_cases c : l ≤ a <;> simp [c]
theorem both (n : Int) : ∃ r : List S85, spec_MarksNew.f n = some (0, r) ∧ impl_MarksNew.f n = some (0, r) ∧ r.length ≤ 4 := by
  unfold spec_MarksNew.f impl_MarksNew.f
  rw [in_le]
  simp only [Option.bind_some]
  by_cases h1 : 1 ≤ n
  · by_cases h2 : n ≤ 4
    · refine ⟨List.replicate n.toNat z85, ?_, ?_, by simp; omega⟩
      · rw [if_neg (by omega), if_neg (by omega), if_pos (by omega), if_pos (by omega)]
      · rw [decide_eq_true h1, decide_eq_true h2]
        simp only [Bool.and_self, if_true]
        rw [if_pos (by omega), if_pos (by omega)]
    · refine ⟨[], ?_, ?_, by simp⟩
      · rw [if_neg (by omega), if_pos (by omega)]
      · rw [decide_eq_true h1, decide_eq_false h2]
        rfl
  · refine ⟨[], ?_, ?_, by simp⟩
    · rw [if_pos (by omega)]
    · rw [decide_eq_false h1]
      rfl
theorem FnExactMarksNew : laws_FnExactMarksNew.Pure := by
  intro n _
  refine ⟨10, ?_⟩
  obtain ⟨r, h1, h2, h3⟩ := both n
  have h4 := eqMarks_refl 0 r 10 (by omega) (by omega)
  have h5 : laws_markMarks.f 10 0 r 1 = some (1 + 2 * (r.length : Int), patMark 1 r.length) := by
    unfold laws_markMarks.f
    rw [markMarkS_eq r 1 10 (by omega) (by omega) (by omega) (by omega)]
    rfl
  have h6 : laws_heldMarks.f 10 0 (patMark 1 r.length) 1 = some (1 + 2 * (r.length : Int)) := by
    unfold laws_heldMarks.f
    rw [heldMarkS_eq 1 r.length 10 (by omega) (by omega) (by omega) (by omega)]
    simp only [Option.bind_some]
    rw [if_neg (by omega)]
  unfold laws_FnExactMarksNew.f
  simp only [h1, h2, h4, h5, h6, Option.bind_some, if_true, if_neg (show ¬ (1 + 2 * (r.length : Int) < 0) by omega)]

end Go.Proofs.Ytcbpgeldlekgbaa.Pure
