/- Proved: for every window definition and time the program's WinsOf gives the reference's windows, in memory of its own. No other condition. -/
import Derived.Test.YtcbpgeldlekgbaaSayFnExactWinsOf
import Derived.Test.YtcbpgeldlekgbaaBase
namespace Go.Proofs.Ytcbpgeldlekgbaa.Pure
open Go.RowKit Go.Proofs.Ytcbpgeldlekgbaa.PFnExactWinsOf Go.Proofs.YtcbpgeldlekgbaaW.PrintWords Go.Proofs.YtcbpgeldlekgbaaW.PrintLast Go.Proofs.YtcbpgeldlekgbaaW.PrintMore
open Go.Proofs.Ytcbpgeldlekgbaa.Base
set_option linter.unusedSimpArgs false
set_option linter.unusedVariables false

theorem eqWinS_refl (l : List S65) (k : Nat) (hk : l.length < k) (hb : l.length ≤ 4611686018427387904) : laws_eqWinS.f k l l = some true := by
  unfold laws_eqWinS.f
  rw [if_pos rfl]
  refine up_loop0 (fun k (_ : Unit) i => laws_eqWinS.l0 k l l (i : Int)) l.length (fun _ _ => True) (fun r => r = some true) ?_ ?_ k () trivial hk
  · rintro k _ i hi _
    left
    refine ⟨(), trivial, ?_⟩
    simp only [laws_eqWinS.l0, laws_eqWin.f, bne_self_eq_false, Bool.false_eq_true, if_true, if_false, Option.bind_some]
    rw [if_pos (by omega), if_pos (by omega), if_pos (by omega), w64 (by omega) (by omega)]
    simp
  · rintro k _ _
    simp only [laws_eqWinS.l0]
    rw [if_neg (by omega)]

def patWin (a : Int) (n : Nat) : List S65 := (List.range n).map (fun j : Nat => (⟨(a + 2 * (j : Int)), (a + 2 * (j : Int)) + 1⟩ : S65))
theorem markWinS_step (xs : List S65) (z : Int) (i k : Nat) (hi : i < xs.length) (h0 : 0 ≤ z) (hz : z ≤ 1152921504606846976) (hl : xs.length ≤ 1152921504606846976) :
    laws_markWinS.l0 (k + 1) xs z (i : Int) = laws_markWinS.l0 k (xs.set i (⟨z, z + 1⟩ : S65)) (z + 2) ((i + 1 : Nat) : Int) := by
  have v1 : wrap64 (z + 1) = z + 1 := (w64 (by omega) (by omega)).trans (by omega)
  have v2 : wrap64 (z + 1 + 1) = z + 2 := (w64 (by omega) (by omega)).trans (by omega)
  have vi : wrap64 ((i : Int) + 1) = ((i + 1 : Nat) : Int) := (w64 (by omega) (by omega)).trans (by omega)
  simp only [laws_markWinS.l0, Option.bind_some]
  rw [if_pos (by omega), if_pos (by omega)]
  simp only [v1, v2, vi, rd_T65, Int.toNat_natCast, List.set_set, List.getD_eq_getElem?_getD, List.getElem?_set_self hi, Option.getD_some]
theorem markWinS_eq (l : List S65) (a : Int) (k : Nat) (hk : l.length < k) (h0 : 0 ≤ a) (ha : a ≤ 1000) (hb : l.length ≤ 4611686018427) : laws_markWinS.f k l a = some (a + 2 * l.length, patWin a l.length) := by
  unfold laws_markWinS.f
  refine up_loop0 (fun k (s : List S65 × Int) i => laws_markWinS.l0 k s.1 s.2 (i : Int)) l.length (fun i s => s.1.length = l.length ∧ s.1.take i = ((List.range l.length).take i).map (fun j : Nat => (⟨(a + 2 * (j : Int)), (a + 2 * (j : Int)) + 1⟩ : S65)) ∧ s.2 = a + 2 * (i : Int)) (fun r => r = some (a + 2 * l.length, patWin a l.length)) ?_ ?_ k (l, a) ?_ hk
  · rintro k ⟨xs, z⟩ i hi ⟨h1, h2, h3⟩
    simp only at h1 h2 h3
    left
    have hi' : i < (List.range l.length).length := by simpa using hi
    obtain ⟨h4, h5⟩ := copied_step (fun j : Nat => (⟨(a + 2 * (j : Int)), (a + 2 * (j : Int)) + 1⟩ : S65)) (List.range l.length) xs i hi' (by simpa using h1) h2
    refine ⟨(_, z + 2), ⟨?_, ?_, ?_⟩, markWinS_step xs z i k (by omega) (by omega) (by omega) (by omega)⟩
    · simp only [List.length_set]
      exact h1
    · rw [List.getElem_range] at h5
      subst h3
      exact h5
    · simp only [h3]
      omega
  · rintro k ⟨xs, z⟩ ⟨h1, h2, h3⟩
    simp only at h1 h2 h3
    simp only [laws_markWinS.l0]
    rw [if_neg (by omega)]
    have h4 := copied_end (fun j : Nat => (⟨(a + 2 * (j : Int)), (a + 2 * (j : Int)) + 1⟩ : S65)) (List.range l.length) xs (by simpa using h1) (by simpa using h2)
    rw [h3, h4]
    rfl
  · exact ⟨rfl, by simp, by simp⟩
theorem heldWinS_step (a : Int) (n i k : Nat) (hi : i < n) (h0 : 0 ≤ a) (ha : a ≤ 1000) (hl : n ≤ 4611686018427) :
    laws_heldWinS.l0 (k + 1) (patWin a n) (a + 2 * (i : Int)) (i : Int) = laws_heldWinS.l0 k (patWin a n) (a + 2 * ((i + 1 : Nat) : Int)) ((i + 1 : Nat) : Int) := by
  have hlen : (patWin a n).length = n := by simp [patWin]
  have vi : wrap64 ((i : Int) + 1) = ((i + 1 : Nat) : Int) := (w64 (by omega) (by omega)).trans (by omega)
  have e : rd_T65 (patWin a n) (i : Int) = (fun j : Nat => (⟨(a + 2 * (j : Int)), (a + 2 * (j : Int)) + 1⟩ : S65)) i := by
    unfold rd_T65
    rw [getD_nat _ _ i (by omega)]
    simp only [patWin, List.getElem_map, List.getElem_range]
  have hz : ((a + 2 * ((i + 1 : Nat) : Int)) : Int) = a + 2 * (i : Int) + 2 := by omega
  rw [hz]
  generalize hzz : a + 2 * (i : Int) = z at *
  have hz0 : 0 ≤ z := by omega
  have hz1 : z ≤ 1152921504606846976 := by omega
  have v1 : wrap64 (z + 1) = z + 1 := (w64 (by omega) (by omega)).trans (by omega)
  have v2 : wrap64 (z + 1 + 1) = z + 2 := (w64 (by omega) (by omega)).trans (by omega)
  simp only [laws_heldWinS.l0]
  rw [if_pos (by omega), if_pos (by omega), e]
  simp only [v1, v2, vi, bne_self_eq_false, Bool.false_eq_true, if_true, if_false, hzz]
theorem heldWinS_eq (a : Int) (n k : Nat) (hk : n < k) (h0 : 0 ≤ a) (ha : a ≤ 1000) (hl : n ≤ 4611686018427) : laws_heldWinS.f k (patWin a n) a = some (a + 2 * n) := by
  unfold laws_heldWinS.f
  have hlen : (patWin a n).length = n := by simp [patWin]
  refine up_loop0 (fun k (s : Int) i => laws_heldWinS.l0 k (patWin a n) s (i : Int)) n (fun i s => s = a + 2 * (i : Int)) (fun r => r = some (a + 2 * n)) ?_ ?_ k a ?_ hk
  · rintro k s i hi rfl
    left
    exact ⟨_, rfl, heldWinS_step a n i k hi h0 ha hl⟩
  · rintro k s rfl
    simp only [laws_heldWinS.l0]
    rw [if_neg (by omega)]
  · simp

theorem in_le (a l h : Int) : impl_in.f a l h = some (decide (l ≤ a) && decide (a ≤ h)) := by
  unfold impl_in.f
  by_cases c : l ≤ a <;> simp [c]
/-- A definition is valid. -/
def wok (a b c : Int) : Bool := decide (1 ≤ b ∧ b ≤ 100 ∧ ((a = 1 ∨ a = 3) ∧ c = 0 ∨ a = 2 ∧ 1 ≤ c ∧ c ≤ b ∧ b ≤ 8 * c))
theorem spec_wok (k : Nat) (a b c : Int) : spec_WinOk.f (k + 1) a b c = some (wok a b c) := by
  unfold spec_WinOk.f wok
  simp only [spec_WinOk.j0]
  by_cases h1 : a < 1
  · rw [if_pos h1]
    have : ¬ (a = 1 ∨ a = 3) := by omega
    have : ¬ a = 2 := by omega
    simp [*]
  rw [if_neg h1]
  by_cases h2 : a > 3
  · rw [if_pos h2]
    have : ¬ (a = 1 ∨ a = 3) := by omega
    have : ¬ a = 2 := by omega
    simp [*]
  rw [if_neg h2]
  by_cases h3 : b < 1
  · rw [if_pos h3]
    have : ¬ 1 ≤ b := by omega
    simp [this]
  rw [if_neg h3]
  by_cases h4 : b > 100
  · have : ¬ b ≤ 100 := by omega
    simp [h4, this]
  have g1 : 1 ≤ b := by omega
  have g2 : b ≤ 100 := by omega
  have g3 : decide (b > 100) = false := decide_eq_false h4
  rw [g3]
  simp only [Bool.false_eq_true, if_false]
  by_cases h5 : a = 2
  · subst h5
    by_cases h6 : 1 ≤ c
    · by_cases h7 : c ≤ b
      · rw [w64 (by omega) (by omega)]
        simp [h6, h7, g1, g2]
      · simp [h6, h7]
    · simp [h6]
  · have : a = 1 ∨ a = 3 := by omega
    rw [if_neg h5]
    simp only [this, h5, g1, g2, true_and, false_and, or_false, Option.some.injEq]
    by_cases h8 : c = 0 <;> simp [h8]
theorem impl_wok (k : Nat) (a b c : Int) : impl_isWinDef.f (k + 1) a b c = some (wok a b c) := by
  unfold impl_isWinDef.f wok
  simp only [impl_isWinDef.j0, in_le, Option.bind_some]
  by_cases h3 : 1 ≤ b
  rotate_left
  · simp [h3]
  by_cases h4 : b ≤ 100
  rotate_left
  · simp [h4]
  simp only [h3, h4, decide_true, Bool.and_self, if_true, true_and]
  by_cases h5 : a = 1
  · subst h5
    by_cases h8 : c = 0 <;> simp [h8]
  by_cases h6 : a = 3
  · subst h6
    by_cases h8 : c = 0 <;> simp [h8]
  have h7 : ¬ (a = 1 ∨ a = 3) := by omega
  rw [if_neg h5]
  have h8 : (a == 3) = false := by simpa using h6
  simp only [h8, Bool.false_eq_true, if_false, h5, h6, false_or, false_and]
  by_cases h9 : a = 2
  · subst h9
    by_cases h6 : 1 ≤ c
    · by_cases h7 : c ≤ b
      · rw [w64 (by omega) (by omega)]
        simp [h6, h7]
      · simp [h6, h7]
    · simp [h6]
  · simp [h9]
theorem wok_true {a b c : Int} (h : wok a b c = true) : 1 ≤ b ∧ b ≤ 100 ∧ (a = 1 ∨ a = 3 ∨ a = 2 ∧ 1 ≤ c ∧ c ≤ b) := by
  unfold wok at h
  simp only [decide_eq_true_eq] at h
  omega
theorem l0_eq : ∀ (k : Nat) (t : Int) (xs : List S65) (x a b c : Int), spec_WinsOf.l0 k t xs x a b c = impl_winsOf.l0 k t xs x a b c
  | 0, _, _, _, _, _, _ => by simp only [spec_WinsOf.l0, impl_winsOf.l0]
  | k + 1, t, xs, x, a, b, c => by simp only [spec_WinsOf.l0, impl_winsOf.l0, l0_eq k, GT.gt]
theorem l0_ends (t a b c : Int) (ht : t ≤ 1000) (hb : 1 ≤ b ∧ b ≤ 100) (hc : 1 ≤ c ∧ c ≤ 100) : ∀ (d k : Nat) (xs : List S65) (x : Int), 0 ≤ x → t - x < d → d < k → xs.length + d ≤ 100000 → x ≤ 2000 →
    ∃ r, impl_winsOf.l0 k t xs x a b c = some r ∧ r.length ≤ xs.length + d := by
  intro d
  induction d with
  | zero =>
    intro k xs x h0 h1 h2 h3 h4
    obtain ⟨k, rfl⟩ : ∃ m, k = m + 1 := ⟨k - 1, by omega⟩
    simp only [impl_winsOf.l0]
    rw [if_neg (by omega)]
    exact ⟨_, rfl, by omega⟩
  | succ d ih =>
    intro k xs x h0 h1 h2 h3 h4
    obtain ⟨k, rfl⟩ : ∃ m, k = m + 1 := ⟨k - 1, by omega⟩
    simp only [impl_winsOf.l0]
    by_cases g : x ≤ t
    · rw [if_pos g, w64 (i := x + c) (by omega) (by omega)]
      by_cases g2 : t < wrap64 (x + b)
      · rw [if_pos g2, if_pos (by omega)]
        obtain ⟨r, h5, h6⟩ := ih k (xs ++ [(⟨x, wrap64 (x + b)⟩ : S65)]) (x + c) (by omega) (by omega) (by omega) (by simp; omega) (by omega)
        exact ⟨r, h5, by simp at h6; omega⟩
      · rw [if_neg g2]
        obtain ⟨r, h5, h6⟩ := ih k xs (x + c) (by omega) (by omega) (by omega) (by omega) (by omega)
        exact ⟨r, h5, by omega⟩
    · rw [if_neg g]
      exact ⟨_, rfl, by omega⟩
theorem both (k : Nat) (hk : 5000 < k) (a b c t : Int) : ∃ r, spec_WinsOf.f k a b c t = some r ∧ impl_WinsOf.f k a b c t = some r ∧ r.length ≤ 10000 := by
  obtain ⟨k, rfl⟩ : ∃ m, k = m + 1 := ⟨k - 1, by omega⟩
  unfold spec_WinsOf.f impl_WinsOf.f spec_l05Time.f impl_isTime.f
  rw [spec_wok, impl_wok]
  simp only [in_le, Option.bind_some]
  cases hv : wok a b c with
  | false =>
    simp only [Bool.false_eq_true, if_false, spec_WinsOf.j0, if_true]
    exact ⟨[], rfl, rfl, by simp⟩
  | true =>
    obtain ⟨h1, h2, h3⟩ := wok_true hv
    simp only [if_true]
    by_cases g0 : 0 ≤ t
    rotate_left
    · have g : ¬ t ≥ 0 := g0
      simp only [g, g0, if_false, Option.bind_some, decide_false, Bool.false_and, Bool.false_eq_true, spec_WinsOf.j0, Bool.not_false, if_true]
      exact ⟨[], rfl, rfl, by simp⟩
    by_cases g1 : t ≤ 1000
    rotate_left
    · have g : t ≥ 0 := g0
      simp only [g, g0, g1, if_false, Option.bind_some, decide_false, Bool.and_false, Bool.false_eq_true, spec_WinsOf.j0, Bool.not_false, if_true]
      exact ⟨[], rfl, rfl, by simp⟩
    have g : t ≥ 0 := g0
    simp only [g, g0, g1, Option.bind_some, decide_true, Bool.and_self, if_true, Bool.not_true, spec_WinsOf.j0, Bool.false_eq_true, if_false, impl_winsOf.f, l0_eq]
    by_cases e1 : a = 1
    · have e2 : ¬ b = 0 := by omega
      simp only [e1, e2, if_true, if_false, Option.bind_some]
      exact ⟨_, rfl, rfl, by simp⟩
    · by_cases e3 : a = 3
      · simp only [e1, e3, if_true, if_false, Option.bind_some]
        exact ⟨_, rfl, rfl, by simp⟩
      · simp only [e1, e3, if_false]
        obtain ⟨r, h5, h6⟩ := l0_ends t a b c g1 ⟨h1, h2⟩ (by omega) 1001 (k + 1) [] 0 (by omega) (by omega) (by omega) (by simp) (by omega)
        have h7 : impl_winsOf.l0 k t [] 0 a b c = impl_winsOf.l0 (k + 1) t [] 0 a b c := by
          obtain ⟨r', h8, h9⟩ := l0_ends t a b c g1 ⟨h1, h2⟩ (by omega) 1001 k [] 0 (by omega) (by omega) (by omega) (by simp) (by omega)
          have h10 := (impl_winsOf.mono_l k) t [] 0 a b c
          rw [h8, h10 _ h8]
        rw [h7, h5]
        simp only [Option.bind_some]
        exact ⟨r, rfl, rfl, by simp at h6; omega⟩
theorem FnExactWinsOf : Say.FnExactWinsOf := by
  intro a b c t _ _ _ _
  refine ⟨20000, ?_⟩
  obtain ⟨r, hs, hi, hr⟩ := both 20000 (by omega) a b c t
  unfold laws_FnExactWinsOf.f
  simp only [laws_toWinDef.f, Option.bind_some, hs, hi, eqWinS_refl r 20000 (by omega) (by omega), if_true, markWinS_eq r 1 20000 (by omega) (by omega) (by omega) (by omega), heldWinS_eq 1 r.length 20000 (by omega) (by omega) (by omega) (by omega)]
  simp only [if_neg (show ¬ (1 + 2 * (r.length : Int) < 0) by omega)]

end Go.Proofs.Ytcbpgeldlekgbaa.Pure
