/- Proved: for all sessions and times the program's SessAt answers as the reference's SessAt. No other condition. -/
import Derived.Test.YtcbpgeldlekgbaaSayFnExactSessAt
import Derived.Test.YtcbpgeldlekgbaaBase
namespace Go.Proofs.Ytcbpgeldlekgbaa.Pure
open Go.RowKit Go.Proofs.Ytcbpgeldlekgbaa.PFnExactSessAt Go.Proofs.YtcbpgeldlekgbaaW.PrintWords Go.Proofs.YtcbpgeldlekgbaaW.PrintLast Go.Proofs.YtcbpgeldlekgbaaW.PrintMore
open Go.Proofs.Ytcbpgeldlekgbaa.Base
set_option linter.unusedSimpArgs false
set_option linter.unusedVariables false

theorem toWinS_step (l : List S62) (ys : List S65) (i k : Nat) (hi : i < l.length) (hl : ys.length = l.length) (hb : l.length ≤ 1048576) :
    laws_toWinS.l0 (k + 1) l ys (i : Int) = laws_toWinS.l0 k l (ys.set i ((fun x : S62 => (⟨x.f0, x.f1⟩ : S65)) l[i])) ((i + 1 : Nat) : Int) := by
  have e : rd_T62 l (i : Int) = l[i] := getD_nat l _ i hi
  simp only [laws_toWinS.l0, laws_toWin.f, Option.bind_some]
  rw [if_pos (by omega), if_pos (by omega), if_pos (by omega), e, w64 (by omega) (by omega)]
  simp
theorem toWinS_eq (l : List S62) (k : Nat) (hk : l.length < k) (hb : l.length ≤ 1048576) : laws_toWinS.f k l = some (l.map (fun x : S62 => (⟨x.f0, x.f1⟩ : S65))) := by
  unfold laws_toWinS.f
  rw [if_pos (by omega), if_pos (by simp; omega)]
  refine up_loop0 (fun k (ys : List S65) i => laws_toWinS.l0 k l ys (i : Int)) l.length (fun i ys => ys.length = l.length ∧ ys.take i = (l.take i).map (fun x : S62 => (⟨x.f0, x.f1⟩ : S65))) (fun r => r = some (l.map (fun x : S62 => (⟨x.f0, x.f1⟩ : S65)))) ?_ ?_ k _ ?_ hk
  · rintro k s i hi ⟨h1, h2⟩
    left
    obtain ⟨h3, h4⟩ := copied_step (fun x : S62 => (⟨x.f0, x.f1⟩ : S65)) l s i hi h1 h2
    exact ⟨_, ⟨h3, h4⟩, toWinS_step l s i k hi h1 hb⟩
  · rintro k s ⟨h1, h2⟩
    simp only [laws_toWinS.l0]
    rw [if_neg (by omega), copied_end _ l s h1 h2]
  · simp

theorem eqWinS_refl (l : List S65) (k : Nat) (hk : l.length < k) (hb : l.length ≤ 4611686018427387904) : laws_eqWinS.f k l l = some true := by
  unfold laws_eqWinS.f
  rw [if_pos rfl]
  refine up_loop0 (fun k (_ : Unit) i => laws_eqWinS.l0 k l l (i : Int)) l.length (fun _ _ => True) (fun r => r = some true) ?_ ?_ k () trivial hk
  · rintro k _ i hi _
    left
    refine ⟨(), trivial, ?_⟩
    simp only [laws_eqWinS.l0, laws_eqWin.f, bne_self_eq_false, Bool.false_eq_true, if_true, if_false, Option.bind_some]
    rw [if_pos (by omega), if_pos (by omega), if_pos (by omega), w64 (by omega) (by omega)]
    simp
  · rintro k _ _
    simp only [laws_eqWinS.l0]
    rw [if_neg (by omega)]

theorem sz_eq (l : List S62) (hl : l.length ≤ 9223372036854775807) : laws_szWinS.f l 1048576 = if 1048576 < l.length then some (-1) else some (1048576 - (l.length : Int)) := by
  unfold laws_szWinS.f
  rw [w64 (by omega) (by omega)]
  by_cases h : 1048576 < l.length
  · rw [if_pos (by omega), if_pos h]
  · rw [if_neg (by omega), if_neg h]
/-- A window is valid. -/
def vw (a b : Int) : Bool := decide (0 ≤ a) && decide (a < b) && decide (b ≤ 1100)
theorem spec_vw (a b : Int) : spec_l06Win.f a b = some (vw a b) := by
  unfold spec_l06Win.f vw
  by_cases h1 : 0 ≤ a <;> by_cases h2 : a < b <;> simp [h1, h2]
theorem impl_vw (a b : Int) : impl_isWin.f a b = some (vw a b) := by
  unfold impl_isWin.f vw
  by_cases h1 : 0 ≤ a <;> by_cases h2 : a < b <;> simp [h1, h2]
/-- Sessions are valid, behind one that ends at p. -/
def okF : Int → List S65 → Bool
  | _, [] => true
  | p, x :: r => vw x.f0 x.f1 && (decide (p ≤ x.f0) && okF x.f1 r)
def pv (l : List S65) (i : Nat) : Int := if i = 0 then 0 else (rd_T65 l ((i : Int) - 1)).f1
theorem pv_succ (l : List S65) (i : Nat) : pv l (i + 1) = (rd_T65 l (i : Int)).f1 := by
  unfold pv
  rw [if_neg (by omega)]
  congr 2
  omega
theorem drop_rd (l : List S65) (i : Nat) (hi : i < l.length) : l.drop i = rd_T65 l (i : Int) :: l.drop (i + 1) := by
  rw [List.drop_eq_getElem_cons hi]
  congr 1
  exact (getD_nat l _ i hi).symm
theorem spec_sess_loop (l : List S65) (hl : l.length ≤ 4611686018427387904) : ∀ (d k i : Nat), i + d = l.length → d < k → spec_SessOk.l0 k l (i : Int) = some (okF (pv l i) (l.drop i)) := by
  intro d
  induction d with
  | zero =>
    intro k i hi hk
    obtain ⟨k, rfl⟩ : ∃ m, k = m + 1 := ⟨k - 1, by omega⟩
    simp only [spec_SessOk.l0]
    rw [if_neg (by omega), List.drop_eq_nil_of_le (by omega)]
    rfl
  | succ d ih =>
    intro k i hi hk
    obtain ⟨k, rfl⟩ : ∃ m, k = m + 1 := ⟨k - 1, by omega⟩
    have h1 := ih k (i + 1) (by omega) (by omega)
    rw [pv_succ] at h1
    have e1 : wrap64 ((i : Int) + 1) = ((i + 1 : Nat) : Int) := (w64 (by omega) (by omega)).trans (by omega)
    have e2 : wrap64 ((i : Int) - 1) = (i : Int) - 1 := w64 (by omega) (by omega)
    rw [drop_rd l i (by omega)]
    simp only [spec_SessOk.l0, spec_vw, Option.bind_some, e1, e2, h1, okF]
    rw [if_pos (by omega), if_pos (by omega)]
    cases hv : vw (rd_T65 l (i : Int)).f0 (rd_T65 l (i : Int)).f1 with
    | false => simp
    | true =>
      simp only [if_true, Bool.true_and]
      by_cases hi0 : i = 0
      · subst hi0
        have hp : pv l 0 = 0 := rfl
        have h0 : 0 ≤ (rd_T65 l ((0 : Nat) : Int)).f0 := by
          unfold vw at hv
          simp only [Bool.and_eq_true, decide_eq_true_eq] at hv
          exact hv.1.1
        rw [if_neg (by omega), hp, decide_eq_true h0]
        rfl
      · have hp : pv l i = (rd_T65 l ((i : Int) - 1)).f1 := by unfold pv; rw [if_neg hi0]
        rw [if_pos (by omega), if_pos (by omega), if_pos (by omega), hp]
        by_cases g : (rd_T65 l (i : Int)).f0 < (rd_T65 l ((i : Int) - 1)).f1
        · rw [if_pos g, decide_eq_false (show ¬ (rd_T65 l ((i : Int) - 1)).f1 ≤ (rd_T65 l (i : Int)).f0 by omega)]
          rfl
        · rw [if_neg g, decide_eq_true (show (rd_T65 l ((i : Int) - 1)).f1 ≤ (rd_T65 l (i : Int)).f0 by omega)]
          rfl
theorem impl_sess_loop (l : List S65) (hl : l.length ≤ 4611686018427387904) : ∀ (d k i : Nat), i + d = l.length → d < k → impl_areSess.l0 k l l (l.length : Int) (i : Int) = some (okF (pv l i) (l.drop i) && decide (l.length ≤ 300)) := by
  intro d
  induction d with
  | zero =>
    intro k i hi hk
    obtain ⟨k, rfl⟩ : ∃ m, k = m + 1 := ⟨k - 1, by omega⟩
    simp only [impl_areSess.l0]
    rw [if_neg (by omega), List.drop_eq_nil_of_le (by omega)]
    simp only [okF, Bool.true_and, Option.some.injEq]
    exact decide_eq_decide.2 (by omega)
  | succ d ih =>
    intro k i hi hk
    obtain ⟨k, rfl⟩ : ∃ m, k = m + 1 := ⟨k - 1, by omega⟩
    have h1 := ih k (i + 1) (by omega) (by omega)
    rw [pv_succ] at h1
    have e1 : wrap64 ((i : Int) + 1) = ((i + 1 : Nat) : Int) := (w64 (by omega) (by omega)).trans (by omega)
    have e2 : wrap64 ((i : Int) - 1) = (i : Int) - 1 := w64 (by omega) (by omega)
    rw [drop_rd l i (by omega)]
    simp only [impl_areSess.l0, impl_vw, Option.bind_some, e1, e2, h1, okF]
    rw [if_pos (by omega), if_pos (by omega), if_pos (by omega)]
    cases hv : vw (rd_T65 l (i : Int)).f0 (rd_T65 l (i : Int)).f1 with
    | false => simp
    | true =>
      simp only [if_true, Bool.true_and]
      by_cases hi0 : i = 0
      · subst hi0
        have hp : pv l 0 = 0 := rfl
        have h0 : 0 ≤ (rd_T65 l ((0 : Nat) : Int)).f0 := by
          unfold vw at hv
          simp only [Bool.and_eq_true, decide_eq_true_eq] at hv
          exact hv.1.1
        rw [if_neg (by omega), hp, decide_eq_true h0]
        rfl
      · have hp : pv l i = (rd_T65 l ((i : Int) - 1)).f1 := by unfold pv; rw [if_neg hi0]
        rw [if_pos (by omega), if_pos (by omega), if_pos (by omega), hp]
        by_cases g : (rd_T65 l (i : Int)).f0 < (rd_T65 l ((i : Int) - 1)).f1
        · rw [if_pos g, decide_eq_false (show ¬ (rd_T65 l ((i : Int) - 1)).f1 ≤ (rd_T65 l (i : Int)).f0 by omega)]
          rfl
        · rw [if_neg g, decide_eq_true (show (rd_T65 l ((i : Int) - 1)).f1 ≤ (rd_T65 l (i : Int)).f0 by omega)]
          rfl
/-- Sessions are valid. -/
def sok (l : List S65) : Bool := okF 0 l && decide (l.length ≤ 300)
theorem spec_sok (l : List S65) (k : Nat) (hk : l.length < k) (hl : l.length ≤ 4611686018427387904) : spec_SessOk.f k l = some (sok l) := by
  unfold spec_SessOk.f sok
  by_cases h : (l.length : Int) > 300
  · rw [if_pos h, decide_eq_false (by omega), Bool.and_false]
  · rw [if_neg h, decide_eq_true (by omega), Bool.and_true]
    exact spec_sess_loop l hl l.length k 0 (by omega) hk
theorem impl_sok (l : List S65) (k : Nat) (hk : l.length < k) (hl : l.length ≤ 4611686018427387904) : impl_areSess.f k l = some (sok l) :=
  impl_sess_loop l hl l.length k 0 (by omega) hk
theorem in_le (a l h : Int) : impl_in.f a l h = some (decide (l ≤ a) && decide (a ≤ h)) := by
  unfold impl_in.f
  by_cases c : l ≤ a <;> simp [c]
/-- The place of the first session that holds t, counted from i. -/
def atF (t : Int) : Int → List S65 → Int
  | _, [] => -1
  | i, x :: r => if x.f0 ≤ t ∧ t < x.f1 then i else atF t (i + 1) r
theorem okF_mem : ∀ (l : List S65) (p : Int), okF p l = true → ∀ x ∈ l, vw x.f0 x.f1 = true
  | [], _, _, _, hx => by simp at hx
  | y :: r, p, h, x, hx => by
    simp only [okF, Bool.and_eq_true] at h
    rcases List.mem_cons.1 hx with rfl | hx
    · exact h.1
    · exact okF_mem r _ h.2.2 x hx
theorem spec_at_loop (l : List S65) (t : Int) (hl : l.length ≤ 1048576) (hok : sok l = true) : ∀ (d k i : Nat), i + d = l.length → 2 * d + l.length + 3 < k → spec_SessAt.l0 k l t (i : Int) = some (atF t (i : Int) (l.drop i)) := by
  intro d
  induction d with
  | zero =>
    intro k i hi hk
    obtain ⟨k, rfl⟩ : ∃ m, k = m + 2 := ⟨k - 2, by omega⟩
    simp only [spec_SessAt.l0]
    rw [spec_sok l (k + 1) (by omega) (by omega), hok]
    simp only [Option.bind_some, if_true, spec_SessAt.j1]
    rw [decide_eq_false (by omega), List.drop_eq_nil_of_le (by omega)]
    rfl
  | succ d ih =>
    intro k i hi hk
    obtain ⟨k, rfl⟩ : ∃ m, k = m + 2 := ⟨k - 2, by omega⟩
    have e1 : wrap64 ((i : Int) + 1) = ((i + 1 : Nat) : Int) := (w64 (by omega) (by omega)).trans (by omega)
    simp only [spec_SessAt.l0]
    rw [spec_sok l (k + 1) (by omega) (by omega), hok, drop_rd l i (by omega)]
    simp only [Option.bind_some, if_true, spec_SessAt.j1, e1, ih k (i + 1) (by omega) (by omega)]
    rw [decide_eq_true (show (i : Int) < (l.length : Int) by omega), if_pos rfl, if_pos (by omega), if_pos (by omega)]
    simp only [atF]
    by_cases c1 : (rd_T65 l (i : Int)).f0 ≤ t
    · by_cases c2 : t < (rd_T65 l (i : Int)).f1
      · rw [if_pos c1, if_pos c2, if_pos ⟨c1, c2⟩]
      · rw [if_pos c1, if_neg c2, if_neg (fun h => c2 h.2)]
        rfl
    · rw [if_neg c1, if_neg (fun h => c1 h.1)]
      rfl
theorem impl_at_loop (l : List S65) (t : Int) (hl : l.length ≤ 1048576) (hok : sok l = true) : ∀ (d k i : Nat), i + d = l.length → d < k → impl_sessAt.l0 k t l (l.length : Int) (i : Int) = some (atF t (i : Int) (l.drop i)) := by
  intro d
  induction d with
  | zero =>
    intro k i hi hk
    obtain ⟨k, rfl⟩ : ∃ m, k = m + 1 := ⟨k - 1, by omega⟩
    simp only [impl_sessAt.l0]
    rw [if_neg (by omega), List.drop_eq_nil_of_le (by omega)]
    rfl
  | succ d ih =>
    intro k i hi hk
    obtain ⟨k, rfl⟩ : ∃ m, k = m + 1 := ⟨k - 1, by omega⟩
    have e1 : wrap64 ((i : Int) + 1) = ((i + 1 : Nat) : Int) := (w64 (by omega) (by omega)).trans (by omega)
    have hv : vw (rd_T65 l (i : Int)).f0 (rd_T65 l (i : Int)).f1 = true := by
      have h3 : rd_T65 l (i : Int) ∈ l := by
        have : rd_T65 l (i : Int) = l[i] := getD_nat l _ i (by omega)
        rw [this]
        exact List.getElem_mem _
      unfold sok at hok
      rw [Bool.and_eq_true] at hok
      exact okF_mem l 0 hok.1 _ h3
    simp only [vw, Bool.and_eq_true, decide_eq_true_eq] at hv
    rw [drop_rd l i (by omega)]
    simp only [impl_sessAt.l0, impl_Win_has.f, in_le, Option.bind_some, e1, ih k (i + 1) (by omega) (by omega), atF]
    rw [if_pos (by omega), if_pos (by omega), if_pos (by omega), w64 (i := (rd_T65 l (i : Int)).f1 - 1) (by omega) (by omega)]
    by_cases c1 : (rd_T65 l (i : Int)).f0 ≤ t
    · by_cases c2 : t < (rd_T65 l (i : Int)).f1
      · rw [decide_eq_true c1, decide_eq_true (show t ≤ (rd_T65 l (i : Int)).f1 - 1 by omega)]
        simp only [Bool.and_self, if_true]
        rw [if_pos ⟨c1, c2⟩]
      · rw [decide_eq_true c1, decide_eq_false (show ¬ t ≤ (rd_T65 l (i : Int)).f1 - 1 by omega)]
        simp only [Bool.and_false, Bool.false_eq_true, if_false]
        rw [if_neg (fun h => c2 h.2)]
        rfl
    · rw [decide_eq_false c1]
      simp only [Bool.false_and, Bool.false_eq_true, if_false]
      rw [if_neg (fun h => c1 h.1)]
      rfl
theorem FnExactSessAt : Say.FnExactSessAt := by
  intro l t hl _ _
  refine ⟨3 * l.length + 10, ?_⟩
  unfold laws_FnExactSessAt.f
  rw [sz_eq l hl]
  by_cases h : 1048576 < l.length
  · rw [if_pos h]
    rfl
  · rw [if_neg h]
    simp only [Option.bind_some]
    rw [if_neg (by omega), toWinS_eq l _ (by omega) (by omega)]
    simp only [Option.bind_some, impl_SessAt.f]
    have hm : (l.map fun x : S62 => (⟨x.f0, x.f1⟩ : S65)).length = l.length := by simp
    generalize (l.map fun x : S62 => (⟨x.f0, x.f1⟩ : S65)) = m at hm
    rw [impl_sok m _ (by omega) (by omega)]
    simp only [Option.bind_some]
    have key : ∃ r, spec_SessAt.f (3 * l.length + 10) m t = some r ∧ (if sok m = true then (impl_sessAt.f (3 * l.length + 10) m t).bind fun t130 => some t130 else some (-1)) = some r := by
      cases hs : sok m with
      | false =>
        refine ⟨-1, ?_, by simp⟩
        unfold spec_SessAt.f
        rw [show 3 * l.length + 10 = (3 * l.length + 8) + 2 from rfl]
        simp only [spec_SessAt.l0]
        rw [spec_sok m _ (by omega) (by omega), hs]
        simp [spec_SessAt.j1]
      | true =>
        refine ⟨atF t 0 m, spec_at_loop m t (by omega) hs m.length _ 0 (by omega) (by omega), ?_⟩
        have h2 := impl_at_loop m t (by omega) hs m.length (3 * l.length + 10) 0 (by omega) (by omega)
        rw [if_pos rfl]
        unfold impl_sessAt.f
        rw [show (0 : Int) = ((0 : Nat) : Int) from rfl, h2]
        rfl
    obtain ⟨r, h1, h2⟩ := key
    rw [h1, h2]
    simp only [Option.bind_some, if_true]
    rw [eqWinS_refl m _ (by omega) (by omega)]
    rfl

end Go.Proofs.Ytcbpgeldlekgbaa.Pure
