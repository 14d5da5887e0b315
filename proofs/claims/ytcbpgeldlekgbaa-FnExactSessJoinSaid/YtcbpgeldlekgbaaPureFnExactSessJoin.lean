/- Proved: for all two lists of sessions the program's SessJoin gives what the reference's SessJoin gives, in memory of its own. No other condition. -/
import Derived.Test.YtcbpgeldlekgbaaSayFnExactSessJoin
import Derived.Test.YtcbpgeldlekgbaaBase
namespace Go.Proofs.Ytcbpgeldlekgbaa.Pure
open Go.RowKit Go.Proofs.Ytcbpgeldlekgbaa.PFnExactSessJoin Go.Proofs.YtcbpgeldlekgbaaW.PrintWords Go.Proofs.YtcbpgeldlekgbaaW.PrintLast Go.Proofs.YtcbpgeldlekgbaaW.PrintMore
open Go.Proofs.Ytcbpgeldlekgbaa.Base
set_option linter.unusedSimpArgs false
set_option linter.unusedVariables false

theorem toWinS_step (l : List S62) (ys : List S65) (i k : Nat) (hi : i < l.length) (hl : ys.length = l.length) (hb : l.length ≤ 1048576) :
    laws_toWinS.l0 (k + 1) l ys (i : Int) = laws_toWinS.l0 k l (ys.set i ((fun x : S62 => (⟨x.f0, x.f1⟩ : S65)) l[i])) ((i + 1 : Nat) : Int) := by
  have e : rd_T62 l (i : Int) = l[i] := getD_nat l _ i hi
  simp only [laws_toWinS.l0, laws_toWin.f, Option.bind_some]
  rw [if_pos (by omega), if_pos (by omega), if_pos (by omega), e, w64 (by omega) (by omega)]
  simp
theorem toWinS_eq (l : List S62) (k : Nat) (hk : l.length < k) (hb : l.length ≤ 1048576) : laws_toWinS.f k l = some (l.map (fun x : S62 => (⟨x.f0, x.f1⟩ : S65))) := by
  unfold laws_toWinS.f
  rw [if_pos (by omega), if_pos (by simp; omega)]
  refine up_loop0 (fun k (ys : List S65) i => laws_toWinS.l0 k l ys (i : Int)) l.length (fun i ys => ys.length = l.length ∧ ys.take i = (l.take i).map (fun x : S62 => (⟨x.f0, x.f1⟩ : S65))) (fun r => r = some (l.map (fun x : S62 => (⟨x.f0, x.f1⟩ : S65)))) ?_ ?_ k _ ?_ hk
  · rintro k s i hi ⟨h1, h2⟩
    left
    obtain ⟨h3, h4⟩ := copied_step (fun x : S62 => (⟨x.f0, x.f1⟩ : S65)) l s i hi h1 h2
    exact ⟨_, ⟨h3, h4⟩, toWinS_step l s i k hi h1 hb⟩
  · rintro k s ⟨h1, h2⟩
    simp only [laws_toWinS.l0]
    rw [if_neg (by omega), copied_end _ l s h1 h2]
  · simp

theorem eqWinS_refl (l : List S65) (k : Nat) (hk : l.length < k) (hb : l.length ≤ 4611686018427387904) : laws_eqWinS.f k l l = some true := by
  unfold laws_eqWinS.f
  rw [if_pos rfl]
  refine up_loop0 (fun k (_ : Unit) i => laws_eqWinS.l0 k l l (i : Int)) l.length (fun _ _ => True) (fun r => r = some true) ?_ ?_ k () trivial hk
  · rintro k _ i hi _
    left
    refine ⟨(), trivial, ?_⟩
    simp only [laws_eqWinS.l0, laws_eqWin.f, bne_self_eq_false, Bool.false_eq_true, if_true, if_false, Option.bind_some]
    rw [if_pos (by omega), if_pos (by omega), if_pos (by omega), w64 (by omega) (by omega)]
    simp
  · rintro k _ _
    simp only [laws_eqWinS.l0]
    rw [if_neg (by omega)]

def patWin (a : Int) (n : Nat) : List S65 := (List.range n).map (fun j : Nat => (⟨(a + 2 * (j : Int)), (a + 2 * (j : Int)) + 1⟩ : S65))
theorem markWinS_step (xs : List S65) (z : Int) (i k : Nat) (hi : i < xs.length) (h0 : 0 ≤ z) (hz : z ≤ 1152921504606846976) (hl : xs.length ≤ 1152921504606846976) :
    laws_markWinS.l0 (k + 1) xs z (i : Int) = laws_markWinS.l0 k (xs.set i (⟨z, z + 1⟩ : S65)) (z + 2) ((i + 1 : Nat) : Int) := by
  have v1 : wrap64 (z + 1) = z + 1 := (w64 (by omega) (by omega)).trans (by omega)
  have v2 : wrap64 (z + 1 + 1) = z + 2 := (w64 (by omega) (by omega)).trans (by omega)
  have vi : wrap64 ((i : Int) + 1) = ((i + 1 : Nat) : Int) := (w64 (by omega) (by omega)).trans (by omega)
  simp only [laws_markWinS.l0, Option.bind_some]
  rw [if_pos (by omega), if_pos (by omega)]
  simp only [v1, v2, vi, rd_T65, Int.toNat_natCast, List.set_set, List.getD_eq_getElem?_getD, List.getElem?_set_self hi, Option.getD_some]
theorem markWinS_eq (l : List S65) (a : Int) (k : Nat) (hk : l.length < k) (h0 : 0 ≤ a) (ha : a ≤ 1000000000) (hb : l.length ≤ 4611686018427) : laws_markWinS.f k l a = some (a + 2 * l.length, patWin a l.length) := by
  unfold laws_markWinS.f
  refine up_loop0 (fun k (s : List S65 × Int) i => laws_markWinS.l0 k s.1 s.2 (i : Int)) l.length (fun i s => s.1.length = l.length ∧ s.1.take i = ((List.range l.length).take i).map (fun j : Nat => (⟨(a + 2 * (j : Int)), (a + 2 * (j : Int)) + 1⟩ : S65)) ∧ s.2 = a + 2 * (i : Int)) (fun r => r = some (a + 2 * l.length, patWin a l.length)) ?_ ?_ k (l, a) ?_ hk
  · rintro k ⟨xs, z⟩ i hi ⟨h1, h2, h3⟩
    simp only at h1 h2 h3
    left
    have hi' : i < (List.range l.length).length := by simpa using hi
    obtain ⟨h4, h5⟩ := copied_step (fun j : Nat => (⟨(a + 2 * (j : Int)), (a + 2 * (j : Int)) + 1⟩ : S65)) (List.range l.length) xs i hi' (by simpa using h1) h2
    refine ⟨(_, z + 2), ⟨?_, ?_, ?_⟩, markWinS_step xs z i k (by omega) (by omega) (by omega) (by omega)⟩
    · simp only [List.length_set]
      exact h1
    · rw [List.getElem_range] at h5
      subst h3
      exact h5
    · simp only [h3]
      omega
  · rintro k ⟨xs, z⟩ ⟨h1, h2, h3⟩
    simp only at h1 h2 h3
    simp only [laws_markWinS.l0]
    rw [if_neg (by omega)]
    have h4 := copied_end (fun j : Nat => (⟨(a + 2 * (j : Int)), (a + 2 * (j : Int)) + 1⟩ : S65)) (List.range l.length) xs (by simpa using h1) (by simpa using h2)
    rw [h3, h4]
    rfl
  · exact ⟨rfl, by simp, by simp⟩
theorem heldWinS_step (a : Int) (n i k : Nat) (hi : i < n) (h0 : 0 ≤ a) (ha : a ≤ 1000000000) (hl : n ≤ 4611686018427) :
    laws_heldWinS.l0 (k + 1) (patWin a n) (a + 2 * (i : Int)) (i : Int) = laws_heldWinS.l0 k (patWin a n) (a + 2 * ((i + 1 : Nat) : Int)) ((i + 1 : Nat) : Int) := by
  have hlen : (patWin a n).length = n := by simp [patWin]
  have vi : wrap64 ((i : Int) + 1) = ((i + 1 : Nat) : Int) := (w64 (by omega) (by omega)).trans (by omega)
  have e : rd_T65 (patWin a n) (i : Int) = (fun j : Nat => (⟨(a + 2 * (j : Int)), (a + 2 * (j : Int)) + 1⟩ : S65)) i := by
    unfold rd_T65
    rw [getD_nat _ _ i (by omega)]
    simp only [patWin, List.getElem_map, List.getElem_range]
  have hz : ((a + 2 * ((i + 1 : Nat) : Int)) : Int) = a + 2 * (i : Int) + 2 := by omega
  rw [hz]
  generalize hzz : a + 2 * (i : Int) = z at *
  have hz0 : 0 ≤ z := by omega
  have hz1 : z ≤ 1152921504606846976 := by omega
  have v1 : wrap64 (z + 1) = z + 1 := (w64 (by omega) (by omega)).trans (by omega)
  have v2 : wrap64 (z + 1 + 1) = z + 2 := (w64 (by omega) (by omega)).trans (by omega)
  simp only [laws_heldWinS.l0]
  rw [if_pos (by omega), if_pos (by omega), e]
  simp only [v1, v2, vi, bne_self_eq_false, Bool.false_eq_true, if_true, if_false, hzz]
theorem heldWinS_eq (a : Int) (n k : Nat) (hk : n < k) (h0 : 0 ≤ a) (ha : a ≤ 1000000000) (hl : n ≤ 4611686018427) : laws_heldWinS.f k (patWin a n) a = some (a + 2 * n) := by
  unfold laws_heldWinS.f
  have hlen : (patWin a n).length = n := by simp [patWin]
  refine up_loop0 (fun k (s : Int) i => laws_heldWinS.l0 k (patWin a n) s (i : Int)) n (fun i s => s = a + 2 * (i : Int)) (fun r => r = some (a + 2 * n)) ?_ ?_ k a ?_ hk
  · rintro k s i hi rfl
    left
    exact ⟨_, rfl, heldWinS_step a n i k hi h0 ha hl⟩
  · rintro k s rfl
    simp only [laws_heldWinS.l0]
    rw [if_neg (by omega)]
  · simp

theorem sz_eq (l : List S62) (hl : l.length ≤ 9223372036854775807) : laws_szWinS.f l 1048576 = if 1048576 < l.length then some (-1) else some (1048576 - (l.length : Int)) := by
  unfold laws_szWinS.f
  rw [w64 (by omega) (by omega)]
  by_cases h : 1048576 < l.length
  · rw [if_pos (by omega), if_pos h]
  · rw [if_neg (by omega), if_neg h]
/-- A window is valid. -/
def vw (a b : Int) : Bool := decide (0 ≤ a) && decide (a < b) && decide (b ≤ 1100)
theorem spec_vw (a b : Int) : spec_l06Win.f a b = some (vw a b) := by
  unfold spec_l06Win.f vw
  by_cases h1 : 0 ≤ a <;> by_cases h2 : a < b <;> simp [h1, h2]
theorem impl_vw (a b : Int) : impl_isWin.f a b = some (vw a b) := by
  unfold impl_isWin.f vw
  by_cases h1 : 0 ≤ a <;> by_cases h2 : a < b <;> simp [h1, h2]
/-- Sessions are valid, behind one that ends at p. -/
def okF : Int → List S65 → Bool
  | _, [] => true
  | p, x :: r => vw x.f0 x.f1 && (decide (p ≤ x.f0) && okF x.f1 r)
def pv (l : List S65) (i : Nat) : Int := if i = 0 then 0 else (rd_T65 l ((i : Int) - 1)).f1
theorem pv_succ (l : List S65) (i : Nat) : pv l (i + 1) = (rd_T65 l (i : Int)).f1 := by
  unfold pv
  rw [if_neg (by omega)]
  congr 2
  omega
theorem drop_rd (l : List S65) (i : Nat) (hi : i < l.length) : l.drop i = rd_T65 l (i : Int) :: l.drop (i + 1) := by
  rw [List.drop_eq_getElem_cons hi]
  congr 1
  exact (getD_nat l _ i hi).symm
theorem spec_sess_loop (l : List S65) (hl : l.length ≤ 4611686018427387904) : ∀ (d k i : Nat), i + d = l.length → d < k → spec_SessOk.l0 k l (i : Int) = some (okF (pv l i) (l.drop i)) := by
  intro d
  induction d with
  | zero =>
    intro k i hi hk
    obtain ⟨k, rfl⟩ : ∃ m, k = m + 1 := ⟨k - 1, by omega⟩
    simp only [spec_SessOk.l0]
    rw [if_neg (by omega), List.drop_eq_nil_of_le (by omega)]
    rfl
  | succ d ih =>
    intro k i hi hk
    obtain ⟨k, rfl⟩ : ∃ m, k = m + 1 := ⟨k - 1, by omega⟩
    have h1 := ih k (i + 1) (by omega) (by omega)
    rw [pv_succ] at h1
    have e1 : wrap64 ((i : Int) + 1) = ((i + 1 : Nat) : Int) := (w64 (by omega) (by omega)).trans (by omega)
    have e2 : wrap64 ((i : Int) - 1) = (i : Int) - 1 := w64 (by omega) (by omega)
    rw [drop_rd l i (by omega)]
    simp only [spec_SessOk.l0, spec_vw, Option.bind_some, e1, e2, h1, okF]
    rw [if_pos (by omega), if_pos (by omega)]
    cases hv : vw (rd_T65 l (i : Int)).f0 (rd_T65 l (i : Int)).f1 with
    | false => simp
    | true =>
      simp only [if_true, Bool.true_and]
      by_cases hi0 : i = 0
      · subst hi0
        have hp : pv l 0 = 0 := rfl
        have h0 : 0 ≤ (rd_T65 l ((0 : Nat) : Int)).f0 := by
          unfold vw at hv
          simp only [Bool.and_eq_true, decide_eq_true_eq] at hv
          exact hv.1.1
        rw [if_neg (by omega), hp, decide_eq_true h0]
        rfl
      · have hp : pv l i = (rd_T65 l ((i : Int) - 1)).f1 := by unfold pv; rw [if_neg hi0]
        rw [if_pos (by omega), if_pos (by omega), if_pos (by omega), hp]
        by_cases g : (rd_T65 l (i : Int)).f0 < (rd_T65 l ((i : Int) - 1)).f1
        · rw [if_pos g, decide_eq_false (show ¬ (rd_T65 l ((i : Int) - 1)).f1 ≤ (rd_T65 l (i : Int)).f0 by omega)]
          rfl
        · rw [if_neg g, decide_eq_true (show (rd_T65 l ((i : Int) - 1)).f1 ≤ (rd_T65 l (i : Int)).f0 by omega)]
          rfl
theorem impl_sess_loop (l : List S65) (hl : l.length ≤ 4611686018427387904) : ∀ (d k i : Nat), i + d = l.length → d < k → impl_areSess.l0 k l l (l.length : Int) (i : Int) = some (okF (pv l i) (l.drop i) && decide (l.length ≤ 300)) := by
  intro d
  induction d with
  | zero =>
    intro k i hi hk
    obtain ⟨k, rfl⟩ : ∃ m, k = m + 1 := ⟨k - 1, by omega⟩
    simp only [impl_areSess.l0]
    rw [if_neg (by omega), List.drop_eq_nil_of_le (by omega)]
    simp only [okF, Bool.true_and, Option.some.injEq]
    exact decide_eq_decide.2 (by omega)
  | succ d ih =>
    intro k i hi hk
    obtain ⟨k, rfl⟩ : ∃ m, k = m + 1 := ⟨k - 1, by omega⟩
    have h1 := ih k (i + 1) (by omega) (by omega)
    rw [pv_succ] at h1
    have e1 : wrap64 ((i : Int) + 1) = ((i + 1 : Nat) : Int) := (w64 (by omega) (by omega)).trans (by omega)
    have e2 : wrap64 ((i : Int) - 1) = (i : Int) - 1 := w64 (by omega) (by omega)
    rw [drop_rd l i (by omega)]
    simp only [impl_areSess.l0, impl_vw, Option.bind_some, e1, e2, h1, okF]
    rw [if_pos (by omega), if_pos (by omega), if_pos (by omega)]
    cases hv : vw (rd_T65 l (i : Int)).f0 (rd_T65 l (i : Int)).f1 with
    | false => simp
    | true =>
      simp only [if_true, Bool.true_and]
      by_cases hi0 : i = 0
      · subst hi0
        have hp : pv l 0 = 0 := rfl
        have h0 : 0 ≤ (rd_T65 l ((0 : Nat) : Int)).f0 := by
          unfold vw at hv
          simp only [Bool.and_eq_true, decide_eq_true_eq] at hv
          exact hv.1.1
        rw [if_neg (by omega), hp, decide_eq_true h0]
        rfl
      · have hp : pv l i = (rd_T65 l ((i : Int) - 1)).f1 := by unfold pv; rw [if_neg hi0]
        rw [if_pos (by omega), if_pos (by omega), if_pos (by omega), hp]
        by_cases g : (rd_T65 l (i : Int)).f0 < (rd_T65 l ((i : Int) - 1)).f1
        · rw [if_pos g, decide_eq_false (show ¬ (rd_T65 l ((i : Int) - 1)).f1 ≤ (rd_T65 l (i : Int)).f0 by omega)]
          rfl
        · rw [if_neg g, decide_eq_true (show (rd_T65 l ((i : Int) - 1)).f1 ≤ (rd_T65 l (i : Int)).f0 by omega)]
          rfl
/-- Sessions are valid. -/
def sok (l : List S65) : Bool := okF 0 l && decide (l.length ≤ 300)
theorem spec_sok (l : List S65) (k : Nat) (hk : l.length < k) (hl : l.length ≤ 4611686018427387904) : spec_SessOk.f k l = some (sok l) := by
  unfold spec_SessOk.f sok
  by_cases h : (l.length : Int) > 300
  · rw [if_pos h, decide_eq_false (by omega), Bool.and_false]
  · rw [if_neg h, decide_eq_true (by omega), Bool.and_true]
    exact spec_sess_loop l hl l.length k 0 (by omega) hk
theorem impl_sok (l : List S65) (k : Nat) (hk : l.length < k) (hl : l.length ≤ 4611686018427387904) : impl_areSess.f k l = some (sok l) :=
  impl_sess_loop l hl l.length k 0 (by omega) hk
def sAdd : List S65 → List S65 → List S65 → Int → Int → List S65
  | [], h, u, f, t => (h ++ [⟨f, t⟩]) ++ u
  | x :: r, h, u, f, t => if x.f0 < t ∧ f < x.f1 then sAdd r h u (mn x.f0 f) (mx x.f1 t) else if x.f1 ≤ f then sAdd r (h ++ [⟨x.f0, x.f1⟩]) u f t else sAdd r h (u ++ [⟨x.f0, x.f1⟩]) f t
def iAdd : List S65 → List S65 → Bool → Int → Int → List S65
  | [], o, p, f, t => if p = true then o else o ++ [⟨f, t⟩]
  | x :: r, o, p, f, t => if x.f0 < t ∧ f < x.f1 then iAdd r o p (mn f x.f0) (mx t x.f1) else if t ≤ x.f0 then (if p = true then iAdd r (o ++ [⟨x.f0, x.f1⟩]) p f t else iAdd r (o ++ [⟨f, t⟩, ⟨x.f0, x.f1⟩]) true f t) else iAdd r (o ++ [⟨x.f0, x.f1⟩]) p f t
/-- A window put among sessions. -/
def ins : List S65 → Int → Int → List S65
  | [], f, t => [⟨f, t⟩]
  | x :: r, f, t => if x.f1 ≤ f then x :: ins r f t else if t ≤ x.f0 then (⟨f, t⟩ : S65) :: x :: r else ins r (mn f x.f0) (mx t x.f1)
theorem mn_comm (a b : Int) : mn a b = mn b a := by unfold mn; split <;> split <;> omega
theorem mx_comm (a b : Int) : mx a b = mx b a := by unfold mx; split <;> split <;> omega
theorem mn_le (a b : Int) : mn a b ≤ a ∧ mn a b ≤ b ∧ (mn a b = a ∨ mn a b = b) := by unfold mn; split <;> omega
theorem mx_ge (a b : Int) : a ≤ mx a b ∧ b ≤ mx a b ∧ (mx a b = a ∨ mx a b = b) := by unfold mx; split <;> omega
theorem ins_len : ∀ (l : List S65) (f t : Int), (ins l f t).length ≤ l.length + 1
  | [], f, t => by simp [ins]
  | x :: r, f, t => by
    unfold ins
    split
    · have := ins_len r f t
      simp only [List.length_cons]
      omega
    · split
      · simp
      · have := ins_len r (mn f x.f0) (mx t x.f1)
        simp only [List.length_cons]
        omega
theorem okF_lower : ∀ (l : List S65) (p q : Int), q ≤ p → okF p l = true → okF q l = true
  | [], _, _, _, _ => rfl
  | x :: r, p, q, h, hk => by
    simp only [okF, Bool.and_eq_true, decide_eq_true_eq] at hk ⊢
    exact ⟨hk.1, by omega, hk.2.2⟩
theorem vw_iff (a b : Int) : vw a b = true ↔ 0 ≤ a ∧ a < b ∧ b ≤ 1100 := by
  simp only [vw, Bool.and_eq_true, decide_eq_true_eq]
  omega
theorem ins_ok : ∀ (l : List S65) (p f t : Int), okF p l = true → p ≤ f → vw f t = true → okF p (ins l f t) = true
  | [], p, f, t, _, hp, hv => by simp [ins, okF, hv, hp]
  | x :: r, p, f, t, hk, hp, hv => by
    have hk0 := hk
    simp only [okF, Bool.and_eq_true, decide_eq_true_eq] at hk
    obtain ⟨h1, h2, h3⟩ := hk
    have hx := (vw_iff _ _).1 h1
    have hw := (vw_iff _ _).1 hv
    unfold ins
    split
    · rename_i c
      simp only [okF, h1, ins_ok r x.f1 f t h3 c hv, Bool.true_and, Bool.and_true, decide_eq_true_eq]
      exact h2
    · split
      · rename_i c1 c2
        simp only [okF, hv, h1, h3, Bool.true_and, Bool.and_true, Bool.and_eq_true, decide_eq_true_eq]
        exact ⟨hp, c2⟩
      · have m1 := mn_le f x.f0
        have m2 := mx_ge t x.f1
        exact ins_ok r p _ _ (okF_lower r x.f1 p (by omega) h3) (by omega) ((vw_iff _ _).2 (by omega))
theorem okF_from : ∀ (l : List S65) (p : Int), okF p l = true → ∀ x ∈ l, p ≤ x.f0 ∧ x.f0 < x.f1
  | [], _, _, _, hx => by simp at hx
  | y :: r, p, h, x, hx => by
    simp only [okF, Bool.and_eq_true, decide_eq_true_eq] at h
    have hy := (vw_iff _ _).1 h.1
    rcases List.mem_cons.1 hx with rfl | hx
    · exact ⟨h.2.1, hy.2.1⟩
    · have := okF_from r y.f1 h.2.2 x hx
      omega
theorem sAdd_right : ∀ (l h u : List S65) (f t : Int), f < t → (∀ x ∈ l, t ≤ x.f0 ∧ x.f0 < x.f1) → sAdd l h u f t = (h ++ [⟨f, t⟩]) ++ (u ++ l)
  | [], h, u, f, t, _, _ => by simp [sAdd]
  | x :: r, h, u, f, t, hw, hr => by
    have hx := hr x (List.mem_cons_self ..)
    unfold sAdd
    rw [if_neg (by omega), if_neg (by omega), sAdd_right r h _ f t hw (fun y hy => hr y (List.mem_cons_of_mem _ hy))]
    simp
theorem iAdd_right : ∀ (l o : List S65) (f t : Int), f < t → (∀ x ∈ l, t ≤ x.f0 ∧ x.f0 < x.f1) → iAdd l o true f t = o ++ l
  | [], o, f, t, _, _ => by simp [iAdd]
  | x :: r, o, f, t, hw, hr => by
    have hx := hr x (List.mem_cons_self ..)
    unfold iAdd
    rw [if_neg (by omega), if_pos (by omega), if_pos rfl, iAdd_right r _ f t hw (fun y hy => hr y (List.mem_cons_of_mem _ hy))]
    simp
theorem sAdd_ins : ∀ (l h : List S65) (p f t : Int), okF p l = true → f < t → sAdd l h [] f t = h ++ ins l f t
  | [], h, p, f, t, _, _ => by simp [sAdd, ins]
  | x :: r, h, p, f, t, hk, hw => by
    simp only [okF, Bool.and_eq_true, decide_eq_true_eq] at hk
    obtain ⟨h1, h2, h3⟩ := hk
    have hx := (vw_iff _ _).1 h1
    unfold sAdd ins
    by_cases c1 : x.f1 ≤ f
    · rw [if_neg (by omega), if_pos c1, if_pos c1, sAdd_ins r _ x.f1 f t h3 hw]
      simp
    · rw [if_neg c1, if_neg c1]
      by_cases c2 : t ≤ x.f0
      · rw [if_neg (by omega), if_pos c2, sAdd_right r h _ f t hw (fun y hy => by have := okF_from r x.f1 h3 y hy; omega)]
        simp
      · rw [if_pos (by omega), if_neg c2, mn_comm x.f0 f, mx_comm x.f1 t]
        have m1 := mn_le f x.f0
        have m2 := mx_ge t x.f1
        exact sAdd_ins r h x.f1 _ _ h3 (by omega)
theorem iAdd_ins : ∀ (l h : List S65) (p f t : Int), okF p l = true → f < t → iAdd l h false f t = h ++ ins l f t
  | [], h, p, f, t, _, _ => by simp [iAdd, ins]
  | x :: r, h, p, f, t, hk, hw => by
    simp only [okF, Bool.and_eq_true, decide_eq_true_eq] at hk
    obtain ⟨h1, h2, h3⟩ := hk
    have hx := (vw_iff _ _).1 h1
    unfold iAdd ins
    by_cases c1 : x.f1 ≤ f
    · rw [if_neg (by omega), if_neg (by omega), if_pos c1, iAdd_ins r _ x.f1 f t h3 hw]
      simp
    · rw [if_neg c1]
      by_cases c2 : t ≤ x.f0
      · rw [if_neg (by omega), if_pos c2, if_neg (show ¬ (false = true) by simp), if_pos c2, iAdd_right r _ f t hw (fun y hy => by have := okF_from r x.f1 h3 y hy; omega)]
        simp
      · rw [if_pos (by omega), if_neg c2]
        have m1 := mn_le f x.f0
        have m2 := mx_ge t x.f1
        exact iAdd_ins r h x.f1 _ _ h3 (by omega)
def fin (y : List S65) : List S65 × Bool := if y.length > 300 then ([], false) else (y, true)
theorem sAdd_len : ∀ (l h u : List S65) (f t : Int), (sAdd l h u f t).length ≤ h.length + u.length + l.length + 1
  | [], h, u, f, t => by simp [sAdd]; omega
  | x :: r, h, u, f, t => by
    unfold sAdd
    split
    · have := sAdd_len r h u (mn x.f0 f) (mx x.f1 t)
      simp only [List.length_cons]
      omega
    · split
      · have := sAdd_len r (h ++ [⟨x.f0, x.f1⟩]) u f t
        simp only [List.length_append, List.length_cons, List.length_nil] at this ⊢
        omega
      · have := sAdd_len r h (u ++ [⟨x.f0, x.f1⟩]) f t
        simp only [List.length_append, List.length_cons, List.length_nil] at this ⊢
        omega
theorem spec_meet (a b c d : Int) : spec_l06Meet.f a b c d = some (decide (a < d ∧ c < b)) := by
  unfold spec_l06Meet.f
  by_cases h : a < d <;> simp [h]
theorem impl_meet (a b c d : Int) : impl_Win_overlaps.f a b c d = some (decide (a < d ∧ c < b)) := by
  unfold impl_Win_overlaps.f
  by_cases h : a < d <;> simp [h]
theorem spec_add_loop (l : List S65) (hl : l.length ≤ 1048576) : ∀ (d k i : Nat) (h u : List S65) (f t : Int), i + d = l.length → d < k → h.length ≤ i → u.length ≤ i → spec_SessAdd.l0 k l h u (i : Int) f t = some (fin (sAdd (l.drop i) h u f t)) := by
  intro d
  induction d with
  | zero =>
    intro k i h u f t hi hk hh hu
    obtain ⟨k, rfl⟩ : ∃ m, k = m + 1 := ⟨k - 1, by omega⟩
    simp only [spec_SessAdd.l0, Option.bind_some]
    rw [if_neg (by omega), List.drop_eq_nil_of_le (by omega), if_pos (by omega), if_pos (by simp; omega)]
    unfold sAdd fin
    by_cases c : ((h ++ [(⟨f, t⟩ : S65)]) ++ u).length > 300
    · rw [if_pos (by omega), if_pos c]
    · rw [if_neg (by omega), if_neg c]
  | succ d ih =>
    intro k i h u f t hi hk hh hu
    obtain ⟨k, rfl⟩ : ∃ m, k = m + 1 := ⟨k - 1, by omega⟩
    have e1 : wrap64 ((i : Int) + 1) = ((i + 1 : Nat) : Int) := (w64 (by omega) (by omega)).trans (by omega)
    rw [drop_rd l i (by omega)]
    simp only [spec_SessAdd.l0, spec_meet, Option.bind_some, e1, sAdd, decide_eq_true_eq]
    rw [if_pos (by omega), if_pos (by omega)]
    by_cases c1 : (rd_T65 l (i : Int)).f0 < t ∧ f < (rd_T65 l (i : Int)).f1
    · rw [if_pos c1, if_pos c1]
      exact ih k (i + 1) h u _ _ (by omega) (by omega) (by omega) (by omega)
    · rw [if_neg c1, if_neg c1]
      by_cases c2 : (rd_T65 l (i : Int)).f1 ≤ f
      · rw [if_pos c2, if_pos c2, if_pos (by omega)]
        exact ih k (i + 1) _ u _ _ (by omega) (by omega) (by simp; omega) (by omega)
      · rw [if_neg c2, if_neg c2, if_pos (by omega)]
        exact ih k (i + 1) h _ _ _ (by omega) (by omega) (by omega) (by simp; omega)
theorem impl_add_loop (l : List S65) (hl : l.length ≤ 1048576) : ∀ (d k i : Nat) (o : List S65) (p : Bool) (f t : Int), i + d = l.length → d < k → o.length ≤ 2 * i → impl_sessAdd.l0 k o p l (l.length : Int) (i : Int) f t = some (iAdd (l.drop i) o p f t, decide ((iAdd (l.drop i) o p f t).length ≤ 300)) := by
  intro d
  induction d with
  | zero =>
    intro k i o p f t hi hk ho
    obtain ⟨k, rfl⟩ : ∃ m, k = m + 1 := ⟨k - 1, by omega⟩
    simp only [impl_sessAdd.l0, Option.bind_some]
    rw [if_neg (by omega), List.drop_eq_nil_of_le (by omega)]
    unfold iAdd
    cases p with
    | true =>
      rw [if_pos rfl, if_pos rfl]
      exact congrArg some (Prod.ext rfl (decide_eq_decide.2 (by omega)))
    | false =>
      rw [if_neg (by simp), if_pos (by omega), if_neg (by simp)]
      exact congrArg some (Prod.ext rfl (decide_eq_decide.2 (by omega)))
  | succ d ih =>
    intro k i o p f t hi hk ho
    obtain ⟨k, rfl⟩ : ∃ m, k = m + 1 := ⟨k - 1, by omega⟩
    have e1 : wrap64 ((i : Int) + 1) = ((i + 1 : Nat) : Int) := (w64 (by omega) (by omega)).trans (by omega)
    rw [drop_rd l i (by omega)]
    simp only [impl_sessAdd.l0, impl_meet, Option.bind_some, e1, iAdd, decide_eq_true_eq]
    rw [if_pos (by omega), if_pos (by omega), if_pos (by omega)]
    by_cases c1 : (rd_T65 l (i : Int)).f0 < t ∧ f < (rd_T65 l (i : Int)).f1
    · simp only [if_pos c1]
      exact ih k (i + 1) o p _ _ (by omega) (by omega) (by omega)
    · simp only [if_neg c1]
      by_cases c2 : t ≤ (rd_T65 l (i : Int)).f0
      · have c2' : (rd_T65 l (i : Int)).f0 ≥ t := c2
        simp only [if_pos c2, if_pos c2']
        cases p with
        | true =>
          simp only [if_true]
          rw [if_pos (by omega)]
          exact ih k (i + 1) _ true _ _ (by omega) (by omega) (by simp; omega)
        | false =>
          simp only [Bool.false_eq_true, if_false]
          rw [if_pos (by simp; omega)]
          exact ih k (i + 1) _ true _ _ (by omega) (by omega) (by simp; omega)
      · have c2' : ¬ (rd_T65 l (i : Int)).f0 ≥ t := c2
        simp only [if_neg c2, if_neg c2']
        rw [if_pos (by omega)]
        exact ih k (i + 1) _ p _ _ (by omega) (by omega) (by simp; omega)
theorem impl_ins (l : List S65) (f t : Int) (k : Nat) (hk : l.length < k) (hl : l.length ≤ 1048576) (hok : okF 0 l = true) (hw : f < t) : impl_sessAdd.f k l f t = some (ins l f t, decide ((ins l f t).length ≤ 300)) := by
  have h := impl_add_loop l hl l.length k 0 [] false f t (by omega) hk (by simp)
  rw [List.drop_zero, iAdd_ins l [] 0 f t hok hw, List.nil_append] at h
  exact h
theorem spec_add (l : List S65) (f t : Int) (k : Nat) (hk : l.length + 1 < k) (hl : l.length ≤ 1048576) : spec_SessAdd.f k l f t = some (if (sok l && vw f t) = true then fin (ins l f t) else ([], false)) := by
  obtain ⟨k, rfl⟩ : ∃ m, k = m + 1 := ⟨k - 1, by omega⟩
  unfold spec_SessAdd.f
  rw [spec_sok l _ (by omega) (by omega)]
  simp only [spec_vw, Option.bind_some, spec_SessAdd.j0]
  cases hs : sok l with
  | false => simp
  | true =>
    cases hv : vw f t with
    | false => simp
    | true =>
      simp only [if_true, Bool.not_true, Bool.false_eq_true, if_false, Bool.and_self]
      have h := spec_add_loop l hl l.length k 0 [] [] f t (by omega) (by omega) (by simp) (by simp)
      unfold sok at hs
      rw [Bool.and_eq_true] at hs
      rw [List.drop_zero, sAdd_ins l [] 0 f t hs.1 ((vw_iff _ _).1 hv).2.1, List.nil_append] at h
      exact h
theorem fin_true {y : List S65} (h : (fin y).2 = true) : (fin y).1 = y ∧ y.length ≤ 300 := by
  unfold fin at h ⊢
  split at h
  · simp at h
  · rename_i c
    rw [if_neg c]
    exact ⟨rfl, by omega⟩
def joinF : List S65 → List S65 → List S65 × Bool
  | y, [] => (y, true)
  | y, x :: r => if (fin (ins y x.f0 x.f1)).2 = true then joinF (fin (ins y x.f0 x.f1)).1 r else ([], false)
theorem vw_of (b : List S65) (p : Int) (hb : okF p b = true) (i : Nat) (hi : i < b.length) : vw (rd_T65 b (i : Int)).f0 (rd_T65 b (i : Int)).f1 = true := by
  have h3 : rd_T65 b (i : Int) ∈ b := by
    have : rd_T65 b (i : Int) = b[i] := getD_nat b _ i hi
    rw [this]
    exact List.getElem_mem _
  have gen : ∀ (l : List S65) (p : Int), okF p l = true → ∀ x ∈ l, vw x.f0 x.f1 = true := by
    intro l
    induction l with
    | nil => intro p _ x hx; simp at hx
    | cons y r ih =>
      intro p h x hx
      simp only [okF, Bool.and_eq_true] at h
      rcases List.mem_cons.1 hx with rfl | hx
      · exact h.1
      · exact ih _ h.2.2 x hx
  exact gen b p hb _ h3
theorem fin_le (y : List S65) : (fin y).1.length ≤ 300 := by
  unfold fin
  split
  · simp
  · simp only
    omega
theorem joinF_len : ∀ (b y : List S65), y.length ≤ 300 → (joinF y b).1.length ≤ 300
  | [], y, h => h
  | x :: r, y, h => by
    unfold joinF
    split
    · exact joinF_len r _ (fin_le _)
    · simp
theorem impl_all_loop (b : List S65) (hb : b.length ≤ 1048576) (hv : ∀ i, i < b.length → vw (rd_T65 b (i : Int)).f0 (rd_T65 b (i : Int)).f1 = true) : ∀ (d k i : Nat) (y : List S65), i + d = b.length → d + 310 < k → sok y = true → impl_sessAll.l0 k y b (b.length : Int) (i : Int) = some (joinF y (b.drop i)) := by
  intro d
  induction d with
  | zero =>
    intro k i y hi hk hs
    obtain ⟨k, rfl⟩ : ∃ m, k = m + 1 := ⟨k - 1, by omega⟩
    simp only [impl_sessAll.l0]
    rw [if_neg (by omega), List.drop_eq_nil_of_le (by omega)]
    rfl
  | succ d ih =>
    intro k i y hi hk hs
    obtain ⟨k, rfl⟩ : ∃ m, k = m + 1 := ⟨k - 1, by omega⟩
    have e1 : wrap64 ((i : Int) + 1) = ((i + 1 : Nat) : Int) := (w64 (by omega) (by omega)).trans (by omega)
    have hw := hv i (by omega)
    have hw2 := (vw_iff _ _).1 hw
    have hs2 := hs
    unfold sok at hs2
    rw [Bool.and_eq_true, decide_eq_true_eq] at hs2
    rw [drop_rd b i (by omega)]
    simp only [impl_sessAll.l0, e1]
    rw [if_pos (by omega), if_pos (by omega), if_pos (by omega), impl_ins y _ _ k (by omega) (by omega) hs2.1 hw2.2.1]
    simp only [Option.bind_some, joinF, decide_eq_true_eq]
    have hok : okF 0 (ins y (rd_T65 b (i : Int)).f0 (rd_T65 b (i : Int)).f1) = true := ins_ok y 0 _ _ hs2.1 hw2.1 hw
    by_cases c : (ins y (rd_T65 b (i : Int)).f0 (rd_T65 b (i : Int)).f1).length ≤ 300
    · have hf : fin (ins y (rd_T65 b (i : Int)).f0 (rd_T65 b (i : Int)).f1) = (ins y (rd_T65 b (i : Int)).f0 (rd_T65 b (i : Int)).f1, true) := by
        unfold fin
        rw [if_neg (by omega)]
      rw [if_pos c, hf, if_pos rfl]
      exact ih k (i + 1) _ (by omega) (by omega) (by unfold sok; rw [hok, decide_eq_true c]; rfl)
    · have hf : fin (ins y (rd_T65 b (i : Int)).f0 (rd_T65 b (i : Int)).f1) = (([] : List S65), false) := by
        unfold fin
        rw [if_pos (by omega)]
      rw [if_neg c, hf, if_neg (show ¬ (false = true) by simp)]
theorem spec_join_loop (b : List S65) (hb : b.length ≤ 1048576) (hv : ∀ i, i < b.length → vw (rd_T65 b (i : Int)).f0 (rd_T65 b (i : Int)).f1 = true) : ∀ (d k i : Nat) (y : List S65), i + d = b.length → d + 310 < k → sok y = true → spec_SessJoin.l0 k b y (i : Int) = some (joinF y (b.drop i)) := by
  intro d
  induction d with
  | zero =>
    intro k i y hi hk hs
    obtain ⟨k, rfl⟩ : ∃ m, k = m + 1 := ⟨k - 1, by omega⟩
    simp only [spec_SessJoin.l0]
    rw [if_neg (by omega), List.drop_eq_nil_of_le (by omega)]
    rfl
  | succ d ih =>
    intro k i y hi hk hs
    obtain ⟨k, rfl⟩ : ∃ m, k = m + 1 := ⟨k - 1, by omega⟩
    have e1 : wrap64 ((i : Int) + 1) = ((i + 1 : Nat) : Int) := (w64 (by omega) (by omega)).trans (by omega)
    have hw := hv i (by omega)
    have hw2 := (vw_iff _ _).1 hw
    have hs2 := hs
    unfold sok at hs2
    rw [Bool.and_eq_true, decide_eq_true_eq] at hs2
    rw [drop_rd b i (by omega)]
    simp only [spec_SessJoin.l0, e1]
    rw [if_pos (by omega), if_pos (by omega), spec_add y _ _ k (by omega) (by omega), hs, hw]
    simp only [Option.bind_some, joinF, Bool.and_self, if_true]
    have hok : okF 0 (ins y (rd_T65 b (i : Int)).f0 (rd_T65 b (i : Int)).f1) = true := ins_ok y 0 _ _ hs2.1 hw2.1 hw
    by_cases c : (fin (ins y (rd_T65 b (i : Int)).f0 (rd_T65 b (i : Int)).f1)).2 = true
    · rw [if_pos c, if_pos c]
      obtain ⟨h5, h6⟩ := fin_true c
      rw [h5]
      exact ih k (i + 1) _ (by omega) (by omega) (by unfold sok; rw [hok, decide_eq_true h6]; rfl)
    · rw [if_neg c, if_neg c]
def joinR (a b : List S65) : List S65 × Bool := if sok a = true then if sok b = true then joinF a b else ([], false) else ([], false)
theorem sok_len {a : List S65} (h : sok a = true) : a.length ≤ 300 := by
  unfold sok at h
  rw [Bool.and_eq_true, decide_eq_true_eq] at h
  exact h.2
theorem joinR_len (a b : List S65) : (joinR a b).1.length ≤ 300 := by
  unfold joinR
  split
  · rename_i h
    split
    · exact joinF_len b a (sok_len h)
    · simp
  · simp
theorem sok_vw {b : List S65} (h : sok b = true) : ∀ i, i < b.length → vw (rd_T65 b (i : Int)).f0 (rd_T65 b (i : Int)).f1 = true := by
  unfold sok at h
  rw [Bool.and_eq_true] at h
  exact vw_of b 0 h.1
theorem spec_join (a b : List S65) (k : Nat) (hk : a.length + b.length + 1000 < k) (ha : a.length ≤ 1048576) (hb : b.length ≤ 1048576) : spec_SessJoin.f k a b = some (joinR a b) := by
  obtain ⟨k, rfl⟩ : ∃ m, k = m + 1 := ⟨k - 1, by omega⟩
  unfold spec_SessJoin.f joinR
  rw [spec_sok a _ (by omega) (by omega), spec_sok b _ (by omega) (by omega)]
  simp only [Option.bind_some, spec_SessJoin.j0]
  cases hs : sok a with
  | false => simp
  | true =>
    cases ht : sok b with
    | false => simp
    | true =>
      simp only [if_true, Bool.not_true, Bool.false_eq_true, if_false, List.length_nil, List.nil_append]
      have h1 := sok_len ht
      have h2 := sok_len hs
      rw [if_pos (by omega)]
      exact spec_join_loop b hb (sok_vw ht) b.length k 0 a (by omega) (by omega) hs
theorem impl_join (a b : List S65) (k : Nat) (hk : a.length + b.length + 1000 < k) (ha : a.length ≤ 1048576) (hb : b.length ≤ 1048576) : impl_SessJoin.f k a b = some (joinR a b) := by
  unfold impl_SessJoin.f joinR
  rw [impl_sok a _ (by omega) (by omega), impl_sok b _ (by omega) (by omega)]
  simp only [Option.bind_some]
  cases hs : sok a with
  | false => simp
  | true =>
    cases ht : sok b with
    | false => simp
    | true =>
      simp only [if_true, impl_sessAll.f, Option.bind_some, List.length_nil, List.nil_append]
      have h1 := sok_len ht
      have h2 := sok_len hs
      rw [if_pos (by omega)]
      have h3 := impl_all_loop b hb (sok_vw ht) b.length k 0 a (by omega) (by omega) hs
      simp only [Int.natCast_zero, List.drop_zero] at h3
      rw [h3]
      rfl
theorem sz_eq2 (l : List S62) (a : Int) (ha : 0 ≤ a ∧ a ≤ 1048576) (hl : l.length ≤ 9223372036854775807) : laws_szWinS.f l a = if a < l.length then some (-1) else some (a - (l.length : Int)) := by
  unfold laws_szWinS.f
  rw [w64 (by omega) (by omega)]
  by_cases h : a < l.length
  · rw [if_pos (by omega), if_pos h]
  · rw [if_neg (by omega), if_neg h]
theorem FnExactSessJoin : Say.FnExactSessJoin := by
  intro l m hl _ hm _
  generalize hK : l.length + m.length + 3000 = K
  refine ⟨K + 3, ?_⟩
  unfold laws_FnExactSessJoin.f
  rw [sz_eq l hl]
  by_cases h : 1048576 < l.length
  · rw [if_pos h]
    rfl
  rw [if_neg h]
  simp only [Option.bind_some]
  rw [if_neg (by omega), sz_eq2 m _ (by omega) hm]
  by_cases h2 : (1048576 - (l.length : Int)) < m.length
  · rw [if_pos h2]
    rfl
  rw [if_neg h2]
  simp only [Option.bind_some]
  rw [if_neg (by omega)]
  have T : ∀ k, l.length < k → laws_toWinS.f k l = some (l.map fun x : S62 => (⟨x.f0, x.f1⟩ : S65)) := fun k hk => toWinS_eq l k hk (by omega)
  have T2 : ∀ k, m.length < k → laws_toWinS.f k m = some (m.map fun x : S62 => (⟨x.f0, x.f1⟩ : S65)) := fun k hk => toWinS_eq m k hk (by omega)
  have ha : (l.map fun x : S62 => (⟨x.f0, x.f1⟩ : S65)).length = l.length := by simp
  have hb : (m.map fun x : S62 => (⟨x.f0, x.f1⟩ : S65)).length = m.length := by simp
  generalize (l.map fun x : S62 => (⟨x.f0, x.f1⟩ : S65)) = a at ha T
  generalize (m.map fun x : S62 => (⟨x.f0, x.f1⟩ : S65)) = b at hb T2
  have hS : ∀ k, l.length + m.length + 1000 < k → spec_SessJoin.f k a b = some (joinR a b) := fun k hk => spec_join a b k (by omega) (by omega) (by omega)
  have hI : ∀ k, l.length + m.length + 1000 < k → impl_SessJoin.f k a b = some (joinR a b) := fun k hk => impl_join a b k (by omega) (by omega) (by omega)
  have hrl := joinR_len a b
  generalize joinR a b = r at hS hI hrl
  simp only [T _ (show l.length < K + 3 by omega), T2 _ (show m.length < K + 3 by omega), Option.bind_some, hS _ (show l.length + m.length + 1000 < K + 3 by omega), hI _ (show l.length + m.length + 1000 < K + 3 by omega), eqWinS_refl r.1 (K + 3) (by omega) (by omega), if_true, bne_self_eq_false]
  obtain ⟨z, hz⟩ : ∃ z, laws_markWinS.f (K + 2) b (1 + 2 * (a.length : Int)) = some (1 + 2 * (a.length : Int) + 2 * b.length, z) := by
    exact ⟨_, markWinS_eq b (1 + 2 * (a.length : Int)) (K + 2) (by omega) (by omega) (by omega) (by omega)⟩
  simp only [laws_FnExactSessJoin.j0, Bool.false_eq_true, if_false, T _ (show l.length < K + 2 by omega), T2 _ (show m.length < K + 2 by omega), Option.bind_some, eqWinS_refl a (K + 2) (by omega) (by omega), eqWinS_refl b (K + 2) (by omega) (by omega), eqWinS_refl r.1 (K + 2) (by omega) (by omega), if_true, bne_self_eq_false, markWinS_eq a 1 (K + 2) (by omega) (by omega) (by omega) (by omega), hz, if_neg (show ¬ (1 + 2 * (a.length : Int) + 2 * b.length < 0) by omega)]
  simp only [laws_FnExactSessJoin.j1, Bool.false_eq_true, if_false, T _ (show l.length < K + 1 by omega), T2 _ (show m.length < K + 1 by omega), Option.bind_some, eqWinS_refl r.1 (K + 1) (by omega) (by omega), if_true, bne_self_eq_false, markWinS_eq r.1 1 (K + 1) (by omega) (by omega) (by omega) (by omega), heldWinS_eq 1 r.1.length (K + 1) (by omega) (by omega) (by omega) (by omega), if_neg (show ¬ (1 + 2 * (r.1.length : Int) < 0) by omega), hI _ (show l.length + m.length + 1000 < K + 1 by omega)]
  simp only [laws_FnExactSessJoin.j2, Bool.false_eq_true, if_false, Option.bind_some, if_true, heldWinS_eq 1 r.1.length K (by omega) (by omega) (by omega) (by omega), if_neg (show ¬ (1 + 2 * (r.1.length : Int) < 0) by omega)]

end Go.Proofs.Ytcbpgeldlekgbaa.Pure
