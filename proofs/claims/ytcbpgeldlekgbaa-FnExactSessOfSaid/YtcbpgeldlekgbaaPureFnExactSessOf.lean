/- Proved: for every window and list of times the program's SessOf answers as the reference's. No other condition. -/
import Derived.Test.YtcbpgeldlekgbaaSayFnExactSessOf
import Derived.Test.YtcbpgeldlekgbaaBase
import Derived.Test.YtcbpgeldlekgbaaEv
import Derived.Test.YtcbpgeldlekgbaaEw
namespace Go.Proofs.Ytcbpgeldlekgbaa.Pure
open Go.RowKit Go.Proofs.Ytcbpgeldlekgbaa.QFnExactSessOf Go.Proofs.YtcbpgeldlekgbaaW.PrintWords Go.Proofs.YtcbpgeldlekgbaaW.PrintLast Go.Proofs.YtcbpgeldlekgbaaW.PrintMore
open Go.Proofs.Ytcbpgeldlekgbaa.Base
set_option linter.unusedSimpArgs false
set_option linter.unusedVariables false

open Go.Proofs.Ytcbpgeldlekgbaa.Evt
/-- A window is valid. -/
def vw (a b : Int) : Bool := decide (0 ≤ a) && decide (a < b) && decide (b ≤ 1100)
theorem spec_vw (a b : Int) : spec_l06Win.f a b = some (vw a b) := by
  unfold spec_l06Win.f vw
  by_cases h1 : 0 ≤ a <;> by_cases h2 : a < b <;> simp [h1, h2]
def okF : Int → List S65 → Bool
  | _, [] => true
  | p, x :: r => vw x.f0 x.f1 && (decide (p ≤ x.f0) && okF x.f1 r)
def pv (l : List S65) (i : Nat) : Int := if i = 0 then 0 else (rd_T65 l ((i : Int) - 1)).f1
theorem pv_succ (l : List S65) (i : Nat) : pv l (i + 1) = (rd_T65 l (i : Int)).f1 := by
  unfold pv
  rw [if_neg (by omega)]
  congr 2
  omega
theorem drop_rd (l : List S65) (i : Nat) (hi : i < l.length) : l.drop i = rd_T65 l (i : Int) :: l.drop (i + 1) := by
  rw [List.drop_eq_getElem_cons hi]
  congr 1
  exact (getD_nat l _ i hi).symm
theorem spec_sess_loop (l : List S65) (hl : l.length ≤ 4611686018427387904) : ∀ (d k i : Nat), i + d = l.length → d < k → spec_SessOk.l0 k l (i : Int) = some (okF (pv l i) (l.drop i)) := by
  intro d
  induction d with
  | zero =>
    intro k i hi hk
    obtain ⟨k, rfl⟩ : ∃ m, k = m + 1 := ⟨k - 1, by omega⟩
    simp only [spec_SessOk.l0]
    rw [if_neg (by omega), List.drop_eq_nil_of_le (by omega)]
    rfl
  | succ d ih =>
    intro k i hi hk
    obtain ⟨k, rfl⟩ : ∃ m, k = m + 1 := ⟨k - 1, by omega⟩
    have h1 := ih k (i + 1) (by omega) (by omega)
    rw [pv_succ] at h1
    have e1 : wrap64 ((i : Int) + 1) = ((i + 1 : Nat) : Int) := (w64 (by omega) (by omega)).trans (by omega)
    have e2 : wrap64 ((i : Int) - 1) = (i : Int) - 1 := w64 (by omega) (by omega)
    rw [drop_rd l i (by omega)]
    simp only [spec_SessOk.l0, spec_vw, Option.bind_some, e1, e2, h1, okF]
    rw [if_pos (by omega), if_pos (by omega)]
    cases hv : vw (rd_T65 l (i : Int)).f0 (rd_T65 l (i : Int)).f1 with
    | false => simp
    | true =>
      simp only [if_true, Bool.true_and]
      by_cases hi0 : i = 0
      · subst hi0
        have hp : pv l 0 = 0 := rfl
        have h0 : 0 ≤ (rd_T65 l ((0 : Nat) : Int)).f0 := by
          unfold vw at hv
          simp only [Bool.and_eq_true, decide_eq_true_eq] at hv
          exact hv.1.1
        rw [if_neg (by omega), hp, decide_eq_true h0]
        rfl
      · have hp : pv l i = (rd_T65 l ((i : Int) - 1)).f1 := by unfold pv; rw [if_neg hi0]
        rw [if_pos (by omega), if_pos (by omega), if_pos (by omega), hp]
        by_cases g : (rd_T65 l (i : Int)).f0 < (rd_T65 l ((i : Int) - 1)).f1
        · rw [if_pos g, decide_eq_false (show ¬ (rd_T65 l ((i : Int) - 1)).f1 ≤ (rd_T65 l (i : Int)).f0 by omega)]
          rfl
        · rw [if_neg g, decide_eq_true (show (rd_T65 l ((i : Int) - 1)).f1 ≤ (rd_T65 l (i : Int)).f0 by omega)]
          rfl
def sok (l : List S65) : Bool := okF 0 l && decide (l.length ≤ 300)
theorem spec_sok (l : List S65) (k : Nat) (hk : l.length < k) (hl : l.length ≤ 4611686018427387904) : spec_SessOk.f k l = some (sok l) := by
  unfold spec_SessOk.f sok
  by_cases h : (l.length : Int) > 300
  · rw [if_pos h, decide_eq_false (by omega), Bool.and_false]
  · rw [if_neg h, decide_eq_true (by omega), Bool.and_true]
    exact spec_sess_loop l hl l.length k 0 (by omega) hk
def sAdd : List S65 → List S65 → List S65 → Int → Int → List S65
  | [], h, u, f, t => (h ++ [⟨f, t⟩]) ++ u
  | x :: r, h, u, f, t => if x.f0 < t ∧ f < x.f1 then sAdd r h u (mn x.f0 f) (mx x.f1 t) else if x.f1 ≤ f then sAdd r (h ++ [⟨x.f0, x.f1⟩]) u f t else sAdd r h (u ++ [⟨x.f0, x.f1⟩]) f t
def iAdd : List S65 → List S65 → Bool → Int → Int → List S65
  | [], o, p, f, t => if p = true then o else o ++ [⟨f, t⟩]
  | x :: r, o, p, f, t => if x.f0 < t ∧ f < x.f1 then iAdd r o p (mn f x.f0) (mx t x.f1) else if t ≤ x.f0 then (if p = true then iAdd r (o ++ [⟨x.f0, x.f1⟩]) p f t else iAdd r (o ++ [⟨f, t⟩, ⟨x.f0, x.f1⟩]) true f t) else iAdd r (o ++ [⟨x.f0, x.f1⟩]) p f t
/-- A window put among sessions. -/
def ins : List S65 → Int → Int → List S65
  | [], f, t => [⟨f, t⟩]
  | x :: r, f, t => if x.f1 ≤ f then x :: ins r f t else if t ≤ x.f0 then (⟨f, t⟩ : S65) :: x :: r else ins r (mn f x.f0) (mx t x.f1)
theorem mn_comm (a b : Int) : mn a b = mn b a := by unfold mn; split <;> split <;> omega
theorem mx_comm (a b : Int) : mx a b = mx b a := by unfold mx; split <;> split <;> omega
theorem mn_le (a b : Int) : mn a b ≤ a ∧ mn a b ≤ b ∧ (mn a b = a ∨ mn a b = b) := by unfold mn; split <;> omega
theorem mx_ge (a b : Int) : a ≤ mx a b ∧ b ≤ mx a b ∧ (mx a b = a ∨ mx a b = b) := by unfold mx; split <;> omega
theorem ins_len : ∀ (l : List S65) (f t : Int), (ins l f t).length ≤ l.length + 1
  | [], f, t => by simp [ins]
  | x :: r, f, t => by
    unfold ins
    split
    · have := ins_len r f t
      simp only [List.length_cons]
      omega
    · split
      · simp
      · have := ins_len r (mn f x.f0) (mx t x.f1)
        simp only [List.length_cons]
        omega
theorem okF_lower : ∀ (l : List S65) (p q : Int), q ≤ p → okF p l = true → okF q l = true
  | [], _, _, _, _ => rfl
  | x :: r, p, q, h, hk => by
    simp only [okF, Bool.and_eq_true, decide_eq_true_eq] at hk ⊢
    exact ⟨hk.1, by omega, hk.2.2⟩
theorem vw_iff (a b : Int) : vw a b = true ↔ 0 ≤ a ∧ a < b ∧ b ≤ 1100 := by
  simp only [vw, Bool.and_eq_true, decide_eq_true_eq]
  omega
theorem ins_ok : ∀ (l : List S65) (p f t : Int), okF p l = true → p ≤ f → vw f t = true → okF p (ins l f t) = true
  | [], p, f, t, _, hp, hv => by simp [ins, okF, hv, hp]
  | x :: r, p, f, t, hk, hp, hv => by
    have hk0 := hk
    simp only [okF, Bool.and_eq_true, decide_eq_true_eq] at hk
    obtain ⟨h1, h2, h3⟩ := hk
    have hx := (vw_iff _ _).1 h1
    have hw := (vw_iff _ _).1 hv
    unfold ins
    split
    · rename_i c
      simp only [okF, h1, ins_ok r x.f1 f t h3 c hv, Bool.true_and, Bool.and_true, decide_eq_true_eq]
      exact h2
    · split
      · rename_i c1 c2
        simp only [okF, hv, h1, h3, Bool.true_and, Bool.and_true, Bool.and_eq_true, decide_eq_true_eq]
        exact ⟨hp, c2⟩
      · have m1 := mn_le f x.f0
        have m2 := mx_ge t x.f1
        exact ins_ok r p _ _ (okF_lower r x.f1 p (by omega) h3) (by omega) ((vw_iff _ _).2 (by omega))
theorem okF_from : ∀ (l : List S65) (p : Int), okF p l = true → ∀ x ∈ l, p ≤ x.f0 ∧ x.f0 < x.f1
  | [], _, _, _, hx => by simp at hx
  | y :: r, p, h, x, hx => by
    simp only [okF, Bool.and_eq_true, decide_eq_true_eq] at h
    have hy := (vw_iff _ _).1 h.1
    rcases List.mem_cons.1 hx with rfl | hx
    · exact ⟨h.2.1, hy.2.1⟩
    · have := okF_from r y.f1 h.2.2 x hx
      omega
theorem sAdd_right : ∀ (l h u : List S65) (f t : Int), f < t → (∀ x ∈ l, t ≤ x.f0 ∧ x.f0 < x.f1) → sAdd l h u f t = (h ++ [⟨f, t⟩]) ++ (u ++ l)
  | [], h, u, f, t, _, _ => by simp [sAdd]
  | x :: r, h, u, f, t, hw, hr => by
    have hx := hr x (List.mem_cons_self ..)
    unfold sAdd
    rw [if_neg (by omega), if_neg (by omega), sAdd_right r h _ f t hw (fun y hy => hr y (List.mem_cons_of_mem _ hy))]
    simp
theorem iAdd_right : ∀ (l o : List S65) (f t : Int), f < t → (∀ x ∈ l, t ≤ x.f0 ∧ x.f0 < x.f1) → iAdd l o true f t = o ++ l
  | [], o, f, t, _, _ => by simp [iAdd]
  | x :: r, o, f, t, hw, hr => by
    have hx := hr x (List.mem_cons_self ..)
    unfold iAdd
    rw [if_neg (by omega), if_pos (by omega), if_pos rfl, iAdd_right r _ f t hw (fun y hy => hr y (List.mem_cons_of_mem _ hy))]
    simp
theorem sAdd_ins : ∀ (l h : List S65) (p f t : Int), okF p l = true → f < t → sAdd l h [] f t = h ++ ins l f t
  | [], h, p, f, t, _, _ => by simp [sAdd, ins]
  | x :: r, h, p, f, t, hk, hw => by
    simp only [okF, Bool.and_eq_true, decide_eq_true_eq] at hk
    obtain ⟨h1, h2, h3⟩ := hk
    have hx := (vw_iff _ _).1 h1
    unfold sAdd ins
    by_cases c1 : x.f1 ≤ f
    · rw [if_neg (by omega), if_pos c1, if_pos c1, sAdd_ins r _ x.f1 f t h3 hw]
      simp
    · rw [if_neg c1, if_neg c1]
      by_cases c2 : t ≤ x.f0
      · rw [if_neg (by omega), if_pos c2, sAdd_right r h _ f t hw (fun y hy => by have := okF_from r x.f1 h3 y hy; omega)]
        simp
      · rw [if_pos (by omega), if_neg c2, mn_comm x.f0 f, mx_comm x.f1 t]
        have m1 := mn_le f x.f0
        have m2 := mx_ge t x.f1
        exact sAdd_ins r h x.f1 _ _ h3 (by omega)
theorem iAdd_ins : ∀ (l h : List S65) (p f t : Int), okF p l = true → f < t → iAdd l h false f t = h ++ ins l f t
  | [], h, p, f, t, _, _ => by simp [iAdd, ins]
  | x :: r, h, p, f, t, hk, hw => by
    simp only [okF, Bool.and_eq_true, decide_eq_true_eq] at hk
    obtain ⟨h1, h2, h3⟩ := hk
    have hx := (vw_iff _ _).1 h1
    unfold iAdd ins
    by_cases c1 : x.f1 ≤ f
    · rw [if_neg (by omega), if_neg (by omega), if_pos c1, iAdd_ins r _ x.f1 f t h3 hw]
      simp
    · rw [if_neg c1]
      by_cases c2 : t ≤ x.f0
      · rw [if_neg (by omega), if_pos c2, if_neg (show ¬ (false = true) by simp), if_pos c2, iAdd_right r _ f t hw (fun y hy => by have := okF_from r x.f1 h3 y hy; omega)]
        simp
      · rw [if_pos (by omega), if_neg c2]
        have m1 := mn_le f x.f0
        have m2 := mx_ge t x.f1
        exact iAdd_ins r h x.f1 _ _ h3 (by omega)
def fin (y : List S65) : List S65 × Bool := if y.length > 300 then ([], false) else (y, true)
theorem sAdd_len : ∀ (l h u : List S65) (f t : Int), (sAdd l h u f t).length ≤ h.length + u.length + l.length + 1
  | [], h, u, f, t => by simp [sAdd]; omega
  | x :: r, h, u, f, t => by
    unfold sAdd
    split
    · have := sAdd_len r h u (mn x.f0 f) (mx x.f1 t)
      simp only [List.length_cons]
      omega
    · split
      · have := sAdd_len r (h ++ [⟨x.f0, x.f1⟩]) u f t
        simp only [List.length_append, List.length_cons, List.length_nil] at this ⊢
        omega
      · have := sAdd_len r h (u ++ [⟨x.f0, x.f1⟩]) f t
        simp only [List.length_append, List.length_cons, List.length_nil] at this ⊢
        omega
theorem spec_meet (a b c d : Int) : spec_l06Meet.f a b c d = some (decide (a < d ∧ c < b)) := by
  unfold spec_l06Meet.f
  by_cases h : a < d <;> simp [h]
theorem impl_meet (a b c d : Int) : impl_Win_overlaps.f a b c d = some (decide (a < d ∧ c < b)) := by
  unfold impl_Win_overlaps.f
  by_cases h : a < d <;> simp [h]
theorem spec_add_loop (l : List S65) (hl : l.length ≤ 1048576) : ∀ (d k i : Nat) (h u : List S65) (f t : Int), i + d = l.length → d < k → h.length ≤ i → u.length ≤ i → spec_SessAdd.l0 k l h u (i : Int) f t = some (fin (sAdd (l.drop i) h u f t)) := by
  intro d
  induction d with
  | zero =>
    intro k i h u f t hi hk hh hu
    obtain ⟨k, rfl⟩ : ∃ m, k = m + 1 := ⟨k - 1, by omega⟩
    simp only [spec_SessAdd.l0, Option.bind_some]
    rw [if_neg (by omega), List.drop_eq_nil_of_le (by omega), if_pos (by omega), if_pos (by simp; omega)]
    unfold sAdd fin
    by_cases c : ((h ++ [(⟨f, t⟩ : S65)]) ++ u).length > 300
    · rw [if_pos (by omega), if_pos c]
    · rw [if_neg (by omega), if_neg c]
  | succ d ih =>
    intro k i h u f t hi hk hh hu
    obtain ⟨k, rfl⟩ : ∃ m, k = m + 1 := ⟨k - 1, by omega⟩
    have e1 : wrap64 ((i : Int) + 1) = ((i + 1 : Nat) : Int) := (w64 (by omega) (by omega)).trans (by omega)
    rw [drop_rd l i (by omega)]
    simp only [spec_SessAdd.l0, spec_meet, Option.bind_some, e1, sAdd, decide_eq_true_eq]
    rw [if_pos (by omega), if_pos (by omega)]
    by_cases c1 : (rd_T65 l (i : Int)).f0 < t ∧ f < (rd_T65 l (i : Int)).f1
    · rw [if_pos c1, if_pos c1]
      exact ih k (i + 1) h u _ _ (by omega) (by omega) (by omega) (by omega)
    · rw [if_neg c1, if_neg c1]
      by_cases c2 : (rd_T65 l (i : Int)).f1 ≤ f
      · rw [if_pos c2, if_pos c2, if_pos (by omega)]
        exact ih k (i + 1) _ u _ _ (by omega) (by omega) (by simp; omega) (by omega)
      · rw [if_neg c2, if_neg c2, if_pos (by omega)]
        exact ih k (i + 1) h _ _ _ (by omega) (by omega) (by omega) (by simp; omega)
theorem impl_add_loop (l : List S65) (hl : l.length ≤ 1048576) : ∀ (d k i : Nat) (o : List S65) (p : Bool) (f t : Int), i + d = l.length → d < k → o.length ≤ 2 * i → impl_sessAdd.l0 k o p l (l.length : Int) (i : Int) f t = some (iAdd (l.drop i) o p f t, decide ((iAdd (l.drop i) o p f t).length ≤ 300)) := by
  intro d
  induction d with
  | zero =>
    intro k i o p f t hi hk ho
    obtain ⟨k, rfl⟩ : ∃ m, k = m + 1 := ⟨k - 1, by omega⟩
    simp only [impl_sessAdd.l0, Option.bind_some]
    rw [if_neg (by omega), List.drop_eq_nil_of_le (by omega)]
    unfold iAdd
    cases p with
    | true =>
      rw [if_pos rfl, if_pos rfl]
      exact congrArg some (Prod.ext rfl (decide_eq_decide.2 (by omega)))
    | false =>
      rw [if_neg (by simp), if_pos (by omega), if_neg (by simp)]
      exact congrArg some (Prod.ext rfl (decide_eq_decide.2 (by omega)))
  | succ d ih =>
    intro k i o p f t hi hk ho
    obtain ⟨k, rfl⟩ : ∃ m, k = m + 1 := ⟨k - 1, by omega⟩
    have e1 : wrap64 ((i : Int) + 1) = ((i + 1 : Nat) : Int) := (w64 (by omega) (by omega)).trans (by omega)
    rw [drop_rd l i (by omega)]
    simp only [impl_sessAdd.l0, impl_meet, Option.bind_some, e1, iAdd, decide_eq_true_eq]
    rw [if_pos (by omega), if_pos (by omega), if_pos (by omega)]
    by_cases c1 : (rd_T65 l (i : Int)).f0 < t ∧ f < (rd_T65 l (i : Int)).f1
    · simp only [if_pos c1]
      exact ih k (i + 1) o p _ _ (by omega) (by omega) (by omega)
    · simp only [if_neg c1]
      by_cases c2 : t ≤ (rd_T65 l (i : Int)).f0
      · have c2' : (rd_T65 l (i : Int)).f0 ≥ t := c2
        simp only [if_pos c2, if_pos c2']
        cases p with
        | true =>
          simp only [if_true]
          rw [if_pos (by omega)]
          exact ih k (i + 1) _ true _ _ (by omega) (by omega) (by simp; omega)
        | false =>
          simp only [Bool.false_eq_true, if_false]
          rw [if_pos (by simp; omega)]
          exact ih k (i + 1) _ true _ _ (by omega) (by omega) (by simp; omega)
      · have c2' : ¬ (rd_T65 l (i : Int)).f0 ≥ t := c2
        simp only [if_neg c2, if_neg c2']
        rw [if_pos (by omega)]
        exact ih k (i + 1) _ p _ _ (by omega) (by omega) (by simp; omega)
theorem impl_ins (l : List S65) (f t : Int) (k : Nat) (hk : l.length < k) (hl : l.length ≤ 1048576) (hok : okF 0 l = true) (hw : f < t) : impl_sessAdd.f k l f t = some (ins l f t, decide ((ins l f t).length ≤ 300)) := by
  have h := impl_add_loop l hl l.length k 0 [] false f t (by omega) hk (by simp)
  rw [List.drop_zero, iAdd_ins l [] 0 f t hok hw, List.nil_append] at h
  exact h
theorem spec_add (l : List S65) (f t : Int) (k : Nat) (hk : l.length + 1 < k) (hl : l.length ≤ 1048576) : spec_SessAdd.f k l f t = some (if (sok l && vw f t) = true then fin (ins l f t) else ([], false)) := by
  obtain ⟨k, rfl⟩ : ∃ m, k = m + 1 := ⟨k - 1, by omega⟩
  unfold spec_SessAdd.f
  rw [spec_sok l _ (by omega) (by omega)]
  simp only [spec_vw, Option.bind_some, spec_SessAdd.j0]
  cases hs : sok l with
  | false => simp
  | true =>
    cases hv : vw f t with
    | false => simp
    | true =>
      simp only [if_true, Bool.not_true, Bool.false_eq_true, if_false, Bool.and_self]
      have h := spec_add_loop l hl l.length k 0 [] [] f t (by omega) (by omega) (by simp) (by simp)
      unfold sok at hs
      rw [Bool.and_eq_true] at hs
      rw [List.drop_zero, sAdd_ins l [] 0 f t hs.1 ((vw_iff _ _).1 hv).2.1, List.nil_append] at h
      exact h
theorem fin_true {y : List S65} (h : (fin y).2 = true) : (fin y).1 = y ∧ y.length ≤ 300 := by
  unfold fin at h ⊢
  split at h
  · simp at h
  · rename_i c
    rw [if_neg c]
    exact ⟨rfl, by omega⟩
def joinF : List S65 → List S65 → List S65 × Bool
  | y, [] => (y, true)
  | y, x :: r => if (fin (ins y x.f0 x.f1)).2 = true then joinF (fin (ins y x.f0 x.f1)).1 r else ([], false)
theorem vw_of (b : List S65) (p : Int) (hb : okF p b = true) (i : Nat) (hi : i < b.length) : vw (rd_T65 b (i : Int)).f0 (rd_T65 b (i : Int)).f1 = true := by
  have h3 : rd_T65 b (i : Int) ∈ b := by
    have : rd_T65 b (i : Int) = b[i] := getD_nat b _ i hi
    rw [this]
    exact List.getElem_mem _
  have gen : ∀ (l : List S65) (p : Int), okF p l = true → ∀ x ∈ l, vw x.f0 x.f1 = true := by
    intro l
    induction l with
    | nil => intro p _ x hx; simp at hx
    | cons y r ih =>
      intro p h x hx
      simp only [okF, Bool.and_eq_true] at h
      rcases List.mem_cons.1 hx with rfl | hx
      · exact h.1
      · exact ih _ h.2.2 x hx
  exact gen b p hb _ h3
theorem fin_le (y : List S65) : (fin y).1.length ≤ 300 := by
  unfold fin
  split
  · simp
  · simp only
    omega
theorem joinF_len : ∀ (b y : List S65), y.length ≤ 300 → (joinF y b).1.length ≤ 300
  | [], y, h => h
  | x :: r, y, h => by
    unfold joinF
    split
    · exact joinF_len r _ (fin_le _)
    · simp
theorem impl_all_loop (b : List S65) (hb : b.length ≤ 1048576) (hv : ∀ i, i < b.length → vw (rd_T65 b (i : Int)).f0 (rd_T65 b (i : Int)).f1 = true) : ∀ (d k i : Nat) (y : List S65), i + d = b.length → d + 310 < k → sok y = true → impl_sessAll.l0 k y b (b.length : Int) (i : Int) = some (joinF y (b.drop i)) := by
  intro d
  induction d with
  | zero =>
    intro k i y hi hk hs
    obtain ⟨k, rfl⟩ : ∃ m, k = m + 1 := ⟨k - 1, by omega⟩
    simp only [impl_sessAll.l0]
    rw [if_neg (by omega), List.drop_eq_nil_of_le (by omega)]
    rfl
  | succ d ih =>
    intro k i y hi hk hs
    obtain ⟨k, rfl⟩ : ∃ m, k = m + 1 := ⟨k - 1, by omega⟩
    have e1 : wrap64 ((i : Int) + 1) = ((i + 1 : Nat) : Int) := (w64 (by omega) (by omega)).trans (by omega)
    have hw := hv i (by omega)
    have hw2 := (vw_iff _ _).1 hw
    have hs2 := hs
    unfold sok at hs2
    rw [Bool.and_eq_true, decide_eq_true_eq] at hs2
    rw [drop_rd b i (by omega)]
    simp only [impl_sessAll.l0, e1]
    rw [if_pos (by omega), if_pos (by omega), if_pos (by omega), impl_ins y _ _ k (by omega) (by omega) hs2.1 hw2.2.1]
    simp only [Option.bind_some, joinF, decide_eq_true_eq]
    have hok : okF 0 (ins y (rd_T65 b (i : Int)).f0 (rd_T65 b (i : Int)).f1) = true := ins_ok y 0 _ _ hs2.1 hw2.1 hw
    by_cases c : (ins y (rd_T65 b (i : Int)).f0 (rd_T65 b (i : Int)).f1).length ≤ 300
    · have hf : fin (ins y (rd_T65 b (i : Int)).f0 (rd_T65 b (i : Int)).f1) = (ins y (rd_T65 b (i : Int)).f0 (rd_T65 b (i : Int)).f1, true) := by
        unfold fin
        rw [if_neg (by omega)]
      rw [if_pos c, hf, if_pos rfl]
      exact ih k (i + 1) _ (by omega) (by omega) (by unfold sok; rw [hok, decide_eq_true c]; rfl)
    · have hf : fin (ins y (rd_T65 b (i : Int)).f0 (rd_T65 b (i : Int)).f1) = (([] : List S65), false) := by
        unfold fin
        rw [if_pos (by omega)]
      rw [if_neg c, hf, if_neg (show ¬ (false = true) by simp)]
theorem in_le (a l h : Int) : impl_in.f a l h = some (decide (l ≤ a) && decide (a ≤ h)) := by
  unfold impl_in.f
  by_cases c : l ≤ a <;> simp [c]
/-- A definition is valid. -/
def wok (a b c : Int) : Bool := decide (1 ≤ b ∧ b ≤ 100 ∧ ((a = 1 ∨ a = 3) ∧ c = 0 ∨ a = 2 ∧ 1 ≤ c ∧ c ≤ b ∧ b ≤ 8 * c))
theorem spec_wok (k : Nat) (a b c : Int) : spec_WinOk.f (k + 1) a b c = some (wok a b c) := by
  unfold spec_WinOk.f wok
  simp only [spec_WinOk.j0]
  by_cases h1 : a < 1
  · rw [if_pos h1]
    have : ¬ (a = 1 ∨ a = 3) := by omega
    have : ¬ a = 2 := by omega
    simp [*]
  rw [if_neg h1]
  by_cases h2 : a > 3
  · rw [if_pos h2]
    have : ¬ (a = 1 ∨ a = 3) := by omega
    have : ¬ a = 2 := by omega
    simp [*]
  rw [if_neg h2]
  by_cases h3 : b < 1
  · rw [if_pos h3]
    have : ¬ 1 ≤ b := by omega
    simp [this]
  rw [if_neg h3]
  by_cases h4 : b > 100
  · have : ¬ b ≤ 100 := by omega
    simp [h4, this]
  have g1 : 1 ≤ b := by omega
  have g2 : b ≤ 100 := by omega
  have g3 : decide (b > 100) = false := decide_eq_false h4
  rw [g3]
  simp only [Bool.false_eq_true, if_false]
  by_cases h5 : a = 2
  · subst h5
    by_cases h6 : 1 ≤ c
    · by_cases h7 : c ≤ b
      · rw [w64 (by omega) (by omega)]
        simp [h6, h7, g1, g2]
      · simp [h6, h7]
    · simp [h6]
  · have : a = 1 ∨ a = 3 := by omega
    rw [if_neg h5]
    simp only [this, h5, g1, g2, true_and, false_and, or_false, Option.some.injEq]
    by_cases h8 : c = 0 <;> simp [h8]
theorem impl_wok (k : Nat) (a b c : Int) : impl_isWinDef.f (k + 1) a b c = some (wok a b c) := by
  unfold impl_isWinDef.f wok
  simp only [impl_isWinDef.j0, in_le, Option.bind_some]
  by_cases h3 : 1 ≤ b
  rotate_left
  · simp [h3]
  by_cases h4 : b ≤ 100
  rotate_left
  · simp [h4]
  simp only [h3, h4, decide_true, Bool.and_self, if_true, true_and]
  by_cases h5 : a = 1
  · subst h5
    by_cases h8 : c = 0 <;> simp [h8]
  by_cases h6 : a = 3
  · subst h6
    by_cases h8 : c = 0 <;> simp [h8]
  have h7 : ¬ (a = 1 ∨ a = 3) := by omega
  rw [if_neg h5]
  have h8 : (a == 3) = false := by simpa using h6
  simp only [h8, Bool.false_eq_true, if_false, h5, h6, false_or, false_and]
  by_cases h9 : a = 2
  · subst h9
    by_cases h6 : 1 ≤ c
    · by_cases h7 : c ≤ b
      · rw [w64 (by omega) (by omega)]
        simp [h6, h7]
      · simp [h6, h7]
    · simp [h6]
  · simp [h9]
theorem wok_true {a b c : Int} (h : wok a b c = true) : 1 ≤ b ∧ b ≤ 100 ∧ (a = 1 ∨ a = 3 ∨ a = 2 ∧ 1 ≤ c ∧ c ≤ b) := by
  unfold wok at h
  simp only [decide_eq_true_eq] at h
  omega
theorem toIntS_step (l ys : List Int) (i k : Nat) (hi : i < l.length) (hl : ys.length = l.length) (hb : l.length ≤ 1048576) :
    laws_toIntS.l0 (k + 1) l ys (i : Int) = laws_toIntS.l0 k l (ys.set i (id l[i])) ((i + 1 : Nat) : Int) := by
  have e : rd l (i : Int) = l[i] := rd_nat l i hi
  simp only [laws_toIntS.l0]
  rw [if_pos (by omega), if_pos (by omega), if_pos (by omega), e, w64 (by omega) (by omega)]
  simp
theorem toIntS_eq (l : List Int) (k : Nat) (hk : l.length < k) (hb : l.length ≤ 1048576) : laws_toIntS.f k l = some l := by
  unfold laws_toIntS.f
  rw [if_pos (by omega), if_pos (by simp; omega)]
  refine up_loop0 (fun k (ys : List Int) i => laws_toIntS.l0 k l ys (i : Int)) l.length (fun i ys => ys.length = l.length ∧ ys.take i = (l.take i).map id) (fun r => r = some l) ?_ ?_ k _ ?_ hk
  · rintro k s i hi ⟨h1, h2⟩
    left
    obtain ⟨h3, h4⟩ := copied_step id l s i hi h1 h2
    exact ⟨_, ⟨h3, h4⟩, toIntS_step l s i k hi h1 hb⟩
  · rintro k s ⟨h1, h2⟩
    simp only [laws_toIntS.l0]
    rw [if_neg (by omega), copied_end _ l s h1 h2]
    simp
  · simp
theorem eqIntS_refl (l : List Int) (k : Nat) (hk : l.length < k) (hb : l.length ≤ 4611686018427387904) : laws_eqIntS.f k l l = some true := by
  unfold laws_eqIntS.f
  rw [if_pos rfl]
  refine up_loop0 (fun k (_ : Unit) i => laws_eqIntS.l0 k l l (i : Int)) l.length (fun _ _ => True) (fun r => r = some true) ?_ ?_ k () trivial hk
  · rintro k _ i hi _
    left
    refine ⟨(), trivial, ?_⟩
    simp only [laws_eqIntS.l0, if_true]
    rw [if_pos (by omega), if_pos (by omega), if_pos (by omega), w64 (by omega) (by omega)]
    simp
  · rintro k _ _
    simp only [laws_eqIntS.l0]
    rw [if_neg (by omega)]
def patInt (a : Int) (n : Nat) : List Int := (List.range n).map (fun j : Nat => ((a + 1 * (j : Int))))
theorem markIntS_step (xs : List Int) (z : Int) (i k : Nat) (hi : i < xs.length) (h0 : 0 ≤ z) (hz : z ≤ 1152921504606846976) (hl : xs.length ≤ 1152921504606846976) :
    laws_markIntS.l0 (k + 1) xs z (i : Int) = laws_markIntS.l0 k (xs.set i (z)) (z + 1) ((i + 1 : Nat) : Int) := by
  have v1 : wrap64 (z + 1) = z + 1 := (w64 (by omega) (by omega)).trans (by omega)
  have vi : wrap64 ((i : Int) + 1) = ((i + 1 : Nat) : Int) := (w64 (by omega) (by omega)).trans (by omega)
  simp only [laws_markIntS.l0, Option.bind_some]
  rw [if_pos (by omega), if_pos (by omega)]
  simp only [v1, vi, rd, Int.toNat_natCast, List.set_set, List.getD_eq_getElem?_getD, List.getElem?_set_self hi, Option.getD_some]
theorem markIntS_eq (l : List Int) (a : Int) (k : Nat) (hk : l.length < k) (h0 : 0 ≤ a) (ha : a ≤ 1000000000) (hb : l.length ≤ 4611686018427) : laws_markIntS.f k l a = some (a + 1 * l.length, patInt a l.length) := by
  unfold laws_markIntS.f
  refine up_loop0 (fun k (s : List Int × Int) i => laws_markIntS.l0 k s.1 s.2 (i : Int)) l.length (fun i s => s.1.length = l.length ∧ s.1.take i = ((List.range l.length).take i).map (fun j : Nat => ((a + 1 * (j : Int)))) ∧ s.2 = a + 1 * (i : Int)) (fun r => r = some (a + 1 * l.length, patInt a l.length)) ?_ ?_ k (l, a) ?_ hk
  · rintro k ⟨xs, z⟩ i hi ⟨h1, h2, h3⟩
    simp only at h1 h2 h3
    left
    have hi' : i < (List.range l.length).length := by simpa using hi
    obtain ⟨h4, h5⟩ := copied_step (fun j : Nat => ((a + 1 * (j : Int)))) (List.range l.length) xs i hi' (by simpa using h1) h2
    refine ⟨(_, z + 1), ⟨?_, ?_, ?_⟩, markIntS_step xs z i k (by omega) (by omega) (by omega) (by omega)⟩
    · simp only [List.length_set]
      exact h1
    · rw [List.getElem_range] at h5
      subst h3
      exact h5
    · simp only [h3]
      omega
  · rintro k ⟨xs, z⟩ ⟨h1, h2, h3⟩
    simp only at h1 h2 h3
    simp only [laws_markIntS.l0]
    rw [if_neg (by omega)]
    have h4 := copied_end (fun j : Nat => ((a + 1 * (j : Int)))) (List.range l.length) xs (by simpa using h1) (by simpa using h2)
    rw [h3, h4]
    rfl
  · exact ⟨rfl, by simp, by simp⟩
theorem eqWinS_refl (l : List S65) (k : Nat) (hk : l.length < k) (hb : l.length ≤ 4611686018427387904) : laws_eqWinS.f k l l = some true := by
  unfold laws_eqWinS.f
  rw [if_pos rfl]
  refine up_loop0 (fun k (_ : Unit) i => laws_eqWinS.l0 k l l (i : Int)) l.length (fun _ _ => True) (fun r => r = some true) ?_ ?_ k () trivial hk
  · rintro k _ i hi _
    left
    refine ⟨(), trivial, ?_⟩
    simp only [laws_eqWinS.l0, laws_eqWin.f, bne_self_eq_false, Bool.false_eq_true, if_true, if_false, Option.bind_some]
    rw [if_pos (by omega), if_pos (by omega), if_pos (by omega), w64 (by omega) (by omega)]
    simp
  · rintro k _ _
    simp only [laws_eqWinS.l0]
    rw [if_neg (by omega)]

def patWin (a : Int) (n : Nat) : List S65 := (List.range n).map (fun j : Nat => (⟨(a + 2 * (j : Int)), (a + 2 * (j : Int)) + 1⟩ : S65))
theorem markWinS_step (xs : List S65) (z : Int) (i k : Nat) (hi : i < xs.length) (h0 : 0 ≤ z) (hz : z ≤ 1152921504606846976) (hl : xs.length ≤ 1152921504606846976) :
    laws_markWinS.l0 (k + 1) xs z (i : Int) = laws_markWinS.l0 k (xs.set i (⟨z, z + 1⟩ : S65)) (z + 2) ((i + 1 : Nat) : Int) := by
  have v1 : wrap64 (z + 1) = z + 1 := (w64 (by omega) (by omega)).trans (by omega)
  have v2 : wrap64 (z + 1 + 1) = z + 2 := (w64 (by omega) (by omega)).trans (by omega)
  have vi : wrap64 ((i : Int) + 1) = ((i + 1 : Nat) : Int) := (w64 (by omega) (by omega)).trans (by omega)
  simp only [laws_markWinS.l0, Option.bind_some]
  rw [if_pos (by omega), if_pos (by omega)]
  simp only [v1, v2, vi, rd_T65, Int.toNat_natCast, List.set_set, List.getD_eq_getElem?_getD, List.getElem?_set_self hi, Option.getD_some]
theorem markWinS_eq (l : List S65) (a : Int) (k : Nat) (hk : l.length < k) (h0 : 0 ≤ a) (ha : a ≤ 1000000000) (hb : l.length ≤ 4611686018427) : laws_markWinS.f k l a = some (a + 2 * l.length, patWin a l.length) := by
  unfold laws_markWinS.f
  refine up_loop0 (fun k (s : List S65 × Int) i => laws_markWinS.l0 k s.1 s.2 (i : Int)) l.length (fun i s => s.1.length = l.length ∧ s.1.take i = ((List.range l.length).take i).map (fun j : Nat => (⟨(a + 2 * (j : Int)), (a + 2 * (j : Int)) + 1⟩ : S65)) ∧ s.2 = a + 2 * (i : Int)) (fun r => r = some (a + 2 * l.length, patWin a l.length)) ?_ ?_ k (l, a) ?_ hk
  · rintro k ⟨xs, z⟩ i hi ⟨h1, h2, h3⟩
    simp only at h1 h2 h3
    left
    have hi' : i < (List.range l.length).length := by simpa using hi
    obtain ⟨h4, h5⟩ := copied_step (fun j : Nat => (⟨(a + 2 * (j : Int)), (a + 2 * (j : Int)) + 1⟩ : S65)) (List.range l.length) xs i hi' (by simpa using h1) h2
    refine ⟨(_, z + 2), ⟨?_, ?_, ?_⟩, markWinS_step xs z i k (by omega) (by omega) (by omega) (by omega)⟩
    · simp only [List.length_set]
      exact h1
    · rw [List.getElem_range] at h5
      subst h3
      exact h5
    · simp only [h3]
      omega
  · rintro k ⟨xs, z⟩ ⟨h1, h2, h3⟩
    simp only at h1 h2 h3
    simp only [laws_markWinS.l0]
    rw [if_neg (by omega)]
    have h4 := copied_end (fun j : Nat => (⟨(a + 2 * (j : Int)), (a + 2 * (j : Int)) + 1⟩ : S65)) (List.range l.length) xs (by simpa using h1) (by simpa using h2)
    rw [h3, h4]
    rfl
  · exact ⟨rfl, by simp, by simp⟩
theorem heldWinS_step (a : Int) (n i k : Nat) (hi : i < n) (h0 : 0 ≤ a) (ha : a ≤ 1000000000) (hl : n ≤ 4611686018427) :
    laws_heldWinS.l0 (k + 1) (patWin a n) (a + 2 * (i : Int)) (i : Int) = laws_heldWinS.l0 k (patWin a n) (a + 2 * ((i + 1 : Nat) : Int)) ((i + 1 : Nat) : Int) := by
  have hlen : (patWin a n).length = n := by simp [patWin]
  have vi : wrap64 ((i : Int) + 1) = ((i + 1 : Nat) : Int) := (w64 (by omega) (by omega)).trans (by omega)
  have e : rd_T65 (patWin a n) (i : Int) = (fun j : Nat => (⟨(a + 2 * (j : Int)), (a + 2 * (j : Int)) + 1⟩ : S65)) i := by
    unfold rd_T65
    rw [getD_nat _ _ i (by omega)]
    simp only [patWin, List.getElem_map, List.getElem_range]
  have hz : ((a + 2 * ((i + 1 : Nat) : Int)) : Int) = a + 2 * (i : Int) + 2 := by omega
  rw [hz]
  generalize hzz : a + 2 * (i : Int) = z at *
  have hz0 : 0 ≤ z := by omega
  have hz1 : z ≤ 1152921504606846976 := by omega
  have v1 : wrap64 (z + 1) = z + 1 := (w64 (by omega) (by omega)).trans (by omega)
  have v2 : wrap64 (z + 1 + 1) = z + 2 := (w64 (by omega) (by omega)).trans (by omega)
  simp only [laws_heldWinS.l0]
  rw [if_pos (by omega), if_pos (by omega), e]
  simp only [v1, v2, vi, bne_self_eq_false, Bool.false_eq_true, if_true, if_false, hzz]
theorem heldWinS_eq (a : Int) (n k : Nat) (hk : n < k) (h0 : 0 ≤ a) (ha : a ≤ 1000000000) (hl : n ≤ 4611686018427) : laws_heldWinS.f k (patWin a n) a = some (a + 2 * n) := by
  unfold laws_heldWinS.f
  have hlen : (patWin a n).length = n := by simp [patWin]
  refine up_loop0 (fun k (s : Int) i => laws_heldWinS.l0 k (patWin a n) s (i : Int)) n (fun i s => s = a + 2 * (i : Int)) (fun r => r = some (a + 2 * n)) ?_ ?_ k a ?_ hk
  · rintro k s i hi rfl
    left
    exact ⟨_, rfl, heldWinS_step a n i k hi h0 ha hl⟩
  · rintro k s rfl
    simp only [laws_heldWinS.l0]
    rw [if_neg (by omega)]
  · simp

theorem drop_rdI (l : List Int) (i : Nat) (hi : i < l.length) : l.drop i = rd l (i : Int) :: l.drop (i + 1) := by
  rw [rd_nat l i hi]
  exact List.drop_eq_getElem_cons hi
def tv (t : Int) : Bool := decide (0 ≤ t) && decide (t ≤ 1000)
def win (b t : Int) : S65 := ⟨t, t + b⟩
def insAll (b : Int) : List S65 → List Int → List S65
  | y, [] => y
  | y, t :: ts => insAll b (ins y t (t + b)) ts
theorem time_spec (t : Int) : spec_l05Time.f t = some (tv t) := by
  unfold spec_l05Time.f tv
  by_cases c : t ≥ 0
  · rw [if_pos c, decide_eq_true (show 0 ≤ t from c)]; rfl
  · rw [if_neg c, decide_eq_false (show ¬ 0 ≤ t from c)]; rfl
theorem time_impl (t : Int) : impl_isTime.f t = some (tv t) := by
  unfold impl_isTime.f tv
  rw [in_le]; rfl
theorem tv_iff (t : Int) : tv t = true ↔ 0 ≤ t ∧ t ≤ 1000 := by
  unfold tv
  simp only [Bool.and_eq_true, decide_eq_true_eq]
theorem wins_spec (b t : Int) (hb : wok 3 b 0 = true) (ht : tv t = true) : Evt (fun k => spec_WinsOf.f k 3 b 0 t) [win b t] := by
  have h := wok_true hb
  have ht' := (tv_iff t).mp ht
  refine Evt.congr (g := fun k => (spec_WinOk.f k 3 b 0).bind fun t115 => (if t115 = true then ((spec_l05Time.f t).bind fun t116 => (spec_WinsOf.j0 k t (!t116) 3 b 0)) else (spec_WinsOf.j0 k t true 3 b 0))) ?_ fun k => rfl
  refine Evt.bind (f := fun k => spec_WinOk.f k 3 b 0) (g := fun t115 k => (if t115 = true then ((spec_l05Time.f t).bind fun t116 => (spec_WinsOf.j0 k t (!t116) 3 b 0)) else (spec_WinsOf.j0 k t true 3 b 0))) (x := true) (Evt.done fun k => by show spec_WinOk.f (k + 1) 3 b 0 = some true; rw [spec_wok, hb]) ?_
  refine Evt.congr (g := fun k => spec_WinsOf.j0 k t false 3 b 0) ?_ fun k => by rw [if_pos rfl, time_spec, ht]; rfl
  exact Evt.done fun k => by
    simp only [spec_WinsOf.j0, Bool.false_eq_true, if_false, if_true]
    rw [if_neg (by decide), w64 (by omega) (by omega)]
    rfl
theorem wins_impl (k : Nat) (b c t : Int) (hb : 1 ≤ b ∧ b ≤ 100) (ht : tv t = true) : impl_winsOf.f k 3 b c t = some [win b t] := by
  have ht' := (tv_iff t).mp ht
  unfold impl_winsOf.f
  rw [if_neg (by decide), if_pos rfl, w64 (by omega) (by omega)]
  rfl
theorem sok_ins (y : List S65) (b t : Int) (hb : 1 ≤ b ∧ b ≤ 100) (ht : tv t = true) (hy : okF 0 y = true) : okF 0 (ins y t (t + b)) = true ∧ vw t (t + b) = true := by
  have ht' := (tv_iff t).mp ht
  have hv : vw t (t + b) = true := (vw_iff _ _).mpr ⟨ht'.1, by omega, by omega⟩
  exact ⟨ins_ok y 0 t (t + b) hy ht'.1 hv, hv⟩
def ans (b : Int) (ts : List Int) (y : List S65) : List S65 × Bool := if ts.all tv = true then (insAll b y ts, true) else ([], false)
theorem spec_loop (b : Int) (hb : wok 3 b 0 = true) (l : List Int) (hl : l.length ≤ 300) : ∀ (m i : Nat) (y : List S65), i + m = l.length → okF 0 y = true → y.length ≤ i →
    Evt (fun k => spec_SessOf.l0 k l y (i : Int) 3 b 0) (ans b (l.drop i) y) := by
  have h := wok_true hb
  intro m
  induction m with
  | zero =>
    intro i y hi hy hyl
    have e : l.drop i = [] := List.drop_eq_nil_of_le (by omega)
    rw [e]
    exact Evt.done fun k => by
      simp only [spec_SessOf.l0]
      rw [if_neg (by omega)]
      rfl
  | succ m ih =>
    intro i y hi hy hyl
    have hi' : i < l.length := by omega
    rw [drop_rdI l i hi']
    refine Evt.step (g := fun k => (spec_l05Time.f (rd l (i : Int))).bind fun t166 => (if t166 = true then ((spec_WinsOf.f k 3 b 0 (rd l (i : Int))).bind fun t168 => (if 0 < (t168.length : Int) then ((spec_SessAdd.f k y ((rd_T65 t168 0).f0) ((rd_T65 t168 0).f1)).bind fun bt172 => (spec_SessOf.l0 k l bt172.1 ((i + 1 : Nat) : Int) 3 b 0)) else (none))) else (some (([] : List (S65)), false)))) ?_ fun k => by
      simp only [spec_SessOf.l0]
      rw [if_pos (by omega), if_pos (by omega), w64 (by omega) (by omega)]
      rfl
    by_cases ht : tv (rd l (i : Int)) = true
    · refine Evt.congr (g := fun k => (spec_WinsOf.f k 3 b 0 (rd l (i : Int))).bind fun t168 => (if 0 < (t168.length : Int) then ((spec_SessAdd.f k y ((rd_T65 t168 0).f0) ((rd_T65 t168 0).f1)).bind fun bt172 => (spec_SessOf.l0 k l bt172.1 ((i + 1 : Nat) : Int) 3 b 0)) else (none))) ?_ fun k => by rw [time_spec, ht]; rfl
      refine Evt.bind (f := fun k => spec_WinsOf.f k 3 b 0 (rd l (i : Int))) (g := fun t168 k => (if 0 < (t168.length : Int) then ((spec_SessAdd.f k y ((rd_T65 t168 0).f0) ((rd_T65 t168 0).f1)).bind fun bt172 => (spec_SessOf.l0 k l bt172.1 ((i + 1 : Nat) : Int) 3 b 0)) else (none))) (wins_spec b (rd l (i : Int)) hb ht) ?_
      refine Evt.congr (g := fun k => (spec_SessAdd.f k y (rd l (i : Int)) (rd l (i : Int) + b)).bind fun bt172 => (spec_SessOf.l0 k l bt172.1 ((i + 1 : Nat) : Int) 3 b 0)) ?_ fun k => if_pos (show (0 : Int) < (([win b (rd l (i : Int))] : List S65).length : Int) by simp)
      obtain ⟨a1, a2⟩ := sok_ins y b (rd l (i : Int)) ⟨h.1, h.2.1⟩ ht hy
      have hlen := ins_len y (rd l (i : Int)) (rd l (i : Int) + b)
      have hs : sok y = true := by unfold sok; rw [hy, decide_eq_true (by omega)]; rfl
      refine Evt.bind (f := fun k => spec_SessAdd.f k y (rd l (i : Int)) (rd l (i : Int) + b)) (g := fun bt172 k => spec_SessOf.l0 k l bt172.1 ((i + 1 : Nat) : Int) 3 b 0) (x := (ins y (rd l (i : Int)) (rd l (i : Int) + b), true)) (Evt.of_lt (n := y.length + 1) fun k hk => by
        show spec_SessAdd.f k y _ _ = _
        rw [spec_add y _ _ k hk (by omega), hs, a2]
        simp only [Bool.and_self, if_true]
        unfold fin
        rw [if_neg (by omega)]) ?_
      have := ih (i + 1) (ins y (rd l (i : Int)) (rd l (i : Int) + b)) (by omega) a1 (by omega)
      have e : ans b (rd l (i : Int) :: l.drop (i + 1)) y = ans b (l.drop (i + 1)) (ins y (rd l (i : Int)) (rd l (i : Int) + b)) := by
        unfold ans
        simp only [List.all_cons, ht, Bool.true_and, insAll]
      rw [e]
      exact this
    · have e : ans b (rd l (i : Int) :: l.drop (i + 1)) y = ([], false) := by
        unfold ans
        simp only [List.all_cons, Bool.eq_false_iff.mpr ht, Bool.false_and]
        rfl
      rw [e]
      exact (Evt.const _).congr fun k => by rw [time_spec, Bool.eq_false_iff.mpr ht]; rfl
theorem join_ins (b : Int) (hb : 1 ≤ b ∧ b ≤ 100) : ∀ (ts : List Int) (y : List S65), ts.all tv = true → y.length + ts.length ≤ 300 → joinF y (ts.map (win b)) = (insAll b y ts, true)
  | [], y, _, _ => rfl
  | t :: ts, y, ht, hl => by
    have hlen := ins_len y t (t + b)
    simp only [List.all_cons, Bool.and_eq_true] at ht
    simp only [List.length_cons] at hl
    simp only [List.map_cons, joinF, win, insAll]
    have ef : fin (ins y t (t + b)) = (ins y t (t + b), true) := by unfold fin; rw [if_neg (by omega)]
    rw [ef]
    simp only [if_true]
    exact join_ins b hb ts _ ht.2 (by omega)
theorem impl_end (b : Int) (hb : 1 ≤ b ∧ b ≤ 100) (ts : List Int) (ht : ts.all tv = true) (hl : ts.length ≤ 300) : Evt (fun k => impl_sessAll.f k [] (ts.map (win b))) (insAll b [] ts, true) := by
  refine Evt.of_lt (n := ts.length + 310) fun k hk => ?_
  show impl_sessAll.f k [] (ts.map (win b)) = _
  unfold impl_sessAll.f
  simp only [Option.bind_some, List.length_nil, List.append_nil]
  rw [if_pos (by decide)]
  have hv : ∀ i, i < (ts.map (win b)).length → vw (rd_T65 (ts.map (win b)) (i : Int)).f0 (rd_T65 (ts.map (win b)) (i : Int)).f1 = true := by
    intro i hi
    have hi' : i < ts.length := by simpa using hi
    have e : rd_T65 (ts.map (win b)) (i : Int) = win b ts[i] := by
      unfold rd_T65
      rw [getD_nat _ _ i hi]
      simp
    have htv : tv ts[i] = true := (List.all_eq_true.mp ht) _ (List.getElem_mem _)
    have := (tv_iff _).mp htv
    rw [e]
    exact (vw_iff _ _).mpr ⟨this.1, by show ts[i] < ts[i] + b; omega, by show ts[i] + b ≤ 1100; omega⟩
  have s := impl_all_loop (ts.map (win b)) (by rw [List.length_map]; omega) hv ts.length k 0 [] (by rw [List.length_map]; omega) (by omega) (by decide +kernel)
  rw [List.drop_zero, join_ins b hb ts [] ht (by simpa using hl)] at s
  exact s
theorem impl_loop (b : Int) (hb : 1 ≤ b ∧ b ≤ 100) (l : List Int) (hl : l.length ≤ 300) : ∀ (m i : Nat), i + m = l.length → (l.take i).all tv = true →
    Evt (fun k => impl_SessOf.l0 k ((l.take i).map (win b)) l (l.length : Int) (i : Int) 3 b 0) (if (l.drop i).all tv = true then (insAll b [] l, true) else ([], false)) := by
  intro m
  induction m with
  | zero =>
    intro i hi ht
    have e : l.drop i = [] := List.drop_eq_nil_of_le (by omega)
    have e2 : l.take i = l := List.take_of_length_le (by omega)
    rw [e2] at ht
    rw [e, e2]
    rw [if_pos (by rfl)]
    refine Evt.step (g := fun k => (impl_sessAll.f k [] (l.map (win b))).bind fun bt239 => (some (bt239.1, bt239.2))) ?_ fun k => by
      simp only [impl_SessOf.l0]
      rw [if_neg (by omega)]
    exact Evt.bind (f := fun k => impl_sessAll.f k [] (l.map (win b))) (g := fun bt239 k => some (bt239.1, bt239.2)) (impl_end b hb l ht hl) (Evt.const _)
  | succ m ih =>
    intro i hi ht
    have hi' : i < l.length := by omega
    rw [drop_rdI l i hi']
    by_cases htt : tv (rd l (i : Int)) = true
    · have e : l.take (i + 1) = l.take i ++ [rd l (i : Int)] := by
        rw [rd_nat l i hi']
        exact List.take_succ_eq_append_getElem hi'
      have s := ih (i + 1) (by omega) (by rw [e, List.all_append, ht]; simp [htt])
      rw [show (rd l (i : Int) :: l.drop (i + 1)).all tv = (l.drop (i + 1)).all tv by simp only [List.all_cons, htt, Bool.true_and]]
      refine Evt.step s fun k => ?_
      simp only [impl_SessOf.l0]
      rw [if_pos (by omega), if_pos (by omega), if_pos (by omega), time_impl, htt]
      simp only [Option.bind_some, if_true]
      rw [wins_impl k b 0 _ hb htt]
      simp only [Option.bind_some, List.length_map, List.length_take, List.length_cons, List.length_nil]
      rw [if_pos (by omega), w64 (by omega) (by omega), e, List.map_append]
      rfl
    · rw [show (rd l (i : Int) :: l.drop (i + 1)).all tv = false by simp only [List.all_cons, Bool.eq_false_iff.mpr htt, Bool.false_and], if_neg (by decide)]
      exact Evt.done fun k => by
        simp only [impl_SessOf.l0]
        rw [if_pos (by omega), if_pos (by omega), if_pos (by omega), time_impl, Bool.eq_false_iff.mpr htt]
        rfl
theorem insAll_len (b : Int) : ∀ (ts : List Int) (y : List S65), (insAll b y ts).length ≤ y.length + ts.length
  | [], y => by simp [insAll]
  | t :: ts, y => by
    have := insAll_len b ts (ins y t (t + b))
    have := ins_len y t (t + b)
    simp only [insAll, List.length_cons]
    omega
theorem both (a b c : Int) (l : List Int) : ∃ (y : List S65) (r : Bool), y.length ≤ 300 ∧ Evt (fun k => spec_SessOf.f k a b c l) (y, r) ∧ Evt (fun k => impl_SessOf.f k a b c l) (y, r) := by
  have js : Evt (fun k => spec_SessOf.j0 k l true a b c) ([], false) := Evt.done fun k => by simp only [spec_SessOf.j0, if_true]
  have ji : Evt (fun k => impl_SessOf.j0 k l true a b c) ([], false) := Evt.done fun k => by simp only [impl_SessOf.j0, if_true]
  have ws : Evt (fun k => spec_WinOk.f k a b c) (wok a b c) := Evt.done fun k => spec_wok k a b c
  have wi : Evt (fun k => impl_isWinDef.f k a b c) (wok a b c) := Evt.done fun k => impl_wok k a b c
  by_cases h : wok a b c = true ∧ a = 3 ∧ l.length ≤ 300
  · obtain ⟨hw, rfl, hl⟩ := h
    have hb := wok_true hw
    have hc : c = 0 := by
      unfold wok at hw
      have := of_decide_eq_true hw
      omega
    subst hc
    rw [hw] at ws wi
    refine ⟨(ans b l []).1, (ans b l []).2, ?_, ?_, ?_⟩
    · unfold ans
      split
      · have := insAll_len b l []
        simp only [List.length_nil] at this
        show (insAll b [] l).length ≤ 300
        omega
      · simp
    · refine Evt.bind (g := fun t161 k => (if t161 = true then (if (3 : Int) = 3 then (spec_SessOf.j0 k l (decide ((l.length : Int) > 300)) 3 b 0) else (spec_SessOf.j0 k l true 3 b 0)) else (spec_SessOf.j0 k l true 3 b 0))) ws ?_
      refine Evt.congr (g := fun k => spec_SessOf.j0 k l false 3 b 0) ?_ fun k => by rw [if_pos rfl, if_pos rfl, decide_eq_false (by omega)]
      exact Evt.step (spec_loop b hw l hl l.length 0 [] (by omega) rfl (by simp)) fun k => by simp only [spec_SessOf.j0, Bool.false_eq_true, if_false]; rfl
    · refine Evt.bind (g := fun t235 k => (if t235 = true then (if (3 : Int) = 3 then (impl_SessOf.j0 k l (decide ((l.length : Int) > 300)) 3 b 0) else (impl_SessOf.j0 k l true 3 b 0)) else (impl_SessOf.j0 k l true 3 b 0))) wi ?_
      refine Evt.congr (g := fun k => impl_SessOf.j0 k l false 3 b 0) ?_ fun k => by rw [if_pos rfl, if_pos rfl, decide_eq_false (by omega)]
      exact Evt.step (impl_loop b ⟨hb.1, hb.2.1⟩ l hl l.length 0 (by omega) rfl) fun k => by simp only [impl_SessOf.j0, Bool.false_eq_true, if_false]; rfl
  · refine ⟨[], false, by simp, ?_, ?_⟩
    · refine Evt.bind (g := fun t161 k => (if t161 = true then (if a = 3 then (spec_SessOf.j0 k l (decide ((l.length : Int) > 300)) a b c) else (spec_SessOf.j0 k l true a b c)) else (spec_SessOf.j0 k l true a b c))) ws ?_
      refine js.congr fun k => ?_
      by_cases h1 : wok a b c = true
      · rw [if_pos h1]
        by_cases h2 : a = 3
        · rw [if_pos h2, decide_eq_true (by rcases Nat.lt_or_ge 300 l.length with g | g; (· omega); exact absurd ⟨h1, h2, g⟩ h)]
        · rw [if_neg h2]
      · rw [if_neg h1]
    · refine Evt.bind (g := fun t235 k => (if t235 = true then (if a = 3 then (impl_SessOf.j0 k l (decide ((l.length : Int) > 300)) a b c) else (impl_SessOf.j0 k l true a b c)) else (impl_SessOf.j0 k l true a b c))) wi ?_
      refine ji.congr fun k => ?_
      by_cases h1 : wok a b c = true
      · rw [if_pos h1]
        by_cases h2 : a = 3
        · rw [if_pos h2, decide_eq_true (by rcases Nat.lt_or_ge 300 l.length with g | g; (· omega); exact absurd ⟨h1, h2, g⟩ h)]
        · rw [if_neg h2]
      · rw [if_neg h1]
theorem FnExactSessOf : Say.FnExactSessOf := by
  intro a b c l _ _ _ hl hlb
  refine Evt.ex (r := true) ?_
  by_cases hq : (l.length : Int) > 1048576
  · refine (Evt.const true).congr fun k => ?_
    unfold laws_FnExactSessOf.f
    rw [if_pos hq]
  · have hl' : l.length ≤ 1048576 := by omega
    obtain ⟨y, r, hy, h1, h2⟩ := both a b c l
    obtain ⟨K3, t3⟩ := h1
    obtain ⟨K4, t4⟩ := h2
    simp only at t3 t4
    refine ⟨K3 + K4 + l.length + 310, fun k hk => ?_⟩
    obtain ⟨j, rfl⟩ : ∃ j, k = j + 3 := ⟨k - 3, by omega⟩
    show laws_FnExactSessOf.f (j + 3) a b c l = some true
    unfold laws_FnExactSessOf.f
    rw [if_neg hq]
    have e1 : ¬ (1 + 1 * (l.length : Int) < 0) := by omega
    have e2 : ¬ (1 + 2 * (y.length : Int) < 0) := by omega
    simp only [laws_toWinDef.f, Option.bind_some, toIntS_eq l (j + 3) (by omega) hl', t3 (j + 3) (by omega), t4 (j + 3) (by omega), eqWinS_refl y (j + 3) (by omega) (by omega), if_true, bne_self_eq_false]
    simp only [laws_FnExactSessOf.j0, Option.bind_some, toIntS_eq l (j + 2) (by omega) hl', eqIntS_refl l (j + 2) (by omega) (by omega), markIntS_eq l 1 (j + 2) (by omega) (by omega) (by omega) (by omega), eqWinS_refl y (j + 2) (by omega) (by omega), Bool.false_eq_true, if_false, if_true, if_neg e1, bne_self_eq_false]
    simp only [laws_FnExactSessOf.j1, laws_toWinDef.f, Option.bind_some, toIntS_eq l (j + 1) (by omega) hl', t4 (j + 1) (by omega), eqWinS_refl y (j + 1) (by omega) (by omega), markWinS_eq y 1 (j + 1) (by omega) (by omega) (by omega) (by omega), heldWinS_eq 1 y.length (j + 1) (by omega) (by omega) (by omega) (by omega), Bool.false_eq_true, if_false, if_true, if_neg e2, bne_self_eq_false]
    simp only [laws_FnExactSessOf.j2, Option.bind_some, heldWinS_eq 1 y.length j (by omega) (by omega) (by omega) (by omega), Bool.false_eq_true, if_false, if_true, if_neg e2]

end Go.Proofs.Ytcbpgeldlekgbaa.Pure
