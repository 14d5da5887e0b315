/- Proved: for every list of tokens the program's ExprOk answers as the reference's ExprOk. No other condition. -/
import Derived.Test.YtloiamjekoecgaaSayFnExactExprOk
import Derived.Test.YtloiamjekoecgaaBase
namespace Go.Proofs.Ytloiamjekoecgaa.Pure
open Go.RowKit Go.Proofs.Ytloiamjekoecgaa.PFnExactExprOk Go.Proofs.YtloiamjekoecgaaW.PrintWords Go.Proofs.YtloiamjekoecgaaW.PrintLast Go.Proofs.YtloiamjekoecgaaW.PrintMore
open Go.Proofs.Ytloiamjekoecgaa.Base
set_option linter.unusedSimpArgs false
set_option linter.unusedVariables false

theorem toTokS_step (l : List S48) (ys : List S46) (i k : Nat) (hi : i < l.length) (hl : ys.length = l.length) (hb : l.length ≤ 1048576) :
    laws_toTokS.l0 (k + 1) l ys (i : Int) = laws_toTokS.l0 k l (ys.set i ((fun x : S48 => (⟨x.f0, x.f1⟩ : S46)) l[i])) ((i + 1 : Nat) : Int) := by
  have e : rd_T48 l (i : Int) = l[i] := getD_nat l _ i hi
  simp only [laws_toTokS.l0, laws_toTok.f, Option.bind_some]
  rw [if_pos (by omega), if_pos (by omega), if_pos (by omega), e, w64 (by omega) (by omega)]
  simp
theorem toTokS_eq (l : List S48) (k : Nat) (hk : l.length < k) (hb : l.length ≤ 1048576) : laws_toTokS.f k l = some (l.map (fun x : S48 => (⟨x.f0, x.f1⟩ : S46))) := by
  unfold laws_toTokS.f
  rw [if_pos (by omega), if_pos (by simp; omega)]
  refine up_loop0 (fun k (ys : List S46) i => laws_toTokS.l0 k l ys (i : Int)) l.length (fun i ys => ys.length = l.length ∧ ys.take i = (l.take i).map (fun x : S48 => (⟨x.f0, x.f1⟩ : S46))) (fun r => r = some (l.map (fun x : S48 => (⟨x.f0, x.f1⟩ : S46)))) ?_ ?_ k _ ?_ hk
  · rintro k s i hi ⟨h1, h2⟩
    left
    obtain ⟨h3, h4⟩ := copied_step (fun x : S48 => (⟨x.f0, x.f1⟩ : S46)) l s i hi h1 h2
    exact ⟨_, ⟨h3, h4⟩, toTokS_step l s i k hi h1 hb⟩
  · rintro k s ⟨h1, h2⟩
    simp only [laws_toTokS.l0]
    rw [if_neg (by omega), copied_end _ l s h1 h2]
  · simp

theorem eqTokS_refl (l : List S46) (k : Nat) (hk : l.length < k) (hb : l.length ≤ 4611686018427387904) : laws_eqTokS.f k l l = some true := by
  unfold laws_eqTokS.f
  rw [if_pos rfl]
  refine up_loop0 (fun k (_ : Unit) i => laws_eqTokS.l0 k l l (i : Int)) l.length (fun _ _ => True) (fun r => r = some true) ?_ ?_ k () trivial hk
  · rintro k _ i hi _
    left
    refine ⟨(), trivial, ?_⟩
    simp only [laws_eqTokS.l0, laws_eqTok.f, bne_self_eq_false, Bool.false_eq_true, if_true, if_false, Option.bind_some]
    rw [if_pos (by omega), if_pos (by omega), if_pos (by omega), w64 (by omega) (by omega)]
    simp
  · rintro k _ _
    simp only [laws_eqTokS.l0]
    rw [if_neg (by omega)]

theorem in_le (a l h : Int) : impl_in.f a l h = some (decide (l ≤ a) && decide (a ≤ h)) := by
  unfold impl_in.f
  by_cases c : l ≤ a <;> simp [c]
def tk (op : Int) : Int := if op ≤ 3 then 0 else if op = 11 then 1 else 2
theorem tk_range (op : Int) : 0 ≤ tk op ∧ tk op ≤ 2 := by unfold tk; split <;> (try split) <;> omega
theorem spec_tk (op : Int) : spec_l03Takes.f op = some (tk op) := by unfold spec_l03Takes.f tk; split <;> (try split) <;> rfl
theorem impl_tk (op n : Int) : impl_Tok_takes.f op n = some (tk op) := by unfold impl_Tok_takes.f tk; split <;> (try split) <;> rfl
/-- A token is no operation, or takes more than there is. -/
def bad (x : S46) (n : Int) : Prop := x.f0 < 0 ∨ 11 < x.f0 ∨ (x.f0 ≠ 0 ∧ x.f1 ≠ 0) ∨ n < tk x.f0
instance (x : S46) (n : Int) : Decidable (bad x n) := by unfold bad; infer_instance
def depF : List S46 → Int → Int → Int
  | [], n, m => if n = 1 then m else -1
  | x :: r, n, m => if bad x n then -1 else depF r (n - tk x.f0 + 1) (mx m (n - tk x.f0 + 1))
theorem drop_rd (l : List S46) (i : Nat) (hi : i < l.length) : l.drop i = rd_T46 l (i : Int) :: l.drop (i + 1) := by
  rw [List.drop_eq_getElem_cons hi]
  congr 1
  exact (getD_nat l _ i hi).symm
theorem spec_dep_loop (l : List S46) (hl : l.length ≤ 1048576) : ∀ (d k i : Nat) (n m : Int), i + d = l.length → d < k → 0 ≤ n → n ≤ i → spec_l03Depth.l0 k l n m (i : Int) = some (depF (l.drop i) n m) := by
  intro d
  induction d with
  | zero =>
    intro k i n m hi hk h0 h1
    obtain ⟨k, rfl⟩ : ∃ m, k = m + 1 := ⟨k - 1, by omega⟩
    simp only [spec_l03Depth.l0]
    rw [if_neg (by omega), List.drop_eq_nil_of_le (by omega)]
    unfold depF
    split <;> rfl
  | succ d ih =>
    intro k i n m hi hk h0 h1
    obtain ⟨k, rfl⟩ : ∃ m, k = m + 1 := ⟨k - 1, by omega⟩
    have e1 : wrap64 ((i : Int) + 1) = ((i + 1 : Nat) : Int) := (w64 (by omega) (by omega)).trans (by omega)
    rw [drop_rd l i (by omega)]
    generalize hx : rd_T46 l (i : Int) = x
    have ht := tk_range x.f0
    have e2 : wrap64 (wrap64 (n - tk x.f0) + 1) = n - tk x.f0 + 1 := by rw [w64 (i := n - tk x.f0) (by omega) (by omega)]; exact w64 (by omega) (by omega)
    simp only [spec_l03Depth.l0, hx, spec_tk, Option.bind_some, e1, e2]
    rw [if_pos (by omega), if_pos (by omega)]
    unfold depF
    by_cases c1 : x.f0 < 0
    · rw [if_pos c1, if_pos (show bad x n by unfold bad; omega)]
    rw [if_neg c1]
    by_cases c2 : x.f0 > 11
    · rw [if_pos c2, if_pos (show bad x n by unfold bad; omega)]
    rw [if_neg c2]
    by_cases c3 : x.f0 = 0
    · rw [if_pos c3]
      by_cases c4 : tk x.f0 > n
      · rw [if_pos c4, if_pos (show bad x n by unfold bad; omega)]
      · rw [if_neg c4, if_neg (by unfold bad; omega)]
        exact ih k (i + 1) _ _ (by omega) (by omega) (by omega) (by omega)
    · rw [if_neg c3]
      by_cases c5 : x.f1 = 0
      · rw [if_pos c5]
        by_cases c4 : tk x.f0 > n
        · rw [if_pos c4, if_pos (show bad x n by unfold bad; omega)]
        · rw [if_neg c4, if_neg (by unfold bad; omega)]
          exact ih k (i + 1) _ _ (by omega) (by omega) (by omega) (by omega)
      · rw [if_neg c5, if_pos (show bad x n by unfold bad; omega)]
theorem impl_dep_loop (l : List S46) (hl : l.length ≤ 1048576) : ∀ (d k i : Nat) (n m : Int), i + d = l.length → d < k → 0 ≤ n → n ≤ i → impl_depth.l0 k n m l (l.length : Int) (i : Int) = some (depF (l.drop i) n m) := by
  intro d
  induction d with
  | zero =>
    intro k i n m hi hk h0 h1
    obtain ⟨k, rfl⟩ : ∃ m, k = m + 1 := ⟨k - 1, by omega⟩
    simp only [impl_depth.l0]
    rw [if_neg (by omega), List.drop_eq_nil_of_le (by omega)]
    unfold depF
    split <;> rfl
  | succ d ih =>
    intro k i n m hi hk h0 h1
    obtain ⟨k, rfl⟩ : ∃ m, k = m + 1 := ⟨k - 1, by omega⟩
    have e1 : wrap64 ((i : Int) + 1) = ((i + 1 : Nat) : Int) := (w64 (by omega) (by omega)).trans (by omega)
    rw [drop_rd l i (by omega)]
    generalize hx : rd_T46 l (i : Int) = x
    have ht := tk_range x.f0
    have e2 : wrap64 (n + wrap64 (1 - tk x.f0)) = n - tk x.f0 + 1 := by rw [w64 (i := 1 - tk x.f0) (by omega) (by omega)]; exact (w64 (by omega) (by omega)).trans (by omega)
    simp only [impl_depth.l0, hx, impl_tk, in_le, Option.bind_some, e1, e2]
    rw [if_pos (by omega), if_pos (by omega), if_pos (by omega)]
    unfold depF
    by_cases c1 : 0 ≤ x.f0
    rotate_left
    · rw [decide_eq_false c1, if_pos (show bad x n by unfold bad; omega)]
      rfl
    by_cases c2 : x.f0 ≤ 11
    rotate_left
    · rw [decide_eq_true c1, decide_eq_false c2, if_pos (show bad x n by unfold bad; omega)]
      rfl
    rw [decide_eq_true c1, decide_eq_true c2]
    simp only [Bool.and_self, if_true]
    by_cases c3 : x.f0 = 0
    · rw [if_pos c3]
      by_cases c4 : n < tk x.f0
      · rw [if_pos c4, if_pos (show bad x n by unfold bad; omega)]
      · rw [if_neg c4, if_neg (by unfold bad; omega)]
        exact ih k (i + 1) _ _ (by omega) (by omega) (by omega) (by omega)
    · rw [if_neg c3]
      by_cases c5 : x.f1 = 0
      · rw [if_pos c5]
        by_cases c4 : n < tk x.f0
        · rw [if_pos c4, if_pos (show bad x n by unfold bad; omega)]
        · rw [if_neg c4, if_neg (by unfold bad; omega)]
          exact ih k (i + 1) _ _ (by omega) (by omega) (by omega) (by omega)
      · rw [if_neg c5, if_pos (show bad x n by unfold bad; omega)]
def dep (l : List S46) : Int := if 1 ≤ l.length ∧ l.length ≤ 20 then depF l 0 0 else -1
theorem spec_dep (l : List S46) (k : Nat) (hk : l.length + 1 < k) (hl : l.length ≤ 1048576) : spec_l03Depth.f k l = some (dep l) := by
  obtain ⟨k, rfl⟩ : ∃ m, k = m + 1 := ⟨k - 1, by omega⟩
  unfold spec_l03Depth.f dep
  simp only [spec_l03Depth.j0]
  by_cases c1 : (l.length : Int) < 1
  · rw [if_pos c1, if_pos trivial, if_neg (by omega)]
  · rw [if_neg c1]
    by_cases c2 : (l.length : Int) > 20
    · rw [decide_eq_true c2, if_pos rfl, if_neg (by omega)]
    · rw [decide_eq_false c2, if_neg (by simp), if_pos (by omega)]
      exact spec_dep_loop l hl l.length k 0 0 0 (by omega) (by omega) (by omega) (by omega)
theorem impl_dep (l : List S46) (k : Nat) (hk : l.length < k) (hl : l.length ≤ 1048576) : impl_depth.f k l = some (dep l) := by
  unfold impl_depth.f dep
  rw [in_le]
  simp only [Option.bind_some]
  by_cases c1 : 1 ≤ l.length ∧ l.length ≤ 20
  · rw [if_pos c1, decide_eq_true (show (1 : Int) ≤ (l.length : Int) by omega), decide_eq_true (show (l.length : Int) ≤ 20 by omega)]
    simp only [Bool.and_self, if_true]
    exact impl_dep_loop l hl l.length k 0 0 0 (by omega) (by omega) (by omega) (by omega)
  · have c2 : (decide ((1 : Int) ≤ (l.length : Int)) && decide ((l.length : Int) ≤ 20)) = false := by
      rw [← Bool.not_eq_true, Bool.and_eq_true, decide_eq_true_eq, decide_eq_true_eq]
      omega
    rw [if_neg c1, c2]
    rfl
theorem sz_eq (l : List S48) (hl : l.length ≤ 9223372036854775807) : laws_szTokS.f l 1048576 = if 1048576 < l.length then some (-1) else some (1048576 - (l.length : Int)) := by
  unfold laws_szTokS.f
  rw [w64 (by omega) (by omega)]
  by_cases h : 1048576 < l.length
  · rw [if_pos (by omega), if_pos h]
  · rw [if_neg (by omega), if_neg h]
theorem mx_ge (a b : Int) : a ≤ mx a b ∧ b ≤ mx a b := by unfold mx; split <;> omega
theorem depF_pos : ∀ (l : List S46) (n m : Int), n ≤ m → depF l n m = -1 ∨ 1 ≤ depF l n m
  | [], n, m, h => by unfold depF; split <;> omega
  | x :: r, n, m, h => by
    unfold depF
    split
    · exact Or.inl rfl
    · exact depF_pos r _ _ (mx_ge _ _).2
theorem dep_pos (l : List S46) : dep l = -1 ∨ 1 ≤ dep l := by
  unfold dep
  split
  · exact depF_pos l 0 0 (by omega)
  · exact Or.inl rfl
theorem FnExactExprOk : Say.FnExactExprOk := by
  intro l hl _
  refine ⟨l.length + 2, ?_⟩
  unfold laws_FnExactExprOk.f
  rw [sz_eq l hl]
  by_cases h : 1048576 < l.length
  · rw [if_pos h]
    rfl
  · rw [if_neg h]
    simp only [Option.bind_some]
    rw [if_neg (by omega), toTokS_eq l _ (by omega) (by omega)]
    simp only [Option.bind_some, spec_ExprOk.f, impl_ExprOk.f, impl_isExpr.f]
    rw [spec_dep _ _ (by simp) (by simp; omega), impl_dep _ _ (by simp) (by simp; omega)]
    simp only [Option.bind_some]
    have hp := dep_pos (l.map fun x : S48 => (⟨x.f0, x.f1⟩ : S46))
    rw [show decide (dep (l.map fun x : S48 => (⟨x.f0, x.f1⟩ : S46)) > 0) = decide (dep (l.map fun x : S48 => (⟨x.f0, x.f1⟩ : S46)) ≥ 0) from decide_eq_decide.2 (by omega)]
    simp only [bne_self_eq_false, Bool.false_eq_true, if_false]
    rw [eqTokS_refl _ _ (by simp) (by simp; omega)]
    rfl

end Go.Proofs.Ytloiamjekoecgaa.Pure
