/- Proved: for every list of tokens and every element the program's ExprRun answers as the reference's ExprRun. No other condition. -/
import Derived.Test.YtloiamjekoecgaaSayFnExactExprRun
import Derived.Test.YtloiamjekoecgaaBase
namespace Go.Proofs.Ytloiamjekoecgaa.Pure
open Go.RowKit Go.Proofs.Ytloiamjekoecgaa.PFnExactExprRun Go.Proofs.YtloiamjekoecgaaW.PrintWords Go.Proofs.YtloiamjekoecgaaW.PrintLast Go.Proofs.YtloiamjekoecgaaW.PrintMore
open Go.Proofs.Ytloiamjekoecgaa.Base
set_option linter.unusedSimpArgs false
set_option linter.unusedVariables false

theorem toTokS_step (l : List S48) (ys : List S46) (i k : Nat) (hi : i < l.length) (hl : ys.length = l.length) (hb : l.length ≤ 1048576) :
    laws_toTokS.l0 (k + 1) l ys (i : Int) = laws_toTokS.l0 k l (ys.set i ((fun x : S48 => (⟨x.f0, x.f1⟩ : S46)) l[i])) ((i + 1 : Nat) : Int) := by
  have e : rd_T48 l (i : Int) = l[i] := getD_nat l _ i hi
  simp only [laws_toTokS.l0, laws_toTok.f, Option.bind_some]
  rw [if_pos (by omega), if_pos (by omega), if_pos (by omega), e, w64 (by omega) (by omega)]
  simp
theorem toTokS_eq (l : List S48) (k : Nat) (hk : l.length < k) (hb : l.length ≤ 1048576) : laws_toTokS.f k l = some (l.map (fun x : S48 => (⟨x.f0, x.f1⟩ : S46))) := by
  unfold laws_toTokS.f
  rw [if_pos (by omega), if_pos (by simp; omega)]
  refine up_loop0 (fun k (ys : List S46) i => laws_toTokS.l0 k l ys (i : Int)) l.length (fun i ys => ys.length = l.length ∧ ys.take i = (l.take i).map (fun x : S48 => (⟨x.f0, x.f1⟩ : S46))) (fun r => r = some (l.map (fun x : S48 => (⟨x.f0, x.f1⟩ : S46)))) ?_ ?_ k _ ?_ hk
  · rintro k s i hi ⟨h1, h2⟩
    left
    obtain ⟨h3, h4⟩ := copied_step (fun x : S48 => (⟨x.f0, x.f1⟩ : S46)) l s i hi h1 h2
    exact ⟨_, ⟨h3, h4⟩, toTokS_step l s i k hi h1 hb⟩
  · rintro k s ⟨h1, h2⟩
    simp only [laws_toTokS.l0]
    rw [if_neg (by omega), copied_end _ l s h1 h2]
  · simp

theorem eqTokS_refl (l : List S46) (k : Nat) (hk : l.length < k) (hb : l.length ≤ 4611686018427387904) : laws_eqTokS.f k l l = some true := by
  unfold laws_eqTokS.f
  rw [if_pos rfl]
  refine up_loop0 (fun k (_ : Unit) i => laws_eqTokS.l0 k l l (i : Int)) l.length (fun _ _ => True) (fun r => r = some true) ?_ ?_ k () trivial hk
  · rintro k _ i hi _
    left
    refine ⟨(), trivial, ?_⟩
    simp only [laws_eqTokS.l0, laws_eqTok.f, bne_self_eq_false, Bool.false_eq_true, if_true, if_false, Option.bind_some]
    rw [if_pos (by omega), if_pos (by omega), if_pos (by omega), w64 (by omega) (by omega)]
    simp
  · rintro k _ _
    simp only [laws_eqTokS.l0]
    rw [if_neg (by omega)]

theorem in_le (a l h : Int) : impl_in.f a l h = some (decide (l ≤ a) && decide (a ≤ h)) := by
  unfold impl_in.f
  by_cases c : l ≤ a <;> simp [c]
def tk (op : Int) : Int := if op ≤ 3 then 0 else if op = 11 then 1 else 2
theorem tk_range (op : Int) : 0 ≤ tk op ∧ tk op ≤ 2 := by unfold tk; split <;> (try split) <;> omega
theorem spec_tk (op : Int) : spec_l03Takes.f op = some (tk op) := by unfold spec_l03Takes.f tk; split <;> (try split) <;> rfl
theorem impl_tk (op n : Int) : impl_Tok_takes.f op n = some (tk op) := by unfold impl_Tok_takes.f tk; split <;> (try split) <;> rfl
/-- A token is no operation, or takes more than there is. -/
def bad (x : S46) (n : Int) : Prop := x.f0 < 0 ∨ 11 < x.f0 ∨ (x.f0 ≠ 0 ∧ x.f1 ≠ 0) ∨ n < tk x.f0
instance (x : S46) (n : Int) : Decidable (bad x n) := by unfold bad; infer_instance
def depF : List S46 → Int → Int → Int
  | [], n, m => if n = 1 then m else -1
  | x :: r, n, m => if bad x n then -1 else depF r (n - tk x.f0 + 1) (mx m (n - tk x.f0 + 1))
theorem drop_rd (l : List S46) (i : Nat) (hi : i < l.length) : l.drop i = rd_T46 l (i : Int) :: l.drop (i + 1) := by
  rw [List.drop_eq_getElem_cons hi]
  congr 1
  exact (getD_nat l _ i hi).symm
theorem spec_dep_loop (l : List S46) (hl : l.length ≤ 1048576) : ∀ (d k i : Nat) (n m : Int), i + d = l.length → d < k → 0 ≤ n → n ≤ i → spec_l03Depth.l0 k l n m (i : Int) = some (depF (l.drop i) n m) := by
  intro d
  induction d with
  | zero =>
    intro k i n m hi hk h0 h1
    obtain ⟨k, rfl⟩ : ∃ m, k = m + 1 := ⟨k - 1, by omega⟩
    simp only [spec_l03Depth.l0]
    rw [if_neg (by omega), List.drop_eq_nil_of_le (by omega)]
    unfold depF
    split <;> rfl
  | succ d ih =>
    intro k i n m hi hk h0 h1
    obtain ⟨k, rfl⟩ : ∃ m, k = m + 1 := ⟨k - 1, by omega⟩
    have e1 : wrap64 ((i : Int) + 1) = ((i + 1 : Nat) : Int) := (w64 (by omega) (by omega)).trans (by omega)
    rw [drop_rd l i (by omega)]
    generalize hx : rd_T46 l (i : Int) = x
    have ht := tk_range x.f0
    have e2 : wrap64 (wrap64 (n - tk x.f0) + 1) = n - tk x.f0 + 1 := by rw [w64 (i := n - tk x.f0) (by omega) (by omega)]; exact w64 (by omega) (by omega)
    simp only [spec_l03Depth.l0, hx, spec_tk, Option.bind_some, e1, e2]
    rw [if_pos (by omega), if_pos (by omega)]
    unfold depF
    by_cases c1 : x.f0 < 0
    · rw [if_pos c1, if_pos (show bad x n by unfold bad; omega)]
    rw [if_neg c1]
    by_cases c2 : x.f0 > 11
    · rw [if_pos c2, if_pos (show bad x n by unfold bad; omega)]
    rw [if_neg c2]
    by_cases c3 : x.f0 = 0
    · rw [if_pos c3]
      by_cases c4 : tk x.f0 > n
      · rw [if_pos c4, if_pos (show bad x n by unfold bad; omega)]
      · rw [if_neg c4, if_neg (by unfold bad; omega)]
        exact ih k (i + 1) _ _ (by omega) (by omega) (by omega) (by omega)
    · rw [if_neg c3]
      by_cases c5 : x.f1 = 0
      · rw [if_pos c5]
        by_cases c4 : tk x.f0 > n
        · rw [if_pos c4, if_pos (show bad x n by unfold bad; omega)]
        · rw [if_neg c4, if_neg (by unfold bad; omega)]
          exact ih k (i + 1) _ _ (by omega) (by omega) (by omega) (by omega)
      · rw [if_neg c5, if_pos (show bad x n by unfold bad; omega)]
theorem impl_dep_loop (l : List S46) (hl : l.length ≤ 1048576) : ∀ (d k i : Nat) (n m : Int), i + d = l.length → d < k → 0 ≤ n → n ≤ i → impl_depth.l0 k n m l (l.length : Int) (i : Int) = some (depF (l.drop i) n m) := by
  intro d
  induction d with
  | zero =>
    intro k i n m hi hk h0 h1
    obtain ⟨k, rfl⟩ : ∃ m, k = m + 1 := ⟨k - 1, by omega⟩
    simp only [impl_depth.l0]
    rw [if_neg (by omega), List.drop_eq_nil_of_le (by omega)]
    unfold depF
    split <;> rfl
  | succ d ih =>
    intro k i n m hi hk h0 h1
    obtain ⟨k, rfl⟩ : ∃ m, k = m + 1 := ⟨k - 1, by omega⟩
    have e1 : wrap64 ((i : Int) + 1) = ((i + 1 : Nat) : Int) := (w64 (by omega) (by omega)).trans (by omega)
    rw [drop_rd l i (by omega)]
    generalize hx : rd_T46 l (i : Int) = x
    have ht := tk_range x.f0
    have e2 : wrap64 (n + wrap64 (1 - tk x.f0)) = n - tk x.f0 + 1 := by rw [w64 (i := 1 - tk x.f0) (by omega) (by omega)]; exact (w64 (by omega) (by omega)).trans (by omega)
    simp only [impl_depth.l0, hx, impl_tk, in_le, Option.bind_some, e1, e2]
    rw [if_pos (by omega), if_pos (by omega), if_pos (by omega)]
    unfold depF
    by_cases c1 : 0 ≤ x.f0
    rotate_left
    · rw [decide_eq_false c1, if_pos (show bad x n by unfold bad; omega)]
      rfl
    by_cases c2 : x.f0 ≤ 11
    rotate_left
    · rw [decide_eq_true c1, decide_eq_false c2, if_pos (show bad x n by unfold bad; omega)]
      rfl
    rw [decide_eq_true c1, decide_eq_true c2]
    simp only [Bool.and_self, if_true]
    by_cases c3 : x.f0 = 0
    · rw [if_pos c3]
      by_cases c4 : n < tk x.f0
      · rw [if_pos c4, if_pos (show bad x n by unfold bad; omega)]
      · rw [if_neg c4, if_neg (by unfold bad; omega)]
        exact ih k (i + 1) _ _ (by omega) (by omega) (by omega) (by omega)
    · rw [if_neg c3]
      by_cases c5 : x.f1 = 0
      · rw [if_pos c5]
        by_cases c4 : n < tk x.f0
        · rw [if_pos c4, if_pos (show bad x n by unfold bad; omega)]
        · rw [if_neg c4, if_neg (by unfold bad; omega)]
          exact ih k (i + 1) _ _ (by omega) (by omega) (by omega) (by omega)
      · rw [if_neg c5, if_pos (show bad x n by unfold bad; omega)]
def dep (l : List S46) : Int := if 1 ≤ l.length ∧ l.length ≤ 20 then depF l 0 0 else -1
theorem spec_dep (l : List S46) (k : Nat) (hk : l.length + 1 < k) (hl : l.length ≤ 1048576) : spec_l03Depth.f k l = some (dep l) := by
  obtain ⟨k, rfl⟩ : ∃ m, k = m + 1 := ⟨k - 1, by omega⟩
  unfold spec_l03Depth.f dep
  simp only [spec_l03Depth.j0]
  by_cases c1 : (l.length : Int) < 1
  · rw [if_pos c1, if_pos trivial, if_neg (by omega)]
  · rw [if_neg c1]
    by_cases c2 : (l.length : Int) > 20
    · rw [decide_eq_true c2, if_pos rfl, if_neg (by omega)]
    · rw [decide_eq_false c2, if_neg (by simp), if_pos (by omega)]
      exact spec_dep_loop l hl l.length k 0 0 0 (by omega) (by omega) (by omega) (by omega)
theorem impl_dep (l : List S46) (k : Nat) (hk : l.length < k) (hl : l.length ≤ 1048576) : impl_depth.f k l = some (dep l) := by
  unfold impl_depth.f dep
  rw [in_le]
  simp only [Option.bind_some]
  by_cases c1 : 1 ≤ l.length ∧ l.length ≤ 20
  · rw [if_pos c1, decide_eq_true (show (1 : Int) ≤ (l.length : Int) by omega), decide_eq_true (show (l.length : Int) ≤ 20 by omega)]
    simp only [Bool.and_self, if_true]
    exact impl_dep_loop l hl l.length k 0 0 0 (by omega) (by omega) (by omega) (by omega)
  · have c2 : (decide ((1 : Int) ≤ (l.length : Int)) && decide ((l.length : Int) ≤ 20)) = false := by
      rw [← Bool.not_eq_true, Bool.and_eq_true, decide_eq_true_eq, decide_eq_true_eq]
      omega
    rw [if_neg c1, c2]
    rfl
theorem sz_eq (l : List S48) (hl : l.length ≤ 9223372036854775807) : laws_szTokS.f l 1048576 = if 1048576 < l.length then some (-1) else some (1048576 - (l.length : Int)) := by
  unfold laws_szTokS.f
  rw [w64 (by omega) (by omega)]
  by_cases h : 1048576 < l.length
  · rw [if_pos (by omega), if_pos h]
  · rw [if_neg (by omega), if_neg h]
theorem mx_ge (a b : Int) : a ≤ mx a b ∧ b ≤ mx a b := by unfold mx; split <;> omega
theorem depF_pos : ∀ (l : List S46) (n m : Int), n ≤ m → depF l n m = -1 ∨ 1 ≤ depF l n m
  | [], n, m, h => by unfold depF; split <;> omega
  | x :: r, n, m, h => by
    unfold depF
    split
    · exact Or.inl rfl
    · exact depF_pos r _ _ (mx_ge _ _).2
theorem dep_pos (l : List S46) : dep l = -1 ∨ 1 ≤ dep l := by
  unfold dep
  split
  · exact depF_pos l 0 0 (by omega)
  · exact Or.inl rfl
/-- The halves of a whole number, as a wide one has them. -/
def wh (A : Int) : Int := wrap64 (A / 18446744073709551616)
def wl (A : Int) : Int := A % 18446744073709551616
theorem carry (a b c : Int) (h : c = a + b) : (c % 18446744073709551616 = a % 18446744073709551616 + b % 18446744073709551616 ∧ c / 18446744073709551616 = a / 18446744073709551616 + b / 18446744073709551616) ∨ (c % 18446744073709551616 + 18446744073709551616 = a % 18446744073709551616 + b % 18446744073709551616 ∧ c / 18446744073709551616 = a / 18446744073709551616 + b / 18446744073709551616 + 1) := by omega
theorem hi0 (x y : Int) : wrap64 (IntKind.u64.wrap ((IntKind.u64.wrap (wrap64 x)) + (IntKind.u64.wrap (wrap64 y)))) = wrap64 (x + y) := by
  simp only [wu64]
  unfold wrap64
  omega
theorem hi1 (x y : Int) : wrap64 (IntKind.u64.wrap ((IntKind.u64.wrap ((IntKind.u64.wrap (wrap64 x)) + (IntKind.u64.wrap (wrap64 y)))) + 1)) = wrap64 (x + y + 1) := by
  simp only [wu64]
  unfold wrap64
  omega
theorem spec_add_wide (A B : Int) : spec_WideAdd.f (wh A) (wl A) (wh B) (wl B) = some (wh (A + B), wl (A + B)) := by
  unfold spec_WideAdd.f wh wl
  rw [hi0, hi1]
  rcases carry A B (A + B) rfl with ⟨h1, h2⟩ | ⟨h1, h2⟩
  · have e : IntKind.u64.wrap (A % 18446744073709551616 + B % 18446744073709551616) = (A + B) % 18446744073709551616 := by rw [wu64]; omega
    rw [e, if_neg (by omega), h2]
  · have e : IntKind.u64.wrap (A % 18446744073709551616 + B % 18446744073709551616) = (A + B) % 18446744073709551616 := by rw [wu64]; omega
    rw [e, if_pos (by omega), h2]
theorem wh0 : wh 0 = 0 := by decide +kernel
theorem wl1 : wl 1 = 1 := by decide +kernel
theorem wl0 : wl 0 = 0 := by decide +kernel
theorem wh1 : wh 1 = 0 := by decide +kernel
theorem spec_neg_wide (A : Int) : spec_WideNeg.f (wh A) (wl A) = some (wh (-A), wl (-A)) := by
  unfold spec_WideNeg.f
  have e1 : wrap64 ((-1) - wh A) = wh (-A - 1) := by unfold wh wrap64; omega
  have e2 : IntKind.u64.wrap (18446744073709551615 - wl A) = wl (-A - 1) := by rw [wu64]; unfold wl; omega
  have h := spec_add_wide (-A - 1) 1
  rw [wh1, wl1] at h
  rw [e1, e2, h]
  simp only [Option.bind_some]
  rw [show -A - 1 + 1 = -A by omega]
theorem spec_of_wide (n : Int) (h : -9223372036854775808 ≤ n ∧ n ≤ 9223372036854775807) : spec_WideOf.f n = some (wh n, wl n) := by
  unfold spec_WideOf.f
  rw [wu64]
  have e : n % 18446744073709551616 = wl n := rfl
  by_cases c : n < 0
  · rw [if_pos c, e]
    have : wh n = -1 := by unfold wh wrap64; omega
    rw [this]
  · rw [if_neg c, e]
    have : wh n = 0 := by unfold wh wrap64; omega
    rw [this]
def fits (A : Int) : Bool := decide (-9223372036854775808 ≤ A) && decide (A ≤ 9223372036854775807)
theorem spec_int_wide (A : Int) (h : -170141183460469231731687303715884105728 ≤ A ∧ A < 170141183460469231731687303715884105728) : spec_WideInt.f (wh A) (wl A) = some (if fits A = true then A else 0, fits A) := by
  unfold spec_WideInt.f
  have hn : -9223372036854775808 ≤ wrap64 (wl A) ∧ wrap64 (wl A) ≤ 9223372036854775807 := by unfold wrap64; omega
  rw [spec_of_wide _ hn]
  simp only [Option.bind_some]
  have hl : wl (wrap64 (wl A)) = wl A := by unfold wl wrap64; omega
  rw [hl]
  unfold fits
  by_cases c : -9223372036854775808 ≤ A ∧ A ≤ 9223372036854775807
  · have e : wrap64 (wl A) = A := by unfold wl wrap64; omega
    rw [e, decide_eq_true c.1, decide_eq_true c.2]
    simp
  · have e : wh (wrap64 (wl A)) ≠ wh A := by
      intro e
      apply c
      unfold wh wl wrap64 at e
      omega
    have e2 : (decide (-9223372036854775808 ≤ A) && decide (A ≤ 9223372036854775807)) = false := by
      rw [← Bool.not_eq_true, Bool.and_eq_true, decide_eq_true_eq, decide_eq_true_eq]
      exact c
    rw [e2]
    simp [e]
def inr (a : Int) : Prop := -9223372036854775808 ≤ a ∧ a ≤ 9223372036854775807
theorem times_loop : ∀ (d k : Nat) (x P Q : Int), 0 ≤ x → x < 2 ^ d → x ≤ 18446744073709551615 → d < k → spec_l03Times.l0 k x (wh P) (wl P) (wh Q) (wl Q) = some (wh (P + x * Q), wl (P + x * Q)) := by
  intro d
  induction d with
  | zero =>
    intro k x P Q h0 h1 h2 hk
    obtain ⟨k, rfl⟩ : ∃ m, k = m + 1 := ⟨k - 1, by omega⟩
    have hx : x = 0 := by simp at h1; omega
    subst hx
    simp only [spec_l03Times.l0]
    rw [if_neg (by omega), Int.zero_mul, Int.add_zero]
  | succ d ih =>
    intro k x P Q h0 h1 h2 hk
    obtain ⟨k, rfl⟩ : ∃ m, k = m + 1 := ⟨k - 1, by omega⟩
    simp only [spec_l03Times.l0]
    by_cases c : x > 0
    rotate_left
    · have hx : x = 0 := by omega
      subst hx
      rw [if_neg (by omega), Int.zero_mul, Int.add_zero]
    rw [if_pos c, Int.tmod_eq_emod_of_nonneg h0, Int.tdiv_eq_ediv_of_nonneg h0]
    have e1 : IntKind.u64.wrap (x / 2) = x / 2 := by rw [wu64]; omega
    have hp : x / 2 < 2 ^ d := by
      rw [Int.pow_succ] at h1
      omega
    rw [e1]
    by_cases c2 : x % 2 = 1
    · rw [if_pos c2, spec_add_wide P Q, Option.bind_some, spec_add_wide Q Q, Option.bind_some, ih k (x / 2) (P + Q) (Q + Q) (by omega) hp (by omega) (by omega)]
      have hx : P + Q + x / 2 * (Q + Q) = P + x * Q := by
        generalize hy : x / 2 = y
        have : x = 2 * y + 1 := by omega
        rw [this]
        simp only [Int.add_mul, Int.mul_add, Int.one_mul, Int.mul_assoc]
        omega
      rw [hx]
    · rw [if_neg c2, spec_add_wide Q Q, Option.bind_some, ih k (x / 2) P (Q + Q) (by omega) hp (by omega) (by omega)]
      have hx : P + x / 2 * (Q + Q) = P + x * Q := by
        generalize hy : x / 2 = y
        have : x = 2 * y := by omega
        rw [this]
        simp only [Int.add_mul, Int.mul_add, Int.one_mul, Int.mul_assoc]
        omega
      rw [hx]
theorem spec_times (a b : Int) (ha : inr a) (hb : inr b) (k : Nat) (hk : 66 < k) : spec_l03Times.f k a b = some (wh (a * b), wl (a * b)) := by
  obtain ⟨k, rfl⟩ : ∃ m, k = m + 1 := ⟨k - 1, by omega⟩
  unfold inr at ha hb
  unfold spec_l03Times.f
  rw [spec_of_wide a ha]
  simp only [Option.bind_some, spec_l03Times.j0]
  have z0 := wh0
  have z1 := wl0
  by_cases c : b < 0
  · rw [if_pos c, spec_neg_wide]
    simp only [Option.bind_some]
    have e : IntKind.u64.wrap (-(IntKind.u64.wrap b)) = -b := by simp only [wu64]; omega
    have h := times_loop 64 k (-b) 0 (-a) (by omega) (by have : (2 : Int) ^ 64 = 18446744073709551616 := by decide +kernel
                                                         omega) (by omega) (by omega)
    rw [z0, z1] at h
    rw [e, h, Int.zero_add, Int.neg_mul_neg, Int.mul_comm]
  · rw [if_neg c]
    have e : IntKind.u64.wrap b = b := by simp only [wu64]; omega
    have h := times_loop 64 k b 0 a (by omega) (by have : (2 : Int) ^ 64 = 18446744073709551616 := by decide +kernel
                                                   omega) (by omega) (by omega)
    rw [z0, z1] at h
    rw [e, h, Int.zero_add, Int.mul_comm]
theorem fits_iff (A : Int) : fits A = true ↔ inr A := by
  unfold fits inr
  rw [Bool.and_eq_true, decide_eq_true_eq, decide_eq_true_eq]
theorem mul_small (a b : Int) (ha : inr a) (hb : inr b) : -170141183460469231731687303715884105728 ≤ a * b ∧ a * b < 170141183460469231731687303715884105728 := by
  unfold inr at ha hb
  have h1 : a.natAbs ≤ 9223372036854775808 := by omega
  have h2 : b.natAbs ≤ 9223372036854775808 := by omega
  have h3 := Nat.mul_le_mul h1 h2
  rw [← Int.natAbs_mul] at h3
  omega
theorem impl_times_ok (a b : Int) (ha : inr a) (hb : inr b) : ∃ p, impl_times.f a b = some (p, fits (a * b)) ∧ (fits (a * b) = true → p = a * b) := by
  have ha0 := ha
  have hb0 := hb
  unfold inr at ha hb
  unfold impl_times.f
  by_cases a0 : a = 0
  · refine ⟨0, ?_, ?_⟩
    · rw [if_pos a0, a0, Int.zero_mul]
      rfl
    · intro _
      rw [a0, Int.zero_mul]
  by_cases b0 : b = 0
  · refine ⟨0, ?_, ?_⟩
    · rw [if_neg a0, if_pos b0, b0, Int.mul_zero]
      rfl
    · intro _
      rw [b0, Int.mul_zero]
  rw [if_neg a0, if_neg b0]
  have hm := mul_small a b ha0 hb0
  by_cases hf : inr (a * b)
  · have hft := (fits_iff _).2 hf
    have hp : wrap64 (a * b) = a * b := w64 hf.1 hf.2
    have hq : wrap64 (Int.tdiv (a * b) b) = a := by
      rw [Int.mul_tdiv_cancel a b0]
      exact w64 ha.1 ha.2
    refine ⟨a * b, ?_, fun _ => rfl⟩
    rw [hp, hq, if_pos rfl, hft]
    unfold inr at hf
    by_cases c1 : a = -1
    · rw [if_pos c1]
      have c2 : ¬ b = -9223372036854775808 := by
        intro c2
        rw [c1, c2] at hf
        omega
      rw [if_neg c2]
      by_cases c3 : b = -1
      · rw [if_pos c3, c1]
        rfl
      · rw [if_neg c3]
        rfl
    · rw [if_neg c1]
      by_cases c3 : b = -1
      · have c4 : (a == -9223372036854775808) = false := by
          rw [beq_eq_false_iff_ne]
          intro c4
          rw [c3, c4] at hf
          omega
        rw [if_pos c3, c4]
        rfl
      · rw [if_neg c3]
        rfl
  · have hff : fits (a * b) = false := by
      rw [← Bool.not_eq_true, fits_iff]
      exact hf
    refine ⟨wrap64 (a * b), ?_, fun h => by rw [hff] at h; cases h⟩
    rw [hff]
    by_cases cq : wrap64 (Int.tdiv (wrap64 (a * b)) b) = a
    rotate_left
    · rw [if_neg cq]
    rw [if_pos cq]
    by_cases c3 : b = -1
    · have c4 : a = -9223372036854775808 := by
        unfold inr at hf
        rw [c3] at hf
        omega
      have c1 : ¬ a = -1 := by omega
      rw [if_neg c1, if_pos c3, c4]
      rfl
    · exfalso
      apply hf
      generalize hp : wrap64 (a * b) = p at cq
      have hpr : inr p := by rw [← hp]; unfold inr wrap64; omega
      have hpm : ∃ z, p - a * b = 18446744073709551616 * z := by
        rw [← hp]
        unfold wrap64
        exact ⟨-((a * b + 9223372036854775808) / 18446744073709551616), by omega⟩
      unfold inr at hpr
      have hq1 : (Int.tdiv p b).natAbs = p.natAbs / b.natAbs := Int.natAbs_tdiv p b
      have hq : Int.tdiv p b = a := by
        by_cases c5 : b = 1
        · rw [c5, Int.tdiv_one] at cq ⊢
          rw [w64 hpr.1 hpr.2] at cq
          exact cq
        · have h2 : 2 ≤ b.natAbs := by omega
          have h3 : p.natAbs / b.natAbs ≤ p.natAbs / 2 := Nat.div_le_div_left h2 (by omega)
          rw [w64 (by omega) (by omega)] at cq
          exact cq
      have hr1 : (Int.tmod p b).natAbs = p.natAbs % b.natAbs := Int.natAbs_tmod p b
      have hr2 : p.natAbs % b.natAbs < b.natAbs := Nat.mod_lt _ (by omega)
      have hr3 := Int.mul_tdiv_add_tmod p b
      rw [hq, Int.mul_comm b a] at hr3
      obtain ⟨z, hz⟩ := hpm
      generalize a * b = m at *
      have : z = 0 := by omega
      unfold inr
      omega
theorem added_ok (a b : Int) (ha : inr a) (hb : inr b) : ∃ p, impl_added.f a b = some (p, fits (a + b)) ∧ (fits (a + b) = true → p = a + b) := by
  unfold inr at ha hb
  unfold impl_added.f
  refine ⟨wrap64 (a + b), ?_, fun h => ?_⟩
  · congr 2
    unfold fits
    rw [Bool.eq_iff_iff]
    simp only [beq_iff_eq, decide_eq_decide, Bool.and_eq_true, decide_eq_true_eq]
    unfold wrap64
    omega
  · have := (fits_iff _).1 h
    exact w64 this.1 this.2
theorem minus_ok (a b : Int) (ha : inr a) (hb : inr b) : ∃ p, impl_minus.f a b = some (p, fits (a - b)) ∧ (fits (a - b) = true → p = a - b) := by
  unfold inr at ha hb
  unfold impl_minus.f
  refine ⟨wrap64 (a - b), ?_, fun h => ?_⟩
  · congr 2
    unfold fits
    rw [Bool.eq_iff_iff]
    simp only [beq_iff_eq, decide_eq_decide, Bool.and_eq_true, decide_eq_true_eq]
    unfold wrap64
    omega
  · have := (fits_iff _).1 h
    exact w64 this.1 this.2
theorem fits_small (v : Int) (h : v = 0 ∨ v = 1) : fits v = true := by rcases h with rfl | rfl <;> decide +kernel
theorem ite_fit (p v : Int) (h : fits v = true → p = v) : (if fits v = true then (some (p, 0) : Option (Int × Int)) else some (0, 2)) = some (if fits v = true then (v, 0) else (0, 2)) := by
  by_cases c : fits v = true
  · rw [if_pos c, if_pos c, h c]
  · rw [if_neg c, if_neg c]
/-- What both sides make of two numbers, but for a division by 0. -/
theorem two_ok (op a b : Int) (k : Nat) (hk : 70 < k) (ho : 4 ≤ op ∧ op ≤ 10) (ha : inr a) (hb : inr b) (hz : ¬ (op = 7 ∧ b = 0)) :
    ∃ v, (-170141183460469231731687303715884105728 ≤ v ∧ v < 170141183460469231731687303715884105728) ∧ spec_l03Two.f k op a b = some (wh v, wl v, 0) ∧ impl_apply.f k op a b = some (if fits v = true then (v, 0) else (0, 2)) := by
  have ha0 := ha
  have hb0 := hb
  unfold inr at ha0 hb0
  obtain ⟨k, rfl⟩ : ∃ m, k = m + 1 := ⟨k - 1, by omega⟩
  unfold spec_l03Two.f impl_apply.f
  by_cases o4 : op = 4
  · obtain ⟨p, h1, h2⟩ := added_ok a b ha hb
    refine ⟨a + b, by omega, ?_, ?_⟩
    · rw [if_pos o4, spec_of_wide a ha0, spec_of_wide b hb0]
      simp only [Option.bind_some, spec_add_wide]
    · rw [if_pos o4, h1]
      simp only [Option.bind_some]
      exact ite_fit p _ h2
  simp only [if_neg o4]
  by_cases o5 : op = 5
  · obtain ⟨p, h1, h2⟩ := minus_ok a b ha hb
    refine ⟨a - b, by omega, ?_, ?_⟩
    · rw [if_pos o5, spec_of_wide a ha0, spec_of_wide b hb0]
      simp only [Option.bind_some, spec_neg_wide, spec_add_wide, Int.sub_eq_add_neg]
    · rw [if_pos o5, h1]
      simp only [Option.bind_some]
      exact ite_fit p _ h2
  simp only [if_neg o5]
  by_cases o6 : op = 6
  · obtain ⟨p, h1, h2⟩ := impl_times_ok a b ha hb
    refine ⟨a * b, mul_small a b ha hb, ?_, ?_⟩
    · rw [if_pos o6, spec_times a b ha hb _ (by omega)]
      rfl
    · rw [if_pos o6, h1]
      simp only [Option.bind_some]
      exact ite_fit p _ h2
  simp only [if_neg o6]
  by_cases o7 : op = 7
  · have hb1 : ¬ b = 0 := fun h => hz ⟨o7, h⟩
    simp only [if_pos o7, if_neg hb1]
    have hq1 : (Int.tdiv a b).natAbs = a.natAbs / b.natAbs := Int.natAbs_tdiv a b
    have hq2 : a.natAbs / b.natAbs ≤ a.natAbs := Nat.div_le_self _ _
    refine ⟨Int.tdiv a b, by omega, ?_, ?_⟩
    · by_cases c : b = -1
      · rw [if_pos c, spec_of_wide a ha0]
        simp only [Option.bind_some, spec_neg_wide]
        rw [c]
        have : Int.tdiv a (-1) = -a := by rw [Int.tdiv_neg, Int.tdiv_one]
        rw [this]
      · have hr : inr (Int.tdiv a b) := by
          by_cases c5 : b = 1
          · rw [c5, Int.tdiv_one]
            exact ha
          · have h2 : 2 ≤ b.natAbs := by omega
            have h3 : a.natAbs / b.natAbs ≤ a.natAbs / 2 := Nat.div_le_div_left h2 (by omega)
            unfold inr
            omega
        rw [if_neg c, w64 hr.1 hr.2, spec_of_wide _ hr]
        rfl
    · by_cases c : a = -9223372036854775808
      · rw [if_pos c]
        simp only [impl_apply.j0]
        by_cases c2 : b = -1
        · have e : (b != -1) = false := by rw [c2]; rfl
          rw [e, if_neg (by simp), c, c2]
          rfl
        · have e : (b != -1) = true := by rw [bne_iff_ne]; exact c2
          have hr : inr (Int.tdiv a b) := by
            by_cases c5 : b = 1
            · rw [c5, Int.tdiv_one]
              exact ha
            · have h2 : 2 ≤ b.natAbs := by omega
              have h3 : a.natAbs / b.natAbs ≤ a.natAbs / 2 := Nat.div_le_div_left h2 (by omega)
              unfold inr
              omega
          rw [e, if_pos rfl, if_neg hb1, w64 hr.1 hr.2, if_pos ((fits_iff _).2 hr)]
      · rw [if_neg c]
        simp only [impl_apply.j0, if_true]
        have hr : inr (Int.tdiv a b) := by unfold inr; omega
        rw [if_neg hb1, w64 hr.1 hr.2, if_pos ((fits_iff _).2 hr)]
  simp only [if_neg o7]
  have one : inr 1 := by unfold inr; omega
  have zero : inr 0 := by unfold inr; omega
  have key : ∀ t : Bool, ∃ v, (v = 0 ∨ v = 1) ∧ spec_l03Bool.f t = some v ∧ impl_truth.f t = some v := by
    intro t
    cases t
    · exact ⟨0, Or.inl rfl, rfl, rfl⟩
    · exact ⟨1, Or.inr rfl, rfl, rfl⟩
  by_cases o8 : op = 8
  · obtain ⟨v, h1, h2, h3⟩ := key (decide (a < b))
    refine ⟨v, by omega, ?_, ?_⟩
    · rw [if_pos o8, h2, Option.bind_some, spec_of_wide v (by omega)]
      rfl
    · rw [if_pos o8, h3, if_pos (fits_small v h1)]
      rfl
  simp only [if_neg o8]
  by_cases o9 : op = 9
  · obtain ⟨v, h1, h2, h3⟩ := key (a == b)
    refine ⟨v, by omega, ?_, ?_⟩
    · rw [if_pos o9, h2, Option.bind_some, spec_of_wide v (by omega)]
      rfl
    · rw [if_pos o9, h3, if_pos (fits_small v h1)]
      rfl
  simp only [if_neg o9]
  have o10 : op = 10 := by omega
  simp only [if_pos o10]
  by_cases c : a = 0
  · simp only [if_pos c]
    obtain ⟨v, h1, h2, h3⟩ := key false
    refine ⟨v, by omega, ?_, ?_⟩
    · rw [h2, Option.bind_some, spec_of_wide v (by omega)]
      rfl
    · rw [h3, if_pos (fits_small v h1)]
      rfl
  · simp only [if_neg c]
    obtain ⟨v, h1, h2, h3⟩ := key (b != 0)
    refine ⟨v, by omega, ?_, ?_⟩
    · rw [h2, Option.bind_some, spec_of_wide v (by omega)]
      rfl
    · rw [h3, if_pos (fits_small v h1)]
      rfl
theorem rd_mem (s : List Int) (h : ∀ z ∈ s, inr z) (j : Int) (h0 : 0 ≤ j) (h1 : j < s.length) : inr (rd s j) := by
  obtain ⟨n, rfl⟩ := Int.eq_ofNat_of_zero_le h0
  rw [rd_nat s n (by omega)]
  exact h _ (List.getElem_mem _)
theorem run_loops (l : List S46) (hl : l.length ≤ 20) (hr : ∀ i, i < l.length → inr (rd_T46 l (i : Int)).f1) (src key val tim : Int) (he1 : inr key) (he2 : inr val) (he3 : inr tim) :
    ∀ (d k i : Nat) (s : List Int) (m : Int), i + d = l.length → d + 100 < k → s.length ≤ i → (∀ z ∈ s, inr z) → 1 ≤ depF (l.drop i) (s.length : Int) m →
      ∃ r, spec_ExprRun.l0 k l s (i : Int) src key val tim = some r ∧ impl_run.l0 k s l (l.length : Int) (i : Int) src key val tim = some r := by
  intro d
  induction d with
  | zero =>
    intro k i s m hi hk hs hz hd
    obtain ⟨k, rfl⟩ : ∃ m, k = m + 1 := ⟨k - 1, by omega⟩
    rw [List.drop_eq_nil_of_le (by omega)] at hd
    unfold depF at hd
    by_cases c : (s.length : Int) = 1
    · simp only [spec_ExprRun.l0, impl_run.l0]
      simp only [if_neg (show ¬ (i : Int) < (l.length : Int) by omega), if_pos (show 0 < (s.length : Int) by omega)]
      exact ⟨_, rfl, rfl⟩
    · rw [if_neg c] at hd
      omega
  | succ d ih =>
    intro k i s m hi hk hs hz hd
    obtain ⟨k, rfl⟩ : ∃ m, k = m + 1 := ⟨k - 1, by omega⟩
    have e1 : wrap64 ((i : Int) + 1) = ((i + 1 : Nat) : Int) := (w64 (by omega) (by omega)).trans (by omega)
    have hx1 := hr i (by omega)
    rw [drop_rd l i (by omega)] at hd
    simp only [spec_ExprRun.l0, impl_run.l0, e1]
    generalize rd_T46 l (i : Int) = x at hd hx1
    unfold depF at hd
    by_cases hbad : bad x (s.length : Int)
    · rw [if_pos hbad] at hd
      omega
    rw [if_neg hbad] at hd
    unfold bad at hbad
    simp only [if_pos (show (i : Int) < (l.length : Int) by omega), if_pos (show 0 ≤ (i : Int) by omega)]
    simp only [impl_tk, Option.bind_some]
    have push : ∀ v, inr v → tk x.f0 = 0 → ∃ r, (if s.length < 17592186044416 then spec_ExprRun.l0 k l (s ++ [v]) ((i + 1 : Nat) : Int) src key val tim else none) = some r ∧ (if s.length < 17592186044416 then impl_run.l0 k (s ++ [v]) l (l.length : Int) ((i + 1 : Nat) : Int) src key val tim else none) = some r := by
      intro v hv ht
      rw [if_pos (by omega), if_pos (by omega)]
      refine ih k (i + 1) (s ++ [v]) (mx m ((s.length : Int) - tk x.f0 + 1)) (by omega) (by omega) (by simp; omega) ?_ ?_
      · intro z hz'
        rcases List.mem_append.1 hz' with h | h
        · exact hz z h
        · rw [List.mem_singleton.1 h]
          exact hv
      · have : ((s ++ [v]).length : Int) = (s.length : Int) - tk x.f0 + 1 := by rw [ht]; simp
        rw [this]
        exact hd
    by_cases o0 : x.f0 = 0
    · have ht : tk x.f0 = 0 := by unfold tk; rw [if_pos (by omega)]
      simp only [if_pos o0, ht, if_true]
      have hp : impl_Tok_push.f x.f0 x.f1 src key val tim = some x.f1 := by unfold impl_Tok_push.f; rw [if_neg (by omega), if_neg (by omega), if_neg (by omega)]
      rw [hp, Option.bind_some]
      exact push _ hx1 ht
    simp only [if_neg o0]
    by_cases o1 : x.f0 = 1
    · have ht : tk x.f0 = 0 := by unfold tk; rw [if_pos (by omega)]
      simp only [if_pos o1, ht, if_true]
      have hp : impl_Tok_push.f x.f0 x.f1 src key val tim = some key := by unfold impl_Tok_push.f; rw [if_pos (by omega)]
      rw [hp, Option.bind_some]
      exact push _ he1 ht
    simp only [if_neg o1]
    by_cases o2 : x.f0 = 2
    · have ht : tk x.f0 = 0 := by unfold tk; rw [if_pos (by omega)]
      simp only [if_pos o2, ht, if_true]
      have hp : impl_Tok_push.f x.f0 x.f1 src key val tim = some val := by unfold impl_Tok_push.f; rw [if_neg (by omega), if_pos (by omega)]
      rw [hp, Option.bind_some]
      exact push _ he2 ht
    simp only [if_neg o2]
    by_cases o3 : x.f0 = 3
    · have ht : tk x.f0 = 0 := by unfold tk; rw [if_pos (by omega)]
      simp only [if_pos o3, ht, if_true]
      have hp : impl_Tok_push.f x.f0 x.f1 src key val tim = some tim := by unfold impl_Tok_push.f; rw [if_neg (by omega), if_neg (by omega), if_pos (by omega)]
      rw [hp, Option.bind_some]
      exact push _ he3 ht
    simp only [if_neg o3]
    by_cases o11 : x.f0 = 11
    · have ht : tk x.f0 = 1 := by unfold tk; rw [if_neg (by omega), if_pos o11]
      rw [ht] at hd
      have hs1 : 1 ≤ s.length := by omega
      have w1 : wrap64 ((s.length : Int) - 1) = (s.length : Int) - 1 := w64 (by omega) (by omega)
      have t1 : (1 : Int) = 1 := rfl
      simp only [if_pos o11, ht, w1, if_neg (show ¬ (1 : Int) = 0 by omega), if_true, if_pos (show 0 ≤ (s.length : Int) - 1 by omega), if_pos (show (s.length : Int) - 1 < (s.length : Int) by omega)]
      have hv : ∃ v, inr v ∧ spec_l03Bool.f (rd s ((s.length : Int) - 1) == 0) = some v ∧ impl_truth.f (rd s ((s.length : Int) - 1) == 0) = some v := by
        cases (rd s ((s.length : Int) - 1) == 0)
        · exact ⟨0, by unfold inr; omega, rfl, rfl⟩
        · exact ⟨1, by unfold inr; omega, rfl, rfl⟩
      obtain ⟨v, h1, h2, h3⟩ := hv
      rw [h2, h3]
      simp only [Option.bind_some]
      refine ih k (i + 1) _ (mx m ((s.length : Int) - 1 + 1)) (by omega) (by omega) (by simp; omega) ?_ ?_
      · intro z hz'
        rcases List.mem_or_eq_of_mem_set hz' with h | h
        · exact hz z h
        · rw [h]
          exact h1
      · have : ((s.set ((s.length : Int) - 1).toNat v).length : Int) = (s.length : Int) - 1 + 1 := by simp
        rw [this]
        exact hd
    simp only [if_neg o11]
    have ho : 4 ≤ x.f0 ∧ x.f0 ≤ 10 := by omega
    have ht : tk x.f0 = 2 := by unfold tk; rw [if_neg (by omega), if_neg (by omega)]
    rw [ht] at hd hbad
    have hs2 : 2 ≤ s.length := by omega
    have w1 : wrap64 ((s.length : Int) - 1) = (s.length : Int) - 1 := w64 (by omega) (by omega)
    have w2 : wrap64 ((s.length : Int) - 2) = (s.length : Int) - 2 := w64 (by omega) (by omega)
    simp only [ht, w1, w2, if_neg (show ¬ (2 : Int) = 0 by omega), if_neg (show ¬ (2 : Int) = 1 by omega), if_pos (show 0 ≤ (s.length : Int) - 2 by omega), if_pos (show (s.length : Int) - 2 < (s.length : Int) by omega), if_pos (show 0 ≤ (s.length : Int) - 1 by omega), if_pos (show (s.length : Int) - 1 < (s.length : Int) by omega), if_pos (show (s.length : Int) - 2 ≤ (s.length : Int) by omega)]
    have ha := rd_mem s hz ((s.length : Int) - 2) (by omega) (by omega)
    have hb := rd_mem s hz ((s.length : Int) - 1) (by omega) (by omega)
    generalize rd s ((s.length : Int) - 2) = a at ha
    generalize rd s ((s.length : Int) - 1) = b at hb
    by_cases hzero : x.f0 = 7 ∧ b = 0
    · have s1 : spec_l03Two.f k x.f0 a b = some (0, 0, 3) := by
        unfold spec_l03Two.f
        rw [if_neg (by omega), if_neg (by omega), if_neg (by omega), if_pos hzero.1, if_pos hzero.2]
      have s2 : impl_apply.f k x.f0 a b = some (0, 3) := by
        unfold impl_apply.f
        rw [if_neg (by omega), if_neg (by omega), if_neg (by omega), if_pos hzero.1, if_pos hzero.2]
      rw [s1, s2]
      exact ⟨_, rfl, rfl⟩
    · obtain ⟨v, hv, s1, s2⟩ := two_ok x.f0 a b k (by omega) ho ha hb hzero
      rw [s1, s2]
      simp only [Option.bind_some, if_true]
      rw [spec_int_wide v hv]
      by_cases hf : fits v = true
      · simp only [hf, if_true, Option.bind_some]
        have hlen : (s.take ((s.length : Int) - 2).toNat).length = s.length - 2 := by simp; omega
        simp only [if_pos (show (s.take ((s.length : Int) - 2).toNat).length < 17592186044416 by omega)]
        refine ih k (i + 1) _ (mx m ((s.length : Int) - 2 + 1)) (by omega) (by omega) (by rw [List.length_append, hlen]; simp; omega) ?_ ?_
        · intro z hz'
          rcases List.mem_append.1 hz' with h | h
          · exact hz z (List.mem_of_mem_take h)
          · rw [List.mem_singleton.1 h]
            exact (fits_iff v).1 hf
        · have : ((s.take ((s.length : Int) - 2).toNat ++ [v]).length : Int) = (s.length : Int) - 2 + 1 := by rw [List.length_append, hlen]; simp; omega
          rw [this]
          exact hd
      · have hf' : fits v = false := by simpa using hf
        simp only [hf', Bool.false_eq_true, if_false, Option.bind_some]
        exact ⟨_, rfl, rfl⟩
theorem spec_run_j (x : List S46) (k : Nat) (src key val tim : Int) (hr : ∀ i, i < x.length → inr (rd_T46 x (i : Int)).f1) (he1 : inr key) (he2 : inr val) (he3 : inr tim) (hl : x.length ≤ 1048576) (hk : x.length + 200 < k) :
    ∃ r, spec_ExprRun.f k x src key val tim = some r ∧ impl_ExprRun.f k x src key val tim = some r := by
  unfold spec_ExprRun.f impl_ExprRun.f spec_ExprOk.f impl_isExpr.f
  rw [spec_dep x k (by omega) hl, impl_dep x k (by omega) hl]
  simp only [Option.bind_some]
  rcases dep_pos x with h | h
  · rw [h]
    exact ⟨(0, 1), rfl, rfl⟩
  · simp only [decide_eq_true (show dep x ≥ 0 by omega), decide_eq_true (show dep x > 0 by omega), if_true]
    unfold dep at h
    by_cases c : 1 ≤ x.length ∧ x.length ≤ 20
    · rw [if_pos c] at h
      obtain ⟨r, h1, h2⟩ := run_loops x c.2 hr src key val tim he1 he2 he3 x.length k 0 [] 0 (by omega) (by omega) (by simp) (by simp) (by simpa using h)
      refine ⟨r, h1, ?_⟩
      unfold impl_run.f
      rw [show (0 : Int) = ((0 : Nat) : Int) from rfl, h2]
      rfl
    · rw [if_neg c] at h
      omega
theorem FnExactExprRun : Say.FnExactExprRun := by
  intro l src key val tim hl hg _ he1 he2 he3
  refine ⟨(l.length + 300) + 1, ?_⟩
  unfold laws_FnExactExprRun.f
  rw [sz_eq l hl]
  by_cases h : 1048576 < l.length
  · rw [if_pos h]
    rfl
  rw [if_neg h]
  simp only [Option.bind_some]
  rw [if_neg (by omega)]
  have T : ∀ k, l.length < k → laws_toTokS.f k l = some (l.map fun x : S48 => (⟨x.f0, x.f1⟩ : S46)) := fun k hk => toTokS_eq l k hk (by omega)
  have hm : (l.map fun x : S48 => (⟨x.f0, x.f1⟩ : S46)).length = l.length := by simp
  have hr : ∀ i, i < (l.map fun x : S48 => (⟨x.f0, x.f1⟩ : S46)).length → inr (rd_T46 (l.map fun x : S48 => (⟨x.f0, x.f1⟩ : S46)) (i : Int)).f1 := by
    intro i hi
    unfold rd_T46
    rw [getD_nat _ _ i hi, List.getElem_map]
    exact (hg _ (List.getElem_mem _)).2
  generalize (l.map fun x : S48 => (⟨x.f0, x.f1⟩ : S46)) = m at hm T hr
  obtain ⟨r, h1, h2⟩ := spec_run_j m (l.length + 300 + 1) src key val tim hr he1 he2 he3 (by omega) (by omega)
  simp only [T _ (show l.length < l.length + 300 + 1 by omega), Option.bind_some, laws_toElem.f, h1, h2, if_true, bne_self_eq_false]
  simp only [laws_FnExactExprRun.j0, Bool.false_eq_true, if_false, T _ (show l.length < l.length + 300 by omega), Option.bind_some, eqTokS_refl m (l.length + 300) (by omega) (by omega), if_true]

end Go.Proofs.Ytloiamjekoecgaa.Pure
