/- Proved: for every list of tokens the program's ExprText answers as the reference's. No other condition. -/
import Derived.Test.YtloiamjekoecgaaDoorSayFnExactExprText
import Derived.Test.YtloiamjekoecgaaDoorBase
import Derived.Test.YtloiamjekoecgaaDoorEv
import Derived.Test.YtloiamjekoecgaaDoorEw
namespace Go.Proofs.YtloiamjekoecgaaDoor.Pure
open Go.RowKit Go.Proofs.YtloiamjekoecgaaDoor.QFnExactExprText Go.Proofs.YtloiamjekoecgaaDoorW.PrintWords Go.Proofs.YtloiamjekoecgaaDoorW.PrintLast Go.Proofs.YtloiamjekoecgaaDoorW.PrintMore
open Go.Proofs.YtloiamjekoecgaaDoor.Base
set_option linter.unusedSimpArgs false
set_option linter.unusedVariables false

theorem toTokS_step (l : List S57) (ys : List S52) (i k : Nat) (hi : i < l.length) (hl : ys.length = l.length) (hb : l.length ≤ 1048576) :
    laws_toTokS.l0 (k + 1) l ys (i : Int) = laws_toTokS.l0 k l (ys.set i ((fun x : S57 => (⟨x.f0, x.f1⟩ : S52)) l[i])) ((i + 1 : Nat) : Int) := by
  have e : rd_T57 l (i : Int) = l[i] := getD_nat l _ i hi
  simp only [laws_toTokS.l0, laws_toTok.f, Option.bind_some]
  rw [if_pos (by omega), if_pos (by omega), if_pos (by omega), e, w64 (by omega) (by omega)]
  simp
theorem toTokS_eq (l : List S57) (k : Nat) (hk : l.length < k) (hb : l.length ≤ 1048576) : laws_toTokS.f k l = some (l.map (fun x : S57 => (⟨x.f0, x.f1⟩ : S52))) := by
  unfold laws_toTokS.f
  rw [if_pos (by omega), if_pos (by simp; omega)]
  refine up_loop0 (fun k (ys : List S52) i => laws_toTokS.l0 k l ys (i : Int)) l.length (fun i ys => ys.length = l.length ∧ ys.take i = (l.take i).map (fun x : S57 => (⟨x.f0, x.f1⟩ : S52))) (fun r => r = some (l.map (fun x : S57 => (⟨x.f0, x.f1⟩ : S52)))) ?_ ?_ k _ ?_ hk
  · rintro k s i hi ⟨h1, h2⟩
    left
    obtain ⟨h3, h4⟩ := copied_step (fun x : S57 => (⟨x.f0, x.f1⟩ : S52)) l s i hi h1 h2
    exact ⟨_, ⟨h3, h4⟩, toTokS_step l s i k hi h1 hb⟩
  · rintro k s ⟨h1, h2⟩
    simp only [laws_toTokS.l0]
    rw [if_neg (by omega), copied_end _ l s h1 h2]
  · simp

theorem eqTokS_refl (l : List S52) (k : Nat) (hk : l.length < k) (hb : l.length ≤ 4611686018427387904) : laws_eqTokS.f k l l = some true := by
  unfold laws_eqTokS.f
  rw [if_pos rfl]
  refine up_loop0 (fun k (_ : Unit) i => laws_eqTokS.l0 k l l (i : Int)) l.length (fun _ _ => True) (fun r => r = some true) ?_ ?_ k () trivial hk
  · rintro k _ i hi _
    left
    refine ⟨(), trivial, ?_⟩
    simp only [laws_eqTokS.l0, laws_eqTok.f, bne_self_eq_false, Bool.false_eq_true, if_true, if_false, Option.bind_some]
    rw [if_pos (by omega), if_pos (by omega), if_pos (by omega), w64 (by omega) (by omega)]
    simp
  · rintro k _ _
    simp only [laws_eqTokS.l0]
    rw [if_neg (by omega)]

theorem in_le (a l h : Int) : impl_in.f a l h = some (decide (l ≤ a) && decide (a ≤ h)) := by
  unfold impl_in.f
  by_cases c : l ≤ a <;> simp [c]
def tk (op : Int) : Int := if op ≤ 3 then 0 else if op = 11 then 1 else 2
theorem tk_range (op : Int) : 0 ≤ tk op ∧ tk op ≤ 2 := by unfold tk; split <;> (try split) <;> omega
theorem spec_tk (op : Int) : spec_l03Takes.f op = some (tk op) := by unfold spec_l03Takes.f tk; split <;> (try split) <;> rfl
theorem impl_tk (op n : Int) : impl_Tok_takes.f op n = some (tk op) := by unfold impl_Tok_takes.f tk; split <;> (try split) <;> rfl
/-- A token is no operation, or takes more than there is. -/
def bad (x : S52) (n : Int) : Prop := x.f0 < 0 ∨ 11 < x.f0 ∨ (x.f0 ≠ 0 ∧ x.f1 ≠ 0) ∨ n < tk x.f0
instance (x : S52) (n : Int) : Decidable (bad x n) := by unfold bad; infer_instance
def depF : List S52 → Int → Int → Int
  | [], n, m => if n = 1 then m else -1
  | x :: r, n, m => if bad x n then -1 else depF r (n - tk x.f0 + 1) (mx m (n - tk x.f0 + 1))
theorem drop_rd (l : List S52) (i : Nat) (hi : i < l.length) : l.drop i = rd_T52 l (i : Int) :: l.drop (i + 1) := by
  rw [List.drop_eq_getElem_cons hi]
  congr 1
  exact (getD_nat l _ i hi).symm
theorem spec_dep_loop (l : List S52) (hl : l.length ≤ 1048576) : ∀ (d k i : Nat) (n m : Int), i + d = l.length → d < k → 0 ≤ n → n ≤ i → spec_l03Depth.l0 k l n m (i : Int) = some (depF (l.drop i) n m) := by
  intro d
  induction d with
  | zero =>
    intro k i n m hi hk h0 h1
    obtain ⟨k, rfl⟩ : ∃ m, k = m + 1 := ⟨k - 1, by omega⟩
    simp only [spec_l03Depth.l0]
    rw [if_neg (by omega), List.drop_eq_nil_of_le (by omega)]
    unfold depF
    split <;> rfl
  | succ d ih =>
    intro k i n m hi hk h0 h1
    obtain ⟨k, rfl⟩ : ∃ m, k = m + 1 := ⟨k - 1, by omega⟩
    have e1 : wrap64 ((i : Int) + 1) = ((i + 1 : Nat) : Int) := (w64 (by omega) (by omega)).trans (by omega)
    rw [drop_rd l i (by omega)]
    generalize hx : rd_T52 l (i : Int) = x
    have ht := tk_range x.f0
    have e2 : wrap64 (wrap64 (n - tk x.f0) + 1) = n - tk x.f0 + 1 := by rw [w64 (i := n - tk x.f0) (by omega) (by omega)]; exact w64 (by omega) (by omega)
    simp only [spec_l03Depth.l0, hx, spec_tk, Option.bind_some, e1, e2]
    rw [if_pos (by omega), if_pos (by omega)]
    unfold depF
    by_cases c1 : x.f0 < 0
    · rw [if_pos c1, if_pos (show bad x n by unfold bad; omega)]
    rw [if_neg c1]
    by_cases c2 : x.f0 > 11
    · rw [if_pos c2, if_pos (show bad x n by unfold bad; omega)]
    rw [if_neg c2]
    by_cases c3 : x.f0 = 0
    · rw [if_pos c3]
      by_cases c4 : tk x.f0 > n
      · rw [if_pos c4, if_pos (show bad x n by unfold bad; omega)]
      · rw [if_neg c4, if_neg (by unfold bad; omega)]
        exact ih k (i + 1) _ _ (by omega) (by omega) (by omega) (by omega)
    · rw [if_neg c3]
      by_cases c5 : x.f1 = 0
      · rw [if_pos c5]
        by_cases c4 : tk x.f0 > n
        · rw [if_pos c4, if_pos (show bad x n by unfold bad; omega)]
        · rw [if_neg c4, if_neg (by unfold bad; omega)]
          exact ih k (i + 1) _ _ (by omega) (by omega) (by omega) (by omega)
      · rw [if_neg c5, if_pos (show bad x n by unfold bad; omega)]
theorem impl_dep_loop (l : List S52) (hl : l.length ≤ 1048576) : ∀ (d k i : Nat) (n m : Int), i + d = l.length → d < k → 0 ≤ n → n ≤ i → impl_depth.l0 k n m l (l.length : Int) (i : Int) = some (depF (l.drop i) n m) := by
  intro d
  induction d with
  | zero =>
    intro k i n m hi hk h0 h1
    obtain ⟨k, rfl⟩ : ∃ m, k = m + 1 := ⟨k - 1, by omega⟩
    simp only [impl_depth.l0]
    rw [if_neg (by omega), List.drop_eq_nil_of_le (by omega)]
    unfold depF
    split <;> rfl
  | succ d ih =>
    intro k i n m hi hk h0 h1
    obtain ⟨k, rfl⟩ : ∃ m, k = m + 1 := ⟨k - 1, by omega⟩
    have e1 : wrap64 ((i : Int) + 1) = ((i + 1 : Nat) : Int) := (w64 (by omega) (by omega)).trans (by omega)
    rw [drop_rd l i (by omega)]
    generalize hx : rd_T52 l (i : Int) = x
    have ht := tk_range x.f0
    have e2 : wrap64 (n + wrap64 (1 - tk x.f0)) = n - tk x.f0 + 1 := by rw [w64 (i := 1 - tk x.f0) (by omega) (by omega)]; exact (w64 (by omega) (by omega)).trans (by omega)
    simp only [impl_depth.l0, hx, impl_tk, in_le, Option.bind_some, e1, e2]
    rw [if_pos (by omega), if_pos (by omega), if_pos (by omega)]
    unfold depF
    by_cases c1 : 0 ≤ x.f0
    rotate_left
    · rw [decide_eq_false c1, if_pos (show bad x n by unfold bad; omega)]
      rfl
    by_cases c2 : x.f0 ≤ 11
    rotate_left
    · rw [decide_eq_true c1, decide_eq_false c2, if_pos (show bad x n by unfold bad; omega)]
      rfl
    rw [decide_eq_true c1, decide_eq_true c2]
    simp only [Bool.and_self, if_true]
    by_cases c3 : x.f0 = 0
    · rw [if_pos c3]
      by_cases c4 : n < tk x.f0
      · rw [if_pos c4, if_pos (show bad x n by unfold bad; omega)]
      · rw [if_neg c4, if_neg (by unfold bad; omega)]
        exact ih k (i + 1) _ _ (by omega) (by omega) (by omega) (by omega)
    · rw [if_neg c3]
      by_cases c5 : x.f1 = 0
      · rw [if_pos c5]
        by_cases c4 : n < tk x.f0
        · rw [if_pos c4, if_pos (show bad x n by unfold bad; omega)]
        · rw [if_neg c4, if_neg (by unfold bad; omega)]
          exact ih k (i + 1) _ _ (by omega) (by omega) (by omega) (by omega)
      · rw [if_neg c5, if_pos (show bad x n by unfold bad; omega)]
def dep (l : List S52) : Int := if 1 ≤ l.length ∧ l.length ≤ 20 then depF l 0 0 else -1
theorem spec_dep (l : List S52) (k : Nat) (hk : l.length + 1 < k) (hl : l.length ≤ 1048576) : spec_l03Depth.f k l = some (dep l) := by
  obtain ⟨k, rfl⟩ : ∃ m, k = m + 1 := ⟨k - 1, by omega⟩
  unfold spec_l03Depth.f dep
  simp only [spec_l03Depth.j0]
  by_cases c1 : (l.length : Int) < 1
  · rw [if_pos c1, if_pos trivial, if_neg (by omega)]
  · rw [if_neg c1]
    by_cases c2 : (l.length : Int) > 20
    · rw [decide_eq_true c2, if_pos rfl, if_neg (by omega)]
    · rw [decide_eq_false c2, if_neg (by simp), if_pos (by omega)]
      exact spec_dep_loop l hl l.length k 0 0 0 (by omega) (by omega) (by omega) (by omega)
theorem impl_dep (l : List S52) (k : Nat) (hk : l.length < k) (hl : l.length ≤ 1048576) : impl_depth.f k l = some (dep l) := by
  unfold impl_depth.f dep
  rw [in_le]
  simp only [Option.bind_some]
  by_cases c1 : 1 ≤ l.length ∧ l.length ≤ 20
  · rw [if_pos c1, decide_eq_true (show (1 : Int) ≤ (l.length : Int) by omega), decide_eq_true (show (l.length : Int) ≤ 20 by omega)]
    simp only [Bool.and_self, if_true]
    exact impl_dep_loop l hl l.length k 0 0 0 (by omega) (by omega) (by omega) (by omega)
  · have c2 : (decide ((1 : Int) ≤ (l.length : Int)) && decide ((l.length : Int) ≤ 20)) = false := by
      rw [← Bool.not_eq_true, Bool.and_eq_true, decide_eq_true_eq, decide_eq_true_eq]
      omega
    rw [if_neg c1, c2]
    rfl
theorem sz_eq (l : List S57) (hl : l.length ≤ 9223372036854775807) : laws_szTokS.f l 1048576 = if 1048576 < l.length then some (-1) else some (1048576 - (l.length : Int)) := by
  unfold laws_szTokS.f
  rw [w64 (by omega) (by omega)]
  by_cases h : 1048576 < l.length
  · rw [if_pos (by omega), if_pos h]
  · rw [if_neg (by omega), if_neg h]
theorem mx_ge (a b : Int) : a ≤ mx a b ∧ b ≤ mx a b := by unfold mx; split <;> omega
theorem depF_pos : ∀ (l : List S52) (n m : Int), n ≤ m → depF l n m = -1 ∨ 1 ≤ depF l n m
  | [], n, m, h => by unfold depF; split <;> omega
  | x :: r, n, m, h => by
    unfold depF
    split
    · exact Or.inl rfl
    · exact depF_pos r _ _ (mx_ge _ _).2
theorem dep_pos (l : List S52) : dep l = -1 ∨ 1 ≤ dep l := by
  unfold dep
  split
  · exact depF_pos l 0 0 (by omega)
  · exact Or.inl rfl

open Go.Proofs.YtloiamjekoecgaaDoor.Evt
/-- The halves of a whole number, as a wide one has them. -/
def wh (A : Int) : Int := wrap64 (A / 18446744073709551616)
def wl (A : Int) : Int := A % 18446744073709551616
theorem carry (a b c : Int) (h : c = a + b) : (c % 18446744073709551616 = a % 18446744073709551616 + b % 18446744073709551616 ∧ c / 18446744073709551616 = a / 18446744073709551616 + b / 18446744073709551616) ∨ (c % 18446744073709551616 + 18446744073709551616 = a % 18446744073709551616 + b % 18446744073709551616 ∧ c / 18446744073709551616 = a / 18446744073709551616 + b / 18446744073709551616 + 1) := by omega
theorem hi0 (x y : Int) : wrap64 (IntKind.u64.wrap ((IntKind.u64.wrap (wrap64 x)) + (IntKind.u64.wrap (wrap64 y)))) = wrap64 (x + y) := by
  simp only [wu64]
  unfold wrap64
  omega
theorem hi1 (x y : Int) : wrap64 (IntKind.u64.wrap ((IntKind.u64.wrap ((IntKind.u64.wrap (wrap64 x)) + (IntKind.u64.wrap (wrap64 y)))) + 1)) = wrap64 (x + y + 1) := by
  simp only [wu64]
  unfold wrap64
  omega
theorem spec_add_wide (A B : Int) : spec_WideAdd.f (wh A) (wl A) (wh B) (wl B) = some (wh (A + B), wl (A + B)) := by
  unfold spec_WideAdd.f wh wl
  rw [hi0, hi1]
  rcases carry A B (A + B) rfl with ⟨h1, h2⟩ | ⟨h1, h2⟩
  · have e : IntKind.u64.wrap (A % 18446744073709551616 + B % 18446744073709551616) = (A + B) % 18446744073709551616 := by rw [wu64]; omega
    rw [e, if_neg (by omega), h2]
  · have e : IntKind.u64.wrap (A % 18446744073709551616 + B % 18446744073709551616) = (A + B) % 18446744073709551616 := by rw [wu64]; omega
    rw [e, if_pos (by omega), h2]
theorem wh0 : wh 0 = 0 := by decide +kernel
theorem wl1 : wl 1 = 1 := by decide +kernel
theorem wl0 : wl 0 = 0 := by decide +kernel
theorem wh1 : wh 1 = 0 := by decide +kernel
theorem spec_neg_wide (A : Int) : spec_WideNeg.f (wh A) (wl A) = some (wh (-A), wl (-A)) := by
  unfold spec_WideNeg.f
  have e1 : wrap64 ((-1) - wh A) = wh (-A - 1) := by unfold wh wrap64; omega
  have e2 : IntKind.u64.wrap (18446744073709551615 - wl A) = wl (-A - 1) := by rw [wu64]; unfold wl; omega
  have h := spec_add_wide (-A - 1) 1
  rw [wh1, wl1] at h
  rw [e1, e2, h]
  simp only [Option.bind_some]
  rw [show -A - 1 + 1 = -A by omega]
theorem dd (x y z : Int) (hy : 0 ≤ y) : x / y / z = x / (y * z) := by rw [Int.ediv_ediv, if_neg (by omega), Int.sub_zero]
theorem dsucc (V : Int) (p : Nat) : V / 2 ^ (p + 1) = V / 2 ^ p / 2 := by
  rw [dd _ _ _ (Int.le_of_lt (Int.pow_pos (by decide))), Int.pow_succ]
/-- A binary digit. -/
def dig (V : Int) (j : Nat) : Int := V / 2 ^ j % 2
theorem dig_range (V : Int) (j : Nat) : dig V j = 0 ∨ dig V j = 1 := by unfold dig; omega
theorem dig_low (H L : Int) (j : Nat) (hj : j < 64) : dig (H * 18446744073709551616 + L) j = dig L j := by
  unfold dig
  have e : (18446744073709551616 : Int) = 2 ^ (63 - j) * 2 * 2 ^ j := by
    rw [← Int.pow_succ, ← Int.pow_add, show 63 - j + 1 + j = 64 by omega]; rfl
  have hp : (2 : Int) ^ j ≠ 0 := by have : (0 : Int) < 2 ^ j := Int.pow_pos (by decide); omega
  have e2 : (H * 18446744073709551616 + L) / 2 ^ j = L / 2 ^ j + 2 * (H * 2 ^ (63 - j)) := by
    rw [show H * 18446744073709551616 + L = L + (2 * (H * 2 ^ (63 - j))) * 2 ^ j by
      rw [e, Int.add_comm, show 2 * (H * 2 ^ (63 - j)) * 2 ^ j = H * (2 ^ (63 - j) * 2 * 2 ^ j) by
        simp only [Int.mul_comm, Int.mul_left_comm]]]
    exact Int.add_mul_ediv_right _ _ hp
  rw [e2]
  omega
theorem dig_high (V : Int) (j : Nat) : dig V (64 + j) = dig (V / 18446744073709551616) j := by
  unfold dig
  rw [show (18446744073709551616 : Int) = 2 ^ 64 from rfl, dd _ _ _ (by decide), ← Int.pow_add]
/-- The digits of a number, the least first. -/
def digs (V : Int) (n : Nat) : List Int := (List.range n).map (dig V)
theorem digs_len (V : Int) (n : Nat) : (digs V n).length = n := by simp [digs]
theorem digs_succ (V : Int) (n : Nat) : digs V (n + 1) = digs V n ++ [dig V n] := by simp [digs, List.range_succ]
theorem rd_digs (V : Int) (n i : Nat) (h : i < n) : rd (digs V n) (i : Int) = dig V i := by
  rw [rd_nat _ i (by rw [digs_len]; exact h)]
  simp [digs]
theorem half (x : Int) (h : 0 ≤ x) (hb : x < 18446744073709551616) : wrap64 (Int.tmod x 2) = x % 2 ∧ IntKind.u64.wrap (Int.tdiv x 2) = x / 2 := by
  rw [Int.tmod_eq_emod_of_nonneg h, Int.tdiv_eq_ediv_of_nonneg h, w64 (by omega) (by omega), wu64]
  omega
theorem bits_ev (V : Int) (h0 : 0 ≤ V) (hV : V < 340282366920938463463374607431768211456) : Evt (fun k => spec_l02Bits.f k (wh V) (wl V)) (digs V 128) := by
  have hd : V = V / 18446744073709551616 * 18446744073709551616 + wl V := by unfold wl; omega
  have hw : IntKind.u64.wrap (wh V) = V / 18446744073709551616 := by rw [wu64]; unfold wh wrap64; omega
  have hH0 : 0 ≤ V / 18446744073709551616 := by omega
  have hH1 : V / 18446744073709551616 < 18446744073709551616 := by omega
  have hL0 : 0 ≤ wl V := by unfold wl; omega
  have hL1 : wl V < 18446744073709551616 := by unfold wl; omega
  have pd : ∀ (x : Int) (i : Nat), 0 ≤ x → x < 18446744073709551616 → 0 ≤ x / 2 ^ i ∧ x / 2 ^ i < 18446744073709551616 := by
    intro x i a b
    have hp : (0 : Int) < 2 ^ i := Int.pow_pos (by decide)
    exact ⟨Int.ediv_nonneg a (Int.le_of_lt hp), Int.lt_of_le_of_lt (Int.ediv_le_self _ a) b⟩
  have high : ∀ (m i : Nat), i + m = 64 → Evt (fun k => spec_l02Bits.l1 k (digs V (64 + i)) (V / 18446744073709551616 / 2 ^ i) (i : Int)) (digs V 128) := by
    intro m
    induction m with
    | zero =>
      intro i hi
      obtain rfl : i = 64 := by omega
      exact Evt.done fun k => by simp only [spec_l02Bits.l1]; rw [if_neg (by decide)]
    | succ m ih =>
      intro i hi
      refine Evt.step (ih (i + 1) (by omega)) fun k => ?_
      have hx := pd _ i hH0 hH1
      have hh := half _ hx.1 hx.2
      simp only [spec_l02Bits.l1]
      rw [if_pos (by omega), if_pos (by rw [digs_len]; omega), hh.1, hh.2, w64 (by omega) (by omega), ← dsucc]
      rw [show 64 + (i + 1) = 64 + i + 1 by omega, digs_succ, dig_high]
      rfl
  have low : ∀ (m i : Nat), i + m = 64 → Evt (fun k => spec_l02Bits.l0 k (digs V i) (wl V / 2 ^ i) (i : Int) (wh V) (wl V)) (digs V 128) := by
    intro m
    induction m with
    | zero =>
      intro i hi
      obtain rfl : i = 64 := by omega
      refine Evt.step (high 64 0 rfl) fun k => ?_
      simp only [spec_l02Bits.l0]
      rw [if_neg (by decide), hw, Int.pow_zero, Int.ediv_one]
      rfl
    | succ m ih =>
      intro i hi
      refine Evt.step (ih (i + 1) (by omega)) fun k => ?_
      have hx := pd _ i hL0 hL1
      have hh := half _ hx.1 hx.2
      simp only [spec_l02Bits.l0]
      rw [if_pos (by omega), if_pos (by rw [digs_len]; omega), hh.1, hh.2, w64 (by omega) (by omega), ← dsucc]
      have e : dig V i = wl V / 2 ^ i % 2 := by
        conv => lhs; rw [hd]
        exact dig_low _ _ i (by omega)
      rw [digs_succ, e]
      rfl
  have s := low 64 0 rfl
  rw [Int.pow_zero, Int.ediv_one] at s
  exact s
theorem rd_set (l : List Int) (p j : Nat) (v : Int) (hp : p < l.length) : rd (l.set p v) (j : Int) = if j = p then v else rd l (j : Int) := by
  unfold rd
  simp only [Int.toNat_natCast, List.getD_eq_getElem?_getD, List.getElem?_set]
  by_cases c : p = j
  · subst c; simp [hp]
  · rw [if_neg c, if_neg (fun e => c e.symm)]
/-- One step of a long division by hand. -/
theorem div_step (X n b : Int) (hn : 0 < n) (hX : 0 ≤ X) (hb : b = X % 2) : (2 * (X / 2 % n) + b ≥ n → X % n = 2 * (X / 2 % n) + b - n ∧ X / n % 2 = 1) ∧ (¬ 2 * (X / 2 % n) + b ≥ n → X % n = 2 * (X / 2 % n) + b ∧ X / n % 2 = 0) := by
  have h1 := Int.emod_nonneg (X / 2) (show n ≠ 0 by omega)
  have h2 := Int.emod_lt_of_pos (X / 2) hn
  have h3 := Int.mul_ediv_add_emod (X / 2) n
  generalize X / 2 % n = r at *
  generalize hq : X / 2 / n = q at *
  have e2 : n * (2 * q) = 2 * (n * q) := Int.mul_left_comm n 2 q
  have e3 : n * (2 * q + 1) = 2 * (n * q) + n := by rw [Int.mul_add, e2, Int.mul_one]
  generalize n * q = y at *
  constructor
  · intro c
    have := (Int.ediv_emod_unique (a := X) (q := 2 * q + 1) (r := 2 * r + b - n) hn).mpr ⟨by rw [e3]; omega, by omega, by omega⟩
    exact ⟨this.2, by rw [this.1]; omega⟩
  · intro c
    have := (Int.ediv_emod_unique (a := X) (q := 2 * q) (r := 2 * r + b) hn).mpr ⟨by rw [e2]; omega, by omega, by omega⟩
    exact ⟨this.2, by rw [this.1]; omega⟩
theorem rd_repl (n j : Nat) (h : j < n) : rd (List.replicate n 0) (j : Int) = 0 := by
  rw [rd_nat _ j (by simpa using h)]
  simp
theorem e128 : (2 : Int) ^ 128 = 340282366920938463463374607431768211456 := by decide +kernel
theorem divide_ev (V n : Int) (h0 : 0 ≤ V) (hV : V < 340282366920938463463374607431768211456) (hn : 1 ≤ n) (hn2 : n ≤ 1000000) :
    ∃ out : List Int, out.length = 128 ∧ (∀ j : Nat, j < 128 → rd out (j : Int) = dig (V / n) j) ∧ Evt (fun k => spec_l02Divide.f k (digs V 128) n) (out, V % n) := by
  have hdig : ∀ p : Nat, dig (V / n) p = V / 2 ^ p / n % 2 := by
    intro p
    unfold dig
    rw [dd _ _ _ (by omega), dd _ _ _ (Int.le_of_lt (Int.pow_pos (by decide))), Int.mul_comm]
  have go : ∀ (p : Nat) (out : List Int), p ≤ 128 → out.length = 128 → (∀ j : Nat, j < 128 → rd out (j : Int) = if p ≤ j then dig (V / n) j else 0) →
      ∃ o : List Int, o.length = 128 ∧ (∀ j : Nat, j < 128 → rd o (j : Int) = dig (V / n) j) ∧ Evt (fun k => spec_l02Divide.l0 k (digs V 128) n out (V / 2 ^ p % n) ((p : Int) - 1)) (o, V % n) := by
    intro p
    induction p with
    | zero =>
      intro out _ hl ho
      refine ⟨out, hl, fun j hj => by rw [ho j hj, if_pos (by omega)], Evt.done fun k => ?_⟩
      simp only [spec_l02Divide.l0]
      rw [if_neg (by omega), Int.pow_zero, Int.ediv_one]
    | succ p ih =>
      intro out hp hl ho
      have hX : 0 ≤ V / 2 ^ p := Int.ediv_nonneg h0 (Int.le_of_lt (Int.pow_pos (by decide)))
      obtain ⟨s1, s2⟩ := div_step (V / 2 ^ p) n (dig V p) (by omega) hX rfl
      have r1 := Int.emod_nonneg (V / 2 ^ (p + 1)) (show n ≠ 0 by omega)
      have r2 := Int.emod_lt_of_pos (V / 2 ^ (p + 1)) (show 0 < n by omega)
      have hd := dig_range V p
      rw [← dsucc] at s1 s2
      have e1 : ∀ k, spec_l02Divide.l0 (k + 1) (digs V 128) n out (V / 2 ^ (p + 1) % n) (((p + 1 : Nat) : Int) - 1) = if 2 * (V / 2 ^ (p + 1) % n) + dig V p ≥ n then spec_l02Divide.l0 k (digs V 128) n (out.set p 1) (2 * (V / 2 ^ (p + 1) % n) + dig V p - n) ((p : Int) - 1) else spec_l02Divide.l0 k (digs V 128) n out (2 * (V / 2 ^ (p + 1) % n) + dig V p) ((p : Int) - 1) := by
        intro k
        have ep : ((p + 1 : Nat) : Int) - 1 = (p : Int) := by omega
        rw [ep]
        simp only [spec_l02Divide.l0]
        rw [if_pos (by omega), if_pos (by omega), digs_len, if_pos (show (p : Int) < ((128 : Nat) : Int) by omega), rd_digs V 128 p (by omega), hl, if_pos (show (p : Int) < ((128 : Nat) : Int) by omega)]
        have e2 : wrap64 (2 * (V / 2 ^ (p + 1) % n)) = 2 * (V / 2 ^ (p + 1) % n) := w64 (by omega) (by omega)
        rw [e2]
        have e3 : wrap64 (2 * (V / 2 ^ (p + 1) % n) + dig V p) = 2 * (V / 2 ^ (p + 1) % n) + dig V p := w64 (by omega) (by omega)
        rw [e3]
        have e4 : wrap64 (2 * (V / 2 ^ (p + 1) % n) + dig V p - n) = 2 * (V / 2 ^ (p + 1) % n) + dig V p - n := w64 (by omega) (by omega)
        rw [e4, w64 (by omega) (by omega)]
        rfl
      by_cases c : 2 * (V / 2 ^ (p + 1) % n) + dig V p ≥ n
      · obtain ⟨a1, a2⟩ := s1 c
        obtain ⟨o, b1, b2, b3⟩ := ih (out.set p 1) (by omega) (by rw [List.length_set]; exact hl) (by
          intro j hj
          rw [rd_set out p j 1 (by omega)]
          by_cases d : j = p
          · subst d
            rw [if_pos rfl, if_pos (by omega), hdig, a2]
          · rw [if_neg d, ho j hj]
            by_cases f : p ≤ j
            · rw [if_pos f, if_pos (by omega)]
            · rw [if_neg f, if_neg (by omega)])
        exact ⟨o, b1, b2, Evt.step b3 fun k => by rw [e1, if_pos c, a1]⟩
      · obtain ⟨a1, a2⟩ := s2 c
        obtain ⟨o, b1, b2, b3⟩ := ih out (by omega) hl (by
          intro j hj
          rw [ho j hj]
          by_cases f : p + 1 ≤ j
          · rw [if_pos f, if_pos (by omega)]
          · rw [if_neg f]
            by_cases d : j = p
            · subst d
              rw [if_pos (by omega), hdig, a2]
            · rw [if_neg (by omega)])
        exact ⟨o, b1, b2, Evt.step b3 fun k => by rw [e1, if_neg c, a1]⟩
  obtain ⟨o, b1, b2, b3⟩ := go 128 (List.replicate 128 0) (by omega) (by simp) (by
    intro j hj
    rw [if_neg (by omega)]
    exact rd_repl 128 j hj)
  refine ⟨o, b1, b2, ?_⟩
  refine b3.congr fun k => ?_
  unfold spec_l02Divide.f
  rw [if_pos (by decide)]
  have : V / 2 ^ 128 % n = 0 := by
    rw [e128, Int.ediv_eq_zero_of_lt h0 hV, Int.zero_emod]
  rw [this]
  rfl
theorem spec_of_wide (n : Int) (h : -9223372036854775808 ≤ n ∧ n ≤ 9223372036854775807) : spec_WideOf.f n = some (wh n, wl n) := by
  unfold spec_WideOf.f
  rw [wu64]
  have e : n % 18446744073709551616 = wl n := rfl
  by_cases c : n < 0
  · rw [if_pos c, e]
    have : wh n = -1 := by unfold wh wrap64; omega
    rw [this]
  · rw [if_neg c, e]
    have : wh n = 0 := by unfold wh wrap64; omega
    rw [this]
/-! The numeral -/
abbrev dd10 := Lib.decDigits
def ints (l : List UInt8) : List Int := l.map fun b => (b.toNat : Int)
def ba (l : List UInt8) : ByteArray := ⟨l.toArray⟩
theorem str_ints (l : List UInt8) : strOfNums (ints l) = ba l := by
  unfold strOfNums ints ba
  rw [List.map_map]
  congr 2
  conv => rhs; rw [← List.map_id l]
  refine List.map_congr_left fun b _ => ?_
  simp
theorem ba_app (a b : List UInt8) : ba a ++ ba b = ba (a ++ b) := by
  refine ByteArray.ext ?_
  simp [ba, ByteArray.data_append]
theorem ba_size (l : List UInt8) : (ba l).size = l.length := by simp [ba, ByteArray.size]
theorem dec_big (u : Nat) (h : ¬ u < 10) : dd10 u = dd10 (u / 10) ++ [UInt8.ofNat (48 + u % 10)] := by
  show Lib.decDigits u = _
  rw [Lib.decDigits, dif_neg h]
theorem dec_one (u : Nat) (h : u < 10) : dd10 u = [UInt8.ofNat (48 + u)] := by
  show Lib.decDigits u = _
  rw [Lib.decDigits, dif_pos h]
theorem byte_dig (r : Int) (h0 : 0 ≤ r) (h1 : r < 10) : [(wrap64 (48 + r)) % 256] = ints [UInt8.ofNat (48 + r.toNat)] := by
  have e : (UInt8.ofNat (48 + r.toNat)).toNat = 48 + r.toNat := by simp only [UInt8.toNat_ofNat']; omega
  simp only [ints, List.map_cons, List.map_nil, e]
  rw [w64 (by omega) (by omega)]
  congr 1
  omega
/-- Digits with zeros ahead. -/
def padded : Nat → Nat → List UInt8
  | 0, _ => []
  | m + 1, p => padded m (p / 10) ++ [UInt8.ofNat (48 + p % 10)]
theorem padded_len : ∀ m p, (padded m p).length = m
  | 0, _ => rfl
  | m + 1, p => by simp [padded, padded_len m]
theorem padded_zero : ∀ m, padded m 0 = List.replicate m 48
  | 0 => rfl
  | m + 1 => by
    rw [List.replicate_succ', padded, Nat.zero_div, padded_zero m]
    rfl
theorem dec_split : ∀ (m u p : Nat), 1 ≤ u → p < 10 ^ m → dd10 (u * 10 ^ m + p) = dd10 u ++ padded m p
  | 0, u, p, hu, hp => by
    have : p = 0 := by simpa using hp
    subst this
    simp [padded]
  | m + 1, u, p, hu, hp => by
    have hp' : p / 10 < 10 ^ m := by
      rw [Nat.pow_succ] at hp
      omega
    have e1 : u * 10 ^ (m + 1) + p = (u * 10 ^ m + p / 10) * 10 + p % 10 := by
      rw [Nat.pow_succ, Nat.add_mul, Nat.mul_assoc]
      omega
    have h1 : 1 ≤ u * 10 ^ m := Nat.mul_pos hu (Nat.pow_pos (by decide))
    have q1 : (u * 10 ^ (m + 1) + p) / 10 = u * 10 ^ m + p / 10 := by rw [e1]; omega
    have q2 : (u * 10 ^ (m + 1) + p) % 10 = p % 10 := by rw [e1]; omega
    rw [dec_big _ (by rw [e1]; omega), q1, q2, dec_split m u (p / 10) hu hp', padded, List.append_assoc]
theorem dec_pad : ∀ (m p : Nat), p < 10 ^ (m + 1) → ∃ n, n + (dd10 p).length = m + 1 ∧ List.replicate n 48 ++ dd10 p = padded (m + 1) p
  | 0, p, hp => by
    have hp : p < 10 := by simpa using hp
    refine ⟨0, by rw [dec_one p hp]; rfl, ?_⟩
    rw [dec_one p hp, padded, padded, Nat.mod_eq_of_lt hp]
    rfl
  | m + 1, p, hp => by
    by_cases c : p < 10
    · refine ⟨m + 1, by rw [dec_one p c]; rfl, ?_⟩
      rw [dec_one p c, padded, Nat.div_eq_of_lt c, padded_zero, Nat.mod_eq_of_lt c]
    · have hp' : p / 10 < 10 ^ (m + 1) := by
        rw [Nat.pow_succ] at hp
        omega
      obtain ⟨n, h1, h2⟩ := dec_pad m (p / 10) hp'
      refine ⟨n, by rw [dec_big p c, List.length_append]; simp only [List.length_cons, List.length_nil]; omega, ?_⟩
      rw [dec_big p c, ← List.append_assoc, h2]
      rfl

/-! The reference's loop -/
theorem digs_of (Q : Int) (out : List Int) (hl : out.length = 128) (h : ∀ j : Nat, j < 128 → rd out (j : Int) = dig Q j) : out = digs Q 128 := by
  refine List.ext_getElem (by rw [hl, digs_len]) fun i h1 h2 => ?_
  rw [← rd_nat out i h1, h i (by omega), ← rd_nat (digs Q 128) i h2, rd_digs Q 128 i (by omega)]
theorem no_bits (Q : Int) (h0 : 0 ≤ Q) (hQ : Q < 340282366920938463463374607431768211456) (h : ∀ i : Nat, i < 128 → dig Q i ≠ 1) : Q = 0 := by
  have key : ∀ n : Nat, n ≤ 128 → Q / 2 ^ (128 - n) = 0 := by
    intro n
    induction n with
    | zero =>
      intro _
      rw [show 128 - 0 = 128 from rfl, e128]
      omega
    | succ n ih =>
      intro hn
      have i1 := ih (by omega)
      have d := h (128 - (n + 1)) (by omega)
      have s := dsucc Q (128 - (n + 1))
      rw [show 128 - (n + 1) + 1 = 128 - n by omega, i1] at s
      have dr := dig_range Q (128 - (n + 1))
      unfold dig at d dr
      generalize Q / 2 ^ (128 - (n + 1)) = z at *
      omega
  simpa using key 128 (Nat.le_refl _)
theorem dig0 (j : Nat) : dig 0 j = 0 := by unfold dig; simp
def anyB (Q : Int) : Nat → Nat → Bool
  | 0, _ => false
  | n + 1, j => (dig Q j == 1) || anyB Q n (j + 1)
theorem anyB_zero : ∀ n j, anyB 0 n j = false
  | 0, _ => rfl
  | n + 1, j => by rw [anyB, dig0, anyB_zero n (j + 1)]; rfl
theorem anyB_none (Q : Int) : ∀ (n j : Nat), anyB Q n j = false → ∀ i, j ≤ i → i < j + n → dig Q i ≠ 1
  | 0, j, _, i, h1, h2 => by omega
  | n + 1, j, h, i, h1, h2 => by
    rw [anyB, Bool.or_eq_false_iff] at h
    rcases Nat.eq_or_lt_of_le h1 with h3 | h3
    · subst h3
      exact beq_eq_false_iff_ne.mp h.1
    · exact anyB_none Q n (j + 1) h.2 i h3 (by omega)
theorem l1_flag {Q : Int} {out : List Int} {a b : Int} {r : ByteArray} : ∀ (n j : Nat) (f : Bool), j + n = 128 →
    Evt (fun k => spec_WideText.l0 k (digs Q 128) out (f || anyB Q n j) a b) r → Evt (fun k => spec_WideText.l1 k (digs Q 128) out f (j : Int) a b) r
  | 0, j, f, hj, h => by
    rw [anyB, Bool.or_false] at h
    refine Evt.step h fun k => ?_
    simp only [spec_WideText.l1]
    rw [if_neg (by omega)]
  | n + 1, j, f, hj, h => by
    have ew : wrap64 ((j : Int) + 1) = ((j + 1 : Nat) : Int) := by rw [w64 (by omega) (by omega)]; omega
    cases f with
    | true =>
      rw [Bool.true_or] at h
      have ih := l1_flag (Q := Q) (out := out) (a := a) (b := b) (r := r) n (j + 1) true (by omega) (by rw [Bool.true_or]; exact h)
      refine Evt.step ih fun k => ?_
      simp only [spec_WideText.l1]
      rw [if_pos (by omega), if_pos trivial, ew]
    | false =>
      rw [Bool.false_or, anyB, ← rd_digs Q 128 j (by omega)] at h
      have ih := l1_flag (Q := Q) (out := out) (a := a) (b := b) (r := r) n (j + 1) ((rd (digs Q 128) (j : Int)) == 1) (by omega) h
      refine Evt.step ih fun k => ?_
      simp only [spec_WideText.l1, Bool.false_eq_true, if_false]
      rw [if_pos (by omega), if_pos (by omega), if_pos (by rw [digs_len]; omega), ew]
def sign (a : Int) (l : List UInt8) : List UInt8 := if a < 0 then 45 :: l else l
theorem spec_loop (a b : Int) : ∀ (m : Nat) (V : Int) (out : List UInt8), 0 ≤ V → V < 340282366920938463463374607431768211456 → V < 10 ^ (m + 1) → out.length + m ≤ 1000 →
    Evt (fun k => spec_WideText.l0 k (digs V 128) (ints out) true a b) (ba (sign a (dd10 V.toNat ++ out)))
  | m, V, out, h0, hV, hm, hl => by
    obtain ⟨o, ho1, ho2, ho3⟩ := divide_ev V 10 h0 hV (by decide) (by decide)
    rw [digs_of (V / 10) o ho1 ho2] at ho3
    have q0 : 0 ≤ V / 10 := by omega
    have hy := byte_dig (V % 10) (by omega) (by omega)
    have hil : ∀ l, (ints l).length = l.length := fun l => by simp [ints]
    have happ : ints [UInt8.ofNat (48 + (V % 10).toNat)] ++ ints out = ints (UInt8.ofNat (48 + (V % 10).toNat) :: out) := by simp [ints]
    refine Evt.step (g := fun k => (spec_l02Divide.f k (digs V 128) 10).bind fun bt141 => ((some (([(wrap64 (48 + bt141.2)) % 256] : List Int) : List Int)).bind fun y145 => (if y145.length + (ints out).length < 140737488355328 then (spec_WideText.l1 k bt141.1 (y145 ++ ints out) false 0 a b) else (none)))) ?_ fun k => by
      simp only [spec_WideText.l0, if_true]
    refine Evt.bind ho3 ?_
    refine Evt.congr (g := fun k => spec_WideText.l1 k (digs (V / 10) 128) (ints (UInt8.ofNat (48 + (V % 10).toNat) :: out)) false ((0 : Nat) : Int) a b) ?_ fun k => by
      simp only [Option.bind_some]
      rw [hy, if_pos (by rw [hil, hil]; simp only [List.length_cons, List.length_nil]; omega), happ]
      rfl
    refine l1_flag 128 0 false rfl ?_
    by_cases c : V / 10 = 0
    · have e : anyB (V / 10) 128 0 = false := by rw [c]; exact anyB_zero _ _
      rw [e, Bool.or_false]
      have hd : dd10 V.toNat ++ out = UInt8.ofNat (48 + (V % 10).toNat) :: out := by
        rw [dec_one _ (by omega), show (V % 10).toNat = V.toNat by omega]
        rfl
      rw [hd]
      refine Evt.done fun k => ?_
      simp only [spec_WideText.l0, Bool.false_eq_true, if_false]
      unfold sign
      by_cases ca : a < 0
      · rw [if_pos ca, if_pos ca]
        simp only [Option.bind_some]
        rw [if_pos (by rw [hil]; simp only [List.length_cons, List.length_nil]; omega)]
        rw [← str_ints]
        congr 1
      · rw [if_neg ca, if_neg ca, str_ints]
    · have e : anyB (V / 10) 128 0 = true := by
        cases d : anyB (V / 10) 128 0 with
        | true => rfl
        | false => exact absurd (no_bits (V / 10) q0 (by omega) fun i hi => anyB_none _ _ _ d i (Nat.zero_le _) (by omega)) c
      rw [e, Bool.or_true]
      obtain ⟨m', rfl⟩ : ∃ m', m = m' + 1 := by
        cases m with
        | zero => exfalso; have : V < 10 := by simpa using hm
                  omega
        | succ m' => exact ⟨m', rfl⟩
      have hlt : V / 10 < 10 ^ (m' + 1) := by
        rw [Int.pow_succ] at hm
        generalize (10 : Int) ^ (m' + 1) = P at *
        omega
      have ih := spec_loop a b m' (V / 10) (UInt8.ofNat (48 + (V % 10).toNat) :: out) q0 (by omega) hlt (by simp only [List.length_cons]; omega)
      have hd : dd10 V.toNat ++ out = dd10 (V / 10).toNat ++ (UInt8.ofNat (48 + (V % 10).toNat) :: out) := by
        rw [dec_big V.toNat (by omega), List.append_assoc, show (V / 10).toNat = V.toNat / 10 by omega, show (V % 10).toNat = V.toNat % 10 by omega]
        rfl
      rw [hd]
      exact ih
  termination_by m => m
def mag (A : Int) : Int := if 0 ≤ A then A else -A
theorem wh_neg (A : Int) (hA : -170141183460469231731687303715884105728 ≤ A ∧ A < 170141183460469231731687303715884105728) : wh A < 0 ↔ A < 0 := by unfold wh wrap64; omega
theorem e39 : (340282366920938463463374607431768211456 : Int) < 10 ^ (38 + 1) := by decide +kernel
theorem spec_text (A : Int) (hA : -170141183460469231731687303715884105728 ≤ A ∧ A < 170141183460469231731687303715884105728) :
    Evt (fun k => spec_WideText.f k (wh A) (wl A)) (ba (sign (wh A) (dd10 (mag A).toNat))) := by
  have hlast := spec_loop (wh A) (wl A) 38 (mag A) [] (by unfold mag; split <;> omega) (by unfold mag; split <;> omega) (by have := e39; unfold mag; split <;> omega) (by decide)
  rw [List.append_nil] at hlast
  have hj : Evt (fun k => spec_WideText.j0 k (digs (mag A) 128) (wh A) (wl A)) (ba (sign (wh A) (dd10 (mag A).toNat))) := Evt.step hlast fun k => by simp only [spec_WideText.j0]; rfl
  by_cases c : A < 0
  · have hm : mag A = -A := by unfold mag; rw [if_neg (by omega)]
    have hb := bits_ev (-A) (by omega) (by omega)
    -- the number's own bits are looked at first
    obtain ⟨own, hown⟩ : ∃ own, Evt (fun k => spec_l02Bits.f k (wh A) (wl A)) own := by
      have := bits_ev (A + 340282366920938463463374607431768211456) (by omega) (by omega)
      rw [show wh (A + 340282366920938463463374607431768211456) = wh A by unfold wh wrap64; omega, show wl (A + 340282366920938463463374607431768211456) = wl A by unfold wl; omega] at this
      exact ⟨_, this⟩
    refine Evt.bind hown ?_
    refine Evt.congr (g := fun k => (spec_l02Bits.f k (wh (-A)) (wl (-A))).bind fun t129 => spec_WideText.j0 k t129 (wh A) (wl A)) ?_ fun k => by
      rw [if_pos ((wh_neg A hA).mpr c), spec_neg_wide]
      rfl
    refine Evt.bind hb ?_
    rw [hm] at hj ⊢
    exact hj
  · have hm : mag A = A := by unfold mag; rw [if_pos (by omega)]
    have hb := bits_ev A (by omega) (by omega)
    refine Evt.bind hb ?_
    refine Evt.congr (g := fun k => spec_WideText.j0 k (digs A 128) (wh A) (wl A)) ?_ fun k => by
      rw [if_neg (fun g => c ((wh_neg A hA).mp g))]
    rw [hm] at hj ⊢
    exact hj

/-! The words of an expression -/
theorem spec_num (n : Int) (h : -9223372036854775808 ≤ n ∧ n ≤ 9223372036854775807) : Evt (fun k => spec_l03Num.f k n) (ba (Lib.itoa n)) := by
  have e : sign (wh n) (dd10 (mag n).toNat) = Lib.itoa n := by
    unfold sign mag Lib.itoa dd10
    have hs : wh n < 0 ↔ n < 0 := wh_neg n (by omega)
    by_cases c : n < 0
    · rw [if_pos (hs.mpr c), if_pos c, if_neg (by omega)]
      congr 2
      omega
    · rw [if_neg (fun g => c (hs.mp g)), if_neg c, if_pos (by omega)]
  have ht := spec_text n (by omega)
  rw [e] at ht
  refine Evt.congr (g := fun k => (spec_WideText.f k (wh n) (wl n)).bind fun t168 => some t168) (Evt.bind ht (Evt.const _)) fun k => ?_
  unfold spec_l03Num.f
  rw [spec_of_wide n h]
  rfl
def signsL : List (List UInt8) := [[], [107, 101, 121], [118, 97, 108], [116, 105, 109, 101], [43], [45], [42], [47], [60], [61], [38], [33]]
theorem spec_signs : spec_l03Signs.f = some (signsL.map ba) := rfl
theorem ops_fields : strings_Fields.f (⟨#[107, 101, 121, 32, 118, 97, 108, 32, 116, 105, 109, 101, 32, 43, 32, 45, 32, 42, 32, 47, 32, 60, 32, 61, 32, 38, 32, 33]⟩ : ByteArray) = some (signsL.tail.map ba) := by kernel_rfl
def sg (op : Int) : List UInt8 := signsL.getD op.toNat []
def good (t : S52) : Prop := (0 ≤ t.f0 ∧ t.f0 ≤ 11) ∧ (-9223372036854775808 ≤ t.f1 ∧ t.f1 ≤ 9223372036854775807)
def word (t : S52) : List UInt8 := if t.f0 = 0 then Lib.itoa t.f1 else sg t.f0
theorem rd_ba (L : List (List UInt8)) (i : Int) : rdOf ByteArray.empty (L.map ba) i = ba (L.getD i.toNat []) := by
  unfold rdOf
  simp only [List.getD_eq_getElem?_getD, List.getElem?_map]
  cases L[i.toNat]? <;> rfl
theorem op_cases (op : Int) (h : 1 ≤ op ∧ op ≤ 11) : signsL.tail.getD (op - 1).toNat [] = sg op := by
  obtain ⟨n, rfl⟩ : ∃ n : Nat, op = (n : Int) + 1 := ⟨(op - 1).toNat, by omega⟩
  rw [show ((n : Int) + 1 - 1).toNat = n by omega]
  unfold sg
  rw [show ((n : Int) + 1).toNat = n + 1 by omega]
  rfl
theorem sg_len (op : Int) : (sg op).length ≤ 21 := by
  unfold sg
  have : ∀ x ∈ signsL, x.length ≤ 21 := by decide
  rw [List.getD_eq_getElem?_getD]
  cases h : signsL[op.toNat]? with
  | none => simp
  | some x => exact this x (List.mem_of_getElem? h)
theorem word_len (t : S52) (h : good t) : (word t).length ≤ 21 := by
  unfold word
  split
  · exact Lib.itoa_length_le _ h.2.1 h.2.2
  · exact sg_len _
def jn (ws : List (List UInt8)) : List UInt8 := Lib.join ws [32]
theorem jn_snoc (ws : List (List UInt8)) (w : List UInt8) (h : ws ≠ []) : jn (ws ++ [w]) = jn ws ++ [32] ++ w := by
  cases ws with
  | nil => exact absurd rfl h
  | cons x r =>
    unfold jn
    rw [List.cons_append, Lib.join_cons, Lib.join_cons]
    simp [Lib.joinTail]
theorem jn_one (w : List UInt8) : jn [w] = w := Lib.join_one _ _
theorem snocInd {α : Type} {P : List α → Prop} (nil : P []) (snoc : ∀ l x, P l → P (l ++ [x])) (l : List α) : P l := by
  obtain ⟨m, hm⟩ : ∃ m, l.reverse = m := ⟨_, rfl⟩
  induction m generalizing l with
  | nil => rw [List.reverse_eq_nil_iff.1 hm]; exact nil
  | cons x r ih =>
    have : l = r.reverse ++ [x] := by rw [← List.reverse_reverse l, hm, List.reverse_cons]
    rw [this]
    exact snoc _ _ (ih r.reverse (List.reverse_reverse r))
theorem jn_len : ∀ (ws : List (List UInt8)), (∀ w ∈ ws, w.length ≤ 21) → (jn ws).length ≤ 22 * ws.length := by
  intro ws
  induction ws using snocInd with
  | nil => intro _; simp [jn, Lib.join_nil]
  | snoc ws w ih =>
    intro h
    have h1 := ih fun x hx => h x (by simp [hx])
    have h2 := h w (by simp)
    by_cases c : ws = []
    · subst c
      rw [List.nil_append, jn_one]
      simp only [List.length_cons, List.length_nil]
      omega
    · rw [jn_snoc ws w c]
      simp only [List.length_append, List.length_cons, List.length_nil]
      omega
/-- The text of the first i tokens. -/
def tx (l : List S52) (i : Nat) : List UInt8 := jn ((l.take i).map word)
theorem take_rd (l : List S52) (i : Nat) (hi : i < l.length) : l.take (i + 1) = l.take i ++ [rd_T52 l (i : Int)] := by
  rw [List.take_succ_eq_append_getElem hi]
  congr 2
  exact (getD_nat l _ i hi).symm
theorem tx_succ (l : List S52) (i : Nat) (hi : i < l.length) : tx l (i + 1) = (if 0 < i then tx l i ++ [32] else tx l i) ++ word (rd_T52 l (i : Int)) := by
  unfold tx
  rw [take_rd l i hi, List.map_append, List.map_cons, List.map_nil]
  by_cases c : 0 < i
  · rw [if_pos c, jn_snoc _ _ (by
      intro h
      have : ((l.take i).map word).length = 0 := by rw [h]; rfl
      rw [List.length_map, List.length_take] at this
      omega)]
  · obtain rfl : i = 0 := by omega
    rw [if_neg c]
    simp [jn, Lib.join_one, Lib.join_nil]
theorem tx_len (l : List S52) (i : Nat) (hg : ∀ i, i < l.length → good (rd_T52 l (i : Int))) (hi : i ≤ l.length) (hl : l.length ≤ 20) : (tx l i).length ≤ 440 := by
  unfold tx
  have := jn_len ((l.take i).map word) (fun w hw => by
    obtain ⟨t, ht, rfl⟩ := List.mem_map.1 hw
    obtain ⟨j, hj, rfl⟩ := List.getElem_of_mem (List.mem_of_mem_take ht)
    have := hg j hj
    rw [show rd_T52 l (j : Int) = l[j] from getD_nat l _ j hj] at this
    exact word_len _ this)
  rw [List.length_map, List.length_take] at this
  omega
theorem depF_ops : ∀ (l : List S52) (n m : Int), depF l n m ≠ -1 → ∀ x ∈ l, 0 ≤ x.f0 ∧ x.f0 ≤ 11
  | [], _, _, _, x, hx => by simp at hx
  | y :: r, n, m, h, x, hx => by
    unfold depF at h
    by_cases c : bad y n
    · rw [if_pos c] at h; exact absurd rfl h
    · rw [if_neg c] at h
      rcases List.mem_cons.1 hx with rfl | hx
      · unfold bad at c; omega
      · exact depF_ops r _ _ h x hx
theorem dep_ops (l : List S52) (h : dep l ≠ -1) : l.length ≤ 20 ∧ ∀ x ∈ l, 0 ≤ x.f0 ∧ x.f0 ≤ 11 := by
  unfold dep at h
  by_cases c : 1 ≤ l.length ∧ l.length ≤ 20
  · rw [if_pos c] at h
    exact ⟨c.2, depF_ops l 0 0 h⟩
  · rw [if_neg c] at h; exact absurd rfl h
theorem ok_spec (l : List S52) (hl : l.length ≤ 1048576) : Evt (fun k => spec_ExprOk.f k l) (decide (dep l ≥ 0)) := ⟨l.length + 2, fun k hk => by
  show spec_ExprOk.f k l = _
  unfold spec_ExprOk.f
  rw [spec_dep l k (by omega) hl]
  rfl⟩
theorem ok_impl (l : List S52) (hl : l.length ≤ 1048576) : Evt (fun k => impl_isExpr.f k l) (decide (dep l > 0)) := ⟨l.length + 1, fun k hk => by
  show impl_isExpr.f k l = _
  unfold impl_isExpr.f
  rw [impl_dep l k (by omega) hl]
  rfl⟩
theorem app_ba (l w : List UInt8) : (ba l ++ ba w).size = l.length + w.length := by rw [ba_app, ba_size, List.length_append]
theorem spec_tx (l : List S52) (hok : 1 ≤ dep l) (hl : l.length ≤ 20) (hg : ∀ i, i < l.length → good (rd_T52 l (i : Int))) : ∀ (d i : Nat), i + d = l.length →
    Evt (fun k => spec_ExprText.l0 k l (ba (tx l i)) (i : Int)) (ba (tx l l.length))
  | 0, i, hi => by
    have hs := ok_spec l (by omega)
    rw [decide_eq_true (show dep l ≥ 0 by omega)] at hs
    refine Evt.step (g := fun k => (spec_ExprOk.f k l).bind fun t172 => (if t172 = true then (spec_ExprText.j1 k l (ba (tx l i)) (i : Int) (decide ((i : Int) < (l.length : Int)))) else (spec_ExprText.j1 k l (ba (tx l i)) (i : Int) false))) ?_ fun k => by simp only [spec_ExprText.l0]
    refine Evt.bind hs ?_
    refine Evt.done fun k => ?_
    rw [if_pos rfl, decide_eq_false (by omega)]
    simp only [spec_ExprText.j1, Bool.false_eq_true, if_false]
    rw [show i = l.length by omega]
  | d + 1, i, hi => by
    have hs := ok_spec l (by omega)
    rw [decide_eq_true (show dep l ≥ 0 by omega)] at hs
    have ih := spec_tx l hok hl hg d (i + 1) (by omega)
    have hil : i < l.length := by omega
    have hgi := hg i hil
    have htl := tx_len l i hg (by omega) hl
    have hwl := word_len _ hgi
    have hsucc := tx_succ l i hil
    obtain ⟨t, ht⟩ : ∃ t, rd_T52 l (i : Int) = t := ⟨_, rfl⟩
    rw [ht] at hgi hwl hsucc
    have g0 : 0 ≤ t.f0 ∧ t.f0 ≤ 11 := hgi.1
    have ew : wrap64 ((i : Int) + 1) = ((i + 1 : Nat) : Int) := by rw [w64 (by omega) (by omega)]; omega
    refine Evt.step (g := fun k => (spec_ExprOk.f k l).bind fun t172 => (if t172 = true then (spec_ExprText.j1 k l (ba (tx l i)) (i : Int) (decide ((i : Int) < (l.length : Int)))) else (spec_ExprText.j1 k l (ba (tx l i)) (i : Int) false))) ?_ fun k => by simp only [spec_ExprText.l0]
    refine Evt.bind hs ?_
    have key : Evt (fun k => spec_ExprText.j2 k l (ba (if 0 < i then tx l i ++ [32] else tx l i)) (i : Int)) (ba (tx l l.length)) := by
      obtain ⟨p, hp⟩ : ∃ p, (if 0 < i then tx l i ++ [32] else tx l i) = p := ⟨_, rfl⟩
      have hpl : p.length ≤ 441 := by
        rw [← hp]
        split
        · simp only [List.length_append, List.length_cons, List.length_nil]; omega
        · omega
      rw [hp] at hsucc ⊢
      by_cases c : t.f0 = 0
      · have hw : word t = Lib.itoa t.f1 := by unfold word; rw [if_pos c]
        refine Evt.step (g := fun k => (spec_l03Num.f k t.f1).bind fun t175 => (if (ba p).size + t175.size ≤ 9223372036854775807 then (spec_ExprText.l0 k l (ba p ++ t175) (wrap64 ((i : Int) + 1))) else (none))) ?_ fun k => by
          simp only [spec_ExprText.j2]
          rw [if_pos (by omega), if_pos (by omega), ht, if_pos c]
        refine Evt.bind (spec_num t.f1 hgi.2) ?_
        rw [← hw]
        refine Evt.congr ih fun k => ?_
        rw [if_pos (by rw [ba_size, ba_size]; omega), ew, ba_app, hsucc]
      · have hw : word t = sg t.f0 := by unfold word; rw [if_neg c]
        refine Evt.step ih fun k => ?_
        simp only [spec_ExprText.j2]
        rw [if_pos (by omega), if_pos (by omega), ht, if_neg c, spec_signs]
        simp only [Option.bind_some]
        have hlt : t.f0 < ((signsL.map ba).length : Int) := by rw [List.length_map, show signsL.length = 12 from rfl]; omega
        rw [if_pos hgi.1.1, if_pos hlt, rd_ba]
        have e : signsL.getD t.f0.toNat [] = word t := by rw [hw]; rfl
        rw [e, if_pos (by rw [ba_size, ba_size]; omega), ew, ba_app, hsucc]
    refine Evt.step (g := fun k => spec_ExprText.j2 k l (ba (if 0 < i then tx l i ++ [32] else tx l i)) (i : Int)) key fun k => ?_
    rw [if_pos rfl, decide_eq_true (by omega)]
    simp only [spec_ExprText.j1, if_true]
    by_cases c : 0 < i
    · rw [if_pos (by omega), if_pos (by rw [ba_size]; omega), if_pos c, show (ba (tx l i) ++ (⟨#[32]⟩ : ByteArray)) = ba (tx l i ++ [32]) from ba_app _ [32]]
    · rw [if_neg (by omega), if_neg c]
theorem impl_tx (l : List S52) (hl : l.length ≤ 20) (hg : ∀ i, i < l.length → good (rd_T52 l (i : Int))) : ∀ (d i : Nat), i + d = l.length →
    Evt (fun k => impl_exprText.l0 k (signsL.tail.map ba) (((l.take i).map word).map ba) l (l.length : Int) (i : Int)) (ba (tx l l.length))
  | 0, i, hi => by
    obtain rfl : i = l.length := by omega
    have htl := tx_len l l.length hg (Nat.le_refl _) hl
    refine Evt.done fun k => ?_
    simp only [impl_exprText.l0]
    rw [if_neg (by omega)]
    have e : (((l.take l.length).map word).map ba).map (·.data.toList) = (l.take l.length).map word := by
      rw [List.map_map]
      conv => rhs; rw [← List.map_id ((l.take l.length).map word)]
      refine List.map_congr_left fun b _ => ?_
      simp [ba]
    have ej : strings_Join.f (((l.take l.length).map word).map ba) (⟨#[32]⟩ : ByteArray) = some (ba (tx l l.length)) := by
      unfold strings_Join.f
      rw [e]
      have : Lib.join ((l.take l.length).map word) ((⟨#[32]⟩ : ByteArray).data.toList) = tx l l.length := rfl
      rw [this, if_pos ⟨by simp; omega, by omega⟩]
      rfl
    rw [ej]
    rfl
  | d + 1, i, hi => by
    have ih := impl_tx l hl hg d (i + 1) (by omega)
    have hil : i < l.length := by omega
    have hgi := hg i hil
    have hr := take_rd l i hil
    obtain ⟨t, ht⟩ : ∃ t, rd_T52 l (i : Int) = t := ⟨_, rfl⟩
    rw [ht] at hgi hr
    have g0 : 0 ≤ t.f0 ∧ t.f0 ≤ 11 := hgi.1
    have ew : wrap64 ((i : Int) + 1) = ((i + 1 : Nat) : Int) := by rw [w64 (by omega) (by omega)]; omega
    rw [hr, List.map_append, List.map_append, List.map_cons, List.map_nil, List.map_cons, List.map_nil] at ih
    refine Evt.step ih fun k => ?_
    simp only [impl_exprText.l0]
    have hlen : (((l.take i).map word).map ba).length < 8796093022208 := by simp; omega
    rw [if_pos (by omega), if_pos (by omega), if_pos (by omega), ht]
    by_cases c : t.f0 = 0
    · have hw : word t = Lib.itoa t.f1 := by unfold word; rw [if_pos c]
      have hi : strconv_Itoa.f t.f1 = some (ba (word t)) := by
        unfold strconv_Itoa.f
        rw [if_pos hgi.2, hw]
        rfl
      rw [if_pos c, hi]
      simp only [Option.bind_some]
      rw [if_pos hlen, ew]
    · have hw : word t = sg t.f0 := by unfold word; rw [if_neg c]
      have e1 : wrap64 (t.f0 - 1) = t.f0 - 1 := w64 (by omega) (by omega)
      have hlt : t.f0 - 1 < ((signsL.tail.map ba).length : Int) := by rw [List.length_map, show signsL.tail.length = 11 from rfl]; omega
      rw [if_neg c, e1, if_pos (by omega), if_pos hlt, if_pos hlen, rd_ba, op_cases t.f0 (by omega), ← hw, ew]
theorem FnExactExprText : Say.FnExactExprText := by
  intro l0 hl hr
  refine Evt.ex (r := true) ?_
  have hsz := sz_eq l0 hl
  by_cases hb : 1048576 < l0.length
  · rw [if_pos hb] at hsz
    refine (Evt.const _).congr fun k => ?_
    unfold laws_FnExactExprText.f
    rw [hsz]
    rfl
  · rw [if_neg hb] at hsz
    obtain ⟨l, hll⟩ : ∃ l, l0.map (fun x : S57 => (⟨x.f0, x.f1⟩ : S52)) = l := ⟨_, rfl⟩
    have hlen : l.length = l0.length := by rw [← hll, List.length_map]
    have hinr : ∀ i, i < l.length → -9223372036854775808 ≤ (rd_T52 l (i : Int)).f1 ∧ (rd_T52 l (i : Int)).f1 ≤ 9223372036854775807 := fun i hi => by
      rw [show rd_T52 l (i : Int) = l[i] from getD_nat l _ i hi]
      have hi' : i < l0.length := by omega
      have : l[i] = (⟨l0[i].f0, l0[i].f1⟩ : S52) := by subst hll; simp
      rw [this]
      exact (hr _ (List.getElem_mem hi')).2
    have fin : ∀ x : ByteArray, Evt (fun k => spec_ExprText.f k l) x → Evt (fun k => impl_ExprText.f k l) x → Evt (fun k => laws_FnExactExprText.f k l0) true := by
      rintro x ⟨K1, t1⟩ ⟨K2, t2⟩
      simp only at t1 t2
      refine ⟨K1 + K2 + l0.length + 1, fun k hk => ?_⟩
      show laws_FnExactExprText.f k l0 = some true
      unfold laws_FnExactExprText.f
      rw [hsz]
      simp only [Option.bind_some]
      rw [if_neg (by omega), toTokS_eq l0 k (by omega) (by omega), hll]
      simp only [Option.bind_some, t1 k (by omega), t2 k (by omega), if_true, eqTokS_refl l k (by omega) (by omega)]
    rcases dep_pos l with hd | hd
    · refine fin (ba []) ?_ ?_
      · have hs := ok_spec l (by omega)
        rw [decide_eq_false (show ¬ dep l ≥ 0 by omega)] at hs
        refine Evt.step (g := fun k => (spec_ExprOk.f k l).bind fun t172 => (if t172 = true then (spec_ExprText.j1 k l (⟨#[]⟩ : ByteArray) 0 (decide ((0 : Int) < (l.length : Int)))) else (spec_ExprText.j1 k l (⟨#[]⟩ : ByteArray) 0 false))) ?_ fun k => by
          unfold spec_ExprText.f
          simp only [spec_ExprText.l0]
        refine Evt.bind hs ?_
        refine Evt.done fun k => ?_
        rw [if_neg (by decide)]
        simp only [spec_ExprText.j1, Bool.false_eq_true, if_false]
        rfl
      · have hs := ok_impl l (by omega)
        rw [decide_eq_false (show ¬ dep l > 0 by omega)] at hs
        refine Evt.congr (g := fun k => (impl_isExpr.f k l).bind fun t218 => (if t218 = true then ((impl_exprText.f k l).bind fun t219 => (some t219)) else (some (⟨#[]⟩ : ByteArray)))) ?_ fun k => rfl
        refine Evt.bind hs ?_
        refine (Evt.const _).congr fun k => ?_
        rw [if_neg (by decide)]
        rfl
    · obtain ⟨hl20, hops⟩ := dep_ops l (by omega)
      have hg : ∀ i, i < l.length → good (rd_T52 l (i : Int)) := fun i hi => by
        refine ⟨?_, hinr i hi⟩
        rw [show rd_T52 l (i : Int) = l[i] from getD_nat l _ i hi]
        exact hops _ (List.getElem_mem hi)
      refine fin (ba (tx l l.length)) ?_ ?_
      · have := spec_tx l hd hl20 hg l.length 0 (by omega)
        exact this
      · have hs := ok_impl l (by omega)
        rw [decide_eq_true (show dep l > 0 by omega)] at hs
        refine Evt.congr (g := fun k => (impl_isExpr.f k l).bind fun t218 => (if t218 = true then ((impl_exprText.f k l).bind fun t219 => (some t219)) else (some (⟨#[]⟩ : ByteArray)))) ?_ fun k => rfl
        refine Evt.bind hs ?_
        refine Evt.congr (g := fun k => (impl_exprText.f k l).bind fun t219 => some t219) ?_ fun k => if_pos rfl
        refine Evt.bind ?_ (Evt.const _)
        refine Evt.congr (impl_tx l hl20 hg l.length 0 (by omega)) fun k => ?_
        unfold impl_exprText.f
        rw [ops_fields]
        rfl

end Go.Proofs.YtloiamjekoecgaaDoor.Pure
