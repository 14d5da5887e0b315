/- Proved: for every text the program's ExprRead answers as the reference's. No other condition. -/
import Derived.Test.YtloiamjekoecgaaDoorSayFnExactExprRead
import Derived.Test.YtloiamjekoecgaaDoorBase
import Derived.Test.YtloiamjekoecgaaDoorEv
import Derived.Test.YtloiamjekoecgaaDoorEw
namespace Go.Proofs.YtloiamjekoecgaaDoor.Pure
open Go.RowKit Go.Proofs.YtloiamjekoecgaaDoor.QFnExactExprRead Go.Proofs.YtloiamjekoecgaaDoorW.PrintWords Go.Proofs.YtloiamjekoecgaaDoorW.PrintLast Go.Proofs.YtloiamjekoecgaaDoorW.PrintMore
open Go.Proofs.YtloiamjekoecgaaDoor.Base
set_option linter.unusedSimpArgs false
set_option linter.unusedVariables false

theorem eqTokS_refl (l : List S52) (k : Nat) (hk : l.length < k) (hb : l.length ≤ 4611686018427387904) : laws_eqTokS.f k l l = some true := by
  unfold laws_eqTokS.f
  rw [if_pos rfl]
  refine up_loop0 (fun k (_ : Unit) i => laws_eqTokS.l0 k l l (i : Int)) l.length (fun _ _ => True) (fun r => r = some true) ?_ ?_ k () trivial hk
  · rintro k _ i hi _
    left
    refine ⟨(), trivial, ?_⟩
    simp only [laws_eqTokS.l0, laws_eqTok.f, bne_self_eq_false, Bool.false_eq_true, if_true, if_false, Option.bind_some]
    rw [if_pos (by omega), if_pos (by omega), if_pos (by omega), w64 (by omega) (by omega)]
    simp
  · rintro k _ _
    simp only [laws_eqTokS.l0]
    rw [if_neg (by omega)]

theorem in_le (a l h : Int) : impl_in.f a l h = some (decide (l ≤ a) && decide (a ≤ h)) := by
  unfold impl_in.f
  by_cases c : l ≤ a <;> simp [c]
def tk (op : Int) : Int := if op ≤ 3 then 0 else if op = 11 then 1 else 2
theorem tk_range (op : Int) : 0 ≤ tk op ∧ tk op ≤ 2 := by unfold tk; split <;> (try split) <;> omega
theorem spec_tk (op : Int) : spec_l03Takes.f op = some (tk op) := by unfold spec_l03Takes.f tk; split <;> (try split) <;> rfl
theorem impl_tk (op n : Int) : impl_Tok_takes.f op n = some (tk op) := by unfold impl_Tok_takes.f tk; split <;> (try split) <;> rfl
/-- A token is no operation, or takes more than there is. -/
def bad (x : S52) (n : Int) : Prop := x.f0 < 0 ∨ 11 < x.f0 ∨ (x.f0 ≠ 0 ∧ x.f1 ≠ 0) ∨ n < tk x.f0
instance (x : S52) (n : Int) : Decidable (bad x n) := by unfold bad; infer_instance
def depF : List S52 → Int → Int → Int
  | [], n, m => if n = 1 then m else -1
  | x :: r, n, m => if bad x n then -1 else depF r (n - tk x.f0 + 1) (mx m (n - tk x.f0 + 1))
theorem drop_rd (l : List S52) (i : Nat) (hi : i < l.length) : l.drop i = rd_T52 l (i : Int) :: l.drop (i + 1) := by
  rw [List.drop_eq_getElem_cons hi]
  congr 1
  exact (getD_nat l _ i hi).symm
theorem spec_dep_loop (l : List S52) (hl : l.length ≤ 1048576) : ∀ (d k i : Nat) (n m : Int), i + d = l.length → d < k → 0 ≤ n → n ≤ i → spec_l03Depth.l0 k l n m (i : Int) = some (depF (l.drop i) n m) := by
  intro d
  induction d with
  | zero =>
    intro k i n m hi hk h0 h1
    obtain ⟨k, rfl⟩ : ∃ m, k = m + 1 := ⟨k - 1, by omega⟩
    simp only [spec_l03Depth.l0]
    rw [if_neg (by omega), List.drop_eq_nil_of_le (by omega)]
    unfold depF
    split <;> rfl
  | succ d ih =>
    intro k i n m hi hk h0 h1
    obtain ⟨k, rfl⟩ : ∃ m, k = m + 1 := ⟨k - 1, by omega⟩
    have e1 : wrap64 ((i : Int) + 1) = ((i + 1 : Nat) : Int) := (w64 (by omega) (by omega)).trans (by omega)
    rw [drop_rd l i (by omega)]
    generalize hx : rd_T52 l (i : Int) = x
    have ht := tk_range x.f0
    have e2 : wrap64 (wrap64 (n - tk x.f0) + 1) = n - tk x.f0 + 1 := by rw [w64 (i := n - tk x.f0) (by omega) (by omega)]; exact w64 (by omega) (by omega)
    simp only [spec_l03Depth.l0, hx, spec_tk, Option.bind_some, e1, e2]
    rw [if_pos (by omega), if_pos (by omega)]
    unfold depF
    by_cases c1 : x.f0 < 0
    · rw [if_pos c1, if_pos (show bad x n by unfold bad; omega)]
    rw [if_neg c1]
    by_cases c2 : x.f0 > 11
    · rw [if_pos c2, if_pos (show bad x n by unfold bad; omega)]
    rw [if_neg c2]
    by_cases c3 : x.f0 = 0
    · rw [if_pos c3]
      by_cases c4 : tk x.f0 > n
      · rw [if_pos c4, if_pos (show bad x n by unfold bad; omega)]
      · rw [if_neg c4, if_neg (by unfold bad; omega)]
        exact ih k (i + 1) _ _ (by omega) (by omega) (by omega) (by omega)
    · rw [if_neg c3]
      by_cases c5 : x.f1 = 0
      · rw [if_pos c5]
        by_cases c4 : tk x.f0 > n
        · rw [if_pos c4, if_pos (show bad x n by unfold bad; omega)]
        · rw [if_neg c4, if_neg (by unfold bad; omega)]
          exact ih k (i + 1) _ _ (by omega) (by omega) (by omega) (by omega)
      · rw [if_neg c5, if_pos (show bad x n by unfold bad; omega)]
theorem impl_dep_loop (l : List S52) (hl : l.length ≤ 1048576) : ∀ (d k i : Nat) (n m : Int), i + d = l.length → d < k → 0 ≤ n → n ≤ i → impl_depth.l0 k n m l (l.length : Int) (i : Int) = some (depF (l.drop i) n m) := by
  intro d
  induction d with
  | zero =>
    intro k i n m hi hk h0 h1
    obtain ⟨k, rfl⟩ : ∃ m, k = m + 1 := ⟨k - 1, by omega⟩
    simp only [impl_depth.l0]
    rw [if_neg (by omega), List.drop_eq_nil_of_le (by omega)]
    unfold depF
    split <;> rfl
  | succ d ih =>
    intro k i n m hi hk h0 h1
    obtain ⟨k, rfl⟩ : ∃ m, k = m + 1 := ⟨k - 1, by omega⟩
    have e1 : wrap64 ((i : Int) + 1) = ((i + 1 : Nat) : Int) := (w64 (by omega) (by omega)).trans (by omega)
    rw [drop_rd l i (by omega)]
    generalize hx : rd_T52 l (i : Int) = x
    have ht := tk_range x.f0
    have e2 : wrap64 (n + wrap64 (1 - tk x.f0)) = n - tk x.f0 + 1 := by rw [w64 (i := 1 - tk x.f0) (by omega) (by omega)]; exact (w64 (by omega) (by omega)).trans (by omega)
    simp only [impl_depth.l0, hx, impl_tk, in_le, Option.bind_some, e1, e2]
    rw [if_pos (by omega), if_pos (by omega), if_pos (by omega)]
    unfold depF
    by_cases c1 : 0 ≤ x.f0
    rotate_left
    · rw [decide_eq_false c1, if_pos (show bad x n by unfold bad; omega)]
      rfl
    by_cases c2 : x.f0 ≤ 11
    rotate_left
    · rw [decide_eq_true c1, decide_eq_false c2, if_pos (show bad x n by unfold bad; omega)]
      rfl
    rw [decide_eq_true c1, decide_eq_true c2]
    simp only [Bool.and_self, if_true]
    by_cases c3 : x.f0 = 0
    · rw [if_pos c3]
      by_cases c4 : n < tk x.f0
      · rw [if_pos c4, if_pos (show bad x n by unfold bad; omega)]
      · rw [if_neg c4, if_neg (by unfold bad; omega)]
        exact ih k (i + 1) _ _ (by omega) (by omega) (by omega) (by omega)
    · rw [if_neg c3]
      by_cases c5 : x.f1 = 0
      · rw [if_pos c5]
        by_cases c4 : n < tk x.f0
        · rw [if_pos c4, if_pos (show bad x n by unfold bad; omega)]
        · rw [if_neg c4, if_neg (by unfold bad; omega)]
          exact ih k (i + 1) _ _ (by omega) (by omega) (by omega) (by omega)
      · rw [if_neg c5, if_pos (show bad x n by unfold bad; omega)]
def dep (l : List S52) : Int := if 1 ≤ l.length ∧ l.length ≤ 20 then depF l 0 0 else -1
theorem spec_dep (l : List S52) (k : Nat) (hk : l.length + 1 < k) (hl : l.length ≤ 1048576) : spec_l03Depth.f k l = some (dep l) := by
  obtain ⟨k, rfl⟩ : ∃ m, k = m + 1 := ⟨k - 1, by omega⟩
  unfold spec_l03Depth.f dep
  simp only [spec_l03Depth.j0]
  by_cases c1 : (l.length : Int) < 1
  · rw [if_pos c1, if_pos trivial, if_neg (by omega)]
  · rw [if_neg c1]
    by_cases c2 : (l.length : Int) > 20
    · rw [decide_eq_true c2, if_pos rfl, if_neg (by omega)]
    · rw [decide_eq_false c2, if_neg (by simp), if_pos (by omega)]
      exact spec_dep_loop l hl l.length k 0 0 0 (by omega) (by omega) (by omega) (by omega)
theorem impl_dep (l : List S52) (k : Nat) (hk : l.length < k) (hl : l.length ≤ 1048576) : impl_depth.f k l = some (dep l) := by
  unfold impl_depth.f dep
  rw [in_le]
  simp only [Option.bind_some]
  by_cases c1 : 1 ≤ l.length ∧ l.length ≤ 20
  · rw [if_pos c1, decide_eq_true (show (1 : Int) ≤ (l.length : Int) by omega), decide_eq_true (show (l.length : Int) ≤ 20 by omega)]
    simp only [Bool.and_self, if_true]
    exact impl_dep_loop l hl l.length k 0 0 0 (by omega) (by omega) (by omega) (by omega)
  · have c2 : (decide ((1 : Int) ≤ (l.length : Int)) && decide ((l.length : Int) ≤ 20)) = false := by
      rw [← Bool.not_eq_true, Bool.and_eq_true, decide_eq_true_eq, decide_eq_true_eq]
      omega
    rw [if_neg c1, c2]
    rfl
theorem mx_ge (a b : Int) : a ≤ mx a b ∧ b ≤ mx a b := by unfold mx; split <;> omega
theorem depF_pos : ∀ (l : List S52) (n m : Int), n ≤ m → depF l n m = -1 ∨ 1 ≤ depF l n m
  | [], n, m, h => by unfold depF; split <;> omega
  | x :: r, n, m, h => by
    unfold depF
    split
    · exact Or.inl rfl
    · exact depF_pos r _ _ (mx_ge _ _).2
theorem dep_pos (l : List S52) : dep l = -1 ∨ 1 ≤ dep l := by
  unfold dep
  split
  · exact depF_pos l 0 0 (by omega)
  · exact Or.inl rfl

open Go.Proofs.YtloiamjekoecgaaDoor.Evt
/-- The halves of a whole number, as a wide one has them. -/
def wh (A : Int) : Int := wrap64 (A / 18446744073709551616)
def wl (A : Int) : Int := A % 18446744073709551616
theorem carry (a b c : Int) (h : c = a + b) : (c % 18446744073709551616 = a % 18446744073709551616 + b % 18446744073709551616 ∧ c / 18446744073709551616 = a / 18446744073709551616 + b / 18446744073709551616) ∨ (c % 18446744073709551616 + 18446744073709551616 = a % 18446744073709551616 + b % 18446744073709551616 ∧ c / 18446744073709551616 = a / 18446744073709551616 + b / 18446744073709551616 + 1) := by omega
theorem hi0 (x y : Int) : wrap64 (IntKind.u64.wrap ((IntKind.u64.wrap (wrap64 x)) + (IntKind.u64.wrap (wrap64 y)))) = wrap64 (x + y) := by
  simp only [wu64]
  unfold wrap64
  omega
theorem hi1 (x y : Int) : wrap64 (IntKind.u64.wrap ((IntKind.u64.wrap ((IntKind.u64.wrap (wrap64 x)) + (IntKind.u64.wrap (wrap64 y)))) + 1)) = wrap64 (x + y + 1) := by
  simp only [wu64]
  unfold wrap64
  omega
theorem spec_add_wide (A B : Int) : spec_WideAdd.f (wh A) (wl A) (wh B) (wl B) = some (wh (A + B), wl (A + B)) := by
  unfold spec_WideAdd.f wh wl
  rw [hi0, hi1]
  rcases carry A B (A + B) rfl with ⟨h1, h2⟩ | ⟨h1, h2⟩
  · have e : IntKind.u64.wrap (A % 18446744073709551616 + B % 18446744073709551616) = (A + B) % 18446744073709551616 := by rw [wu64]; omega
    rw [e, if_neg (by omega), h2]
  · have e : IntKind.u64.wrap (A % 18446744073709551616 + B % 18446744073709551616) = (A + B) % 18446744073709551616 := by rw [wu64]; omega
    rw [e, if_pos (by omega), h2]
theorem wh0 : wh 0 = 0 := by decide +kernel
theorem wl1 : wl 1 = 1 := by decide +kernel
theorem wl0 : wl 0 = 0 := by decide +kernel
theorem wh1 : wh 1 = 0 := by decide +kernel
theorem spec_neg_wide (A : Int) : spec_WideNeg.f (wh A) (wl A) = some (wh (-A), wl (-A)) := by
  unfold spec_WideNeg.f
  have e1 : wrap64 ((-1) - wh A) = wh (-A - 1) := by unfold wh wrap64; omega
  have e2 : IntKind.u64.wrap (18446744073709551615 - wl A) = wl (-A - 1) := by rw [wu64]; unfold wl; omega
  have h := spec_add_wide (-A - 1) 1
  rw [wh1, wl1] at h
  rw [e1, e2, h]
  simp only [Option.bind_some]
  rw [show -A - 1 + 1 = -A by omega]
theorem dd (x y z : Int) (hy : 0 ≤ y) : x / y / z = x / (y * z) := by rw [Int.ediv_ediv, if_neg (by omega), Int.sub_zero]
theorem dsucc (V : Int) (p : Nat) : V / 2 ^ (p + 1) = V / 2 ^ p / 2 := by
  rw [dd _ _ _ (Int.le_of_lt (Int.pow_pos (by decide))), Int.pow_succ]
/-- A binary digit. -/
def dig (V : Int) (j : Nat) : Int := V / 2 ^ j % 2
theorem dig_range (V : Int) (j : Nat) : dig V j = 0 ∨ dig V j = 1 := by unfold dig; omega
theorem dig_low (H L : Int) (j : Nat) (hj : j < 64) : dig (H * 18446744073709551616 + L) j = dig L j := by
  unfold dig
  have e : (18446744073709551616 : Int) = 2 ^ (63 - j) * 2 * 2 ^ j := by
    rw [← Int.pow_succ, ← Int.pow_add, show 63 - j + 1 + j = 64 by omega]; rfl
  have hp : (2 : Int) ^ j ≠ 0 := by have : (0 : Int) < 2 ^ j := Int.pow_pos (by decide); omega
  have e2 : (H * 18446744073709551616 + L) / 2 ^ j = L / 2 ^ j + 2 * (H * 2 ^ (63 - j)) := by
    rw [show H * 18446744073709551616 + L = L + (2 * (H * 2 ^ (63 - j))) * 2 ^ j by
      rw [e, Int.add_comm, show 2 * (H * 2 ^ (63 - j)) * 2 ^ j = H * (2 ^ (63 - j) * 2 * 2 ^ j) by
        simp only [Int.mul_comm, Int.mul_left_comm]]]
    exact Int.add_mul_ediv_right _ _ hp
  rw [e2]
  omega
theorem dig_high (V : Int) (j : Nat) : dig V (64 + j) = dig (V / 18446744073709551616) j := by
  unfold dig
  rw [show (18446744073709551616 : Int) = 2 ^ 64 from rfl, dd _ _ _ (by decide), ← Int.pow_add]
/-- The digits of a number, the least first. -/
def digs (V : Int) (n : Nat) : List Int := (List.range n).map (dig V)
theorem digs_len (V : Int) (n : Nat) : (digs V n).length = n := by simp [digs]
theorem digs_succ (V : Int) (n : Nat) : digs V (n + 1) = digs V n ++ [dig V n] := by simp [digs, List.range_succ]
theorem rd_digs (V : Int) (n i : Nat) (h : i < n) : rd (digs V n) (i : Int) = dig V i := by
  rw [rd_nat _ i (by rw [digs_len]; exact h)]
  simp [digs]
theorem half (x : Int) (h : 0 ≤ x) (hb : x < 18446744073709551616) : wrap64 (Int.tmod x 2) = x % 2 ∧ IntKind.u64.wrap (Int.tdiv x 2) = x / 2 := by
  rw [Int.tmod_eq_emod_of_nonneg h, Int.tdiv_eq_ediv_of_nonneg h, w64 (by omega) (by omega), wu64]
  omega
theorem bits_ev (V : Int) (h0 : 0 ≤ V) (hV : V < 340282366920938463463374607431768211456) : Evt (fun k => spec_l02Bits.f k (wh V) (wl V)) (digs V 128) := by
  have hd : V = V / 18446744073709551616 * 18446744073709551616 + wl V := by unfold wl; omega
  have hw : IntKind.u64.wrap (wh V) = V / 18446744073709551616 := by rw [wu64]; unfold wh wrap64; omega
  have hH0 : 0 ≤ V / 18446744073709551616 := by omega
  have hH1 : V / 18446744073709551616 < 18446744073709551616 := by omega
  have hL0 : 0 ≤ wl V := by unfold wl; omega
  have hL1 : wl V < 18446744073709551616 := by unfold wl; omega
  have pd : ∀ (x : Int) (i : Nat), 0 ≤ x → x < 18446744073709551616 → 0 ≤ x / 2 ^ i ∧ x / 2 ^ i < 18446744073709551616 := by
    intro x i a b
    have hp : (0 : Int) < 2 ^ i := Int.pow_pos (by decide)
    exact ⟨Int.ediv_nonneg a (Int.le_of_lt hp), Int.lt_of_le_of_lt (Int.ediv_le_self _ a) b⟩
  have high : ∀ (m i : Nat), i + m = 64 → Evt (fun k => spec_l02Bits.l1 k (digs V (64 + i)) (V / 18446744073709551616 / 2 ^ i) (i : Int)) (digs V 128) := by
    intro m
    induction m with
    | zero =>
      intro i hi
      obtain rfl : i = 64 := by omega
      exact Evt.done fun k => by simp only [spec_l02Bits.l1]; rw [if_neg (by decide)]
    | succ m ih =>
      intro i hi
      refine Evt.step (ih (i + 1) (by omega)) fun k => ?_
      have hx := pd _ i hH0 hH1
      have hh := half _ hx.1 hx.2
      simp only [spec_l02Bits.l1]
      rw [if_pos (by omega), if_pos (by rw [digs_len]; omega), hh.1, hh.2, w64 (by omega) (by omega), ← dsucc]
      rw [show 64 + (i + 1) = 64 + i + 1 by omega, digs_succ, dig_high]
      rfl
  have low : ∀ (m i : Nat), i + m = 64 → Evt (fun k => spec_l02Bits.l0 k (digs V i) (wl V / 2 ^ i) (i : Int) (wh V) (wl V)) (digs V 128) := by
    intro m
    induction m with
    | zero =>
      intro i hi
      obtain rfl : i = 64 := by omega
      refine Evt.step (high 64 0 rfl) fun k => ?_
      simp only [spec_l02Bits.l0]
      rw [if_neg (by decide), hw, Int.pow_zero, Int.ediv_one]
      rfl
    | succ m ih =>
      intro i hi
      refine Evt.step (ih (i + 1) (by omega)) fun k => ?_
      have hx := pd _ i hL0 hL1
      have hh := half _ hx.1 hx.2
      simp only [spec_l02Bits.l0]
      rw [if_pos (by omega), if_pos (by rw [digs_len]; omega), hh.1, hh.2, w64 (by omega) (by omega), ← dsucc]
      have e : dig V i = wl V / 2 ^ i % 2 := by
        conv => lhs; rw [hd]
        exact dig_low _ _ i (by omega)
      rw [digs_succ, e]
      rfl
  have s := low 64 0 rfl
  rw [Int.pow_zero, Int.ediv_one] at s
  exact s
theorem rd_set (l : List Int) (p j : Nat) (v : Int) (hp : p < l.length) : rd (l.set p v) (j : Int) = if j = p then v else rd l (j : Int) := by
  unfold rd
  simp only [Int.toNat_natCast, List.getD_eq_getElem?_getD, List.getElem?_set]
  by_cases c : p = j
  · subst c; simp [hp]
  · rw [if_neg c, if_neg (fun e => c e.symm)]
/-- One step of a long division by hand. -/
theorem div_step (X n b : Int) (hn : 0 < n) (hX : 0 ≤ X) (hb : b = X % 2) : (2 * (X / 2 % n) + b ≥ n → X % n = 2 * (X / 2 % n) + b - n ∧ X / n % 2 = 1) ∧ (¬ 2 * (X / 2 % n) + b ≥ n → X % n = 2 * (X / 2 % n) + b ∧ X / n % 2 = 0) := by
  have h1 := Int.emod_nonneg (X / 2) (show n ≠ 0 by omega)
  have h2 := Int.emod_lt_of_pos (X / 2) hn
  have h3 := Int.mul_ediv_add_emod (X / 2) n
  generalize X / 2 % n = r at *
  generalize hq : X / 2 / n = q at *
  have e2 : n * (2 * q) = 2 * (n * q) := Int.mul_left_comm n 2 q
  have e3 : n * (2 * q + 1) = 2 * (n * q) + n := by rw [Int.mul_add, e2, Int.mul_one]
  generalize n * q = y at *
  constructor
  · intro c
    have := (Int.ediv_emod_unique (a := X) (q := 2 * q + 1) (r := 2 * r + b - n) hn).mpr ⟨by rw [e3]; omega, by omega, by omega⟩
    exact ⟨this.2, by rw [this.1]; omega⟩
  · intro c
    have := (Int.ediv_emod_unique (a := X) (q := 2 * q) (r := 2 * r + b) hn).mpr ⟨by rw [e2]; omega, by omega, by omega⟩
    exact ⟨this.2, by rw [this.1]; omega⟩
theorem rd_repl (n j : Nat) (h : j < n) : rd (List.replicate n 0) (j : Int) = 0 := by
  rw [rd_nat _ j (by simpa using h)]
  simp
theorem e128 : (2 : Int) ^ 128 = 340282366920938463463374607431768211456 := by decide +kernel
theorem divide_ev (V n : Int) (h0 : 0 ≤ V) (hV : V < 340282366920938463463374607431768211456) (hn : 1 ≤ n) (hn2 : n ≤ 1000000) :
    ∃ out : List Int, out.length = 128 ∧ (∀ j : Nat, j < 128 → rd out (j : Int) = dig (V / n) j) ∧ Evt (fun k => spec_l02Divide.f k (digs V 128) n) (out, V % n) := by
  have hdig : ∀ p : Nat, dig (V / n) p = V / 2 ^ p / n % 2 := by
    intro p
    unfold dig
    rw [dd _ _ _ (by omega), dd _ _ _ (Int.le_of_lt (Int.pow_pos (by decide))), Int.mul_comm]
  have go : ∀ (p : Nat) (out : List Int), p ≤ 128 → out.length = 128 → (∀ j : Nat, j < 128 → rd out (j : Int) = if p ≤ j then dig (V / n) j else 0) →
      ∃ o : List Int, o.length = 128 ∧ (∀ j : Nat, j < 128 → rd o (j : Int) = dig (V / n) j) ∧ Evt (fun k => spec_l02Divide.l0 k (digs V 128) n out (V / 2 ^ p % n) ((p : Int) - 1)) (o, V % n) := by
    intro p
    induction p with
    | zero =>
      intro out _ hl ho
      refine ⟨out, hl, fun j hj => by rw [ho j hj, if_pos (by omega)], Evt.done fun k => ?_⟩
      simp only [spec_l02Divide.l0]
      rw [if_neg (by omega), Int.pow_zero, Int.ediv_one]
    | succ p ih =>
      intro out hp hl ho
      have hX : 0 ≤ V / 2 ^ p := Int.ediv_nonneg h0 (Int.le_of_lt (Int.pow_pos (by decide)))
      obtain ⟨s1, s2⟩ := div_step (V / 2 ^ p) n (dig V p) (by omega) hX rfl
      have r1 := Int.emod_nonneg (V / 2 ^ (p + 1)) (show n ≠ 0 by omega)
      have r2 := Int.emod_lt_of_pos (V / 2 ^ (p + 1)) (show 0 < n by omega)
      have hd := dig_range V p
      rw [← dsucc] at s1 s2
      have e1 : ∀ k, spec_l02Divide.l0 (k + 1) (digs V 128) n out (V / 2 ^ (p + 1) % n) (((p + 1 : Nat) : Int) - 1) = if 2 * (V / 2 ^ (p + 1) % n) + dig V p ≥ n then spec_l02Divide.l0 k (digs V 128) n (out.set p 1) (2 * (V / 2 ^ (p + 1) % n) + dig V p - n) ((p : Int) - 1) else spec_l02Divide.l0 k (digs V 128) n out (2 * (V / 2 ^ (p + 1) % n) + dig V p) ((p : Int) - 1) := by
        intro k
        have ep : ((p + 1 : Nat) : Int) - 1 = (p : Int) := by omega
        rw [ep]
        simp only [spec_l02Divide.l0]
        rw [if_pos (by omega), if_pos (by omega), digs_len, if_pos (show (p : Int) < ((128 : Nat) : Int) by omega), rd_digs V 128 p (by omega), hl, if_pos (show (p : Int) < ((128 : Nat) : Int) by omega)]
        have e2 : wrap64 (2 * (V / 2 ^ (p + 1) % n)) = 2 * (V / 2 ^ (p + 1) % n) := w64 (by omega) (by omega)
        rw [e2]
        have e3 : wrap64 (2 * (V / 2 ^ (p + 1) % n) + dig V p) = 2 * (V / 2 ^ (p + 1) % n) + dig V p := w64 (by omega) (by omega)
        rw [e3]
        have e4 : wrap64 (2 * (V / 2 ^ (p + 1) % n) + dig V p - n) = 2 * (V / 2 ^ (p + 1) % n) + dig V p - n := w64 (by omega) (by omega)
        rw [e4, w64 (by omega) (by omega)]
        rfl
      by_cases c : 2 * (V / 2 ^ (p + 1) % n) + dig V p ≥ n
      · obtain ⟨a1, a2⟩ := s1 c
        obtain ⟨o, b1, b2, b3⟩ := ih (out.set p 1) (by omega) (by rw [List.length_set]; exact hl) (by
          intro j hj
          rw [rd_set out p j 1 (by omega)]
          by_cases d : j = p
          · subst d
            rw [if_pos rfl, if_pos (by omega), hdig, a2]
          · rw [if_neg d, ho j hj]
            by_cases f : p ≤ j
            · rw [if_pos f, if_pos (by omega)]
            · rw [if_neg f, if_neg (by omega)])
        exact ⟨o, b1, b2, Evt.step b3 fun k => by rw [e1, if_pos c, a1]⟩
      · obtain ⟨a1, a2⟩ := s2 c
        obtain ⟨o, b1, b2, b3⟩ := ih out (by omega) hl (by
          intro j hj
          rw [ho j hj]
          by_cases f : p + 1 ≤ j
          · rw [if_pos f, if_pos (by omega)]
          · rw [if_neg f]
            by_cases d : j = p
            · subst d
              rw [if_pos (by omega), hdig, a2]
            · rw [if_neg (by omega)])
        exact ⟨o, b1, b2, Evt.step b3 fun k => by rw [e1, if_neg c, a1]⟩
  obtain ⟨o, b1, b2, b3⟩ := go 128 (List.replicate 128 0) (by omega) (by simp) (by
    intro j hj
    rw [if_neg (by omega)]
    exact rd_repl 128 j hj)
  refine ⟨o, b1, b2, ?_⟩
  refine b3.congr fun k => ?_
  unfold spec_l02Divide.f
  rw [if_pos (by decide)]
  have : V / 2 ^ 128 % n = 0 := by
    rw [e128, Int.ediv_eq_zero_of_lt h0 hV, Int.zero_emod]
  rw [this]
  rfl
theorem spec_of_wide (n : Int) (h : -9223372036854775808 ≤ n ∧ n ≤ 9223372036854775807) : spec_WideOf.f n = some (wh n, wl n) := by
  unfold spec_WideOf.f
  rw [wu64]
  have e : n % 18446744073709551616 = wl n := rfl
  by_cases c : n < 0
  · rw [if_pos c, e]
    have : wh n = -1 := by unfold wh wrap64; omega
    rw [this]
  · rw [if_neg c, e]
    have : wh n = 0 := by unfold wh wrap64; omega
    rw [this]
/-! The numeral -/
abbrev dd10 := Lib.decDigits
def ints (l : List UInt8) : List Int := l.map fun b => (b.toNat : Int)
def ba (l : List UInt8) : ByteArray := ⟨l.toArray⟩
theorem str_ints (l : List UInt8) : strOfNums (ints l) = ba l := by
  unfold strOfNums ints ba
  rw [List.map_map]
  congr 2
  conv => rhs; rw [← List.map_id l]
  refine List.map_congr_left fun b _ => ?_
  simp
theorem ba_app (a b : List UInt8) : ba a ++ ba b = ba (a ++ b) := by
  refine ByteArray.ext ?_
  simp [ba, ByteArray.data_append]
theorem ba_size (l : List UInt8) : (ba l).size = l.length := by simp [ba, ByteArray.size]
theorem dec_big (u : Nat) (h : ¬ u < 10) : dd10 u = dd10 (u / 10) ++ [UInt8.ofNat (48 + u % 10)] := by
  show Lib.decDigits u = _
  rw [Lib.decDigits, dif_neg h]
theorem dec_one (u : Nat) (h : u < 10) : dd10 u = [UInt8.ofNat (48 + u)] := by
  show Lib.decDigits u = _
  rw [Lib.decDigits, dif_pos h]
theorem byte_dig (r : Int) (h0 : 0 ≤ r) (h1 : r < 10) : [(wrap64 (48 + r)) % 256] = ints [UInt8.ofNat (48 + r.toNat)] := by
  have e : (UInt8.ofNat (48 + r.toNat)).toNat = 48 + r.toNat := by simp only [UInt8.toNat_ofNat']; omega
  simp only [ints, List.map_cons, List.map_nil, e]
  rw [w64 (by omega) (by omega)]
  congr 1
  omega
/-- Digits with zeros ahead. -/
def padded : Nat → Nat → List UInt8
  | 0, _ => []
  | m + 1, p => padded m (p / 10) ++ [UInt8.ofNat (48 + p % 10)]
theorem padded_len : ∀ m p, (padded m p).length = m
  | 0, _ => rfl
  | m + 1, p => by simp [padded, padded_len m]
theorem padded_zero : ∀ m, padded m 0 = List.replicate m 48
  | 0 => rfl
  | m + 1 => by
    rw [List.replicate_succ', padded, Nat.zero_div, padded_zero m]
    rfl
theorem dec_split : ∀ (m u p : Nat), 1 ≤ u → p < 10 ^ m → dd10 (u * 10 ^ m + p) = dd10 u ++ padded m p
  | 0, u, p, hu, hp => by
    have : p = 0 := by simpa using hp
    subst this
    simp [padded]
  | m + 1, u, p, hu, hp => by
    have hp' : p / 10 < 10 ^ m := by
      rw [Nat.pow_succ] at hp
      omega
    have e1 : u * 10 ^ (m + 1) + p = (u * 10 ^ m + p / 10) * 10 + p % 10 := by
      rw [Nat.pow_succ, Nat.add_mul, Nat.mul_assoc]
      omega
    have h1 : 1 ≤ u * 10 ^ m := Nat.mul_pos hu (Nat.pow_pos (by decide))
    have q1 : (u * 10 ^ (m + 1) + p) / 10 = u * 10 ^ m + p / 10 := by rw [e1]; omega
    have q2 : (u * 10 ^ (m + 1) + p) % 10 = p % 10 := by rw [e1]; omega
    rw [dec_big _ (by rw [e1]; omega), q1, q2, dec_split m u (p / 10) hu hp', padded, List.append_assoc]
theorem dec_pad : ∀ (m p : Nat), p < 10 ^ (m + 1) → ∃ n, n + (dd10 p).length = m + 1 ∧ List.replicate n 48 ++ dd10 p = padded (m + 1) p
  | 0, p, hp => by
    have hp : p < 10 := by simpa using hp
    refine ⟨0, by rw [dec_one p hp]; rfl, ?_⟩
    rw [dec_one p hp, padded, padded, Nat.mod_eq_of_lt hp]
    rfl
  | m + 1, p, hp => by
    by_cases c : p < 10
    · refine ⟨m + 1, by rw [dec_one p c]; rfl, ?_⟩
      rw [dec_one p c, padded, Nat.div_eq_of_lt c, padded_zero, Nat.mod_eq_of_lt c]
    · have hp' : p / 10 < 10 ^ (m + 1) := by
        rw [Nat.pow_succ] at hp
        omega
      obtain ⟨n, h1, h2⟩ := dec_pad m (p / 10) hp'
      refine ⟨n, by rw [dec_big p c, List.length_append]; simp only [List.length_cons, List.length_nil]; omega, ?_⟩
      rw [dec_big p c, ← List.append_assoc, h2]
      rfl

/-! The reference's loop -/
theorem digs_of (Q : Int) (out : List Int) (hl : out.length = 128) (h : ∀ j : Nat, j < 128 → rd out (j : Int) = dig Q j) : out = digs Q 128 := by
  refine List.ext_getElem (by rw [hl, digs_len]) fun i h1 h2 => ?_
  rw [← rd_nat out i h1, h i (by omega), ← rd_nat (digs Q 128) i h2, rd_digs Q 128 i (by omega)]
theorem no_bits (Q : Int) (h0 : 0 ≤ Q) (hQ : Q < 340282366920938463463374607431768211456) (h : ∀ i : Nat, i < 128 → dig Q i ≠ 1) : Q = 0 := by
  have key : ∀ n : Nat, n ≤ 128 → Q / 2 ^ (128 - n) = 0 := by
    intro n
    induction n with
    | zero =>
      intro _
      rw [show 128 - 0 = 128 from rfl, e128]
      omega
    | succ n ih =>
      intro hn
      have i1 := ih (by omega)
      have d := h (128 - (n + 1)) (by omega)
      have s := dsucc Q (128 - (n + 1))
      rw [show 128 - (n + 1) + 1 = 128 - n by omega, i1] at s
      have dr := dig_range Q (128 - (n + 1))
      unfold dig at d dr
      generalize Q / 2 ^ (128 - (n + 1)) = z at *
      omega
  simpa using key 128 (Nat.le_refl _)
theorem dig0 (j : Nat) : dig 0 j = 0 := by unfold dig; simp
def anyB (Q : Int) : Nat → Nat → Bool
  | 0, _ => false
  | n + 1, j => (dig Q j == 1) || anyB Q n (j + 1)
theorem anyB_zero : ∀ n j, anyB 0 n j = false
  | 0, _ => rfl
  | n + 1, j => by rw [anyB, dig0, anyB_zero n (j + 1)]; rfl
theorem anyB_none (Q : Int) : ∀ (n j : Nat), anyB Q n j = false → ∀ i, j ≤ i → i < j + n → dig Q i ≠ 1
  | 0, j, _, i, h1, h2 => by omega
  | n + 1, j, h, i, h1, h2 => by
    rw [anyB, Bool.or_eq_false_iff] at h
    rcases Nat.eq_or_lt_of_le h1 with h3 | h3
    · subst h3
      exact beq_eq_false_iff_ne.mp h.1
    · exact anyB_none Q n (j + 1) h.2 i h3 (by omega)
theorem l1_flag {Q : Int} {out : List Int} {a b : Int} {r : ByteArray} : ∀ (n j : Nat) (f : Bool), j + n = 128 →
    Evt (fun k => spec_WideText.l0 k (digs Q 128) out (f || anyB Q n j) a b) r → Evt (fun k => spec_WideText.l1 k (digs Q 128) out f (j : Int) a b) r
  | 0, j, f, hj, h => by
    rw [anyB, Bool.or_false] at h
    refine Evt.step h fun k => ?_
    simp only [spec_WideText.l1]
    rw [if_neg (by omega)]
  | n + 1, j, f, hj, h => by
    have ew : wrap64 ((j : Int) + 1) = ((j + 1 : Nat) : Int) := by rw [w64 (by omega) (by omega)]; omega
    cases f with
    | true =>
      rw [Bool.true_or] at h
      have ih := l1_flag (Q := Q) (out := out) (a := a) (b := b) (r := r) n (j + 1) true (by omega) (by rw [Bool.true_or]; exact h)
      refine Evt.step ih fun k => ?_
      simp only [spec_WideText.l1]
      rw [if_pos (by omega), if_pos trivial, ew]
    | false =>
      rw [Bool.false_or, anyB, ← rd_digs Q 128 j (by omega)] at h
      have ih := l1_flag (Q := Q) (out := out) (a := a) (b := b) (r := r) n (j + 1) ((rd (digs Q 128) (j : Int)) == 1) (by omega) h
      refine Evt.step ih fun k => ?_
      simp only [spec_WideText.l1, Bool.false_eq_true, if_false]
      rw [if_pos (by omega), if_pos (by omega), if_pos (by rw [digs_len]; omega), ew]
def sign (a : Int) (l : List UInt8) : List UInt8 := if a < 0 then 45 :: l else l
theorem spec_loop (a b : Int) : ∀ (m : Nat) (V : Int) (out : List UInt8), 0 ≤ V → V < 340282366920938463463374607431768211456 → V < 10 ^ (m + 1) → out.length + m ≤ 1000 →
    Evt (fun k => spec_WideText.l0 k (digs V 128) (ints out) true a b) (ba (sign a (dd10 V.toNat ++ out)))
  | m, V, out, h0, hV, hm, hl => by
    obtain ⟨o, ho1, ho2, ho3⟩ := divide_ev V 10 h0 hV (by decide) (by decide)
    rw [digs_of (V / 10) o ho1 ho2] at ho3
    have q0 : 0 ≤ V / 10 := by omega
    have hy := byte_dig (V % 10) (by omega) (by omega)
    have hil : ∀ l, (ints l).length = l.length := fun l => by simp [ints]
    have happ : ints [UInt8.ofNat (48 + (V % 10).toNat)] ++ ints out = ints (UInt8.ofNat (48 + (V % 10).toNat) :: out) := by simp [ints]
    refine Evt.step (g := fun k => (spec_l02Divide.f k (digs V 128) 10).bind fun bt141 => ((some (([(wrap64 (48 + bt141.2)) % 256] : List Int) : List Int)).bind fun y145 => (if y145.length + (ints out).length < 140737488355328 then (spec_WideText.l1 k bt141.1 (y145 ++ ints out) false 0 a b) else (none)))) ?_ fun k => by
      simp only [spec_WideText.l0, if_true]
    refine Evt.bind ho3 ?_
    refine Evt.congr (g := fun k => spec_WideText.l1 k (digs (V / 10) 128) (ints (UInt8.ofNat (48 + (V % 10).toNat) :: out)) false ((0 : Nat) : Int) a b) ?_ fun k => by
      simp only [Option.bind_some]
      rw [hy, if_pos (by rw [hil, hil]; simp only [List.length_cons, List.length_nil]; omega), happ]
      rfl
    refine l1_flag 128 0 false rfl ?_
    by_cases c : V / 10 = 0
    · have e : anyB (V / 10) 128 0 = false := by rw [c]; exact anyB_zero _ _
      rw [e, Bool.or_false]
      have hd : dd10 V.toNat ++ out = UInt8.ofNat (48 + (V % 10).toNat) :: out := by
        rw [dec_one _ (by omega), show (V % 10).toNat = V.toNat by omega]
        rfl
      rw [hd]
      refine Evt.done fun k => ?_
      simp only [spec_WideText.l0, Bool.false_eq_true, if_false]
      unfold sign
      by_cases ca : a < 0
      · rw [if_pos ca, if_pos ca]
        simp only [Option.bind_some]
        rw [if_pos (by rw [hil]; simp only [List.length_cons, List.length_nil]; omega)]
        rw [← str_ints]
        congr 1
      · rw [if_neg ca, if_neg ca, str_ints]
    · have e : anyB (V / 10) 128 0 = true := by
        cases d : anyB (V / 10) 128 0 with
        | true => rfl
        | false => exact absurd (no_bits (V / 10) q0 (by omega) fun i hi => anyB_none _ _ _ d i (Nat.zero_le _) (by omega)) c
      rw [e, Bool.or_true]
      obtain ⟨m', rfl⟩ : ∃ m', m = m' + 1 := by
        cases m with
        | zero => exfalso; have : V < 10 := by simpa using hm
                  omega
        | succ m' => exact ⟨m', rfl⟩
      have hlt : V / 10 < 10 ^ (m' + 1) := by
        rw [Int.pow_succ] at hm
        generalize (10 : Int) ^ (m' + 1) = P at *
        omega
      have ih := spec_loop a b m' (V / 10) (UInt8.ofNat (48 + (V % 10).toNat) :: out) q0 (by omega) hlt (by simp only [List.length_cons]; omega)
      have hd : dd10 V.toNat ++ out = dd10 (V / 10).toNat ++ (UInt8.ofNat (48 + (V % 10).toNat) :: out) := by
        rw [dec_big V.toNat (by omega), List.append_assoc, show (V / 10).toNat = V.toNat / 10 by omega, show (V % 10).toNat = V.toNat % 10 by omega]
        rfl
      rw [hd]
      exact ih
  termination_by m => m
def mag (A : Int) : Int := if 0 ≤ A then A else -A
theorem wh_neg (A : Int) (hA : -170141183460469231731687303715884105728 ≤ A ∧ A < 170141183460469231731687303715884105728) : wh A < 0 ↔ A < 0 := by unfold wh wrap64; omega
theorem e39 : (340282366920938463463374607431768211456 : Int) < 10 ^ (38 + 1) := by decide +kernel
theorem spec_text (A : Int) (hA : -170141183460469231731687303715884105728 ≤ A ∧ A < 170141183460469231731687303715884105728) :
    Evt (fun k => spec_WideText.f k (wh A) (wl A)) (ba (sign (wh A) (dd10 (mag A).toNat))) := by
  have hlast := spec_loop (wh A) (wl A) 38 (mag A) [] (by unfold mag; split <;> omega) (by unfold mag; split <;> omega) (by have := e39; unfold mag; split <;> omega) (by decide)
  rw [List.append_nil] at hlast
  have hj : Evt (fun k => spec_WideText.j0 k (digs (mag A) 128) (wh A) (wl A)) (ba (sign (wh A) (dd10 (mag A).toNat))) := Evt.step hlast fun k => by simp only [spec_WideText.j0]; rfl
  by_cases c : A < 0
  · have hm : mag A = -A := by unfold mag; rw [if_neg (by omega)]
    have hb := bits_ev (-A) (by omega) (by omega)
    -- the number's own bits are looked at first
    obtain ⟨own, hown⟩ : ∃ own, Evt (fun k => spec_l02Bits.f k (wh A) (wl A)) own := by
      have := bits_ev (A + 340282366920938463463374607431768211456) (by omega) (by omega)
      rw [show wh (A + 340282366920938463463374607431768211456) = wh A by unfold wh wrap64; omega, show wl (A + 340282366920938463463374607431768211456) = wl A by unfold wl; omega] at this
      exact ⟨_, this⟩
    refine Evt.bind hown ?_
    refine Evt.congr (g := fun k => (spec_l02Bits.f k (wh (-A)) (wl (-A))).bind fun t129 => spec_WideText.j0 k t129 (wh A) (wl A)) ?_ fun k => by
      rw [if_pos ((wh_neg A hA).mpr c), spec_neg_wide]
      rfl
    refine Evt.bind hb ?_
    rw [hm] at hj ⊢
    exact hj
  · have hm : mag A = A := by unfold mag; rw [if_pos (by omega)]
    have hb := bits_ev A (by omega) (by omega)
    refine Evt.bind hb ?_
    refine Evt.congr (g := fun k => spec_WideText.j0 k (digs A 128) (wh A) (wl A)) ?_ fun k => by
      rw [if_neg (fun g => c ((wh_neg A hA).mp g))]
    rw [hm] at hj ⊢
    exact hj

/-! The words of an expression -/
theorem spec_num (n : Int) (h : -9223372036854775808 ≤ n ∧ n ≤ 9223372036854775807) : Evt (fun k => spec_l03Num.f k n) (ba (Lib.itoa n)) := by
  have e : sign (wh n) (dd10 (mag n).toNat) = Lib.itoa n := by
    unfold sign mag Lib.itoa dd10
    have hs : wh n < 0 ↔ n < 0 := wh_neg n (by omega)
    by_cases c : n < 0
    · rw [if_pos (hs.mpr c), if_pos c, if_neg (by omega)]
      congr 2
      omega
    · rw [if_neg (fun g => c (hs.mp g)), if_neg c, if_pos (by omega)]
  have ht := spec_text n (by omega)
  rw [e] at ht
  refine Evt.congr (g := fun k => (spec_WideText.f k (wh n) (wl n)).bind fun t168 => some t168) (Evt.bind ht (Evt.const _)) fun k => ?_
  unfold spec_l03Num.f
  rw [spec_of_wide n h]
  rfl
def signsL : List (List UInt8) := [[], [107, 101, 121], [118, 97, 108], [116, 105, 109, 101], [43], [45], [42], [47], [60], [61], [38], [33]]
theorem spec_signs : spec_l03Signs.f = some (signsL.map ba) := rfl
theorem ops_fields : strings_Fields.f (⟨#[107, 101, 121, 32, 118, 97, 108, 32, 116, 105, 109, 101, 32, 43, 32, 45, 32, 42, 32, 47, 32, 60, 32, 61, 32, 38, 32, 33]⟩ : ByteArray) = some (signsL.tail.map ba) := by kernel_rfl
def sg (op : Int) : List UInt8 := signsL.getD op.toNat []
def good (t : S52) : Prop := (0 ≤ t.f0 ∧ t.f0 ≤ 11) ∧ (-9223372036854775808 ≤ t.f1 ∧ t.f1 ≤ 9223372036854775807)
def word (t : S52) : List UInt8 := if t.f0 = 0 then Lib.itoa t.f1 else sg t.f0
theorem rd_ba (L : List (List UInt8)) (i : Int) : rdOf ByteArray.empty (L.map ba) i = ba (L.getD i.toNat []) := by
  unfold rdOf
  simp only [List.getD_eq_getElem?_getD, List.getElem?_map]
  cases L[i.toNat]? <;> rfl
theorem op_cases (op : Int) (h : 1 ≤ op ∧ op ≤ 11) : signsL.tail.getD (op - 1).toNat [] = sg op := by
  obtain ⟨n, rfl⟩ : ∃ n : Nat, op = (n : Int) + 1 := ⟨(op - 1).toNat, by omega⟩
  rw [show ((n : Int) + 1 - 1).toNat = n by omega]
  unfold sg
  rw [show ((n : Int) + 1).toNat = n + 1 by omega]
  rfl
theorem sg_len (op : Int) : (sg op).length ≤ 21 := by
  unfold sg
  have : ∀ x ∈ signsL, x.length ≤ 21 := by decide
  rw [List.getD_eq_getElem?_getD]
  cases h : signsL[op.toNat]? with
  | none => simp
  | some x => exact this x (List.mem_of_getElem? h)
theorem word_len (t : S52) (h : good t) : (word t).length ≤ 21 := by
  unfold word
  split
  · exact Lib.itoa_length_le _ h.2.1 h.2.2
  · exact sg_len _
def jn (ws : List (List UInt8)) : List UInt8 := Lib.join ws [32]
theorem jn_snoc (ws : List (List UInt8)) (w : List UInt8) (h : ws ≠ []) : jn (ws ++ [w]) = jn ws ++ [32] ++ w := by
  cases ws with
  | nil => exact absurd rfl h
  | cons x r =>
    unfold jn
    rw [List.cons_append, Lib.join_cons, Lib.join_cons]
    simp [Lib.joinTail]
theorem jn_one (w : List UInt8) : jn [w] = w := Lib.join_one _ _
theorem snocInd {α : Type} {P : List α → Prop} (nil : P []) (snoc : ∀ l x, P l → P (l ++ [x])) (l : List α) : P l := by
  obtain ⟨m, hm⟩ : ∃ m, l.reverse = m := ⟨_, rfl⟩
  induction m generalizing l with
  | nil => rw [List.reverse_eq_nil_iff.1 hm]; exact nil
  | cons x r ih =>
    have : l = r.reverse ++ [x] := by rw [← List.reverse_reverse l, hm, List.reverse_cons]
    rw [this]
    exact snoc _ _ (ih r.reverse (List.reverse_reverse r))
theorem jn_len : ∀ (ws : List (List UInt8)), (∀ w ∈ ws, w.length ≤ 21) → (jn ws).length ≤ 22 * ws.length := by
  intro ws
  induction ws using snocInd with
  | nil => intro _; simp [jn, Lib.join_nil]
  | snoc ws w ih =>
    intro h
    have h1 := ih fun x hx => h x (by simp [hx])
    have h2 := h w (by simp)
    by_cases c : ws = []
    · subst c
      rw [List.nil_append, jn_one]
      simp only [List.length_cons, List.length_nil]
      omega
    · rw [jn_snoc ws w c]
      simp only [List.length_append, List.length_cons, List.length_nil]
      omega
/-- The text of the first i tokens. -/
def tx (l : List S52) (i : Nat) : List UInt8 := jn ((l.take i).map word)
theorem take_rd (l : List S52) (i : Nat) (hi : i < l.length) : l.take (i + 1) = l.take i ++ [rd_T52 l (i : Int)] := by
  rw [List.take_succ_eq_append_getElem hi]
  congr 2
  exact (getD_nat l _ i hi).symm
theorem tx_succ (l : List S52) (i : Nat) (hi : i < l.length) : tx l (i + 1) = (if 0 < i then tx l i ++ [32] else tx l i) ++ word (rd_T52 l (i : Int)) := by
  unfold tx
  rw [take_rd l i hi, List.map_append, List.map_cons, List.map_nil]
  by_cases c : 0 < i
  · rw [if_pos c, jn_snoc _ _ (by
      intro h
      have : ((l.take i).map word).length = 0 := by rw [h]; rfl
      rw [List.length_map, List.length_take] at this
      omega)]
  · obtain rfl : i = 0 := by omega
    rw [if_neg c]
    simp [jn, Lib.join_one, Lib.join_nil]
theorem tx_len (l : List S52) (i : Nat) (hg : ∀ i, i < l.length → good (rd_T52 l (i : Int))) (hi : i ≤ l.length) (hl : l.length ≤ 20) : (tx l i).length ≤ 440 := by
  unfold tx
  have := jn_len ((l.take i).map word) (fun w hw => by
    obtain ⟨t, ht, rfl⟩ := List.mem_map.1 hw
    obtain ⟨j, hj, rfl⟩ := List.getElem_of_mem (List.mem_of_mem_take ht)
    have := hg j hj
    rw [show rd_T52 l (j : Int) = l[j] from getD_nat l _ j hj] at this
    exact word_len _ this)
  rw [List.length_map, List.length_take] at this
  omega
theorem depF_ops : ∀ (l : List S52) (n m : Int), depF l n m ≠ -1 → ∀ x ∈ l, 0 ≤ x.f0 ∧ x.f0 ≤ 11
  | [], _, _, _, x, hx => by simp at hx
  | y :: r, n, m, h, x, hx => by
    unfold depF at h
    by_cases c : bad y n
    · rw [if_pos c] at h; exact absurd rfl h
    · rw [if_neg c] at h
      rcases List.mem_cons.1 hx with rfl | hx
      · unfold bad at c; omega
      · exact depF_ops r _ _ h x hx
theorem dep_ops (l : List S52) (h : dep l ≠ -1) : l.length ≤ 20 ∧ ∀ x ∈ l, 0 ≤ x.f0 ∧ x.f0 ≤ 11 := by
  unfold dep at h
  by_cases c : 1 ≤ l.length ∧ l.length ≤ 20
  · rw [if_pos c] at h
    exact ⟨c.2, depF_ops l 0 0 h⟩
  · rw [if_neg c] at h; exact absurd rfl h
theorem ok_spec (l : List S52) (hl : l.length ≤ 1048576) : Evt (fun k => spec_ExprOk.f k l) (decide (dep l ≥ 0)) := ⟨l.length + 2, fun k hk => by
  show spec_ExprOk.f k l = _
  unfold spec_ExprOk.f
  rw [spec_dep l k (by omega) hl]
  rfl⟩
theorem ok_impl (l : List S52) (hl : l.length ≤ 1048576) : Evt (fun k => impl_isExpr.f k l) (decide (dep l > 0)) := ⟨l.length + 1, fun k hk => by
  show impl_isExpr.f k l = _
  unfold impl_isExpr.f
  rw [impl_dep l k (by omega) hl]
  rfl⟩
theorem app_ba (l w : List UInt8) : (ba l ++ ba w).size = l.length + w.length := by rw [ba_app, ba_size, List.length_append]
theorem spec_tx (l : List S52) (hok : 1 ≤ dep l) (hl : l.length ≤ 20) (hg : ∀ i, i < l.length → good (rd_T52 l (i : Int))) : ∀ (d i : Nat), i + d = l.length →
    Evt (fun k => spec_ExprText.l0 k l (ba (tx l i)) (i : Int)) (ba (tx l l.length))
  | 0, i, hi => by
    have hs := ok_spec l (by omega)
    rw [decide_eq_true (show dep l ≥ 0 by omega)] at hs
    refine Evt.step (g := fun k => (spec_ExprOk.f k l).bind fun t172 => (if t172 = true then (spec_ExprText.j1 k l (ba (tx l i)) (i : Int) (decide ((i : Int) < (l.length : Int)))) else (spec_ExprText.j1 k l (ba (tx l i)) (i : Int) false))) ?_ fun k => by simp only [spec_ExprText.l0]
    refine Evt.bind hs ?_
    refine Evt.done fun k => ?_
    rw [if_pos rfl, decide_eq_false (by omega)]
    simp only [spec_ExprText.j1, Bool.false_eq_true, if_false]
    rw [show i = l.length by omega]
  | d + 1, i, hi => by
    have hs := ok_spec l (by omega)
    rw [decide_eq_true (show dep l ≥ 0 by omega)] at hs
    have ih := spec_tx l hok hl hg d (i + 1) (by omega)
    have hil : i < l.length := by omega
    have hgi := hg i hil
    have htl := tx_len l i hg (by omega) hl
    have hwl := word_len _ hgi
    have hsucc := tx_succ l i hil
    obtain ⟨t, ht⟩ : ∃ t, rd_T52 l (i : Int) = t := ⟨_, rfl⟩
    rw [ht] at hgi hwl hsucc
    have g0 : 0 ≤ t.f0 ∧ t.f0 ≤ 11 := hgi.1
    have ew : wrap64 ((i : Int) + 1) = ((i + 1 : Nat) : Int) := by rw [w64 (by omega) (by omega)]; omega
    refine Evt.step (g := fun k => (spec_ExprOk.f k l).bind fun t172 => (if t172 = true then (spec_ExprText.j1 k l (ba (tx l i)) (i : Int) (decide ((i : Int) < (l.length : Int)))) else (spec_ExprText.j1 k l (ba (tx l i)) (i : Int) false))) ?_ fun k => by simp only [spec_ExprText.l0]
    refine Evt.bind hs ?_
    have key : Evt (fun k => spec_ExprText.j2 k l (ba (if 0 < i then tx l i ++ [32] else tx l i)) (i : Int)) (ba (tx l l.length)) := by
      obtain ⟨p, hp⟩ : ∃ p, (if 0 < i then tx l i ++ [32] else tx l i) = p := ⟨_, rfl⟩
      have hpl : p.length ≤ 441 := by
        rw [← hp]
        split
        · simp only [List.length_append, List.length_cons, List.length_nil]; omega
        · omega
      rw [hp] at hsucc ⊢
      by_cases c : t.f0 = 0
      · have hw : word t = Lib.itoa t.f1 := by unfold word; rw [if_pos c]
        refine Evt.step (g := fun k => (spec_l03Num.f k t.f1).bind fun t175 => (if (ba p).size + t175.size ≤ 9223372036854775807 then (spec_ExprText.l0 k l (ba p ++ t175) (wrap64 ((i : Int) + 1))) else (none))) ?_ fun k => by
          simp only [spec_ExprText.j2]
          rw [if_pos (by omega), if_pos (by omega), ht, if_pos c]
        refine Evt.bind (spec_num t.f1 hgi.2) ?_
        rw [← hw]
        refine Evt.congr ih fun k => ?_
        rw [if_pos (by rw [ba_size, ba_size]; omega), ew, ba_app, hsucc]
      · have hw : word t = sg t.f0 := by unfold word; rw [if_neg c]
        refine Evt.step ih fun k => ?_
        simp only [spec_ExprText.j2]
        rw [if_pos (by omega), if_pos (by omega), ht, if_neg c, spec_signs]
        simp only [Option.bind_some]
        have hlt : t.f0 < ((signsL.map ba).length : Int) := by rw [List.length_map, show signsL.length = 12 from rfl]; omega
        rw [if_pos hgi.1.1, if_pos hlt, rd_ba]
        have e : signsL.getD t.f0.toNat [] = word t := by rw [hw]; rfl
        rw [e, if_pos (by rw [ba_size, ba_size]; omega), ew, ba_app, hsucc]
    refine Evt.step (g := fun k => spec_ExprText.j2 k l (ba (if 0 < i then tx l i ++ [32] else tx l i)) (i : Int)) key fun k => ?_
    rw [if_pos rfl, decide_eq_true (by omega)]
    simp only [spec_ExprText.j1, if_true]
    by_cases c : 0 < i
    · rw [if_pos (by omega), if_pos (by rw [ba_size]; omega), if_pos c, show (ba (tx l i) ++ (⟨#[32]⟩ : ByteArray)) = ba (tx l i ++ [32]) from ba_app _ [32]]
    · rw [if_neg (by omega), if_neg c]
theorem impl_tx (l : List S52) (hl : l.length ≤ 20) (hg : ∀ i, i < l.length → good (rd_T52 l (i : Int))) : ∀ (d i : Nat), i + d = l.length →
    Evt (fun k => impl_exprText.l0 k (signsL.tail.map ba) (((l.take i).map word).map ba) l (l.length : Int) (i : Int)) (ba (tx l l.length))
  | 0, i, hi => by
    obtain rfl : i = l.length := by omega
    have htl := tx_len l l.length hg (Nat.le_refl _) hl
    refine Evt.done fun k => ?_
    simp only [impl_exprText.l0]
    rw [if_neg (by omega)]
    have e : (((l.take l.length).map word).map ba).map (·.data.toList) = (l.take l.length).map word := by
      rw [List.map_map]
      conv => rhs; rw [← List.map_id ((l.take l.length).map word)]
      refine List.map_congr_left fun b _ => ?_
      simp [ba]
    have ej : strings_Join.f (((l.take l.length).map word).map ba) (⟨#[32]⟩ : ByteArray) = some (ba (tx l l.length)) := by
      unfold strings_Join.f
      rw [e]
      have : Lib.join ((l.take l.length).map word) ((⟨#[32]⟩ : ByteArray).data.toList) = tx l l.length := rfl
      rw [this, if_pos ⟨by simp; omega, by omega⟩]
      rfl
    rw [ej]
    rfl
  | d + 1, i, hi => by
    have ih := impl_tx l hl hg d (i + 1) (by omega)
    have hil : i < l.length := by omega
    have hgi := hg i hil
    have hr := take_rd l i hil
    obtain ⟨t, ht⟩ : ∃ t, rd_T52 l (i : Int) = t := ⟨_, rfl⟩
    rw [ht] at hgi hr
    have g0 : 0 ≤ t.f0 ∧ t.f0 ≤ 11 := hgi.1
    have ew : wrap64 ((i : Int) + 1) = ((i + 1 : Nat) : Int) := by rw [w64 (by omega) (by omega)]; omega
    rw [hr, List.map_append, List.map_append, List.map_cons, List.map_nil, List.map_cons, List.map_nil] at ih
    refine Evt.step ih fun k => ?_
    simp only [impl_exprText.l0]
    have hlen : (((l.take i).map word).map ba).length < 8796093022208 := by simp; omega
    rw [if_pos (by omega), if_pos (by omega), if_pos (by omega), ht]
    by_cases c : t.f0 = 0
    · have hw : word t = Lib.itoa t.f1 := by unfold word; rw [if_pos c]
      have hi : strconv_Itoa.f t.f1 = some (ba (word t)) := by
        unfold strconv_Itoa.f
        rw [if_pos hgi.2, hw]
        rfl
      rw [if_pos c, hi]
      simp only [Option.bind_some]
      rw [if_pos hlen, ew]
    · have hw : word t = sg t.f0 := by unfold word; rw [if_neg c]
      have e1 : wrap64 (t.f0 - 1) = t.f0 - 1 := w64 (by omega) (by omega)
      have hlt : t.f0 - 1 < ((signsL.tail.map ba).length : Int) := by rw [List.length_map, show signsL.tail.length = 11 from rfl]; omega
      rw [if_neg c, e1, if_pos (by omega), if_pos hlt, if_pos hlen, rd_ba, op_cases t.f0 (by omega), ← hw, ew]
def patTok (a : Int) (n : Nat) : List S52 := (List.range n).map (fun j : Nat => (⟨(a + 2 * (j : Int)), (a + 2 * (j : Int)) + 1⟩ : S52))
theorem markTokS_step (xs : List S52) (z : Int) (i k : Nat) (hi : i < xs.length) (h0 : 0 ≤ z) (hz : z ≤ 1152921504606846976) (hl : xs.length ≤ 1152921504606846976) :
    laws_markTokS.l0 (k + 1) xs z (i : Int) = laws_markTokS.l0 k (xs.set i (⟨z, z + 1⟩ : S52)) (z + 2) ((i + 1 : Nat) : Int) := by
  have v1 : wrap64 (z + 1) = z + 1 := (w64 (by omega) (by omega)).trans (by omega)
  have v2 : wrap64 (z + 1 + 1) = z + 2 := (w64 (by omega) (by omega)).trans (by omega)
  have vi : wrap64 ((i : Int) + 1) = ((i + 1 : Nat) : Int) := (w64 (by omega) (by omega)).trans (by omega)
  simp only [laws_markTokS.l0, Option.bind_some]
  rw [if_pos (by omega), if_pos (by omega)]
  simp only [v1, v2, vi, rd_T52, Int.toNat_natCast, List.set_set, List.getD_eq_getElem?_getD, List.getElem?_set_self hi, Option.getD_some]
theorem markTokS_eq (l : List S52) (a : Int) (k : Nat) (hk : l.length < k) (h0 : 0 ≤ a) (ha : a ≤ 1000) (hb : l.length ≤ 4611686018427) : laws_markTokS.f k l a = some (a + 2 * l.length, patTok a l.length) := by
  unfold laws_markTokS.f
  refine up_loop0 (fun k (s : List S52 × Int) i => laws_markTokS.l0 k s.1 s.2 (i : Int)) l.length (fun i s => s.1.length = l.length ∧ s.1.take i = ((List.range l.length).take i).map (fun j : Nat => (⟨(a + 2 * (j : Int)), (a + 2 * (j : Int)) + 1⟩ : S52)) ∧ s.2 = a + 2 * (i : Int)) (fun r => r = some (a + 2 * l.length, patTok a l.length)) ?_ ?_ k (l, a) ?_ hk
  · rintro k ⟨xs, z⟩ i hi ⟨h1, h2, h3⟩
    simp only at h1 h2 h3
    left
    have hi' : i < (List.range l.length).length := by simpa using hi
    obtain ⟨h4, h5⟩ := copied_step (fun j : Nat => (⟨(a + 2 * (j : Int)), (a + 2 * (j : Int)) + 1⟩ : S52)) (List.range l.length) xs i hi' (by simpa using h1) h2
    refine ⟨(_, z + 2), ⟨?_, ?_, ?_⟩, markTokS_step xs z i k (by omega) (by omega) (by omega) (by omega)⟩
    · simp only [List.length_set]
      exact h1
    · rw [List.getElem_range] at h5
      subst h3
      exact h5
    · simp only [h3]
      omega
  · rintro k ⟨xs, z⟩ ⟨h1, h2, h3⟩
    simp only at h1 h2 h3
    simp only [laws_markTokS.l0]
    rw [if_neg (by omega)]
    have h4 := copied_end (fun j : Nat => (⟨(a + 2 * (j : Int)), (a + 2 * (j : Int)) + 1⟩ : S52)) (List.range l.length) xs (by simpa using h1) (by simpa using h2)
    rw [h3, h4]
    rfl
  · exact ⟨rfl, by simp, by simp⟩
theorem heldTokS_step (a : Int) (n i k : Nat) (hi : i < n) (h0 : 0 ≤ a) (ha : a ≤ 1000) (hl : n ≤ 4611686018427) :
    laws_heldTokS.l0 (k + 1) (patTok a n) (a + 2 * (i : Int)) (i : Int) = laws_heldTokS.l0 k (patTok a n) (a + 2 * ((i + 1 : Nat) : Int)) ((i + 1 : Nat) : Int) := by
  have hlen : (patTok a n).length = n := by simp [patTok]
  have vi : wrap64 ((i : Int) + 1) = ((i + 1 : Nat) : Int) := (w64 (by omega) (by omega)).trans (by omega)
  have e : rd_T52 (patTok a n) (i : Int) = (fun j : Nat => (⟨(a + 2 * (j : Int)), (a + 2 * (j : Int)) + 1⟩ : S52)) i := by
    unfold rd_T52
    rw [getD_nat _ _ i (by omega)]
    simp only [patTok, List.getElem_map, List.getElem_range]
  have hz : ((a + 2 * ((i + 1 : Nat) : Int)) : Int) = a + 2 * (i : Int) + 2 := by omega
  rw [hz]
  generalize hzz : a + 2 * (i : Int) = z at *
  have hz0 : 0 ≤ z := by omega
  have hz1 : z ≤ 1152921504606846976 := by omega
  have v1 : wrap64 (z + 1) = z + 1 := (w64 (by omega) (by omega)).trans (by omega)
  have v2 : wrap64 (z + 1 + 1) = z + 2 := (w64 (by omega) (by omega)).trans (by omega)
  simp only [laws_heldTokS.l0]
  rw [if_pos (by omega), if_pos (by omega), e]
  simp only [v1, v2, vi, bne_self_eq_false, Bool.false_eq_true, if_true, if_false, hzz]
theorem heldTokS_eq (a : Int) (n k : Nat) (hk : n < k) (h0 : 0 ≤ a) (ha : a ≤ 1000) (hl : n ≤ 4611686018427) : laws_heldTokS.f k (patTok a n) a = some (a + 2 * n) := by
  unfold laws_heldTokS.f
  have hlen : (patTok a n).length = n := by simp [patTok]
  refine up_loop0 (fun k (s : Int) i => laws_heldTokS.l0 k (patTok a n) s (i : Int)) n (fun i s => s = a + 2 * (i : Int)) (fun r => r = some (a + 2 * n)) ?_ ?_ k a ?_ hk
  · rintro k s i hi rfl
    left
    exact ⟨_, rfl, heldTokS_step a n i k hi h0 ha hl⟩
  · rintro k s rfl
    simp only [laws_heldTokS.l0]
    rw [if_neg (by omega)]
  · simp

/-! Cutting at spaces -/
theorem ba_inj (a b : List UInt8) : ((ba a).toList = (ba b).toList) ↔ a = b := by
  rw [ByteArray.toList_eq, ByteArray.toList_eq]
  exact ⟨fun h => h, fun h => h⟩
theorem ba_data (s : ByteArray) : ba s.data.toList = s := by
  cases s
  rfl
def cut : List UInt8 → List (List UInt8)
  | [] => [[]]
  | b :: r => if b = 32 then [] :: cut r else (match cut r with
    | [] => [[b]]
    | x :: xs => (b :: x) :: xs)
theorem cut_ne : ∀ s, cut s ≠ []
  | [] => by simp [cut]
  | b :: r => by
    unfold cut
    split
    · simp
    · cases cut r <;> simp
theorem cut_len : ∀ (s : List UInt8), (cut s).length ≤ s.length + 1 ∧ ∀ w ∈ cut s, w.length ≤ s.length
  | [] => by simp [cut]
  | b :: r => by
    obtain ⟨h1, h2⟩ := cut_len r
    unfold cut
    by_cases c : b = 32
    · rw [if_pos c]
      refine ⟨by simp only [List.length_cons]; omega, fun w hw => ?_⟩
      rcases List.mem_cons.1 hw with rfl | hw
      · simp
      · have := h2 w hw
        simp only [List.length_cons]; omega
    · rw [if_neg c]
      cases e : cut r with
      | nil => exact absurd e (cut_ne r)
      | cons x xs =>
        rw [e] at h1 h2
        simp only [List.length_cons] at h1 ⊢
        refine ⟨by omega, fun w hw => ?_⟩
        rcases List.mem_cons.1 hw with rfl | hw
        · have := h2 x (by simp)
          simp only [List.length_cons]; omega
        · have := h2 w (by simp [hw])
          omega
def glue (cur : List UInt8) : List (List UInt8) → List (List UInt8)
  | [] => [cur]
  | x :: xs => (cur ++ x) :: xs
theorem glue_nil (s : List UInt8) : glue [] (cut s) = cut s := by
  cases e : cut s with
  | nil => exact absurd e (cut_ne s)
  | cons x xs => rfl
theorem glue_sp (cur r : List UInt8) : glue cur (cut (32 :: r)) = cur :: cut r := by
  rw [cut, if_pos rfl]
  simp [glue]
theorem glue_no (cur r : List UInt8) (b : UInt8) (h : b ≠ 32) : glue cur (cut (b :: r)) = glue (cur ++ [b]) (cut r) := by
  rw [cut, if_neg h]
  cases e : cut r with
  | nil => exact absurd e (cut_ne r)
  | cons x xs => simp [glue]
theorem cut_glue : ∀ (p : List UInt8) (r : List UInt8), (∀ b ∈ p, b ≠ 32) → cut (p ++ r) = glue p (cut r)
  | [], r, _ => (glue_nil r).symm
  | b :: p, r, h => by
    rw [List.cons_append, cut, if_neg (h b (by simp)), cut_glue p r fun x hx => h x (by simp [hx])]
    cases e : cut r with
    | nil => exact absurd e (cut_ne r)
    | cons x xs => simp [glue]
theorem cut_one (p : List UInt8) (h : ∀ b ∈ p, b ≠ 32) : cut p = [p] := by
  have := cut_glue p [] h
  rw [List.append_nil] at this
  rw [this]
  simp [cut, glue]
theorem cut_jn : ∀ (ws : List (List UInt8)), ws ≠ [] → (∀ w ∈ ws, ∀ b ∈ w, b ≠ 32) → cut (jn ws) = ws
  | [], h, _ => absurd rfl h
  | [w], _, h => by
    rw [jn_one]
    exact cut_one w (h w (by simp))
  | w :: v :: r, _, h => by
    have ih := cut_jn (v :: r) (by simp) fun x hx => h x (by simp [hx])
    have e : jn (w :: v :: r) = w ++ 32 :: jn (v :: r) := by
      unfold jn
      rw [Lib.join_cons, Lib.join_cons]
      simp [Lib.joinTail]
    rw [e, cut_glue w _ (h w (by simp)), cut, if_pos rfl, ih]
    simp [glue]
/-! .. and as the library splits -/
theorem index_sp_ne (b : UInt8) (r : List UInt8) (h : b ≠ 32) : Lib.index (b :: r) [32] = if Lib.index r [32] == -1 then -1 else Lib.index r [32] + 1 := by
  rw [Lib.index, if_neg (by simp; exact fun e => h e.symm)]
theorem index_sp_eq (r : List UInt8) : Lib.index (32 :: r) [32] = 0 := by
  rw [Lib.index, if_pos (by simp)]
theorem split_cut : ∀ (s : List UInt8), Lib.splitK [32] 0 (Lib.count s [32]) s = cut s
  | [] => rfl
  | b :: r => by
    have ih := split_cut r
    by_cases c : b = 32
    · subst c
      rw [Lib.count_cons_eq, Nat.add_comm, Lib.splitK, index_sp_eq, if_neg (by decide), cut, if_pos rfl]
      simpa using ih
    · rw [Lib.count_cons_ne b 32 r c, cut, if_neg c]
      have hge := Lib.index_ge r [32]
      cases hn : Lib.count r [32] with
      | zero =>
        rw [hn] at ih
        rw [Lib.splitK] at ih ⊢
        rw [← ih]
      | succ n =>
        rw [hn] at ih
        rw [Lib.splitK] at ih ⊢
        rw [index_sp_ne b r c]
        by_cases d : Lib.index r [32] = -1
        · rw [d, if_pos (by decide)] at ih
          rw [d, if_pos (by decide), ← ih]
        · have d1 : (Lib.index r [32] == -1) = false := beq_eq_false_iff_ne.mpr d
          rw [d1, if_neg (by decide)] at ih
          have d2 : ((Lib.index r [32] + 1) == (-1 : Int)) = false := beq_eq_false_iff_ne.mpr (by omega)
          rw [d1]
          simp only [Bool.false_eq_true, if_false]
          rw [d2]
          simp only [Bool.false_eq_true, if_false]
          have e : (Lib.index r [32] + 1).toNat = (Lib.index r [32]).toNat + 1 := by omega
          rw [← ih, e]
          simp
theorem split_ok (s : List UInt8) (h : s.length ≤ 1048577) : strings_Split.f (ba s) (⟨#[32]⟩ : ByteArray) = some ((cut s).map ba) := by
  unfold strings_Split.f
  rw [if_pos ⟨by rw [ba_size]; exact h, by decide⟩]
  congr 1
  have e := Lib.splitB_data (⟨#[32]⟩ : ByteArray) 0 (Lib.countB (ba s) ⟨#[32]⟩) (ba s)
  have e2 : Lib.splitK ((⟨#[32]⟩ : ByteArray).data.toList) 0 (Lib.countB (ba s) ⟨#[32]⟩) (ba s).data.toList = cut s := split_cut s
  rw [e2] at e
  rw [← e, List.map_map]
  conv => lhs; rw [← List.map_id (Lib.splitB _ _ _ _)]
  exact List.map_congr_left fun x _ => (ba_data x).symm
theorem bt_ba (s : List UInt8) (i : Nat) (h : i < s.length) : bt (ba s) (i : Int) = (s[i].toNat : Int) := by
  have := bt_at (ba s) (i : Int) (by rw [ba_size, Int.toNat_natCast]; exact h)
  rw [← this]
  rfl
theorem ext_ba (s : List UInt8) (a b : Nat) : (ba s).extract a b = ba ((s.drop a).take (b - a)) := by
  have := Lib.extract_data (ba s) a b
  rw [← ba_data ((ba s).extract a b), this]
  rfl
theorem spec_cut (s : List UInt8) (hs : s.length ≤ 1048577) : ∀ (d i f : Nat) (out : List (List UInt8)), i + d = s.length → f ≤ i → out.length ≤ i →
    Evt (fun k => spec_l03Cut.l0 k (ba s) 32 (out.map ba) (f : Int) (i : Int)) ((out ++ glue ((s.drop f).take (i - f)) (cut (s.drop i))).map ba)
  | 0, i, f, out, hi, hf, ho => by
    refine Evt.done fun k => ?_
    simp only [spec_l03Cut.l0]
    rw [if_neg (by rw [ba_size]; omega), if_pos (by omega), if_pos (by rw [ba_size]; omega), if_pos (by rw [List.length_map]; omega), List.drop_eq_nil_of_le (show s.length ≤ i by omega), Int.toNat_natCast, ba_size, ext_ba, show s.length = i by omega]
    simp [cut, glue]
  | d + 1, i, f, out, hi, hf, ho => by
    have hil : i < s.length := by omega
    have ew : wrap64 ((i : Int) + 1) = ((i + 1 : Nat) : Int) := by rw [w64 (by omega) (by omega)]; omega
    have hb := bt_ba s i hil
    have hd : s.drop i = s[i] :: s.drop (i + 1) := List.drop_eq_getElem_cons hil
    by_cases c : s[i] = 32
    · have ih := spec_cut s hs d (i + 1) (i + 1) (out ++ [(s.drop f).take (i - f)]) (by omega) (Nat.le_refl _) (by simp only [List.length_append, List.length_cons, List.length_nil]; omega)
      rw [Nat.sub_self, List.take_zero, glue_nil, List.append_assoc] at ih
      rw [hd, c, glue_sp]
      refine Evt.step ih fun k => ?_
      simp only [spec_l03Cut.l0]
      rw [if_pos (by rw [ba_size]; omega), if_pos (by omega), hb, c, if_pos (by decide), if_pos (by omega), if_pos (by omega), if_pos (by rw [ba_size]; omega), if_pos (by rw [List.length_map]; omega), ew, Int.toNat_natCast, Int.toNat_natCast, ext_ba, List.map_append]
      rfl
    · have ih := spec_cut s hs d (i + 1) f out (by omega) (by omega) (by omega)
      have hg : (s.drop f).take (i + 1 - f) = (s.drop f).take (i - f) ++ [s[i]] := by
        rw [show i + 1 - f = (i - f) + 1 by omega, List.take_succ_eq_append_getElem (by rw [List.length_drop]; omega)]
        congr 2
        rw [List.getElem_drop]
        congr 1
        omega
      rw [hg, ← glue_no _ _ _ c, ← hd] at ih
      refine Evt.step ih fun k => ?_
      simp only [spec_l03Cut.l0]
      rw [if_pos (by rw [ba_size]; omega), if_pos (by omega), hb, if_neg (by
        intro e
        apply c
        apply UInt8.toNat_inj.1
        have : s[i].toNat = 32 := by omega
        rw [this]
        rfl), ew]
theorem spec_cut_ev (s : List UInt8) (hs : s.length ≤ 1048577) : Evt (fun k => spec_l03Cut.f k (ba s) 32) ((cut s).map ba) := by
  have := spec_cut s hs s.length 0 0 [] (by omega) (Nat.le_refl _) (Nat.le_refl _)
  simp only [Nat.sub_self, List.take_zero, List.drop_zero, List.nil_append, glue_nil, List.map_nil] at this
  exact this
/-! The number that a text may be -/
def vstep (n : Int) (c : UInt8) : Int := if 48 ≤ (c.toNat : Int) ∧ (c.toNat : Int) ≤ 57 then wrap64 (wrap64 (10 * n) - (((c.toNat : Int) - 48) % 256)) else n
def vl (l : List UInt8) (n : Int) : Int := l.foldl vstep n
def valW (w : List UInt8) : Int := if w.head? = some 45 then vl (w.take 20) 0 else wrap64 (-(vl (w.take 20) 0))
theorem wrap_range (x : Int) : -9223372036854775808 ≤ wrap64 x ∧ wrap64 x ≤ 9223372036854775807 := by unfold wrap64; omega
theorem vl_range (l : List UInt8) : ∀ n : Int, (-9223372036854775808 ≤ n ∧ n ≤ 9223372036854775807) → -9223372036854775808 ≤ vl l n ∧ vl l n ≤ 9223372036854775807 := by
  induction l with
  | nil => intro n h; exact h
  | cons c r ih =>
    intro n h
    refine ih (vstep n c) ?_
    unfold vstep
    split
    · exact wrap_range _
    · exact h
theorem valW_range (w : List UInt8) : -9223372036854775808 ≤ valW w ∧ valW w ≤ 9223372036854775807 := by
  unfold valW
  split
  · exact vl_range _ 0 (by decide)
  · exact wrap_range _
theorem spec_val (w : List UInt8) (hw : w.length ≤ 1048577) : Evt (fun k => spec_l03Value.f k (ba w)) (valW w) := by
  have key : ∀ (d i : Nat) (n : Int), i + d = (w.take 20).length → Evt (fun k => spec_l03Value.l0 k (ba w) n (i : Int)) (if w.head? = some 45 then vl ((w.take 20).drop i) n else wrap64 (-(vl ((w.take 20).drop i) n))) := by
    intro d
    induction d with
    | zero =>
      intro i n hi
      rw [List.drop_eq_nil_of_le (by omega)]
      rw [List.length_take] at hi
      refine Evt.step (g := fun k => spec_l03Value.j1 k (ba w) n (i : Int) false) ?_ fun k => by
        simp only [spec_l03Value.l0]
        by_cases c : (i : Int) < ((ba w).size : Int)
        · rw [if_pos c, decide_eq_false (by rw [ba_size] at c; omega)]
        · rw [if_neg c]
      refine Evt.done fun k => ?_
      simp only [spec_l03Value.j1, Bool.false_eq_true, if_false]
      cases w with
      | nil => rw [if_neg (by rw [ba_size]; decide)]; rfl
      | cons c r =>
        have hb : bt (ba (c :: r)) 0 = (c.toNat : Int) := bt_ba (c :: r) 0 (by simp)
        rw [if_pos (by rw [ba_size]; simp only [List.length_cons]; omega), if_pos (by rw [ba_size]; simp only [List.length_cons]; omega), hb]
        simp only [List.head?_cons, Option.some.injEq]
        by_cases e : c = 45
        · subst e
          rw [if_pos (by decide), if_pos rfl]
          rfl
        · rw [if_neg (by
            intro g
            apply e
            apply UInt8.toNat_inj.1
            have : c.toNat = 45 := by omega
            rw [this]
            rfl), if_neg e]
          rfl
    | succ d ih =>
      intro i n hi
      have hil : i < (w.take 20).length := by omega
      have hdr : (w.take 20).drop i = (w.take 20)[i] :: (w.take 20).drop (i + 1) := List.drop_eq_getElem_cons hil
      rw [List.length_take] at hi
      have hiw : i < w.length := by omega
      have hb := bt_ba w i hiw
      have hg : (w.take 20)[i] = w[i] := List.getElem_take
      have ew : wrap64 ((i : Int) + 1) = ((i + 1 : Nat) : Int) := by rw [w64 (by omega) (by omega)]; omega
      have ih' := ih (i + 1) (vstep n w[i]) (by rw [List.length_take]; omega)
      rw [hdr, hg]
      have ev : vl (w[i] :: (w.take 20).drop (i + 1)) n = vl ((w.take 20).drop (i + 1)) (vstep n w[i]) := rfl
      rw [ev]
      refine Evt.step (g := fun k => spec_l03Value.j1 k (ba w) n (i : Int) true) ?_ fun k => by
        simp only [spec_l03Value.l0]
        rw [if_pos (by rw [ba_size]; omega), decide_eq_true (by omega)]
      refine Evt.step ih' fun k => ?_
      simp only [spec_l03Value.j1, if_true]
      rw [if_pos (by omega), if_pos (by rw [ba_size]; omega), hb, ew]
      unfold vstep
      by_cases c1 : 48 ≤ (w[i].toNat : Int)
      · rw [if_pos (show (w[i].toNat : Int) ≥ 48 from c1)]
        by_cases c2 : (w[i].toNat : Int) ≤ 57
        · rw [if_pos c2, if_pos ⟨c1, c2⟩]
        · rw [if_neg c2, if_neg fun g => c2 g.2]
      · rw [if_neg (show ¬ (w[i].toNat : Int) ≥ 48 from c1), if_neg fun g => c1 g.1]
  have := key (w.take 20).length 0 0 (by omega)
  rw [List.drop_zero] at this
  exact this
/-! The digits' own number -/
theorem digit_nat (d : Nat) (h : d < 10) : (UInt8.ofNat (48 + d)).toNat = 48 + d := by simp only [UInt8.toNat_ofNat']; omega
theorem vl_app (a b : List UInt8) (n : Int) : vl (a ++ b) n = vl b (vl a n) := by unfold vl; rw [List.foldl_append]
theorem vl_dec : ∀ (u : Nat), u ≤ 9223372036854775808 → vl (dd10 u) 0 = -(u : Int) := by
  intro u
  induction u using Nat.strongRecOn with
  | _ u ih =>
    intro hu
    by_cases c : u < 10
    · rw [dec_one u c]
      show vstep 0 (UInt8.ofNat (48 + u)) = _
      unfold vstep
      rw [digit_nat u c, if_pos ⟨by omega, by omega⟩, w64 (i := 10 * 0) (by omega) (by omega), w64 (by omega) (by omega)]
      omega
    · rw [dec_big u c, vl_app, ih (u / 10) (by omega) (by omega)]
      show vstep (-((u / 10 : Nat) : Int)) (UInt8.ofNat (48 + u % 10)) = _
      unfold vstep
      rw [digit_nat (u % 10) (by omega), if_pos ⟨by omega, by omega⟩, w64 (i := 10 * -((u / 10 : Nat) : Int)) (by omega) (by omega), w64 (by omega) (by omega)]
      omega
theorem dec_digits : ∀ (u : Nat), dd10 u ≠ [] ∧ ∀ b ∈ dd10 u, 48 ≤ b.toNat ∧ b.toNat ≤ 57 := by
  intro u
  induction u using Nat.strongRecOn with
  | _ u ih =>
    by_cases c : u < 10
    · rw [dec_one u c]
      refine ⟨by simp, fun b hb => ?_⟩
      rw [List.mem_singleton.1 hb, digit_nat u c]
      omega
    · rw [dec_big u c]
      refine ⟨by simp, fun b hb => ?_⟩
      rcases List.mem_append.1 hb with hb | hb
      · exact (ih (u / 10) (by omega)).2 b hb
      · rw [List.mem_singleton.1 hb, digit_nat (u % 10) (by omega)]
        omega
theorem dec_len19 (u : Nat) (h : u ≤ 9223372036854775808) : (dd10 u).length ≤ 19 := by
  rw [show dd10 u = Lib.decDigits u from rfl, Lib.decDigits_length]
  by_cases c : u < 10
  · rw [Lib.nDigits_small c]; omega
  · by_cases hk : 10 ^ 19 ≤ u
    · omega
    · have : ∀ (m : Nat) (v : Nat), v < 10 ^ (m + 1) → Lib.nDigits v ≤ m + 1 := by
        intro m
        induction m with
        | zero => intro v hv; rw [Lib.nDigits_small (by simpa using hv)]; omega
        | succ m ih =>
          intro v hv
          by_cases d : v < 10
          · rw [Lib.nDigits_small d]; omega
          · rw [Lib.nDigits_big d]
            have := ih (v / 10) (by rw [Nat.pow_succ] at hv; omega)
            omega
      exact this 18 u (by omega)
theorem parse_app : ∀ (l r : List UInt8) (a v : Nat), Lib.parseUint10 a l = .ok v → Lib.parseUint10 a (l ++ r) = Lib.parseUint10 v r
  | [], r, a, v, h => by
    simp only [Lib.parseUint10] at h
    injection h with h
    subst h
    rfl
  | c :: l, r, a, v, h => by
    rw [List.cons_append]
    simp only [Lib.parseUint10] at h ⊢
    split at h
    · rename_i c1
      rw [if_pos c1]
      split at h
      · cases h
      · rename_i c2
        rw [if_neg c2]
        split at h
        · cases h
        · rename_i c3
          rw [if_neg c3]
          exact parse_app l r _ v h
    · cases h
theorem parse_dec : ∀ (u : Nat), u ≤ 9223372036854775808 → Lib.parseUint10 0 (dd10 u) = .ok u := by
  intro u
  induction u using Nat.strongRecOn with
  | _ u ih =>
    intro hu
    by_cases c : u < 10
    · rw [dec_one u c]
      simp only [Lib.parseUint10]
      rw [digit_nat u c, if_pos ⟨by omega, by omega⟩, if_neg (by omega), if_neg (by omega)]
      congr 1
      omega
    · rw [dec_big u c, parse_app _ _ _ _ (ih (u / 10) (by omega) (by omega))]
      simp only [Lib.parseUint10]
      rw [digit_nat (u % 10) (by omega), if_pos ⟨by omega, by omega⟩, if_neg (by omega), if_neg (by omega)]
      congr 1
      omega
theorem atoi_itoa (a : Int) (h : -9223372036854775808 ≤ a ∧ a ≤ 9223372036854775807) : Lib.atoiAll (Lib.itoa a) = .ok a := by
  unfold Lib.itoa
  by_cases c : a < 0
  · rw [if_pos c]
    have hp := parse_dec a.natAbs (by omega)
    have hne := (dec_digits a.natAbs).1
    unfold Lib.atoiAll
    simp only
    rw [if_pos (Or.inr (by decide))]
    unfold Lib.parseMag
    rw [if_neg hne, show Lib.parseUint10 0 (Lib.decDigits a.natAbs) = .ok a.natAbs from hp]
    simp only
    rw [if_neg (by rintro ⟨g, _⟩; exact g (by decide)), if_neg (by omega), if_pos (by decide)]
    congr 1
    omega
  · rw [if_neg c]
    have hp := parse_dec a.toNat (by omega)
    obtain ⟨hne, hdg⟩ := dec_digits a.toNat
    cases hd : dd10 a.toNat with
    | nil => exact absurd hd hne
    | cons x r =>
      have hx := hdg x (by rw [hd]; simp)
      rw [hd] at hp
      rw [show Lib.decDigits a.toNat = x :: r from hd]
      unfold Lib.atoiAll
      simp only
      rw [if_neg (by omega)]
      unfold Lib.parseMag
      rw [if_neg (by simp), hp]
      simp only
      rw [if_neg (by omega), if_neg (by omega), if_neg (by omega)]
      congr 1
      omega
theorem val_itoa (a : Int) (h : -9223372036854775808 ≤ a ∧ a ≤ 9223372036854775807) : valW (Lib.itoa a) = a := by
  unfold Lib.itoa valW
  by_cases c : a < 0
  · have hl := dec_len19 a.natAbs (by omega)
    rw [if_pos c]
    simp only [List.head?_cons, if_true]
    rw [List.take_of_length_le (by simp only [List.length_cons]; exact Nat.succ_le_succ hl)]
    show vl (Lib.decDigits a.natAbs) (vstep 0 45) = a
    rw [show vstep 0 45 = 0 by decide, show Lib.decDigits a.natAbs = dd10 a.natAbs from rfl, vl_dec _ (by omega)]
    omega
  · have hl := dec_len19 a.toNat (by omega)
    obtain ⟨hne, hdg⟩ := dec_digits a.toNat
    rw [if_neg c, List.take_of_length_le (show (Lib.decDigits a.toNat).length ≤ 20 from by
      have : (Lib.decDigits a.toNat).length = (dd10 a.toNat).length := rfl
      omega)]
    have hh : (Lib.decDigits a.toNat).head? ≠ some 45 := by
      cases hd : dd10 a.toNat with
      | nil => exact absurd hd hne
      | cons x r =>
        have hx := hdg x (by rw [hd]; simp)
        rw [show Lib.decDigits a.toNat = x :: r from hd]
        simp only [List.head?_cons]
        intro e
        injection e with e
        subst e
        exact absurd hx.1 (by decide)
    rw [if_neg hh, show Lib.decDigits a.toNat = dd10 a.toNat from rfl, vl_dec _ (by omega), w64 (by omega) (by omega)]
    omega
theorem itoa_len20 (a : Int) (h : -9223372036854775808 ≤ a ∧ a ≤ 9223372036854775807) : (Lib.itoa a).length ≤ 20 := by
  unfold Lib.itoa
  split
  · have := dec_len19 a.natAbs (by omega)
    simp only [List.length_cons]
    exact Nat.succ_le_succ this
  · have := dec_len19 a.toNat (by omega)
    exact Nat.le_succ_of_le this
theorem itoa_free (a : Int) : ∀ b ∈ Lib.itoa a, b ≠ 32 := by
  intro b hb e
  subst e
  unfold Lib.itoa at hb
  split at hb
  · rcases List.mem_cons.1 hb with g | g
    · exact absurd g (by decide)
    · exact absurd ((dec_digits a.natAbs).2 32 g).1 (by decide)
  · exact absurd ((dec_digits a.toNat).2 32 hb).1 (by decide)
theorem sg_free (op : Int) : ∀ b ∈ sg op, b ≠ 32 := by
  unfold sg
  have : ∀ x ∈ signsL, ∀ b ∈ x, b ≠ 32 := by decide
  rw [List.getD_eq_getElem?_getD]
  cases h : signsL[op.toNat]? with
  | none => simp
  | some x => exact this x (List.mem_of_getElem? h)
theorem sg_len20 (op : Int) : (sg op).length ≤ 20 := by
  unfold sg
  have : ∀ x ∈ signsL, x.length ≤ 20 := by decide
  rw [List.getD_eq_getElem?_getD]
  cases h : signsL[op.toNat]? with
  | none => simp
  | some x => exact this x (List.mem_of_getElem? h)
theorem word_free (t : S52) : ∀ b ∈ word t, b ≠ 32 := by
  unfold word
  split
  · exact itoa_free _
  · exact sg_free _
theorem word_len20 (t : S52) (h : -9223372036854775808 ≤ t.f1 ∧ t.f1 ≤ 9223372036854775807) : (word t).length ≤ 20 := by
  unfold word
  split
  · exact itoa_len20 _ h
  · exact sg_len20 _
theorem jn_len20 : ∀ (ws : List (List UInt8)), (∀ w ∈ ws, w.length ≤ 20) → (jn ws).length ≤ 21 * ws.length := by
  intro ws
  induction ws using snocInd with
  | nil => intro _; simp [jn, Lib.join_nil]
  | snoc ws w ih =>
    intro h
    have h1 := ih fun x hx => h x (by simp [hx])
    have h2 := h w (by simp)
    by_cases c : ws = []
    · subst c
      rw [List.nil_append, jn_one]
      simp only [List.length_cons, List.length_nil]
      omega
    · rw [jn_snoc ws w c]
      simp only [List.length_append, List.length_cons, List.length_nil]
      omega
/-! The tokens of the words -/
/-- The last name from place k on that is the word; 'cur' where none is. -/
def lk (w : List UInt8) : List (List UInt8) → Int → Int → Int
  | [], _, cur => cur
  | x :: xs, k, cur => lk w xs (k + 1) (if x = w then k else cur)
def kind (w : List UInt8) : Int := lk w signsL.tail 1 0
def stok (w : List UInt8) : S52 := ⟨kind w, if kind w = 0 then valW w else 0⟩
def itoks : List (List UInt8) → Option (List S52)
  | [] => some []
  | w :: r => if kind w = 0 then (match Lib.atoiAll w with
    | .ok v => (itoks r).map fun T => (⟨0, v⟩ : S52) :: T
    | _ => none) else (itoks r).map fun T => (⟨kind w, 0⟩ : S52) :: T
theorem rd_list (l : List (List UInt8)) (i : Nat) (h : i < l.length) : rdOf ByteArray.empty (l.map ba) (i : Int) = ba l[i] := by
  rw [rd_ba, Int.toNat_natCast, List.getD_eq_getElem?_getD, List.getElem?_eq_getElem h]
  rfl
def finS (s : List UInt8) (X : List S52) : List S52 × Bool := if dep X ≥ 0 then (if tx X X.length = s then (X, true) else ([], false)) else ([], false)
theorem rd_in (X : List S52) (h : ∀ t ∈ X, -9223372036854775808 ≤ t.f1 ∧ t.f1 ≤ 9223372036854775807) (hd : dep X ≠ -1) : X.length ≤ 20 ∧ ∀ i, i < X.length → good (rd_T52 X (i : Int)) := by
  obtain ⟨h1, h2⟩ := dep_ops X hd
  refine ⟨h1, fun i hi => ?_⟩
  rw [show rd_T52 X (i : Int) = X[i] from getD_nat X _ i hi]
  exact ⟨h2 _ (List.getElem_mem hi), h _ (List.getElem_mem hi)⟩
theorem spec_end (s : List UInt8) (words : List (List UInt8)) (X : List S52) (hX : X.length ≤ 1048576) (hr : ∀ t ∈ X, -9223372036854775808 ≤ t.f1 ∧ t.f1 ≤ 9223372036854775807) (i : Nat) (hi : words.length ≤ i) :
    Evt (fun k => spec_ExprRead.l0 k (ba s) (words.map ba) X (i : Int)) (finS s X) := by
  have hs := ok_spec X hX
  refine Evt.step (g := fun k => (spec_ExprOk.f k X).bind fun t212 => (if t212 = true then ((spec_ExprText.f k X).bind fun t213 => (if t213.toList = (ba s).toList then (some (X, true)) else (some (([] : List (S52)), false)))) else (some (([] : List (S52)), false)))) ?_ fun k => by
    simp only [spec_ExprRead.l0]
    rw [if_neg (by rw [List.length_map]; omega)]
  refine Evt.bind hs ?_
  unfold finS
  by_cases c : dep X ≥ 0
  · rw [decide_eq_true c, if_pos c]
    have hd : 1 ≤ dep X := by rcases dep_pos X with h | h <;> omega
    obtain ⟨h20, hg⟩ := rd_in X hr (by omega)
    refine Evt.congr (g := fun k => (spec_ExprText.f k X).bind fun t213 => (if t213.toList = (ba s).toList then (some (X, true)) else (some (([] : List (S52)), false)))) ?_ fun k => if_pos rfl
    refine Evt.bind (spec_tx X hd h20 hg X.length 0 (by omega)) ?_
    refine (Evt.const _).congr fun k => ?_
    by_cases e : tx X X.length = s
    · rw [if_pos ((ba_inj _ _).mpr e), if_pos e]
    · rw [if_neg (fun g => e ((ba_inj _ _).mp g)), if_neg e]
  · rw [decide_eq_false c, if_neg c]
    exact (Evt.const _).congr fun k => if_neg (by decide)
theorem spec_names (s w : List UInt8) (words : List (List UInt8)) (X : List S52) (i : Nat) (hi : i < words.length) (hw : words[i] = w) (hl : words.length ≤ 2000000) (v : Int) {R : List S52 × Bool} :
    ∀ (d j : Nat) (c : Int), j + d = 12 → 1 ≤ j → (∀ C, C = lk w (signsL.drop j) (j : Int) c → X.length < 8796093022208 → Evt (fun k => spec_ExprRead.l0 k (ba s) (words.map ba) (X ++ [⟨C, if C = 0 then v else 0⟩]) ((i + 1 : Nat) : Int)) R) → X.length < 8796093022208 →
    Evt (fun k => spec_ExprRead.l1 k (ba s) (words.map ba) X (i : Int) (j : Int) c (if c = 0 then v else 0)) R
  | 0, j, c, hj, h1, h, hX => by
    have ew : wrap64 ((i : Int) + 1) = ((i + 1 : Nat) : Int) := by rw [w64 (by omega) (by omega)]; omega
    have e : lk w (signsL.drop j) (j : Int) c = c := by
      rw [List.drop_eq_nil_of_le (by rw [show signsL.length = 12 from rfl]; omega)]
      rfl
    refine Evt.step (h c e.symm hX) fun k => ?_
    simp only [spec_ExprRead.l1]
    rw [if_neg (by omega), if_pos hX, ew]
  | d + 1, j, c, hj, h1, h, hX => by
    have hj12 : j < signsL.length := by rw [show signsL.length = 12 from rfl]; omega
    have ew : wrap64 ((j : Int) + 1) = ((j + 1 : Nat) : Int) := by rw [w64 (by omega) (by omega)]; omega
    have hdr : signsL.drop j = signsL[j] :: signsL.drop (j + 1) := List.drop_eq_getElem_cons hj12
    have ih := spec_names s w words X i hi hw hl v (R := R) d (j + 1) (if signsL[j] = w then (j : Int) else c) (by omega) (by omega) (fun C hC hX' => h C (by
      rw [hdr, lk, hC]
      congr 1) hX') hX
    have hr1 := rd_list words i hi
    have hr2 := rd_list signsL j hj12
    rw [hw] at hr1
    refine Evt.step ih fun k => ?_
    simp only [spec_ExprRead.l1]
    rw [if_pos (by omega), if_pos (by omega), if_pos (by rw [List.length_map]; omega), spec_signs]
    simp only [Option.bind_some]
    rw [if_pos (by omega), if_pos (by rw [List.length_map, show signsL.length = 12 from rfl]; omega), hr1, hr2, ew]
    by_cases e : w = signsL[j]
    · rw [if_pos ((ba_inj _ _).mpr e), if_pos e.symm, if_neg (show ¬ ((j : Int) = 0) by omega)]
    · rw [if_neg (fun g => e ((ba_inj _ _).mp g)), if_neg (show ¬ signsL[j] = w from fun g => e g.symm)]
theorem spec_read (s : List UInt8) (words : List (List UInt8)) (hl : words.length ≤ 421) (hw : ∀ w ∈ words, w.length ≤ 1048577) : ∀ (d i : Nat) (X : List S52), i + d = words.length → X.length = i → (∀ t ∈ X, -9223372036854775808 ≤ t.f1 ∧ t.f1 ≤ 9223372036854775807) →
    Evt (fun k => spec_ExprRead.l0 k (ba s) (words.map ba) X (i : Int)) (finS s (X ++ (words.drop i).map stok))
  | 0, i, X, hi, hX, hr => by
    rw [List.drop_eq_nil_of_le (by omega), List.map_nil, List.append_nil]
    exact spec_end s words X (by omega) hr i (by omega)
  | d + 1, i, X, hi, hX, hr => by
    have hil : i < words.length := by omega
    obtain ⟨w, hwi⟩ : ∃ w, words[i] = w := ⟨_, rfl⟩
    have hwm : w ∈ words := hwi ▸ List.getElem_mem hil
    have hdr : words.drop i = w :: words.drop (i + 1) := by rw [List.drop_eq_getElem_cons hil, hwi]
    have hvr := valW_range w
    have ih := spec_read s words hl hw d (i + 1) (X ++ [stok w]) (by omega) (by simp only [List.length_append, List.length_cons, List.length_nil]; omega) (fun t ht => by
      rcases List.mem_append.1 ht with ht | ht
      · exact hr t ht
      · rw [List.mem_singleton.1 ht]
        unfold stok
        simp only
        split
        · exact hvr
        · decide)
    rw [List.append_assoc] at ih
    rw [hdr, List.map_cons]
    refine Evt.step (g := fun k => (spec_l03Value.f k (ba w)).bind fun t202 => (spec_ExprRead.l1 k (ba s) (words.map ba) X (i : Int) 1 0 t202)) ?_ fun k => by
      simp only [spec_ExprRead.l0]
      rw [if_pos (by rw [List.length_map]; omega), if_pos (by omega), rd_list words i hil, hwi]
    refine Evt.bind (spec_val w (hw w hwm)) ?_
    have := spec_names s w words X i hil hwi (by omega) (valW w) (R := finS s (X ++ (stok w :: (words.drop (i + 1)).map stok))) 11 1 0 (by omega) (by omega) (fun C hC _ => by
      have e : C = kind w := hC
      subst e
      exact ih) (by omega)
    exact this
theorem tail_drop (j : Nat) : signsL.tail.drop j = signsL.drop (j + 1) := by rw [← List.drop_one, List.drop_drop, Nat.add_comm]
/-! The program's loop -/
def finI (s : List UInt8) (X : List S52) : List S52 × Bool := if dep X > 0 then (if tx X X.length = s then (X, true) else ([], false)) else ([], false)
theorem ok_impl_long (l : List S52) (hl : l.length ≤ 4000000) : Evt (fun k => impl_isExpr.f k l) (decide (dep l > 0)) := by
  by_cases c : l.length ≤ 1048576
  · exact ok_impl l c
  · refine (Evt.const _).congr fun k => ?_
    unfold impl_isExpr.f impl_depth.f
    rw [in_le]
    have e : dep l = -1 := by unfold dep; rw [if_neg (by omega)]
    have e2 : (decide ((1 : Int) ≤ (l.length : Int)) && decide ((l.length : Int) ≤ 20)) = false := by rw [decide_eq_false (show ¬ (l.length : Int) ≤ 20 by omega), Bool.and_false]
    rw [e, e2]
    rfl
theorem impl_text_ev (X : List S52) (h20 : X.length ≤ 20) (hg : ∀ i, i < X.length → good (rd_T52 X (i : Int))) : Evt (fun k => impl_exprText.f k X) (ba (tx X X.length)) := by
  refine Evt.congr (impl_tx X h20 hg X.length 0 (by omega)) fun k => ?_
  unfold impl_exprText.f
  rw [ops_fields]
  rfl
theorem impl_end (s : List UInt8) (names : List ByteArray) (words : List (List UInt8)) (X : List S52) (hX : X.length ≤ 4000000) (hr : ∀ t ∈ X, -9223372036854775808 ≤ t.f1 ∧ t.f1 ≤ 9223372036854775807) (i : Nat) (hi : words.length ≤ i) :
    Evt (fun k => impl_readExpr.l0 k (ba s) names X (words.map ba) (words.length : Int) (i : Int)) (finI s X) := by
  have hs := ok_impl_long X hX
  refine Evt.step (g := fun k => (impl_isExpr.f k X).bind fun t262 => (if t262 = true then ((impl_exprText.f k X).bind fun t263 => (if t263.toList = (ba s).toList then (some (X, true)) else (some (([] : List (S52)), false)))) else (some (([] : List (S52)), false)))) ?_ fun k => by
    simp only [impl_readExpr.l0]
    rw [if_neg (by omega)]
  refine Evt.bind hs ?_
  unfold finI
  by_cases c : dep X > 0
  · rw [decide_eq_true c, if_pos c]
    obtain ⟨h20, hg⟩ := rd_in X hr (by omega)
    refine Evt.congr (g := fun k => (impl_exprText.f k X).bind fun t263 => (if t263.toList = (ba s).toList then (some (X, true)) else (some (([] : List (S52)), false)))) ?_ fun k => if_pos rfl
    refine Evt.bind (impl_text_ev X h20 hg) ?_
    refine (Evt.const _).congr fun k => ?_
    by_cases e : tx X X.length = s
    · rw [if_pos ((ba_inj _ _).mpr e), if_pos e]
    · rw [if_neg (fun g => e ((ba_inj _ _).mp g)), if_neg e]
  · rw [decide_eq_false c, if_neg c]
    exact (Evt.const _).congr fun k => if_neg (by decide)
theorem impl_names (s w : List UInt8) (words : List (List UInt8)) (X : List S52) (i : Nat) {R : List S52 × Bool} :
    ∀ (d j : Nat) (c : Int), j + d = 11 → (∀ C, C = lk w (signsL.drop (j + 1)) ((j + 1 : Nat) : Int) c → Evt (fun k => impl_readExpr.l1 k (ba s) (signsL.tail.map ba) X (ba w) (words.map ba) (words.length : Int) (i : Int) (signsL.tail.map ba) ((signsL.tail.map ba).length : Int) 11 C 0) R) →
    Evt (fun k => impl_readExpr.l1 k (ba s) (signsL.tail.map ba) X (ba w) (words.map ba) (words.length : Int) (i : Int) (signsL.tail.map ba) ((signsL.tail.map ba).length : Int) (j : Int) c 0) R
  | 0, j, c, hj, h => by
    obtain rfl : j = 11 := by omega
    exact h c rfl
  | d + 1, j, c, hj, h => by
    have hlen : (signsL.tail.map ba).length = 11 := by rw [List.length_map]; rfl
    have hj11 : j < signsL.tail.length := by rw [show signsL.tail.length = 11 from rfl]; omega
    have ew : wrap64 ((j : Int) + 1) = ((j + 1 : Nat) : Int) := by rw [w64 (by omega) (by omega)]; omega
    have ew2 : wrap64 (1 + (j : Int)) = ((j + 1 : Nat) : Int) := by rw [w64 (by omega) (by omega)]; omega
    have hdr : signsL.drop (j + 1) = signsL.tail[j] :: signsL.drop (j + 1 + 1) := by rw [← tail_drop, ← tail_drop, List.drop_eq_getElem_cons hj11]
    have ih := impl_names s w words X i (R := R) d (j + 1) (if signsL.tail[j] = w then ((j + 1 : Nat) : Int) else c) (by omega) (fun C hC => h C (by
      rw [hdr, lk, hC]
      congr 1))
    refine Evt.step ih fun k => ?_
    simp only [impl_readExpr.l1]
    rw [if_pos (by omega), if_pos (by omega), if_pos (by omega), rd_list signsL.tail j hj11, ew, ew2]
    by_cases e : signsL.tail[j] = w
    · rw [if_pos ((ba_inj _ _).mpr e), if_pos e]
    · rw [if_neg (fun g => e ((ba_inj _ _).mp g)), if_neg e]
def finO (s : List UInt8) (X : List S52) : Option (List S52) → List S52 × Bool
  | none => ([], false)
  | some T => finI s (X ++ T)
theorem atoi_range (w : List UInt8) (v : Int) (h : Lib.atoiAll w = .ok v) : -9223372036854775808 ≤ v ∧ v ≤ 9223372036854775807 := by
  unfold Lib.atoiAll at h
  split at h
  · cases h
  · simp only at h
    split at h
    · cases h
    · cases h
    · split at h
      · cases h
      · split at h
        · cases h
        · injection h with h
          subst h
          split <;> omega
theorem impl_read (s : List UInt8) (words : List (List UInt8)) (hl : words.length ≤ 2000000) (hw : ∀ w ∈ words, w.length ≤ 1048577) : ∀ (d i : Nat) (X : List S52), i + d = words.length → X.length = i → (∀ t ∈ X, -9223372036854775808 ≤ t.f1 ∧ t.f1 ≤ 9223372036854775807) →
    Evt (fun k => impl_readExpr.l0 k (ba s) (signsL.tail.map ba) X (words.map ba) (words.length : Int) (i : Int)) (finO s X (itoks (words.drop i)))
  | 0, i, X, hi, hX, hr => by
    rw [List.drop_eq_nil_of_le (by omega)]
    show Evt _ (finI s (X ++ []))
    rw [List.append_nil]
    exact impl_end s _ words X (by omega) hr i (by omega)
  | d + 1, i, X, hi, hX, hr => by
    have hil : i < words.length := by omega
    obtain ⟨w, hwi⟩ : ∃ w, words[i] = w := ⟨_, rfl⟩
    have hwm : w ∈ words := hwi ▸ List.getElem_mem hil
    have hwl := hw w hwm
    have hdr : words.drop i = w :: words.drop (i + 1) := by rw [List.drop_eq_getElem_cons hil, hwi]
    have hlen : (signsL.tail.map ba).length = 11 := by rw [List.length_map]; rfl
    have ew : wrap64 ((i : Int) + 1) = ((i + 1 : Nat) : Int) := by rw [w64 (by omega) (by omega)]; omega
    have next : ∀ t : S52, (-9223372036854775808 ≤ t.f1 ∧ t.f1 ≤ 9223372036854775807) → Evt (fun k => impl_readExpr.l0 k (ba s) (signsL.tail.map ba) (X ++ [t]) (words.map ba) (words.length : Int) ((i + 1 : Nat) : Int)) (finO s X ((itoks (words.drop (i + 1))).map fun T => t :: T)) := fun t ht => by
      have ih := impl_read s words hl hw d (i + 1) (X ++ [t]) (by omega) (by simp only [List.length_append, List.length_cons, List.length_nil]; omega) (fun u hu => by
        rcases List.mem_append.1 hu with hu | hu
        · exact hr u hu
        · rw [List.mem_singleton.1 hu]; exact ht)
      have e : finO s (X ++ [t]) (itoks (words.drop (i + 1))) = finO s X ((itoks (words.drop (i + 1))).map fun T => t :: T) := by
        cases itoks (words.drop (i + 1)) with
        | none => rfl
        | some T =>
          show finI s (X ++ [t] ++ T) = finI s (X ++ t :: T)
          rw [List.append_assoc]
          rfl
      rw [← e]
      exact ih
    rw [hdr]
    refine Evt.step (g := fun k => impl_readExpr.l1 k (ba s) (signsL.tail.map ba) X (ba w) (words.map ba) (words.length : Int) (i : Int) (signsL.tail.map ba) ((signsL.tail.map ba).length : Int) ((0 : Nat) : Int) 0 0) ?_ fun k => by
      simp only [impl_readExpr.l0]
      rw [if_pos (by omega), if_pos (by omega), if_pos (by rw [List.length_map]; omega), rd_list words i hil, hwi]
      rfl
    refine impl_names s w words X i 11 0 0 (by omega) fun C hC => ?_
    have eC : C = kind w := hC
    subst eC
    unfold itoks
    by_cases c : kind w = 0
    · rw [if_pos c]
      rcases ha : Lib.atoiAll w with v | _ | _
      · have hf : strconv_Atoi.f (ba w) = some (v, none) := by
          unfold strconv_Atoi.f
          rw [if_pos (by rw [ba_size]; exact hwl), show Lib.atoiAll (ba w).data.toList = .ok v from ha]
        refine Evt.step (next ⟨0, v⟩ (atoi_range w v ha)) fun k => ?_
        simp only [impl_readExpr.l1]
        rw [if_neg (by omega), if_pos c, hf]
        simp only [Option.bind_some, Option.isNone_none, if_true]
        rw [if_pos (by omega), c, ew]
      · have hf : strconv_Atoi.f (ba w) = some (0, some 0) := by
          unfold strconv_Atoi.f
          rw [if_pos (by rw [ba_size]; exact hwl), show Lib.atoiAll (ba w).data.toList = Lib.atoiAll w from rfl, ha]
          try rfl
        refine Evt.done fun k => ?_
        simp only [impl_readExpr.l1]
        rw [if_neg (by omega), if_pos c, hf]
        rfl
      · have hf : strconv_Atoi.f (ba w) = some (Lib.atoiSat w, some 1) := by
          unfold strconv_Atoi.f
          rw [if_pos (by rw [ba_size]; exact hwl), show Lib.atoiAll (ba w).data.toList = Lib.atoiAll w from rfl, ha]
          try rfl
        refine Evt.done fun k => ?_
        simp only [impl_readExpr.l1]
        rw [if_neg (by omega), if_pos c, hf]
        rfl
    · rw [if_neg c]
      refine Evt.step (next ⟨kind w, 0⟩ ⟨by show (-9223372036854775808 : Int) ≤ 0; decide, by show (0 : Int) ≤ 9223372036854775807; decide⟩) fun k => ?_
      simp only [impl_readExpr.l1]
      rw [if_neg (by omega), if_neg c, if_pos (by omega), ew]
/-! Both answer alike -/
theorem itoks_range : ∀ (W : List (List UInt8)) (T : List S52), itoks W = some T → T.length = W.length ∧ ∀ t ∈ T, -9223372036854775808 ≤ t.f1 ∧ t.f1 ≤ 9223372036854775807
  | [], T, h => by
    obtain rfl := Option.some.inj h
    exact ⟨rfl, fun t ht => by simp at ht⟩
  | w :: r, T, h => by
    unfold itoks at h
    by_cases c : kind w = 0
    · rw [if_pos c] at h
      rcases ha : Lib.atoiAll w with v | _ | _
      · rw [ha] at h
        obtain ⟨U, hU, rfl⟩ := Option.map_eq_some_iff.1 h
        obtain ⟨h1, h2⟩ := itoks_range r U hU
        refine ⟨by simp [h1], fun t ht => ?_⟩
        rcases List.mem_cons.1 ht with rfl | ht
        · exact atoi_range w v ha
        · exact h2 t ht
      · rw [ha] at h; cases h
      · rw [ha] at h; cases h
    · rw [if_neg c] at h
      obtain ⟨U, hU, rfl⟩ := Option.map_eq_some_iff.1 h
      obtain ⟨h1, h2⟩ := itoks_range r U hU
      refine ⟨by simp [h1], fun t ht => ?_⟩
      rcases List.mem_cons.1 ht with rfl | ht
      · exact ⟨by show (-9223372036854775808 : Int) ≤ 0; decide, by show (0 : Int) ≤ 9223372036854775807; decide⟩
      · exact h2 t ht
/-- Where each word is its token's, the program reads the same tokens. -/
theorem same_spec : ∀ (W : List (List UInt8)), (W.map stok).map word = W → itoks W = some (W.map stok)
  | [], _ => rfl
  | w :: r, h => by
    rw [List.map_cons, List.map_cons] at h
    injection h with h1 h2
    have ih := same_spec r h2
    unfold itoks
    rw [ih]
    by_cases c : kind w = 0
    · have e : stok w = ⟨0, valW w⟩ := by unfold stok; rw [if_pos c, c]
      have ew : w = Lib.itoa (valW w) := by
        rw [e] at h1
        unfold word at h1
        rw [if_pos rfl] at h1
        exact h1.symm
      have ha : Lib.atoiAll w = .ok (valW w) := by
        have := atoi_itoa (valW w) (valW_range w)
        rw [← ew] at this
        exact this
      rw [if_pos c, ha, List.map_cons, e]
      rfl
    · have e : stok w = ⟨kind w, 0⟩ := by unfold stok; rw [if_neg c]
      rw [if_neg c, List.map_cons, e]
      rfl
theorem same_impl : ∀ (W : List (List UInt8)) (T : List S52), itoks W = some T → T.map word = W → W.map stok = T
  | [], T, h, _ => (Option.some.inj h)
  | w :: r, T, h, hw => by
    unfold itoks at h
    by_cases c : kind w = 0
    · rw [if_pos c] at h
      rcases ha : Lib.atoiAll w with v | _ | _
      · rw [ha] at h
        obtain ⟨U, hU, rfl⟩ := Option.map_eq_some_iff.1 h
        rw [List.map_cons] at hw
        injection hw with h1 h2
        have ih := same_impl r U hU h2
        have ew : w = Lib.itoa v := by
          unfold word at h1
          rw [if_pos rfl] at h1
          exact h1.symm
        have hv : valW w = v := by rw [ew]; exact val_itoa v (atoi_range w v ha)
        rw [List.map_cons, ih]
        unfold stok
        rw [if_pos c, hv, c]
      · rw [ha] at h; cases h
      · rw [ha] at h; cases h
    · rw [if_neg c] at h
      obtain ⟨U, hU, rfl⟩ := Option.map_eq_some_iff.1 h
      rw [List.map_cons] at hw
      injection hw with h1 h2
      have ih := same_impl r U hU h2
      rw [List.map_cons, ih]
      unfold stok
      rw [if_neg c]
theorem tx_all (X : List S52) : tx X X.length = jn (X.map word) := by unfold tx; rw [List.take_length]
theorem cut_tx (s : List UInt8) (X : List S52) (hX : X ≠ []) (h : tx X X.length = s) : X.map word = cut s := by
  rw [← h, tx_all, cut_jn _ (by simpa using hX) fun w hw => by
    obtain ⟨t, _, rfl⟩ := List.mem_map.1 hw
    exact word_free t]
theorem dep_ne (X : List S52) (h : dep X ≠ -1) : X ≠ [] := by
  rintro rfl
  exact h (by decide)
theorem both_same (s : List UInt8) : (if s.length > 420 then (([] : List S52), false) else finS s ((cut s).map stok)) = finO s [] (itoks (cut s)) := by
  have success : ∀ T : List S52, itoks (cut s) = some T → dep T > 0 → tx T T.length = s → s.length ≤ 420 ∧ (cut s).map stok = T := fun T hT hd ht => by
    have hne := dep_ne T (by omega)
    have hc := cut_tx s T hne ht
    obtain ⟨hlT, hrT⟩ := itoks_range _ T hT
    obtain ⟨h20, -⟩ := rd_in T hrT (by omega)
    refine ⟨?_, same_impl _ T hT hc⟩
    have hj := jn_len20 (T.map word) (fun w hw => by
      obtain ⟨t, htm, rfl⟩ := List.mem_map.1 hw
      exact word_len20 t (hrT t htm))
    rw [← tx_all, ht, List.length_map] at hj
    omega
  have bad : ∀ T, itoks (cut s) = some T → ¬ (dep T > 0 ∧ tx T T.length = s) → finO s [] (itoks (cut s)) = ([], false) := fun T hT hn => by
    rw [hT]
    show finI s ([] ++ T) = _
    rw [List.nil_append]
    unfold finI
    by_cases c : dep T > 0
    · rw [if_pos c, if_neg fun g => hn ⟨c, g⟩]
    · rw [if_neg c]
  by_cases cl : s.length > 420
  · rw [if_pos cl]
    cases hT : itoks (cut s) with
    | none => rfl
    | some T =>
      rw [← hT]
      refine (bad T hT fun g => ?_).symm
      have := (success T hT g.1 g.2).1
      omega
  · rw [if_neg cl]
    by_cases cs : dep ((cut s).map stok) ≥ 0 ∧ tx ((cut s).map stok) ((cut s).map stok).length = s
    · have hd : dep ((cut s).map stok) > 0 := by rcases dep_pos ((cut s).map stok) with h | h <;> omega
      have hc := cut_tx s _ (dep_ne _ (by omega)) cs.2
      rw [same_spec _ hc]
      show _ = finI s ([] ++ (cut s).map stok)
      rw [List.nil_append]
      unfold finS finI
      rw [if_pos cs.1, if_pos cs.2, if_pos hd]
    · have e : finS s ((cut s).map stok) = ([], false) := by
        unfold finS
        by_cases c : dep ((cut s).map stok) ≥ 0
        · rw [if_pos c, if_neg fun g => cs ⟨c, g⟩]
        · rw [if_neg c]
      rw [e]
      cases hT : itoks (cut s) with
      | none => rfl
      | some T =>
        rw [← hT]
        refine (bad T hT fun g => ?_).symm
        obtain ⟨_, h2⟩ := success T hT g.1 g.2
        exact cs (by rw [h2]; exact ⟨by omega, g.2⟩)
theorem spec_all (s : List UInt8) : Evt (fun k => spec_ExprRead.f k (ba s)) (if s.length > 420 then (([] : List S52), false) else finS s ((cut s).map stok)) := by
  by_cases c : s.length > 420
  · rw [if_pos c]
    refine (Evt.const _).congr fun k => ?_
    unfold spec_ExprRead.f
    rw [if_pos (by rw [ba_size]; omega)]
  · rw [if_neg c]
    obtain ⟨h1, h2⟩ := cut_len s
    refine Evt.congr (g := fun k => (spec_l03Cut.f k (ba s) 32).bind fun t195 => (spec_ExprRead.l0 k (ba s) t195 (([] : List (S52))) 0)) ?_ fun k => by
      unfold spec_ExprRead.f
      rw [if_neg (by rw [ba_size]; omega)]
    refine Evt.bind (spec_cut_ev s (by omega)) ?_
    have := spec_read s (cut s) (by omega) (fun w hw => by have := h2 w hw; omega) (cut s).length 0 [] (by omega) rfl (fun t ht => by simp at ht)
    exact this
theorem impl_all (s : List UInt8) (hs : s.length ≤ 1048576) : Evt (fun k => impl_ExprRead.f k (ba s)) (finO s [] (itoks (cut s))) := by
  obtain ⟨h1, h2⟩ := cut_len s
  refine Evt.congr (g := fun k => (impl_readExpr.f k (ba s)).bind fun bt264 => (some (bt264.1, bt264.2))) ?_ fun k => rfl
  refine Evt.bind (x := finO s [] (itoks (cut s))) ?_ (Evt.const _)
  have h := impl_read s (cut s) (by omega) (fun w hw => by have := h2 w hw; omega) (cut s).length 0 [] (by omega) rfl (fun t ht => by simp at ht)
  refine Evt.congr h fun k => ?_
  unfold impl_readExpr.f
  rw [ops_fields]
  simp only [Option.bind_some]
  rw [split_ok s (by omega)]
  simp only [Option.bind_some]
  rw [List.length_map]
  rfl
theorem res_len (s : List UInt8) (hs : s.length ≤ 1048576) : (finO s [] (itoks (cut s))).1.length ≤ 1048577 := by
  obtain ⟨h1, -⟩ := cut_len s
  cases hT : itoks (cut s) with
  | none => simp [finO]
  | some T =>
    obtain ⟨hl, -⟩ := itoks_range _ T hT
    show (finI s ([] ++ T)).1.length ≤ _
    rw [List.nil_append]
    unfold finI
    split
    · split
      · simp only; omega
      · simp
    · simp
theorem FnExactExprRead : Say.FnExactExprRead := by
  intro a0 _ha
  refine Evt.ex (r := true) ?_
  by_cases hb : (a0.size : Int) > 1048576
  · refine (Evt.const _).congr fun k => ?_
    unfold laws_FnExactExprRead.f
    rw [if_pos hb]
  · obtain ⟨s, rfl⟩ : ∃ s, a0 = ba s := ⟨a0.data.toList, (ba_data a0).symm⟩
    rw [ba_size] at hb
    have hS := spec_all s
    rw [both_same s] at hS
    have hI := impl_all s (by omega)
    have hlen := res_len s (by omega)
    obtain ⟨⟨X, f⟩, hR⟩ : ∃ R, finO s [] (itoks (cut s)) = R := ⟨_, rfl⟩
    rw [hR] at hS hI hlen
    simp only at hlen
    obtain ⟨K1, t1⟩ := hS
    obtain ⟨K2, t2⟩ := hI
    simp only at t1 t2
    refine ⟨K1 + K2 + X.length + 3, fun k hk => ?_⟩
    show laws_FnExactExprRead.f k (ba s) = some true
    unfold laws_FnExactExprRead.f
    rw [if_neg (by rw [ba_size]; omega), t1 k (by omega), t2 k (by omega)]
    simp only [Option.bind_some]
    rw [eqTokS_refl X k (by omega) (by omega)]
    simp only [Option.bind_some, if_true, bne_self_eq_false]
    obtain ⟨k, rfl⟩ : ∃ m, k = m + 1 := ⟨k - 1, by omega⟩
    simp only [laws_FnExactExprRead.j0, Bool.false_eq_true, if_false]
    rw [markTokS_eq X 1 k (by omega) (by omega) (by omega) (by omega)]
    simp only [Option.bind_some]
    rw [heldTokS_eq 1 X.length k (by omega) (by omega) (by omega) (by omega)]
    simp only [Option.bind_some]
    rw [if_neg (by omega), if_pos trivial, t2 k (by omega)]
    simp only [Option.bind_some]
    rw [eqTokS_refl X k (by omega) (by omega)]
    simp only [Option.bind_some, if_true, bne_self_eq_false]
    obtain ⟨k, rfl⟩ : ∃ m, k = m + 1 := ⟨k - 1, by omega⟩
    simp only [laws_FnExactExprRead.j1, Bool.false_eq_true, if_false]
    rw [heldTokS_eq 1 X.length k (by omega) (by omega) (by omega) (by omega)]
    simp only [Option.bind_some]
    rw [if_neg (by omega), if_pos trivial]

end Go.Proofs.YtloiamjekoecgaaDoor.Pure
