/- Proved: for every wide number and divisor the program's WideMean answers as the reference's. No other condition. -/
import Derived.Test.YtloiamjekoecgaaSayFnExactWideMean
import Derived.Test.YtloiamjekoecgaaBase
import Derived.Test.YtloiamjekoecgaaEv
import Derived.Test.YtloiamjekoecgaaEw
namespace Go.Proofs.Ytloiamjekoecgaa.Pure
open Go.RowKit Go.Proofs.Ytloiamjekoecgaa.QFnExactWideMean Go.Proofs.YtloiamjekoecgaaW.PrintWords Go.Proofs.YtloiamjekoecgaaW.PrintLast Go.Proofs.YtloiamjekoecgaaW.PrintMore
open Go.Proofs.Ytloiamjekoecgaa.Base
set_option linter.unusedSimpArgs false
set_option linter.unusedVariables false

open Go.Proofs.Ytloiamjekoecgaa.Evt
/-- The halves of a whole number, as a wide one has them. -/
def wh (A : Int) : Int := wrap64 (A / 18446744073709551616)
def wl (A : Int) : Int := A % 18446744073709551616
theorem carry (a b c : Int) (h : c = a + b) : (c % 18446744073709551616 = a % 18446744073709551616 + b % 18446744073709551616 ∧ c / 18446744073709551616 = a / 18446744073709551616 + b / 18446744073709551616) ∨ (c % 18446744073709551616 + 18446744073709551616 = a % 18446744073709551616 + b % 18446744073709551616 ∧ c / 18446744073709551616 = a / 18446744073709551616 + b / 18446744073709551616 + 1) := by omega
theorem hi0 (x y : Int) : wrap64 (IntKind.u64.wrap ((IntKind.u64.wrap (wrap64 x)) + (IntKind.u64.wrap (wrap64 y)))) = wrap64 (x + y) := by
  simp only [wu64]
  unfold wrap64
  omega
theorem hi1 (x y : Int) : wrap64 (IntKind.u64.wrap ((IntKind.u64.wrap ((IntKind.u64.wrap (wrap64 x)) + (IntKind.u64.wrap (wrap64 y)))) + 1)) = wrap64 (x + y + 1) := by
  simp only [wu64]
  unfold wrap64
  omega
theorem spec_add_wide (A B : Int) : spec_WideAdd.f (wh A) (wl A) (wh B) (wl B) = some (wh (A + B), wl (A + B)) := by
  unfold spec_WideAdd.f wh wl
  rw [hi0, hi1]
  rcases carry A B (A + B) rfl with ⟨h1, h2⟩ | ⟨h1, h2⟩
  · have e : IntKind.u64.wrap (A % 18446744073709551616 + B % 18446744073709551616) = (A + B) % 18446744073709551616 := by rw [wu64]; omega
    rw [e, if_neg (by omega), h2]
  · have e : IntKind.u64.wrap (A % 18446744073709551616 + B % 18446744073709551616) = (A + B) % 18446744073709551616 := by rw [wu64]; omega
    rw [e, if_pos (by omega), h2]
theorem wh0 : wh 0 = 0 := by decide +kernel
theorem wl1 : wl 1 = 1 := by decide +kernel
theorem wl0 : wl 0 = 0 := by decide +kernel
theorem wh1 : wh 1 = 0 := by decide +kernel
theorem spec_neg_wide (A : Int) : spec_WideNeg.f (wh A) (wl A) = some (wh (-A), wl (-A)) := by
  unfold spec_WideNeg.f
  have e1 : wrap64 ((-1) - wh A) = wh (-A - 1) := by unfold wh wrap64; omega
  have e2 : IntKind.u64.wrap (18446744073709551615 - wl A) = wl (-A - 1) := by rw [wu64]; unfold wl; omega
  have h := spec_add_wide (-A - 1) 1
  rw [wh1, wl1] at h
  rw [e1, e2, h]
  simp only [Option.bind_some]
  rw [show -A - 1 + 1 = -A by omega]
theorem spec_of_wide (n : Int) (h : -9223372036854775808 ≤ n ∧ n ≤ 9223372036854775807) : spec_WideOf.f n = some (wh n, wl n) := by
  unfold spec_WideOf.f
  rw [wu64]
  have e : n % 18446744073709551616 = wl n := rfl
  by_cases c : n < 0
  · rw [if_pos c, e]
    have : wh n = -1 := by unfold wh wrap64; omega
    rw [this]
  · rw [if_neg c, e]
    have : wh n = 0 := by unfold wh wrap64; omega
    rw [this]
def fits (A : Int) : Bool := decide (-9223372036854775808 ≤ A) && decide (A ≤ 9223372036854775807)
theorem spec_int_wide (A : Int) (h : -170141183460469231731687303715884105728 ≤ A ∧ A < 170141183460469231731687303715884105728) : spec_WideInt.f (wh A) (wl A) = some (if fits A = true then A else 0, fits A) := by
  unfold spec_WideInt.f
  have hn : -9223372036854775808 ≤ wrap64 (wl A) ∧ wrap64 (wl A) ≤ 9223372036854775807 := by unfold wrap64; omega
  rw [spec_of_wide _ hn]
  simp only [Option.bind_some]
  have hl : wl (wrap64 (wl A)) = wl A := by unfold wl wrap64; omega
  rw [hl]
  unfold fits
  by_cases c : -9223372036854775808 ≤ A ∧ A ≤ 9223372036854775807
  · have e : wrap64 (wl A) = A := by unfold wl wrap64; omega
    rw [e, decide_eq_true c.1, decide_eq_true c.2]
    simp
  · have e : wh (wrap64 (wl A)) ≠ wh A := by
      intro e
      apply c
      unfold wh wl wrap64 at e
      omega
    have e2 : (decide (-9223372036854775808 ≤ A) && decide (A ≤ 9223372036854775807)) = false := by
      rw [← Bool.not_eq_true, Bool.and_eq_true, decide_eq_true_eq, decide_eq_true_eq]
      exact c
    rw [e2]
    simp [e]
theorem dd (x y z : Int) (hy : 0 ≤ y) : x / y / z = x / (y * z) := by rw [Int.ediv_ediv, if_neg (by omega), Int.sub_zero]
theorem dsucc (V : Int) (p : Nat) : V / 2 ^ (p + 1) = V / 2 ^ p / 2 := by
  rw [dd _ _ _ (Int.le_of_lt (Int.pow_pos (by decide))), Int.pow_succ]
/-- A binary digit. -/
def dig (V : Int) (j : Nat) : Int := V / 2 ^ j % 2
theorem dig_range (V : Int) (j : Nat) : dig V j = 0 ∨ dig V j = 1 := by unfold dig; omega
theorem dig_low (H L : Int) (j : Nat) (hj : j < 64) : dig (H * 18446744073709551616 + L) j = dig L j := by
  unfold dig
  have e : (18446744073709551616 : Int) = 2 ^ (63 - j) * 2 * 2 ^ j := by
    rw [← Int.pow_succ, ← Int.pow_add, show 63 - j + 1 + j = 64 by omega]; rfl
  have hp : (2 : Int) ^ j ≠ 0 := by have : (0 : Int) < 2 ^ j := Int.pow_pos (by decide); omega
  have e2 : (H * 18446744073709551616 + L) / 2 ^ j = L / 2 ^ j + 2 * (H * 2 ^ (63 - j)) := by
    rw [show H * 18446744073709551616 + L = L + (2 * (H * 2 ^ (63 - j))) * 2 ^ j by
      rw [e, Int.add_comm, show 2 * (H * 2 ^ (63 - j)) * 2 ^ j = H * (2 ^ (63 - j) * 2 * 2 ^ j) by
        simp only [Int.mul_comm, Int.mul_left_comm]]]
    exact Int.add_mul_ediv_right _ _ hp
  rw [e2]
  omega
theorem dig_high (V : Int) (j : Nat) : dig V (64 + j) = dig (V / 18446744073709551616) j := by
  unfold dig
  rw [show (18446744073709551616 : Int) = 2 ^ 64 from rfl, dd _ _ _ (by decide), ← Int.pow_add]
/-- The digits of a number, the least first. -/
def digs (V : Int) (n : Nat) : List Int := (List.range n).map (dig V)
theorem digs_len (V : Int) (n : Nat) : (digs V n).length = n := by simp [digs]
theorem digs_succ (V : Int) (n : Nat) : digs V (n + 1) = digs V n ++ [dig V n] := by simp [digs, List.range_succ]
theorem rd_digs (V : Int) (n i : Nat) (h : i < n) : rd (digs V n) (i : Int) = dig V i := by
  rw [rd_nat _ i (by rw [digs_len]; exact h)]
  simp [digs]
theorem half (x : Int) (h : 0 ≤ x) (hb : x < 18446744073709551616) : wrap64 (Int.tmod x 2) = x % 2 ∧ IntKind.u64.wrap (Int.tdiv x 2) = x / 2 := by
  rw [Int.tmod_eq_emod_of_nonneg h, Int.tdiv_eq_ediv_of_nonneg h, w64 (by omega) (by omega), wu64]
  omega
theorem bits_ev (V : Int) (h0 : 0 ≤ V) (hV : V < 340282366920938463463374607431768211456) : Evt (fun k => spec_l02Bits.f k (wh V) (wl V)) (digs V 128) := by
  have hd : V = V / 18446744073709551616 * 18446744073709551616 + wl V := by unfold wl; omega
  have hw : IntKind.u64.wrap (wh V) = V / 18446744073709551616 := by rw [wu64]; unfold wh wrap64; omega
  have hH0 : 0 ≤ V / 18446744073709551616 := by omega
  have hH1 : V / 18446744073709551616 < 18446744073709551616 := by omega
  have hL0 : 0 ≤ wl V := by unfold wl; omega
  have hL1 : wl V < 18446744073709551616 := by unfold wl; omega
  have pd : ∀ (x : Int) (i : Nat), 0 ≤ x → x < 18446744073709551616 → 0 ≤ x / 2 ^ i ∧ x / 2 ^ i < 18446744073709551616 := by
    intro x i a b
    have hp : (0 : Int) < 2 ^ i := Int.pow_pos (by decide)
    exact ⟨Int.ediv_nonneg a (Int.le_of_lt hp), Int.lt_of_le_of_lt (Int.ediv_le_self _ a) b⟩
  have high : ∀ (m i : Nat), i + m = 64 → Evt (fun k => spec_l02Bits.l1 k (digs V (64 + i)) (V / 18446744073709551616 / 2 ^ i) (i : Int)) (digs V 128) := by
    intro m
    induction m with
    | zero =>
      intro i hi
      obtain rfl : i = 64 := by omega
      exact Evt.done fun k => by simp only [spec_l02Bits.l1]; rw [if_neg (by decide)]
    | succ m ih =>
      intro i hi
      refine Evt.step (ih (i + 1) (by omega)) fun k => ?_
      have hx := pd _ i hH0 hH1
      have hh := half _ hx.1 hx.2
      simp only [spec_l02Bits.l1]
      rw [if_pos (by omega), if_pos (by rw [digs_len]; omega), hh.1, hh.2, w64 (by omega) (by omega), ← dsucc]
      rw [show 64 + (i + 1) = 64 + i + 1 by omega, digs_succ, dig_high]
      rfl
  have low : ∀ (m i : Nat), i + m = 64 → Evt (fun k => spec_l02Bits.l0 k (digs V i) (wl V / 2 ^ i) (i : Int) (wh V) (wl V)) (digs V 128) := by
    intro m
    induction m with
    | zero =>
      intro i hi
      obtain rfl : i = 64 := by omega
      refine Evt.step (high 64 0 rfl) fun k => ?_
      simp only [spec_l02Bits.l0]
      rw [if_neg (by decide), hw, Int.pow_zero, Int.ediv_one]
      rfl
    | succ m ih =>
      intro i hi
      refine Evt.step (ih (i + 1) (by omega)) fun k => ?_
      have hx := pd _ i hL0 hL1
      have hh := half _ hx.1 hx.2
      simp only [spec_l02Bits.l0]
      rw [if_pos (by omega), if_pos (by rw [digs_len]; omega), hh.1, hh.2, w64 (by omega) (by omega), ← dsucc]
      have e : dig V i = wl V / 2 ^ i % 2 := by
        conv => lhs; rw [hd]
        exact dig_low _ _ i (by omega)
      rw [digs_succ, e]
      rfl
  have s := low 64 0 rfl
  rw [Int.pow_zero, Int.ediv_one] at s
  exact s
theorem rd_set (l : List Int) (p j : Nat) (v : Int) (hp : p < l.length) : rd (l.set p v) (j : Int) = if j = p then v else rd l (j : Int) := by
  unfold rd
  simp only [Int.toNat_natCast, List.getD_eq_getElem?_getD, List.getElem?_set]
  by_cases c : p = j
  · subst c; simp [hp]
  · rw [if_neg c, if_neg (fun e => c e.symm)]
/-- One step of a long division by hand. -/
theorem div_step (X n b : Int) (hn : 0 < n) (hX : 0 ≤ X) (hb : b = X % 2) : (2 * (X / 2 % n) + b ≥ n → X % n = 2 * (X / 2 % n) + b - n ∧ X / n % 2 = 1) ∧ (¬ 2 * (X / 2 % n) + b ≥ n → X % n = 2 * (X / 2 % n) + b ∧ X / n % 2 = 0) := by
  have h1 := Int.emod_nonneg (X / 2) (show n ≠ 0 by omega)
  have h2 := Int.emod_lt_of_pos (X / 2) hn
  have h3 := Int.mul_ediv_add_emod (X / 2) n
  generalize X / 2 % n = r at *
  generalize hq : X / 2 / n = q at *
  have e2 : n * (2 * q) = 2 * (n * q) := Int.mul_left_comm n 2 q
  have e3 : n * (2 * q + 1) = 2 * (n * q) + n := by rw [Int.mul_add, e2, Int.mul_one]
  generalize n * q = y at *
  constructor
  · intro c
    have := (Int.ediv_emod_unique (a := X) (q := 2 * q + 1) (r := 2 * r + b - n) hn).mpr ⟨by rw [e3]; omega, by omega, by omega⟩
    exact ⟨this.2, by rw [this.1]; omega⟩
  · intro c
    have := (Int.ediv_emod_unique (a := X) (q := 2 * q) (r := 2 * r + b) hn).mpr ⟨by rw [e2]; omega, by omega, by omega⟩
    exact ⟨this.2, by rw [this.1]; omega⟩
theorem rd_repl (n j : Nat) (h : j < n) : rd (List.replicate n 0) (j : Int) = 0 := by
  rw [rd_nat _ j (by simpa using h)]
  simp
theorem e128 : (2 : Int) ^ 128 = 340282366920938463463374607431768211456 := by decide +kernel
theorem divide_ev (V n : Int) (h0 : 0 ≤ V) (hV : V < 340282366920938463463374607431768211456) (hn : 1 ≤ n) (hn2 : n ≤ 1000000) :
    ∃ out : List Int, out.length = 128 ∧ (∀ j : Nat, j < 128 → rd out (j : Int) = dig (V / n) j) ∧ Evt (fun k => spec_l02Divide.f k (digs V 128) n) (out, V % n) := by
  have hdig : ∀ p : Nat, dig (V / n) p = V / 2 ^ p / n % 2 := by
    intro p
    unfold dig
    rw [dd _ _ _ (by omega), dd _ _ _ (Int.le_of_lt (Int.pow_pos (by decide))), Int.mul_comm]
  have go : ∀ (p : Nat) (out : List Int), p ≤ 128 → out.length = 128 → (∀ j : Nat, j < 128 → rd out (j : Int) = if p ≤ j then dig (V / n) j else 0) →
      ∃ o : List Int, o.length = 128 ∧ (∀ j : Nat, j < 128 → rd o (j : Int) = dig (V / n) j) ∧ Evt (fun k => spec_l02Divide.l0 k (digs V 128) n out (V / 2 ^ p % n) ((p : Int) - 1)) (o, V % n) := by
    intro p
    induction p with
    | zero =>
      intro out _ hl ho
      refine ⟨out, hl, fun j hj => by rw [ho j hj, if_pos (by omega)], Evt.done fun k => ?_⟩
      simp only [spec_l02Divide.l0]
      rw [if_neg (by omega), Int.pow_zero, Int.ediv_one]
    | succ p ih =>
      intro out hp hl ho
      have hX : 0 ≤ V / 2 ^ p := Int.ediv_nonneg h0 (Int.le_of_lt (Int.pow_pos (by decide)))
      obtain ⟨s1, s2⟩ := div_step (V / 2 ^ p) n (dig V p) (by omega) hX rfl
      have r1 := Int.emod_nonneg (V / 2 ^ (p + 1)) (show n ≠ 0 by omega)
      have r2 := Int.emod_lt_of_pos (V / 2 ^ (p + 1)) (show 0 < n by omega)
      have hd := dig_range V p
      rw [← dsucc] at s1 s2
      have e1 : ∀ k, spec_l02Divide.l0 (k + 1) (digs V 128) n out (V / 2 ^ (p + 1) % n) (((p + 1 : Nat) : Int) - 1) = if 2 * (V / 2 ^ (p + 1) % n) + dig V p ≥ n then spec_l02Divide.l0 k (digs V 128) n (out.set p 1) (2 * (V / 2 ^ (p + 1) % n) + dig V p - n) ((p : Int) - 1) else spec_l02Divide.l0 k (digs V 128) n out (2 * (V / 2 ^ (p + 1) % n) + dig V p) ((p : Int) - 1) := by
        intro k
        have ep : ((p + 1 : Nat) : Int) - 1 = (p : Int) := by omega
        rw [ep]
        simp only [spec_l02Divide.l0]
        rw [if_pos (by omega), if_pos (by omega), digs_len, if_pos (show (p : Int) < ((128 : Nat) : Int) by omega), rd_digs V 128 p (by omega), hl, if_pos (show (p : Int) < ((128 : Nat) : Int) by omega)]
        have e2 : wrap64 (2 * (V / 2 ^ (p + 1) % n)) = 2 * (V / 2 ^ (p + 1) % n) := w64 (by omega) (by omega)
        rw [e2]
        have e3 : wrap64 (2 * (V / 2 ^ (p + 1) % n) + dig V p) = 2 * (V / 2 ^ (p + 1) % n) + dig V p := w64 (by omega) (by omega)
        rw [e3]
        have e4 : wrap64 (2 * (V / 2 ^ (p + 1) % n) + dig V p - n) = 2 * (V / 2 ^ (p + 1) % n) + dig V p - n := w64 (by omega) (by omega)
        rw [e4, w64 (by omega) (by omega)]
        rfl
      by_cases c : 2 * (V / 2 ^ (p + 1) % n) + dig V p ≥ n
      · obtain ⟨a1, a2⟩ := s1 c
        obtain ⟨o, b1, b2, b3⟩ := ih (out.set p 1) (by omega) (by rw [List.length_set]; exact hl) (by
          intro j hj
          rw [rd_set out p j 1 (by omega)]
          by_cases d : j = p
          · subst d
            rw [if_pos rfl, if_pos (by omega), hdig, a2]
          · rw [if_neg d, ho j hj]
            by_cases f : p ≤ j
            · rw [if_pos f, if_pos (by omega)]
            · rw [if_neg f, if_neg (by omega)])
        exact ⟨o, b1, b2, Evt.step b3 fun k => by rw [e1, if_pos c, a1]⟩
      · obtain ⟨a1, a2⟩ := s2 c
        obtain ⟨o, b1, b2, b3⟩ := ih out (by omega) hl (by
          intro j hj
          rw [ho j hj]
          by_cases f : p + 1 ≤ j
          · rw [if_pos f, if_pos (by omega)]
          · rw [if_neg f]
            by_cases d : j = p
            · subst d
              rw [if_pos (by omega), hdig, a2]
            · rw [if_neg (by omega)])
        exact ⟨o, b1, b2, Evt.step b3 fun k => by rw [e1, if_neg c, a1]⟩
  obtain ⟨o, b1, b2, b3⟩ := go 128 (List.replicate 128 0) (by omega) (by simp) (by
    intro j hj
    rw [if_neg (by omega)]
    exact rd_repl 128 j hj)
  refine ⟨o, b1, b2, ?_⟩
  refine b3.congr fun k => ?_
  unfold spec_l02Divide.f
  rw [if_pos (by decide)]
  have : V / 2 ^ 128 % n = 0 := by
    rw [e128, Int.ediv_eq_zero_of_lt h0 hV, Int.zero_emod]
  rw [this]
  rfl
theorem wide_ev (Q : Int) (h0 : 0 ≤ Q) (hQ : Q < 340282366920938463463374607431768211456) (out : List Int) (hl : out.length = 128) (ho : ∀ j : Nat, j < 128 → rd out (j : Int) = dig Q j) :
    Evt (fun k => spec_l02Wide.f k out) (wh Q, wl Q) := by
  have hd : Q = Q / 18446744073709551616 * 18446744073709551616 + wl Q := by unfold wl; omega
  have hH0 : 0 ≤ Q / 18446744073709551616 := by omega
  have hH1 : Q / 18446744073709551616 < 18446744073709551616 := by omega
  have hL0 : 0 ≤ wl Q := by unfold wl; omega
  have hL1 : wl Q < 18446744073709551616 := by unfold wl; omega
  have pd : ∀ (x : Int) (i : Nat), 0 ≤ x → x < 18446744073709551616 → 0 ≤ x / 2 ^ i ∧ x / 2 ^ i < 18446744073709551616 := by
    intro x i a b
    have hp : (0 : Int) < 2 ^ i := Int.pow_pos (by decide)
    exact ⟨Int.ediv_nonneg a (Int.le_of_lt hp), Int.lt_of_le_of_lt (Int.ediv_le_self _ a) b⟩
  have st : ∀ (x : Int) (p : Nat), 0 ≤ x → x < 18446744073709551616 → IntKind.u64.wrap ((IntKind.u64.wrap (2 * (x / 2 ^ (p + 1)))) + (IntKind.u64.wrap (dig x p))) = x / 2 ^ p := by
    intro x p a b
    rw [dsucc]
    have := pd x p a b
    unfold dig
    generalize x / 2 ^ p = y at *
    simp only [wu64]
    omega
  have go : ∀ (p : Nat), p ≤ 64 → Evt (fun k => spec_l02Wide.l0 k out (wl Q / 2 ^ p) (Q / 18446744073709551616 / 2 ^ p) ((p : Int) - 1)) (wh Q, wl Q) := by
    intro p
    induction p with
    | zero =>
      intro _
      exact Evt.done fun k => by
        simp only [spec_l02Wide.l0]
        rw [if_neg (by omega), Int.pow_zero, Int.ediv_one, Int.ediv_one]
        rfl
    | succ p ih =>
      intro hp
      refine Evt.step (ih (by omega)) fun k => ?_
      have ep : ((p + 1 : Nat) : Int) - 1 = (p : Int) := by omega
      have ew : wrap64 (64 + (p : Int)) = ((64 + p : Nat) : Int) := (w64 (by omega) (by omega)).trans (by omega)
      have el : rd out (p : Int) = dig (wl Q) p := by
        rw [ho p (by omega)]
        conv => lhs; rw [hd]
        exact dig_low _ _ p (by omega)
      have eh : rd out ((64 + p : Nat) : Int) = dig (Q / 18446744073709551616) p := by
        rw [ho (64 + p) (by omega), dig_high]
      rw [ep]
      simp only [spec_l02Wide.l0]
      rw [if_pos (by omega), if_pos (by omega), if_pos (by omega), ew, if_pos (by omega), if_pos (by omega), el, eh, st _ p hL0 hL1, st _ p hH0 hH1, w64 (by omega) (by omega)]
  have s := go 64 (by omega)
  refine s.congr fun k => ?_
  unfold spec_l02Wide.f
  rw [show (2 : Int) ^ 64 = 18446744073709551616 from rfl, Int.ediv_eq_zero_of_lt hL0 hL1, Int.ediv_eq_zero_of_lt hH0 hH1]
  rfl
def tb : ByteArray := ⟨#[0, 1, 2, 2, 3, 3, 3, 3, 4, 4, 4, 4, 4, 4, 4, 4, 5, 5, 5, 5, 5, 5, 5, 5, 5, 5, 5, 5, 5, 5, 5, 5, 6, 6, 6, 6, 6, 6, 6, 6, 6, 6, 6, 6, 6, 6, 6, 6, 6, 6, 6, 6, 6, 6, 6, 6, 6, 6, 6, 6, 6, 6, 6, 6, 7, 7, 7, 7, 7, 7, 7, 7, 7, 7, 7, 7, 7, 7, 7, 7, 7, 7, 7, 7, 7, 7, 7, 7, 7, 7, 7, 7, 7, 7, 7, 7, 7, 7, 7, 7, 7, 7, 7, 7, 7, 7, 7, 7, 7, 7, 7, 7, 7, 7, 7, 7, 7, 7, 7, 7, 7, 7, 7, 7, 7, 7, 7, 7, 8, 8, 8, 8, 8, 8, 8, 8, 8, 8, 8, 8, 8, 8, 8, 8, 8, 8, 8, 8, 8, 8, 8, 8, 8, 8, 8, 8, 8, 8, 8, 8, 8, 8, 8, 8, 8, 8, 8, 8, 8, 8, 8, 8, 8, 8, 8, 8, 8, 8, 8, 8, 8, 8, 8, 8, 8, 8, 8, 8, 8, 8, 8, 8, 8, 8, 8, 8, 8, 8, 8, 8, 8, 8, 8, 8, 8, 8, 8, 8, 8, 8, 8, 8, 8, 8, 8, 8, 8, 8, 8, 8, 8, 8, 8, 8, 8, 8, 8, 8, 8, 8, 8, 8, 8, 8, 8, 8, 8, 8, 8, 8, 8, 8, 8, 8, 8, 8, 8, 8, 8, 8, 8, 8, 8, 8, 8, 8]⟩
def tabP (i b : Int) : Prop := (b = 1 ∧ i = 1) ∨ (b = 2 ∧ 2 ≤ i ∧ i < 4) ∨ (b = 3 ∧ 4 ≤ i ∧ i < 8) ∨ (b = 4 ∧ 8 ≤ i ∧ i < 16) ∨ (b = 5 ∧ 16 ≤ i ∧ i < 32) ∨ (b = 6 ∧ 32 ≤ i ∧ i < 64) ∨ (b = 7 ∧ 64 ≤ i ∧ i < 128) ∨ (b = 8 ∧ 128 ≤ i ∧ i < 256)
instance (i b : Int) : Decidable (tabP i b) := by unfold tabP; infer_instance
theorem tab_all : ∀ i : Fin 256, 1 ≤ i.val → tabP (i.val : Int) (bt tb (i.val : Int)) := by decide +kernel
theorem tab_at (i : Int) (h1 : 1 ≤ i) (h2 : i < 256) : tabP i (bt tb i) := by
  have := tab_all ⟨i.toNat, by omega⟩ (by show 1 ≤ i.toNat; omega)
  have e : ((i.toNat : Nat) : Int) = i := by omega
  simp only [e] at this
  exact this
theorem j0_eq (k : Nat) (x0 x2 : Int) : bits_Len64.j0 (k + 1) x0 x2 = if x0 ≥ 65536 then (if (x0 / 65536) ≥ 256 then (if 0 ≤ (((x0 / 65536) / 256) % 256) then (if (((x0 / 65536) / 256) % 256) < 256 then (some (wrap64 ((wrap64 ((wrap64 (x2 + 16)) + 8)) + (wrap64 (bt tb (((x0 / 65536) / 256) % 256)))))) else (none)) else (none)) else (if 0 ≤ ((x0 / 65536) % 256) then (if ((x0 / 65536) % 256) < 256 then (some (wrap64 ((wrap64 (x2 + 16)) + (wrap64 (bt tb ((x0 / 65536) % 256)))))) else (none)) else (none))) else (if x0 ≥ 256 then (if 0 ≤ ((x0 / 256) % 256) then (if ((x0 / 256) % 256) < 256 then (some (wrap64 ((wrap64 (x2 + 8)) + (wrap64 (bt tb ((x0 / 256) % 256)))))) else (none)) else (none)) else (if 0 ≤ ((x0) % 256) then (if ((x0) % 256) < 256 then (some (wrap64 (x2 + (wrap64 (bt tb ((x0) % 256)))))) else (none)) else (none))) := rfl
theorem len_ev (n : Int) (h1 : 1 ≤ n) (h2 : n ≤ 1000000) : ∃ t : Nat, 1 ≤ t ∧ t ≤ 20 ∧ Evt (fun k => bits_Len64.f k n) (t : Int) ∧ 2 ^ (t - 1) ≤ n ∧ n < 2 ^ t := by
  have e0 : ∀ r, Evt (fun k => bits_Len64.j0 k n 0) r → Evt (fun k => bits_Len64.f k n) r := fun r h => h.congr fun k => by
    unfold bits_Len64.f
    rw [if_neg (by omega)]
  by_cases c : n ≥ 65536
  · have hi : 1 ≤ n / 65536 ∧ n / 65536 < 256 := by omega
    have ht := tab_at (n / 65536) hi.1 hi.2
    have ev : Evt (fun k => bits_Len64.j0 k n 0) (wrap64 ((wrap64 (0 + 16)) + (wrap64 (bt tb (n / 65536))))) := Evt.done fun k => by
      rw [j0_eq, if_pos c, if_neg (by omega), if_pos (by omega), if_pos (by omega), show n / 65536 % 256 = n / 65536 by omega]
    rcases ht with ⟨e, a⟩ | ⟨e, a, b⟩ | ⟨e, a, b⟩ | ⟨e, a, b⟩ | ⟨e, a, b⟩ | ⟨e, a, b⟩ | ⟨e, a, b⟩ | ⟨e, a, b⟩
    · rw [e, show wrap64 ((wrap64 (0 + 16)) + (wrap64 1)) = ((17 : Nat) : Int) by decide +kernel] at ev; exact ⟨17, by decide, by decide, e0 _ ev, show (65536 : Int) ≤ n by omega, show n < (131072 : Int) by omega⟩
    · rw [e, show wrap64 ((wrap64 (0 + 16)) + (wrap64 2)) = ((18 : Nat) : Int) by decide +kernel] at ev; exact ⟨18, by decide, by decide, e0 _ ev, show (131072 : Int) ≤ n by omega, show n < (262144 : Int) by omega⟩
    · rw [e, show wrap64 ((wrap64 (0 + 16)) + (wrap64 3)) = ((19 : Nat) : Int) by decide +kernel] at ev; exact ⟨19, by decide, by decide, e0 _ ev, show (262144 : Int) ≤ n by omega, show n < (524288 : Int) by omega⟩
    · rw [e, show wrap64 ((wrap64 (0 + 16)) + (wrap64 4)) = ((20 : Nat) : Int) by decide +kernel] at ev; exact ⟨20, by decide, by decide, e0 _ ev, show (524288 : Int) ≤ n by omega, show n < (1048576 : Int) by omega⟩
    all_goals (exfalso; omega)
  · by_cases d : n ≥ 256
    · have hi : 1 ≤ n / 256 ∧ n / 256 < 256 := by omega
      have ht := tab_at (n / 256) hi.1 hi.2
      have ev : Evt (fun k => bits_Len64.j0 k n 0) (wrap64 ((wrap64 (0 + 8)) + (wrap64 (bt tb (n / 256))))) := Evt.done fun k => by
        rw [j0_eq, if_neg c, if_pos d, if_pos (by omega), if_pos (by omega), show n / 256 % 256 = n / 256 by omega]
      rcases ht with ⟨e, a⟩ | ⟨e, a, b⟩ | ⟨e, a, b⟩ | ⟨e, a, b⟩ | ⟨e, a, b⟩ | ⟨e, a, b⟩ | ⟨e, a, b⟩ | ⟨e, a, b⟩
      · rw [e, show wrap64 ((wrap64 (0 + 8)) + (wrap64 1)) = ((9 : Nat) : Int) by decide +kernel] at ev; exact ⟨9, by decide, by decide, e0 _ ev, show (256 : Int) ≤ n by omega, show n < (512 : Int) by omega⟩
      · rw [e, show wrap64 ((wrap64 (0 + 8)) + (wrap64 2)) = ((10 : Nat) : Int) by decide +kernel] at ev; exact ⟨10, by decide, by decide, e0 _ ev, show (512 : Int) ≤ n by omega, show n < (1024 : Int) by omega⟩
      · rw [e, show wrap64 ((wrap64 (0 + 8)) + (wrap64 3)) = ((11 : Nat) : Int) by decide +kernel] at ev; exact ⟨11, by decide, by decide, e0 _ ev, show (1024 : Int) ≤ n by omega, show n < (2048 : Int) by omega⟩
      · rw [e, show wrap64 ((wrap64 (0 + 8)) + (wrap64 4)) = ((12 : Nat) : Int) by decide +kernel] at ev; exact ⟨12, by decide, by decide, e0 _ ev, show (2048 : Int) ≤ n by omega, show n < (4096 : Int) by omega⟩
      · rw [e, show wrap64 ((wrap64 (0 + 8)) + (wrap64 5)) = ((13 : Nat) : Int) by decide +kernel] at ev; exact ⟨13, by decide, by decide, e0 _ ev, show (4096 : Int) ≤ n by omega, show n < (8192 : Int) by omega⟩
      · rw [e, show wrap64 ((wrap64 (0 + 8)) + (wrap64 6)) = ((14 : Nat) : Int) by decide +kernel] at ev; exact ⟨14, by decide, by decide, e0 _ ev, show (8192 : Int) ≤ n by omega, show n < (16384 : Int) by omega⟩
      · rw [e, show wrap64 ((wrap64 (0 + 8)) + (wrap64 7)) = ((15 : Nat) : Int) by decide +kernel] at ev; exact ⟨15, by decide, by decide, e0 _ ev, show (16384 : Int) ≤ n by omega, show n < (32768 : Int) by omega⟩
      · rw [e, show wrap64 ((wrap64 (0 + 8)) + (wrap64 8)) = ((16 : Nat) : Int) by decide +kernel] at ev; exact ⟨16, by decide, by decide, e0 _ ev, show (32768 : Int) ≤ n by omega, show n < (65536 : Int) by omega⟩
    · have ht := tab_at n h1 (by omega)
      have ev : Evt (fun k => bits_Len64.j0 k n 0) (wrap64 (0 + (wrap64 (bt tb n)))) := Evt.done fun k => by
        rw [j0_eq, if_neg c, if_neg d, if_pos (by omega), if_pos (by omega), show n % 256 = n by omega]
      rcases ht with ⟨e, a⟩ | ⟨e, a, b⟩ | ⟨e, a, b⟩ | ⟨e, a, b⟩ | ⟨e, a, b⟩ | ⟨e, a, b⟩ | ⟨e, a, b⟩ | ⟨e, a, b⟩
      · rw [e, show wrap64 (0 + (wrap64 1)) = ((1 : Nat) : Int) by decide +kernel] at ev; exact ⟨1, by decide, by decide, e0 _ ev, show (1 : Int) ≤ n by omega, show n < (2 : Int) by omega⟩
      · rw [e, show wrap64 (0 + (wrap64 2)) = ((2 : Nat) : Int) by decide +kernel] at ev; exact ⟨2, by decide, by decide, e0 _ ev, show (2 : Int) ≤ n by omega, show n < (4 : Int) by omega⟩
      · rw [e, show wrap64 (0 + (wrap64 3)) = ((3 : Nat) : Int) by decide +kernel] at ev; exact ⟨3, by decide, by decide, e0 _ ev, show (4 : Int) ≤ n by omega, show n < (8 : Int) by omega⟩
      · rw [e, show wrap64 (0 + (wrap64 4)) = ((4 : Nat) : Int) by decide +kernel] at ev; exact ⟨4, by decide, by decide, e0 _ ev, show (8 : Int) ≤ n by omega, show n < (16 : Int) by omega⟩
      · rw [e, show wrap64 (0 + (wrap64 5)) = ((5 : Nat) : Int) by decide +kernel] at ev; exact ⟨5, by decide, by decide, e0 _ ev, show (16 : Int) ≤ n by omega, show n < (32 : Int) by omega⟩
      · rw [e, show wrap64 (0 + (wrap64 6)) = ((6 : Nat) : Int) by decide +kernel] at ev; exact ⟨6, by decide, by decide, e0 _ ev, show (32 : Int) ≤ n by omega, show n < (64 : Int) by omega⟩
      · rw [e, show wrap64 (0 + (wrap64 7)) = ((7 : Nat) : Int) by decide +kernel] at ev; exact ⟨7, by decide, by decide, e0 _ ev, show (64 : Int) ≤ n by omega, show n < (128 : Int) by omega⟩
      · rw [e, show wrap64 (0 + (wrap64 8)) = ((8 : Nat) : Int) by decide +kernel] at ev; exact ⟨8, by decide, by decide, e0 _ ev, show (128 : Int) ≤ n by omega, show n < (256 : Int) by omega⟩
theorem uw_id (x : Int) (h0 : 0 ≤ x) (h1 : x < 18446744073709551616) : IntKind.u64.wrap x = x := by rw [wu64]; omega
theorem and_low (x : Int) (h0 : 0 ≤ x) (h1 : x < 18446744073709551616) : Go.bits .and .u64 x 4294967295 = x % 4294967296 := by
  obtain ⟨a, rfl⟩ : ∃ a : Nat, x = (a : Int) := ⟨x.toNat, by omega⟩
  have ha : a < 18446744073709551616 := by omega
  unfold Go.bits
  have e1 : (BitVec.ofInt 64 (a : Int)).toNat = a := by simp; omega
  have e2 : (BitVec.ofInt 64 (4294967295 : Int)).toNat = 4294967295 := by decide +kernel
  have e3 : ((BitVec.ofInt 64 (a : Int)) &&& (BitVec.ofInt 64 (4294967295 : Int))).toNat = a % 4294967296 := by
    rw [BitVec.toNat_and, e1, e2]
    exact Nat.and_two_pow_sub_one_eq_mod a 32
  refine (congrArg (fun z : Nat => IntKind.u64.wrap (z : Int)) e3).trans ?_
  show IntKind.u64.wrap ((a % 4294967296 : Nat) : Int) = _
  rw [wu64]
  omega
theorem or_sum (a b : Int) (s : Nat) (ha : 0 ≤ a) (hb : 0 ≤ b) (hb2 : b < 2 ^ s) (hs : a * 2 ^ s + b < 18446744073709551616) : Go.bits .or .u64 (a * 2 ^ s) b = a * 2 ^ s + b := by
  obtain ⟨x, rfl⟩ : ∃ x : Nat, a = (x : Int) := ⟨a.toNat, by omega⟩
  obtain ⟨y, rfl⟩ : ∃ y : Nat, b = (y : Int) := ⟨b.toNat, by omega⟩
  have ep : ((x : Int) * 2 ^ s) = ((x * 2 ^ s : Nat) : Int) := by simp
  have ey : y < 2 ^ s := by
    have : ((y : Nat) : Int) < ((2 ^ s : Nat) : Int) := by simpa using hb2
    exact Int.ofNat_lt.mp this
  rw [ep] at hs ⊢
  generalize hz : x * 2 ^ s = z at *
  have hor : z ||| y = z + y := by
    have := Nat.two_pow_add_eq_or_of_lt ey x
    rw [Nat.mul_comm, hz] at this
    exact this.symm
  unfold Go.bits
  have e1 : (BitVec.ofInt 64 (z : Int)).toNat = z := by simp; omega
  have e2 : (BitVec.ofInt 64 (y : Int)).toNat = y := by simp; omega
  have e3 : ((BitVec.ofInt 64 (z : Int)) ||| (BitVec.ofInt 64 (y : Int))).toNat = z + y := by
    rw [BitVec.toNat_or, e1, e2, hor]
  refine (congrArg (fun z : Nat => IntKind.u64.wrap (z : Int)) e3).trans ?_
  show IntKind.u64.wrap ((z + y : Nat) : Int) = _
  rw [wu64]
  omega
/-- The long division's two rounds where the divisor's lower half is 0: no correction is due. -/
theorem core_ev (U1 N1 un1 un0 s : Int) (hs : 0 ≤ s) (hN : 2147483648 ≤ N1 ∧ N1 < 4294967296) (hU : 0 ≤ U1 ∧ U1 < 4294967296 * N1) (h1 : 0 ≤ un1 ∧ un1 < 4294967296) (h0 : 0 ≤ un0 ∧ un0 < 4294967296) :
    Evt (fun k => bits_Div64.l0 k (4294967296 * N1) s N1 0 U1 un1 un0 (IntKind.u64.wrap (Int.tdiv U1 N1)) (IntKind.u64.wrap (U1 - (IntKind.u64.wrap ((IntKind.u64.wrap (Int.tdiv U1 N1)) * N1)))))
      (U1 / N1 * 4294967296 + (U1 % N1 * 4294967296 + un1) / N1, shr .u64 ((U1 % N1 * 4294967296 + un1) % N1 * 4294967296 + un0) s) := by
  have a1 := Int.emod_nonneg U1 (show N1 ≠ 0 by omega)
  have a2 := Int.emod_lt_of_pos U1 (show 0 < N1 by omega)
  have a3 := Int.mul_ediv_add_emod U1 N1
  have a4 : 0 ≤ U1 / N1 := Int.ediv_nonneg hU.1 (by omega)
  have a5 : U1 / N1 < 4294967296 := Int.ediv_lt_of_lt_mul (by omega) hU.2
  generalize hq1 : U1 / N1 = q1 at *
  generalize hr1 : U1 % N1 = r1 at *
  have hU2 : 0 ≤ r1 * 4294967296 + un1 ∧ r1 * 4294967296 + un1 < 4294967296 * N1 := by omega
  have b1 := Int.emod_nonneg (r1 * 4294967296 + un1) (show N1 ≠ 0 by omega)
  have b2 := Int.emod_lt_of_pos (r1 * 4294967296 + un1) (show 0 < N1 by omega)
  have b3 := Int.mul_ediv_add_emod (r1 * 4294967296 + un1) N1
  have b4 : 0 ≤ (r1 * 4294967296 + un1) / N1 := Int.ediv_nonneg hU2.1 (by omega)
  have b5 : (r1 * 4294967296 + un1) / N1 < 4294967296 := Int.ediv_lt_of_lt_mul (by omega) hU2.2
  have td1 : Int.tdiv U1 N1 = q1 := by rw [Int.tdiv_eq_ediv_of_nonneg hU.1, hq1]
  have td2 : Int.tdiv (r1 * 4294967296 + un1) N1 = (r1 * 4294967296 + un1) / N1 := Int.tdiv_eq_ediv_of_nonneg hU2.1
  generalize hq0 : (r1 * 4294967296 + un1) / N1 = q0 at *
  generalize hr2 : (r1 * 4294967296 + un1) % N1 = r2 at *
  have mm1 : 0 ≤ N1 * q1 := Int.mul_nonneg (by omega) a4
  have mm0 : 0 ≤ N1 * q0 := Int.mul_nonneg (by omega) b4
  have m1 : q1 * N1 = U1 - r1 := by rw [Int.mul_comm]; omega
  have m0 : q0 * N1 = r1 * 4294967296 + un1 - r2 := by rw [Int.mul_comm]; omega
  have m2 : q1 * (4294967296 * N1) = 4294967296 * (U1 - r1) := by rw [Int.mul_left_comm, m1]
  have m3 : q0 * (4294967296 * N1) = 4294967296 * (r1 * 4294967296 + un1 - r2) := by rw [Int.mul_left_comm, m0]
  have w1 : IntKind.u64.wrap q1 = q1 := uw_id _ (by omega) (by omega)
  have w2 : IntKind.u64.wrap (q1 * N1) = U1 - r1 := by rw [m1]; exact uw_id _ (by omega) (by omega)
  have w3 : IntKind.u64.wrap (U1 - (U1 - r1)) = r1 := by rw [show U1 - (U1 - r1) = r1 by omega]; exact uw_id _ (by omega) (by omega)
  rw [td1, w1, w2, w3]
  have u2 : IntKind.u64.wrap ((IntKind.u64.wrap ((IntKind.u64.wrap (U1 * 4294967296)) + un1)) - (IntKind.u64.wrap (q1 * (4294967296 * N1)))) = r1 * 4294967296 + un1 := by
    rw [m2]; simp only [wu64]; omega
  have w4 : IntKind.u64.wrap q0 = q0 := uw_id _ (by omega) (by omega)
  have w5 : IntKind.u64.wrap (q0 * N1) = r1 * 4294967296 + un1 - r2 := by rw [m0]; exact uw_id _ (by omega) (by omega)
  have w6 : IntKind.u64.wrap (r1 * 4294967296 + un1 - (r1 * 4294967296 + un1 - r2)) = r2 := by rw [show r1 * 4294967296 + un1 - (r1 * 4294967296 + un1 - r2) = r2 by omega]; exact uw_id _ (by omega) (by omega)
  have w7 : IntKind.u64.wrap ((IntKind.u64.wrap (q1 * 4294967296)) + q0) = q1 * 4294967296 + q0 := by simp only [wu64]; omega
  have w8 : IntKind.u64.wrap ((IntKind.u64.wrap ((IntKind.u64.wrap ((r1 * 4294967296 + un1) * 4294967296)) + un0)) - (IntKind.u64.wrap (q0 * (4294967296 * N1)))) = r2 * 4294967296 + un0 := by
    rw [m3]; simp only [wu64]; omega
  have w9 : ∀ z, decide (IntKind.u64.wrap (z * 0) > IntKind.u64.wrap ((IntKind.u64.wrap (4294967296 * r1)) + un1)) = false := fun z => by
    refine decide_eq_false ?_
    rw [Int.mul_zero]
    simp only [wu64]
    omega
  have w10 : ∀ z, decide (IntKind.u64.wrap (z * 0) > IntKind.u64.wrap ((IntKind.u64.wrap (4294967296 * r2)) + un0)) = false := fun z => by
    refine decide_eq_false ?_
    rw [Int.mul_zero]
    simp only [wu64]
    omega
  have e1 : ∀ k, bits_Div64.l0 (k + 1) (4294967296 * N1) s N1 0 U1 un1 un0 q1 r1 = bits_Div64.j1 k (4294967296 * N1) s N1 0 U1 un1 un0 q1 r1 false := fun k => by
    simp only [bits_Div64.l0]
    rw [if_neg (by omega), w9]
  have e2 : ∀ k, bits_Div64.j1 (k + 1) (4294967296 * N1) s N1 0 U1 un1 un0 q1 r1 false = bits_Div64.j2 k (4294967296 * N1) s N1 0 U1 un1 un0 q1 := fun k => by
    simp only [bits_Div64.j1, Bool.false_eq_true, if_false]
  have e3 : ∀ k, bits_Div64.j2 (k + 1) (4294967296 * N1) s N1 0 U1 un1 un0 q1 = bits_Div64.l1 k (4294967296 * N1) s N1 0 un0 q1 r2 (r1 * 4294967296 + un1) q0 := fun k => by
    simp only [bits_Div64.j2]
    rw [if_neg (by omega), u2, td2, w4, w5, w6]
  have e4 : ∀ k, bits_Div64.l1 (k + 1) (4294967296 * N1) s N1 0 un0 q1 r2 (r1 * 4294967296 + un1) q0 = bits_Div64.j4 k (4294967296 * N1) s N1 0 un0 q1 r2 (r1 * 4294967296 + un1) q0 false := fun k => by
    simp only [bits_Div64.l1]
    rw [if_neg (by omega), w10]
  have e5 : ∀ k, bits_Div64.j4 (k + 1) (4294967296 * N1) s N1 0 un0 q1 r2 (r1 * 4294967296 + un1) q0 false = some (q1 * 4294967296 + q0, shr .u64 (r2 * 4294967296 + un0) s) := fun k => by
    simp only [bits_Div64.j4, Bool.false_eq_true, if_false]
    rw [if_pos hs, w7, w8]
  exact Evt.step (g := fun k => bits_Div64.j1 k (4294967296 * N1) s N1 0 U1 un1 un0 q1 r1 false) (Evt.step (g := fun k => bits_Div64.j2 k (4294967296 * N1) s N1 0 U1 un1 un0 q1) (Evt.step (g := fun k => bits_Div64.l1 k (4294967296 * N1) s N1 0 un0 q1 r2 (r1 * 4294967296 + un1) q0) (Evt.step (g := fun k => bits_Div64.j4 k (4294967296 * N1) s N1 0 un0 q1 r2 (r1 * 4294967296 + un1) q0 false) (Evt.done e5) e4) e3) e2) e1
theorem div64_ev (x lo n : Int) (hx : 0 ≤ x ∧ x < n) (hlo : 0 ≤ lo ∧ lo < 18446744073709551616) (hn1 : 1 ≤ n) (hn2 : n ≤ 1000000) :
    Evt (fun k => bits_Div64.f k x lo n) ((x * 18446744073709551616 + lo) / n, (x * 18446744073709551616 + lo) % n) := by
  by_cases c0 : x = 0
  · subst c0
    refine (Evt.const _).congr fun k => ?_
    unfold bits_Div64.f
    rw [if_neg (by omega), if_neg (by omega), if_pos rfl, Int.tdiv_eq_ediv_of_nonneg hlo.1, Int.tmod_eq_emod_of_nonneg hlo.1, Int.zero_mul, Int.zero_add, uw_id _ (Int.ediv_nonneg hlo.1 (by omega)) (Int.lt_of_le_of_lt (Int.ediv_le_self _ hlo.1) hlo.2)]
  obtain ⟨t, ht1, ht2, hlen, hp1, hp2⟩ := len_ev n hn1 hn2
  -- the powers
  have hPR : (2 : Int) ^ (64 - t) * 2 ^ t = 18446744073709551616 := by rw [← Int.pow_add, show 64 - t + t = 64 by omega]; rfl
  have hP44 : (2 : Int) ^ (64 - t) = 4294967296 * 2 ^ (32 - t) := by
    rw [show (4294967296 : Int) = 2 ^ 32 from rfl, ← Int.pow_add, show 32 + (32 - t) = 64 - t by omega]
  have hPQ : (2 : Int) ^ (32 - t) * 2 ^ t = 4294967296 := by rw [← Int.pow_add, show 32 - t + t = 32 by omega]; rfl
  have hhalf : (2 : Int) ^ t = 2 * 2 ^ (t - 1) := by
    rw [show t = t - 1 + 1 by omega, Int.pow_succ, show t - 1 + 1 - 1 = t - 1 by omega, Int.mul_comm]
  have hPpos : (0 : Int) < 2 ^ (64 - t) := Int.pow_pos (by decide)
  have hQpos : (0 : Int) < 2 ^ (32 - t) := Int.pow_pos (by decide)
  have hRpos : (0 : Int) < 2 ^ t := Int.pow_pos (by decide)
  have hs64 : ∀ z : Nat, z = 64 - t → min z 64 = 64 - t := fun z hz => by omega
  -- what the steps yield
  have eLZ : Evt (fun k => bits_LeadingZeros64.f k n) ((64 - t : Nat) : Int) := by
    refine Evt.bind (f := fun k => bits_Len64.f k n) (g := fun t k => some (wrap64 (64 - t))) hlen ?_
    refine (Evt.const _).congr fun k => ?_
    rw [w64 (by omega) (by omega)]
    congr 1
    omega
  have us : IntKind.u64.wrap ((64 - t : Nat) : Int) = ((64 - t : Nat) : Int) := uw_id _ (by omega) (by omega)
  have us2 : IntKind.u64.wrap (64 - ((64 - t : Nat) : Int)) = (t : Int) := by rw [wu64]; omega
  have hshl : ∀ z : Int, shl .u64 z ((64 - t : Nat) : Int) = IntKind.u64.wrap (z * 2 ^ (64 - t)) := fun z => by
    unfold shl
    rw [Int.toNat_natCast]
    simp only [IntKind.bits]
    rw [hs64 _ rfl]
  have hshr : ∀ z : Int, shr .u64 z (t : Int) = z / 2 ^ t := fun z => by
    unfold shr
    rw [Int.toNat_natCast]
    simp only [IntKind.bits]
    rw [Nat.min_eq_left (by omega)]
  have hshrs : ∀ z : Int, shr .u64 z ((64 - t : Nat) : Int) = z / 2 ^ (64 - t) := fun z => by
    unfold shr
    rw [Int.toNat_natCast]
    simp only [IntKind.bits]
    rw [hs64 _ rfl]
  -- Y = n * P = H * N1
  have hnP : n * 2 ^ (64 - t) < 18446744073709551616 := by
    have := Int.mul_lt_mul_of_pos_right hp2 hPpos
    rw [Int.mul_comm (2 ^ t)] at this
    omega
  have hN1lo : 2147483648 ≤ n * 2 ^ (32 - t) := by
    have := Int.mul_le_mul_of_nonneg_right hp1 (Int.le_of_lt hQpos)
    have e : (2 : Int) ^ (t - 1) * 2 ^ (32 - t) * 2 = 4294967296 := by
      rw [Int.mul_right_comm, Int.mul_comm _ 2, ← hhalf, Int.mul_comm, hPQ]
    omega
  have hY : n * 2 ^ (64 - t) = 4294967296 * (n * 2 ^ (32 - t)) := by rw [hP44, Int.mul_left_comm]
  have hN1hi : n * 2 ^ (32 - t) < 4294967296 := by omega
  -- the number shifted
  have hxP : x * 2 ^ (64 - t) + 2 ^ (64 - t) ≤ n * 2 ^ (64 - t) := by
    have := Int.mul_le_mul_of_nonneg_right (show x + 1 ≤ n by omega) (Int.le_of_lt hPpos)
    rw [Int.add_mul, Int.one_mul] at this
    exact this
  have hxP0 : 0 ≤ x * 2 ^ (64 - t) := Int.mul_nonneg hx.1 (Int.le_of_lt hPpos)
  have hloR0 : 0 ≤ lo / 2 ^ t := Int.ediv_nonneg hlo.1 (Int.le_of_lt hRpos)
  have hloR : lo / 2 ^ t < 2 ^ (64 - t) := Int.ediv_lt_of_lt_mul hRpos (by rw [hPR]; exact hlo.2)
  have hor := or_sum x (lo / 2 ^ t) (64 - t) hx.1 hloR0 hloR (by omega)
  have hlm := Int.mul_ediv_add_emod lo (2 ^ t)
  have hlm0 := Int.emod_nonneg lo (show (2 : Int) ^ t ≠ 0 by omega)
  have hlm1 := Int.emod_lt_of_pos lo hRpos
  have hL1 : lo % 2 ^ t * 2 ^ (64 - t) < 18446744073709551616 := by
    have := Int.mul_lt_mul_of_pos_right hlm1 hPpos
    rw [Int.mul_comm (2 ^ t), hPR] at this
    exact this
  have hL0 : 0 ≤ lo % 2 ^ t * 2 ^ (64 - t) := Int.mul_nonneg hlm0 (Int.le_of_lt hPpos)
  have hloP : lo * 2 ^ (64 - t) = lo / 2 ^ t * 18446744073709551616 + lo % 2 ^ t * 2 ^ (64 - t) := by
    conv => lhs; rw [← hlm]
    rw [Int.add_mul, Int.mul_comm (2 ^ t), Int.mul_assoc, Int.mul_comm (2 ^ t), hPR]
  have hLw : IntKind.u64.wrap (lo * 2 ^ (64 - t)) = lo % 2 ^ t * 2 ^ (64 - t) := by
    rw [hloP, wu64, Int.add_comm, Int.add_mul_emod_self_right]
    omega
  generalize hN1 : n * 2 ^ (32 - t) = N1 at *
  generalize hLL : lo % 2 ^ t * 2 ^ (64 - t) = L at *
  have hyw : IntKind.u64.wrap (n * 2 ^ (64 - t)) = 4294967296 * N1 := by rw [hY]; exact uw_id _ (by omega) (by omega)
  have hxw : IntKind.u64.wrap (x * 2 ^ (64 - t)) = x * 2 ^ (64 - t) := uw_id _ hxP0 (by omega)
  have hydiv : 4294967296 * N1 / 4294967296 = N1 := by omega
  have hyand : Go.bits .and .u64 (4294967296 * N1) 4294967295 = 0 := by rw [and_low _ (by omega) (by omega)]; omega
  have hLand : Go.bits .and .u64 L 4294967295 = L % 4294967296 := and_low _ hL0 hL1
  have hcore := core_ev (x * 2 ^ (64 - t) + lo / 2 ^ t) N1 (L / 4294967296) (L % 4294967296) ((64 - t : Nat) : Int) (by omega) ⟨hN1lo, hN1hi⟩ (by omega) (by omega) (by omega)
  -- the answer
  have hU : x * 2 ^ (64 - t) + lo / 2 ^ t = N1 * ((x * 2 ^ (64 - t) + lo / 2 ^ t) / N1) + (x * 2 ^ (64 - t) + lo / 2 ^ t) % N1 := (Int.mul_ediv_add_emod _ _).symm
  have hT : (x * 18446744073709551616 + lo) * 2 ^ (64 - t) = (x * 2 ^ (64 - t) + lo / 2 ^ t) * 18446744073709551616 + L := by
    rw [Int.add_mul, hloP, Int.mul_right_comm, Int.add_mul]
    omega
  generalize hU1 : x * 2 ^ (64 - t) + lo / 2 ^ t = U1 at *
  have r1a := Int.emod_nonneg U1 (show N1 ≠ 0 by omega)
  have r1b := Int.emod_lt_of_pos U1 (show 0 < N1 by omega)
  generalize hq1 : U1 / N1 = q1 at *
  generalize hr1 : U1 % N1 = r1 at *
  have hU2 := Int.mul_ediv_add_emod (r1 * 4294967296 + L / 4294967296) N1
  have r2a := Int.emod_nonneg (r1 * 4294967296 + L / 4294967296) (show N1 ≠ 0 by omega)
  have r2b := Int.emod_lt_of_pos (r1 * 4294967296 + L / 4294967296) (show 0 < N1 by omega)
  generalize hq0 : (r1 * 4294967296 + L / 4294967296) / N1 = q0 at *
  generalize hr2 : (r1 * 4294967296 + L / 4294967296) % N1 = r2 at *
  have hE : (x * 18446744073709551616 + lo) * 2 ^ (64 - t) = (q1 * 4294967296 + q0) * (n * 2 ^ (64 - t)) + (r2 * 4294967296 + L % 4294967296) := by
    have p1 : q1 * 4294967296 * (4294967296 * N1) = 18446744073709551616 * (N1 * q1) := by
      rw [← Int.mul_assoc, show q1 * 4294967296 * 4294967296 = 18446744073709551616 * q1 by omega, Int.mul_assoc, Int.mul_comm q1]
    have p0 : q0 * (4294967296 * N1) = 4294967296 * (N1 * q0) := by rw [Int.mul_left_comm, Int.mul_comm q0]
    rw [hT, hY, Int.add_mul, p1, p0]
    generalize N1 * q1 = z1 at *
    generalize N1 * q0 = z0 at *
    omega
  have hE2 : r2 * 4294967296 + L % 4294967296 = (x * 18446744073709551616 + lo - n * (q1 * 4294967296 + q0)) * 2 ^ (64 - t) := by
    have p2 : n * (q1 * 4294967296 + q0) * 2 ^ (64 - t) = (q1 * 4294967296 + q0) * (n * 2 ^ (64 - t)) := by rw [Int.mul_comm n, Int.mul_assoc]
    rw [Int.sub_mul, hE, p2]
    omega
  have hfin : (x * 18446744073709551616 + lo) / n = q1 * 4294967296 + q0 ∧ (x * 18446744073709551616 + lo) % n = (r2 * 4294967296 + L % 4294967296) / 2 ^ (64 - t) := by
    have hq : (r2 * 4294967296 + L % 4294967296) / 2 ^ (64 - t) = x * 18446744073709551616 + lo - n * (q1 * 4294967296 + q0) := by
      rw [hE2]
      exact Int.mul_ediv_cancel _ (by omega)
    rw [hq]
    refine (Int.ediv_emod_unique (by omega)).mpr ⟨by omega, ?_, ?_⟩
    · rw [← hq]
      exact Int.ediv_nonneg (by omega) (Int.le_of_lt hPpos)
    · rw [← hq]
      refine Int.ediv_lt_of_lt_mul hPpos ?_
      omega
  rw [hfin.1, hfin.2, ← hshrs]
  refine Evt.congr (g := fun k => (bits_LeadingZeros64.f k n).bind fun t175 => (if 0 ≤ (IntKind.u64.wrap (t175)) then (if 0 ≤ (IntKind.u64.wrap (64 - (IntKind.u64.wrap (t175)))) then (if ((shl .u64 n (IntKind.u64.wrap (t175))) / 4294967296) = 0 then (none) else (bits_Div64.l0 k (shl .u64 n (IntKind.u64.wrap (t175))) (IntKind.u64.wrap (t175)) ((shl .u64 n (IntKind.u64.wrap (t175))) / 4294967296) (Go.bits .and .u64 (shl .u64 n (IntKind.u64.wrap (t175))) 4294967295) (Go.bits .or .u64 (shl .u64 x (IntKind.u64.wrap (t175))) (shr .u64 lo (IntKind.u64.wrap (64 - (IntKind.u64.wrap (t175)))))) ((shl .u64 lo (IntKind.u64.wrap (t175))) / 4294967296) (Go.bits .and .u64 (shl .u64 lo (IntKind.u64.wrap (t175))) 4294967295) (IntKind.u64.wrap (Int.tdiv (Go.bits .or .u64 (shl .u64 x (IntKind.u64.wrap (t175))) (shr .u64 lo (IntKind.u64.wrap (64 - (IntKind.u64.wrap (t175)))))) ((shl .u64 n (IntKind.u64.wrap (t175))) / 4294967296))) (IntKind.u64.wrap ((Go.bits .or .u64 (shl .u64 x (IntKind.u64.wrap (t175))) (shr .u64 lo (IntKind.u64.wrap (64 - (IntKind.u64.wrap (t175)))))) - (IntKind.u64.wrap ((IntKind.u64.wrap (Int.tdiv (Go.bits .or .u64 (shl .u64 x (IntKind.u64.wrap (t175))) (shr .u64 lo (IntKind.u64.wrap (64 - (IntKind.u64.wrap (t175)))))) ((shl .u64 n (IntKind.u64.wrap (t175))) / 4294967296))) * ((shl .u64 n (IntKind.u64.wrap (t175))) / 4294967296))))))) else (none)) else (none))) ?_ fun k => by
    unfold bits_Div64.f
    rw [if_neg (by omega), if_neg (by omega), if_neg c0]
  obtain ⟨K1, k1⟩ := eLZ
  obtain ⟨K2, k2⟩ := hcore
  refine ⟨K1 + K2, fun k hk => ?_⟩
  have k1' : bits_LeadingZeros64.f k n = some ((64 - t : Nat) : Int) := k1 k (by omega)
  have k2' := k2 k (by omega)
  simp only at k2'
  show (bits_LeadingZeros64.f k n).bind _ = _
  rw [k1', Option.bind_some, us, us2, if_pos (by omega), if_pos (by omega), hshl, hshl, hshl, hshr, hyw, hxw, hLw, hor, hydiv, if_neg (by omega), hyand, hLand]
  exact k2'
theorem not_i64 (x : Int) (h : -9223372036854775808 ≤ x ∧ x ≤ 9223372036854775807) : Go.bits .xor .i64 (-1) x = -1 - x := by
  show IntKind.i64.wrap ((BitVec.ofInt 64 (-1) ^^^ BitVec.ofInt 64 x).toNat : Int) = _
  have h1 : BitVec.ofInt 64 (-1) = BitVec.allOnes 64 := by decide
  rw [h1, BitVec.allOnes_xor, BitVec.toNat_not, BitVec.toNat_ofInt]
  have e : ((2 ^ 64 - 1 - (x % ((2 ^ 64 : Nat) : Int)).toNat : Nat) : Int) = 18446744073709551615 - x % 18446744073709551616 := by
    have p : ((2 ^ 64 : Nat) : Int) = 18446744073709551616 := by decide +kernel
    have q : (2 ^ 64 : Nat) = 18446744073709551616 := by decide +kernel
    rw [p, q]
    omega
  rw [e]
  simp [IntKind.wrap, IntKind.bits, IntKind.signed]
  omega
theorem not_u64 (x : Int) (h : 0 ≤ x ∧ x ≤ 18446744073709551615) : Go.bits .xor .u64 18446744073709551615 x = 18446744073709551615 - x := by
  show IntKind.u64.wrap ((BitVec.ofInt 64 18446744073709551615 ^^^ BitVec.ofInt 64 x).toNat : Int) = _
  have h1 : BitVec.ofInt 64 18446744073709551615 = BitVec.allOnes 64 := by decide
  rw [h1, BitVec.allOnes_xor, BitVec.toNat_not, BitVec.toNat_ofInt]
  have e : ((2 ^ 64 - 1 - (x % ((2 ^ 64 : Nat) : Int)).toNat : Nat) : Int) = 18446744073709551615 - x % 18446744073709551616 := by
    have p : ((2 ^ 64 : Nat) : Int) = 18446744073709551616 := by decide +kernel
    have q : (2 ^ 64 : Nat) = 18446744073709551616 := by decide +kernel
    rw [p, q]
    omega
  rw [e, wu64]
  omega
/-- The program's sum is the reference's. -/
theorem add_same (a b c d : Int) (hb : 0 ≤ b ∧ b ≤ 18446744073709551615) (hd : 0 ≤ d ∧ d ≤ 18446744073709551615) : impl_WideAdd.f a b c d = spec_WideAdd.f a b c d := by
  unfold impl_WideAdd.f spec_WideAdd.f
  rw [if_pos ⟨hb.1, hb.2, hd.1, hd.2⟩]
  simp only [wu64]
  by_cases c1 : (b + d) % 18446744073709551616 < b
  · rw [if_pos c1]
    have e : (b + d) / 18446744073709551616 = 1 := by omega
    rw [e]
    congr 2
    unfold wrap64
    omega
  · rw [if_neg c1]
    have e : (b + d) / 18446744073709551616 = 0 := by omega
    rw [e]
    congr 2
    unfold wrap64
    omega
theorem spec_add_some (a b c d : Int) : ∃ r, spec_WideAdd.f a b c d = some r := by
  unfold spec_WideAdd.f
  split <;> exact ⟨_, rfl⟩
theorem impl_neg_wide (A : Int) : impl_WideNeg.f (wh A) (wl A) = some (wh (-A), wl (-A)) := by
  have h1 : -9223372036854775808 ≤ wh A ∧ wh A ≤ 9223372036854775807 := by unfold wh wrap64; omega
  have h2 : 0 ≤ wl A ∧ wl A ≤ 18446744073709551615 := by unfold wl; omega
  rw [← spec_neg_wide A]
  unfold spec_WideNeg.f impl_WideNeg.f
  rw [not_i64 _ h1, not_u64 _ h2, add_same _ _ _ _ (by omega) (by omega)]
  have e1 : wrap64 ((-1) - wh A) = -1 - wh A := w64 (by omega) (by omega)
  have e2 : IntKind.u64.wrap (18446744073709551615 - wl A) = 18446744073709551615 - wl A := uw_id _ (by omega) (by omega)
  rw [e1, e2]
/-- The quotient rounded down, of a whole number of 128 bits. -/
def meanv (A n : Int) : Int := if 0 ≤ A then A / n else -((-A) / n) - (if (-A) % n > 0 then 1 else 0)
theorem int_wide (D : Int) (h : -170141183460469231731687303715884105728 ≤ D ∧ D < 170141183460469231731687303715884105728) : (spec_WideInt.f (wh D) (wl D)).bind (fun bt => some (bt.1, bt.2)) = some (if fits D = true then D else 0, fits D) := by
  rw [spec_int_wide D h]; rfl
theorem quot_range (V n : Int) (h0 : 0 ≤ V) (hn : 1 ≤ n) : 0 ≤ V / n ∧ V / n ≤ V := ⟨Int.ediv_nonneg h0 (by omega), Int.ediv_le_self _ h0⟩
set_option maxHeartbeats 4000000 in
theorem spec_mean (A n : Int) (hA : -170141183460469231731687303715884105728 ≤ A ∧ A < 170141183460469231731687303715884105728) (h1 : 1 ≤ n) (h2 : n ≤ 1000000) :
    Evt (fun k => spec_WideMean.f k (wh A) (wl A) n) (if fits (meanv A n) = true then meanv A n else 0, fits (meanv A n)) := by
  refine Evt.congr (g := fun k => spec_WideMean.j0 k n false (wh A) (wl A)) ?_ fun k => by
    unfold spec_WideMean.f
    rw [if_neg (by omega), decide_eq_false (by omega)]
  by_cases c : 0 ≤ A
  · have hw : wh A ≥ 0 := by unfold wh wrap64; omega
    obtain ⟨out, o1, o2, o3⟩ := divide_ev A n c (by omega) h1 h2
    have hq := quot_range A n c h1
    have hW := wide_ev (A / n) hq.1 (by omega) out o1 o2
    have hm : meanv A n = A / n := if_pos c
    rw [hm]
    refine Evt.step (g := fun k => (spec_l02Bits.f k (wh A) (wl A)).bind fun t131 => ((spec_l02Divide.f k t131 n).bind fun bt134 => ((spec_l02Wide.f k bt134.1).bind fun bt138 => ((spec_WideInt.f bt138.1 bt138.2).bind fun bt140 => (some (bt140.1, bt140.2)))))) ?_ fun k => by
      simp only [spec_WideMean.j0, Bool.false_eq_true, if_false]
      rw [if_pos hw]
    refine Evt.bind (g := fun t131 k => ((spec_l02Divide.f k t131 n).bind fun bt134 => ((spec_l02Wide.f k bt134.1).bind fun bt138 => ((spec_WideInt.f bt138.1 bt138.2).bind fun bt140 => (some (bt140.1, bt140.2)))))) (bits_ev A c (by omega)) ?_
    refine Evt.bind (g := fun bt134 k => ((spec_l02Wide.f k bt134.1).bind fun bt138 => ((spec_WideInt.f bt138.1 bt138.2).bind fun bt140 => (some (bt140.1, bt140.2))))) o3 ?_
    refine Evt.bind (g := fun bt138 k => ((spec_WideInt.f bt138.1 bt138.2).bind fun bt140 => (some (bt140.1, bt140.2)))) hW ?_
    exact (Evt.const _).congr fun k => int_wide (A / n) (by omega)
  · have hw : ¬ wh A ≥ 0 := by unfold wh wrap64; omega
    have c' : 0 ≤ -A := by omega
    obtain ⟨out, o1, o2, o3⟩ := divide_ev (-A) n c' (by omega) h1 h2
    have hq := quot_range (-A) n c' h1
    have hW := wide_ev (-A / n) hq.1 (by omega) out o1 o2
    have hm : meanv A n = -((-A) / n) - (if (-A) % n > 0 then 1 else 0) := if_neg c
    rw [hm]
    refine Evt.step (g := fun k => (spec_l02Bits.f k (wh (-A)) (wl (-A))).bind fun t144 => ((spec_l02Divide.f k t144 n).bind fun bt147 => ((spec_l02Wide.f k bt147.1).bind fun bt151 => ((spec_WideNeg.f bt151.1 bt151.2).bind fun bt153 => (if bt147.2 > 0 then ((spec_WideOf.f (-1)).bind fun bt156 => ((spec_WideAdd.f bt153.1 bt153.2 bt156.1 bt156.2).bind fun bt158 => ((spec_WideInt.f bt158.1 bt158.2).bind fun bt160 => (some (bt160.1, bt160.2))))) else ((spec_WideInt.f bt153.1 bt153.2).bind fun bt162 => (some (bt162.1, bt162.2)))))))) ?_ fun k => by
      simp only [spec_WideMean.j0, Bool.false_eq_true, if_false]
      rw [if_neg hw, spec_neg_wide]
      rfl
    obtain ⟨K1, t1⟩ := bits_ev (-A) c' (by omega)
    obtain ⟨K2, t2⟩ := o3
    obtain ⟨K3, t3⟩ := hW
    simp only at t1 t2 t3
    refine ⟨K1 + K2 + K3, fun k hk => ?_⟩
    simp only
    rw [t1 k (by omega)]
    simp only [Option.bind_some]
    rw [t2 k (by omega)]
    simp only [Option.bind_some]
    rw [t3 k (by omega)]
    simp only [Option.bind_some]
    rw [spec_neg_wide]
    simp only [Option.bind_some]
    by_cases d : (-A) % n > 0
    · rw [if_pos d, if_pos d, spec_of_wide (-1) (by omega)]
      simp only [Option.bind_some]
      rw [spec_add_wide]
      simp only [Option.bind_some]
      rw [show -(-A / n) + -1 = -(-A / n) - 1 by omega]
      -- the quotient is smaller than the number unless the divisor is one
      refine int_wide _ ⟨?_, by omega⟩
      have hn2 : 2 ≤ n := by
        rcases Int.lt_or_eq_of_le h1 with g | g
        · omega
        · subst g; rw [Int.emod_one] at d; omega
      have := Int.mul_ediv_add_emod (-A) n
      have h3 : 2 * (-A / n) ≤ n * (-A / n) := Int.mul_le_mul_of_nonneg_right hn2 hq.1
      omega
    · rw [if_neg d, if_neg d, Int.sub_zero]
      exact int_wide _ (by omega)
theorem size_eq (A : Int) (hA : -170141183460469231731687303715884105728 ≤ A ∧ A < 170141183460469231731687303715884105728) : impl_Wide_size.f (wh A) (wl A) = some ((if 0 ≤ A then A else -A) / 18446744073709551616, (if 0 ≤ A then A else -A) % 18446744073709551616) := by
  unfold impl_Wide_size.f
  by_cases c : 0 ≤ A
  · rw [if_neg (by unfold wh wrap64; omega), if_pos c, wu64]
    have : wh A % 18446744073709551616 = A / 18446744073709551616 := by unfold wh wrap64; omega
    rw [this]; rfl
  · rw [if_pos (by unfold wh wrap64; omega), if_neg c, impl_neg_wide]
    simp only [Option.bind_some]
    rw [wu64]
    have : wh (-A) % 18446744073709551616 = -A / 18446744073709551616 := by unfold wh wrap64; omega
    rw [this]; rfl
theorem impl_mean (A n : Int) (hA : -170141183460469231731687303715884105728 ≤ A ∧ A < 170141183460469231731687303715884105728) (h1 : 1 ≤ n) (h2 : n ≤ 1000000) :
    Evt (fun k => impl_WideMean.f k (wh A) (wl A) n) (if fits (meanv A n) = true then meanv A n else 0, fits (meanv A n)) := by
  obtain ⟨V, hV⟩ : ∃ V, (if 0 ≤ A then A else -A) = V := ⟨_, rfl⟩
  have hV0 : 0 ≤ V ∧ V ≤ 170141183460469231731687303715884105728 := by subst hV; split <;> omega
  have hH0 : 0 ≤ V / 18446744073709551616 := by omega
  have hH1 : V / 18446744073709551616 < 18446744073709551616 := by omega
  have hn : IntKind.u64.wrap n = n := uw_id n (by omega) (by omega)
  have hx0 := Int.emod_nonneg (V / 18446744073709551616) (show n ≠ 0 by omega)
  have hx1 := Int.emod_lt_of_pos (V / 18446744073709551616) (show 0 < n by omega)
  have hD := div64_ev (V / 18446744073709551616 % n) (V % 18446744073709551616) n ⟨hx0, hx1⟩ (by omega) h1 h2
  have hm := Int.mul_ediv_add_emod (V / 18446744073709551616) n
  have hhi0 : 0 ≤ V / 18446744073709551616 / n := Int.ediv_nonneg hH0 (by omega)
  have hhi1 : V / 18446744073709551616 / n ≤ V / 18446744073709551616 := Int.ediv_le_self _ hH0
  generalize hT : V / 18446744073709551616 % n * 18446744073709551616 + V % 18446744073709551616 = T at hD
  have hT0 : 0 ≤ T := by omega
  have hlow0 : 0 ≤ T / n := Int.ediv_nonneg hT0 (by omega)
  have hlow1 : T / n < 18446744073709551616 := Int.ediv_lt_of_lt_mul (by omega) (by omega)
  have hr0 := Int.emod_nonneg T (show n ≠ 0 by omega)
  have hr1 := Int.emod_lt_of_pos T (show 0 < n by omega)
  have hTm := Int.mul_ediv_add_emod T n
  have hQ : V / n = V / 18446744073709551616 / n * 18446744073709551616 + T / n ∧ V % n = T % n := by
    refine (Int.ediv_emod_unique (by omega)).mpr ⟨?_, hr0, hr1⟩
    rw [Int.mul_add, ← Int.mul_assoc]
    omega
  generalize hhi : V / 18446744073709551616 / n = hi at *
  generalize hlow : T / n = low at *
  generalize hrest : T % n = rest at *
  have hmean : meanv A n = if 0 ≤ A then hi * 18446744073709551616 + low else -(hi * 18446744073709551616 + low) - (if rest > 0 then 1 else 0) := by
    unfold meanv
    by_cases c : 0 ≤ A
    · rw [if_pos c] at hV; subst hV
      rw [if_pos c, if_pos c, hQ.1]
    · rw [if_neg c] at hV; subst hV
      rw [if_neg c, if_neg c, hQ.1, hQ.2]
  have hsgn : wh A ≥ 0 ↔ 0 ≤ A := by unfold wh wrap64; omega
  refine Evt.congr (g := fun k => (bits_Div64.f k (V / 18446744073709551616 % n) (V % 18446744073709551616) n).bind fun bt180 => (if hi = 0 then (if wh A ≥ 0 then (impl_WideMean.j0 k bt180.2 bt180.1 (decide (bt180.1 > 9223372036854775807)) (wh A) (wl A)) else (impl_WideMean.j0 k bt180.2 bt180.1 false (wh A) (wl A))) else (some (0, false)))) ?_ fun k => by
    unfold impl_WideMean.f impl_in.f
    rw [if_pos h1, decide_eq_true h2, size_eq A hA, hV]
    simp only [Option.bind_some, if_true]
    rw [hn, if_neg (by omega), Int.tmod_eq_emod_of_nonneg hH0, Int.tdiv_eq_ediv_of_nonneg hH0, hhi, uw_id hi hhi0 (by omega)]
  refine Evt.bind (g := fun bt180 k => (if hi = 0 then (if wh A ≥ 0 then (impl_WideMean.j0 k bt180.2 bt180.1 (decide (bt180.1 > 9223372036854775807)) (wh A) (wl A)) else (impl_WideMean.j0 k bt180.2 bt180.1 false (wh A) (wl A))) else (some (0, false)))) hD ?_
  simp only
  by_cases c0 : hi = 0
  · subst c0
    rw [Int.zero_mul, Int.zero_add] at hmean
    refine Evt.congr ?_ fun k => if_pos rfl
    by_cases c : 0 ≤ A
    · rw [if_pos c] at hmean
      refine Evt.congr ?_ fun k => if_pos (hsgn.mpr c)
      refine Evt.done fun k => ?_
      simp only [impl_WideMean.j0]
      rw [hmean]
      by_cases d : low > 9223372036854775807
      · have hf : fits low = false := by unfold fits; rw [decide_eq_false (show ¬ low ≤ 9223372036854775807 by omega), Bool.and_false]
        rw [decide_eq_true d, hf]; rfl
      · have hf : fits low = true := by unfold fits; rw [decide_eq_true (show low ≤ 9223372036854775807 by omega), decide_eq_true (show -9223372036854775808 ≤ low by omega)]; rfl
        rw [decide_eq_false d, hf, if_neg (by decide), if_pos (hsgn.mpr c), w64 (by omega) (by omega)]; rfl
    · rw [if_neg c] at hmean
      refine Evt.congr ?_ fun k => if_neg (fun g => c (hsgn.mp g))
      refine Evt.done fun k => ?_
      simp only [impl_WideMean.j0, Bool.false_eq_true, if_false]
      rw [hmean, if_neg (fun g => c (hsgn.mp g))]
      have yes : ∀ D : Int, -9223372036854775808 ≤ D → D ≤ 0 → fits D = true := fun D a b => by unfold fits; rw [decide_eq_true a, decide_eq_true (show D ≤ 9223372036854775807 by omega)]; rfl
      have no : ∀ D : Int, D < -9223372036854775808 → fits D = false := fun D a => by unfold fits; rw [decide_eq_false (show ¬ -9223372036854775808 ≤ D by omega), Bool.false_and]
      by_cases d : rest > 0
      · rw [if_pos d, if_pos d, wu64]
        by_cases e : (low + 1) % 18446744073709551616 = 0
        · rw [if_pos e, no _ (by omega)]; rfl
        · rw [if_neg e]
          by_cases f : (low + 1) % 18446744073709551616 > 9223372036854775808
          · rw [if_pos f, no _ (by omega)]; rfl
          · rw [if_neg f, yes _ (by omega) (by omega), if_pos rfl]
            congr 2
            rw [wu64]
            unfold wrap64
            omega
      · rw [if_neg d, if_neg d, Int.sub_zero]
        by_cases f : low > 9223372036854775808
        · rw [if_pos f, no _ (by omega)]; rfl
        · rw [if_neg f, yes _ (by omega) (by omega), if_pos rfl]
          congr 2
          rw [wu64]
          unfold wrap64
          omega
  · have hf : fits (meanv A n) = false := by
      rw [hmean]
      unfold fits
      by_cases c : 0 ≤ A
      · rw [if_pos c, decide_eq_false (show ¬ hi * 18446744073709551616 + low ≤ 9223372036854775807 by omega), Bool.and_false]
      · rw [if_neg c]
        have : ¬ -9223372036854775808 ≤ -(hi * 18446744073709551616 + low) - (if rest > 0 then 1 else 0) := by split <;> omega
        rw [decide_eq_false this, Bool.false_and]
    rw [hf]
    exact (Evt.const _).congr fun k => if_neg c0
theorem halves (a b : Int) (ha : -9223372036854775808 ≤ a ∧ a ≤ 9223372036854775807) (hb : 0 ≤ b ∧ b ≤ 18446744073709551615) : ∃ A : Int, (-170141183460469231731687303715884105728 ≤ A ∧ A < 170141183460469231731687303715884105728) ∧ a = wh A ∧ b = wl A :=
  ⟨a * 18446744073709551616 + b, by omega, by unfold wh wrap64; omega, by unfold wl; omega⟩
theorem FnExactWideMean : Say.FnExactWideMean := by
  intro a b n ha hb hn
  obtain ⟨A, hA, rfl, rfl⟩ := halves a b ha hb
  refine Evt.ex (r := true) ?_
  have fin : ∀ x : Int × Bool, Evt (fun k => spec_WideMean.f k (wh A) (wl A) n) x → Evt (fun k => impl_WideMean.f k (wh A) (wl A) n) x → Evt (fun k => laws_FnExactWideMean.f k (wh A) (wl A) n) true := by
    rintro ⟨x, y⟩ ⟨K1, t1⟩ ⟨K2, t2⟩
    simp only at t1 t2
    refine ⟨K1 + K2, fun k hk => ?_⟩
    show laws_FnExactWideMean.f k (wh A) (wl A) n = some true
    unfold laws_FnExactWideMean.f laws_toWide.f
    simp only [Option.bind_some, t1 k (by omega), t2 k (by omega), bne_self_eq_false, Bool.false_eq_true, if_false, if_true]
  by_cases c : 1 ≤ n ∧ n ≤ 1000000
  · exact fin _ (spec_mean A n hA c.1 c.2) (impl_mean A n hA c.1 c.2)
  · refine fin (0, false) ?_ ?_
    · refine Evt.congr (g := fun k => spec_WideMean.j0 k n true (wh A) (wl A)) (Evt.done fun k => by simp only [spec_WideMean.j0, if_true]) fun k => ?_
      unfold spec_WideMean.f
      by_cases d : n < 1
      · rw [if_pos d]
      · rw [if_neg d, decide_eq_true (show n > 1000000 by omega)]
    · refine (Evt.const _).congr fun k => ?_
      unfold impl_WideMean.f impl_in.f
      by_cases d : 1 ≤ n
      · rw [if_pos d, decide_eq_false (show ¬ n ≤ 1000000 by omega)]; rfl
      · rw [if_neg d]; rfl

end Go.Proofs.Ytloiamjekoecgaa.Pure
