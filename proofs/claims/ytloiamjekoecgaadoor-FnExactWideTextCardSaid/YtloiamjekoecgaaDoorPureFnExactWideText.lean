/- Proved: for every wide number the program's WideText answers as the reference's. No other condition. -/
import Derived.Test.YtloiamjekoecgaaDoorSayFnExactWideText
import Derived.Test.YtloiamjekoecgaaDoorBase
import Derived.Test.YtloiamjekoecgaaDoorEv
import Derived.Test.YtloiamjekoecgaaDoorEw
namespace Go.Proofs.YtloiamjekoecgaaDoor.Pure
open Go.RowKit Go.Proofs.YtloiamjekoecgaaDoor.QFnExactWideText Go.Proofs.YtloiamjekoecgaaDoorW.PrintWords Go.Proofs.YtloiamjekoecgaaDoorW.PrintLast Go.Proofs.YtloiamjekoecgaaDoorW.PrintMore
open Go.Proofs.YtloiamjekoecgaaDoor.Base
set_option linter.unusedSimpArgs false
set_option linter.unusedVariables false

open Go.Proofs.YtloiamjekoecgaaDoor.Evt
/-- The halves of a whole number, as a wide one has them. -/
def wh (A : Int) : Int := wrap64 (A / 18446744073709551616)
def wl (A : Int) : Int := A % 18446744073709551616
theorem carry (a b c : Int) (h : c = a + b) : (c % 18446744073709551616 = a % 18446744073709551616 + b % 18446744073709551616 ∧ c / 18446744073709551616 = a / 18446744073709551616 + b / 18446744073709551616) ∨ (c % 18446744073709551616 + 18446744073709551616 = a % 18446744073709551616 + b % 18446744073709551616 ∧ c / 18446744073709551616 = a / 18446744073709551616 + b / 18446744073709551616 + 1) := by omega
theorem hi0 (x y : Int) : wrap64 (IntKind.u64.wrap ((IntKind.u64.wrap (wrap64 x)) + (IntKind.u64.wrap (wrap64 y)))) = wrap64 (x + y) := by
  simp only [wu64]
  unfold wrap64
  omega
theorem hi1 (x y : Int) : wrap64 (IntKind.u64.wrap ((IntKind.u64.wrap ((IntKind.u64.wrap (wrap64 x)) + (IntKind.u64.wrap (wrap64 y)))) + 1)) = wrap64 (x + y + 1) := by
  simp only [wu64]
  unfold wrap64
  omega
theorem spec_add_wide (A B : Int) : spec_WideAdd.f (wh A) (wl A) (wh B) (wl B) = some (wh (A + B), wl (A + B)) := by
  unfold spec_WideAdd.f wh wl
  rw [hi0, hi1]
  rcases carry A B (A + B) rfl with ⟨h1, h2⟩ | ⟨h1, h2⟩
  · have e : IntKind.u64.wrap (A % 18446744073709551616 + B % 18446744073709551616) = (A + B) % 18446744073709551616 := by rw [wu64]; omega
    rw [e, if_neg (by omega), h2]
  · have e : IntKind.u64.wrap (A % 18446744073709551616 + B % 18446744073709551616) = (A + B) % 18446744073709551616 := by rw [wu64]; omega
    rw [e, if_pos (by omega), h2]
theorem wh0 : wh 0 = 0 := by decide +kernel
theorem wl1 : wl 1 = 1 := by decide +kernel
theorem wl0 : wl 0 = 0 := by decide +kernel
theorem wh1 : wh 1 = 0 := by decide +kernel
theorem spec_neg_wide (A : Int) : spec_WideNeg.f (wh A) (wl A) = some (wh (-A), wl (-A)) := by
  unfold spec_WideNeg.f
  have e1 : wrap64 ((-1) - wh A) = wh (-A - 1) := by unfold wh wrap64; omega
  have e2 : IntKind.u64.wrap (18446744073709551615 - wl A) = wl (-A - 1) := by rw [wu64]; unfold wl; omega
  have h := spec_add_wide (-A - 1) 1
  rw [wh1, wl1] at h
  rw [e1, e2, h]
  simp only [Option.bind_some]
  rw [show -A - 1 + 1 = -A by omega]
theorem dd (x y z : Int) (hy : 0 ≤ y) : x / y / z = x / (y * z) := by rw [Int.ediv_ediv, if_neg (by omega), Int.sub_zero]
theorem dsucc (V : Int) (p : Nat) : V / 2 ^ (p + 1) = V / 2 ^ p / 2 := by
  rw [dd _ _ _ (Int.le_of_lt (Int.pow_pos (by decide))), Int.pow_succ]
/-- A binary digit. -/
def dig (V : Int) (j : Nat) : Int := V / 2 ^ j % 2
theorem dig_range (V : Int) (j : Nat) : dig V j = 0 ∨ dig V j = 1 := by unfold dig; omega
theorem dig_low (H L : Int) (j : Nat) (hj : j < 64) : dig (H * 18446744073709551616 + L) j = dig L j := by
  unfold dig
  have e : (18446744073709551616 : Int) = 2 ^ (63 - j) * 2 * 2 ^ j := by
    rw [← Int.pow_succ, ← Int.pow_add, show 63 - j + 1 + j = 64 by omega]; rfl
  have hp : (2 : Int) ^ j ≠ 0 := by have : (0 : Int) < 2 ^ j := Int.pow_pos (by decide); omega
  have e2 : (H * 18446744073709551616 + L) / 2 ^ j = L / 2 ^ j + 2 * (H * 2 ^ (63 - j)) := by
    rw [show H * 18446744073709551616 + L = L + (2 * (H * 2 ^ (63 - j))) * 2 ^ j by
      rw [e, Int.add_comm, show 2 * (H * 2 ^ (63 - j)) * 2 ^ j = H * (2 ^ (63 - j) * 2 * 2 ^ j) by
        simp only [Int.mul_comm, Int.mul_left_comm]]]
    exact Int.add_mul_ediv_right _ _ hp
  rw [e2]
  omega
theorem dig_high (V : Int) (j : Nat) : dig V (64 + j) = dig (V / 18446744073709551616) j := by
  unfold dig
  rw [show (18446744073709551616 : Int) = 2 ^ 64 from rfl, dd _ _ _ (by decide), ← Int.pow_add]
/-- The digits of a number, the least first. -/
def digs (V : Int) (n : Nat) : List Int := (List.range n).map (dig V)
theorem digs_len (V : Int) (n : Nat) : (digs V n).length = n := by simp [digs]
theorem digs_succ (V : Int) (n : Nat) : digs V (n + 1) = digs V n ++ [dig V n] := by simp [digs, List.range_succ]
theorem rd_digs (V : Int) (n i : Nat) (h : i < n) : rd (digs V n) (i : Int) = dig V i := by
  rw [rd_nat _ i (by rw [digs_len]; exact h)]
  simp [digs]
theorem half (x : Int) (h : 0 ≤ x) (hb : x < 18446744073709551616) : wrap64 (Int.tmod x 2) = x % 2 ∧ IntKind.u64.wrap (Int.tdiv x 2) = x / 2 := by
  rw [Int.tmod_eq_emod_of_nonneg h, Int.tdiv_eq_ediv_of_nonneg h, w64 (by omega) (by omega), wu64]
  omega
theorem bits_ev (V : Int) (h0 : 0 ≤ V) (hV : V < 340282366920938463463374607431768211456) : Evt (fun k => spec_l02Bits.f k (wh V) (wl V)) (digs V 128) := by
  have hd : V = V / 18446744073709551616 * 18446744073709551616 + wl V := by unfold wl; omega
  have hw : IntKind.u64.wrap (wh V) = V / 18446744073709551616 := by rw [wu64]; unfold wh wrap64; omega
  have hH0 : 0 ≤ V / 18446744073709551616 := by omega
  have hH1 : V / 18446744073709551616 < 18446744073709551616 := by omega
  have hL0 : 0 ≤ wl V := by unfold wl; omega
  have hL1 : wl V < 18446744073709551616 := by unfold wl; omega
  have pd : ∀ (x : Int) (i : Nat), 0 ≤ x → x < 18446744073709551616 → 0 ≤ x / 2 ^ i ∧ x / 2 ^ i < 18446744073709551616 := by
    intro x i a b
    have hp : (0 : Int) < 2 ^ i := Int.pow_pos (by decide)
    exact ⟨Int.ediv_nonneg a (Int.le_of_lt hp), Int.lt_of_le_of_lt (Int.ediv_le_self _ a) b⟩
  have high : ∀ (m i : Nat), i + m = 64 → Evt (fun k => spec_l02Bits.l1 k (digs V (64 + i)) (V / 18446744073709551616 / 2 ^ i) (i : Int)) (digs V 128) := by
    intro m
    induction m with
    | zero =>
      intro i hi
      obtain rfl : i = 64 := by omega
      exact Evt.done fun k => by simp only [spec_l02Bits.l1]; rw [if_neg (by decide)]
    | succ m ih =>
      intro i hi
      refine Evt.step (ih (i + 1) (by omega)) fun k => ?_
      have hx := pd _ i hH0 hH1
      have hh := half _ hx.1 hx.2
      simp only [spec_l02Bits.l1]
      rw [if_pos (by omega), if_pos (by rw [digs_len]; omega), hh.1, hh.2, w64 (by omega) (by omega), ← dsucc]
      rw [show 64 + (i + 1) = 64 + i + 1 by omega, digs_succ, dig_high]
      rfl
  have low : ∀ (m i : Nat), i + m = 64 → Evt (fun k => spec_l02Bits.l0 k (digs V i) (wl V / 2 ^ i) (i : Int) (wh V) (wl V)) (digs V 128) := by
    intro m
    induction m with
    | zero =>
      intro i hi
      obtain rfl : i = 64 := by omega
      refine Evt.step (high 64 0 rfl) fun k => ?_
      simp only [spec_l02Bits.l0]
      rw [if_neg (by decide), hw, Int.pow_zero, Int.ediv_one]
      rfl
    | succ m ih =>
      intro i hi
      refine Evt.step (ih (i + 1) (by omega)) fun k => ?_
      have hx := pd _ i hL0 hL1
      have hh := half _ hx.1 hx.2
      simp only [spec_l02Bits.l0]
      rw [if_pos (by omega), if_pos (by rw [digs_len]; omega), hh.1, hh.2, w64 (by omega) (by omega), ← dsucc]
      have e : dig V i = wl V / 2 ^ i % 2 := by
        conv => lhs; rw [hd]
        exact dig_low _ _ i (by omega)
      rw [digs_succ, e]
      rfl
  have s := low 64 0 rfl
  rw [Int.pow_zero, Int.ediv_one] at s
  exact s
theorem rd_set (l : List Int) (p j : Nat) (v : Int) (hp : p < l.length) : rd (l.set p v) (j : Int) = if j = p then v else rd l (j : Int) := by
  unfold rd
  simp only [Int.toNat_natCast, List.getD_eq_getElem?_getD, List.getElem?_set]
  by_cases c : p = j
  · subst c; simp [hp]
  · rw [if_neg c, if_neg (fun e => c e.symm)]
/-- One step of a long division by hand. -/
theorem div_step (X n b : Int) (hn : 0 < n) (hX : 0 ≤ X) (hb : b = X % 2) : (2 * (X / 2 % n) + b ≥ n → X % n = 2 * (X / 2 % n) + b - n ∧ X / n % 2 = 1) ∧ (¬ 2 * (X / 2 % n) + b ≥ n → X % n = 2 * (X / 2 % n) + b ∧ X / n % 2 = 0) := by
  have h1 := Int.emod_nonneg (X / 2) (show n ≠ 0 by omega)
  have h2 := Int.emod_lt_of_pos (X / 2) hn
  have h3 := Int.mul_ediv_add_emod (X / 2) n
  generalize X / 2 % n = r at *
  generalize hq : X / 2 / n = q at *
  have e2 : n * (2 * q) = 2 * (n * q) := Int.mul_left_comm n 2 q
  have e3 : n * (2 * q + 1) = 2 * (n * q) + n := by rw [Int.mul_add, e2, Int.mul_one]
  generalize n * q = y at *
  constructor
  · intro c
    have := (Int.ediv_emod_unique (a := X) (q := 2 * q + 1) (r := 2 * r + b - n) hn).mpr ⟨by rw [e3]; omega, by omega, by omega⟩
    exact ⟨this.2, by rw [this.1]; omega⟩
  · intro c
    have := (Int.ediv_emod_unique (a := X) (q := 2 * q) (r := 2 * r + b) hn).mpr ⟨by rw [e2]; omega, by omega, by omega⟩
    exact ⟨this.2, by rw [this.1]; omega⟩
theorem rd_repl (n j : Nat) (h : j < n) : rd (List.replicate n 0) (j : Int) = 0 := by
  rw [rd_nat _ j (by simpa using h)]
  simp
theorem e128 : (2 : Int) ^ 128 = 340282366920938463463374607431768211456 := by decide +kernel
theorem divide_ev (V n : Int) (h0 : 0 ≤ V) (hV : V < 340282366920938463463374607431768211456) (hn : 1 ≤ n) (hn2 : n ≤ 1000000) :
    ∃ out : List Int, out.length = 128 ∧ (∀ j : Nat, j < 128 → rd out (j : Int) = dig (V / n) j) ∧ Evt (fun k => spec_l02Divide.f k (digs V 128) n) (out, V % n) := by
  have hdig : ∀ p : Nat, dig (V / n) p = V / 2 ^ p / n % 2 := by
    intro p
    unfold dig
    rw [dd _ _ _ (by omega), dd _ _ _ (Int.le_of_lt (Int.pow_pos (by decide))), Int.mul_comm]
  have go : ∀ (p : Nat) (out : List Int), p ≤ 128 → out.length = 128 → (∀ j : Nat, j < 128 → rd out (j : Int) = if p ≤ j then dig (V / n) j else 0) →
      ∃ o : List Int, o.length = 128 ∧ (∀ j : Nat, j < 128 → rd o (j : Int) = dig (V / n) j) ∧ Evt (fun k => spec_l02Divide.l0 k (digs V 128) n out (V / 2 ^ p % n) ((p : Int) - 1)) (o, V % n) := by
    intro p
    induction p with
    | zero =>
      intro out _ hl ho
      refine ⟨out, hl, fun j hj => by rw [ho j hj, if_pos (by omega)], Evt.done fun k => ?_⟩
      simp only [spec_l02Divide.l0]
      rw [if_neg (by omega), Int.pow_zero, Int.ediv_one]
    | succ p ih =>
      intro out hp hl ho
      have hX : 0 ≤ V / 2 ^ p := Int.ediv_nonneg h0 (Int.le_of_lt (Int.pow_pos (by decide)))
      obtain ⟨s1, s2⟩ := div_step (V / 2 ^ p) n (dig V p) (by omega) hX rfl
      have r1 := Int.emod_nonneg (V / 2 ^ (p + 1)) (show n ≠ 0 by omega)
      have r2 := Int.emod_lt_of_pos (V / 2 ^ (p + 1)) (show 0 < n by omega)
      have hd := dig_range V p
      rw [← dsucc] at s1 s2
      have e1 : ∀ k, spec_l02Divide.l0 (k + 1) (digs V 128) n out (V / 2 ^ (p + 1) % n) (((p + 1 : Nat) : Int) - 1) = if 2 * (V / 2 ^ (p + 1) % n) + dig V p ≥ n then spec_l02Divide.l0 k (digs V 128) n (out.set p 1) (2 * (V / 2 ^ (p + 1) % n) + dig V p - n) ((p : Int) - 1) else spec_l02Divide.l0 k (digs V 128) n out (2 * (V / 2 ^ (p + 1) % n) + dig V p) ((p : Int) - 1) := by
        intro k
        have ep : ((p + 1 : Nat) : Int) - 1 = (p : Int) := by omega
        rw [ep]
        simp only [spec_l02Divide.l0]
        rw [if_pos (by omega), if_pos (by omega), digs_len, if_pos (show (p : Int) < ((128 : Nat) : Int) by omega), rd_digs V 128 p (by omega), hl, if_pos (show (p : Int) < ((128 : Nat) : Int) by omega)]
        have e2 : wrap64 (2 * (V / 2 ^ (p + 1) % n)) = 2 * (V / 2 ^ (p + 1) % n) := w64 (by omega) (by omega)
        rw [e2]
        have e3 : wrap64 (2 * (V / 2 ^ (p + 1) % n) + dig V p) = 2 * (V / 2 ^ (p + 1) % n) + dig V p := w64 (by omega) (by omega)
        rw [e3]
        have e4 : wrap64 (2 * (V / 2 ^ (p + 1) % n) + dig V p - n) = 2 * (V / 2 ^ (p + 1) % n) + dig V p - n := w64 (by omega) (by omega)
        rw [e4, w64 (by omega) (by omega)]
        rfl
      by_cases c : 2 * (V / 2 ^ (p + 1) % n) + dig V p ≥ n
      · obtain ⟨a1, a2⟩ := s1 c
        obtain ⟨o, b1, b2, b3⟩ := ih (out.set p 1) (by omega) (by rw [List.length_set]; exact hl) (by
          intro j hj
          rw [rd_set out p j 1 (by omega)]
          by_cases d : j = p
          · subst d
            rw [if_pos rfl, if_pos (by omega), hdig, a2]
          · rw [if_neg d, ho j hj]
            by_cases f : p ≤ j
            · rw [if_pos f, if_pos (by omega)]
            · rw [if_neg f, if_neg (by omega)])
        exact ⟨o, b1, b2, Evt.step b3 fun k => by rw [e1, if_pos c, a1]⟩
      · obtain ⟨a1, a2⟩ := s2 c
        obtain ⟨o, b1, b2, b3⟩ := ih out (by omega) hl (by
          intro j hj
          rw [ho j hj]
          by_cases f : p + 1 ≤ j
          · rw [if_pos f, if_pos (by omega)]
          · rw [if_neg f]
            by_cases d : j = p
            · subst d
              rw [if_pos (by omega), hdig, a2]
            · rw [if_neg (by omega)])
        exact ⟨o, b1, b2, Evt.step b3 fun k => by rw [e1, if_neg c, a1]⟩
  obtain ⟨o, b1, b2, b3⟩ := go 128 (List.replicate 128 0) (by omega) (by simp) (by
    intro j hj
    rw [if_neg (by omega)]
    exact rd_repl 128 j hj)
  refine ⟨o, b1, b2, ?_⟩
  refine b3.congr fun k => ?_
  unfold spec_l02Divide.f
  rw [if_pos (by decide)]
  have : V / 2 ^ 128 % n = 0 := by
    rw [e128, Int.ediv_eq_zero_of_lt h0 hV, Int.zero_emod]
  rw [this]
  rfl
theorem uw_id (x : Int) (h0 : 0 ≤ x) (h1 : x < 18446744073709551616) : IntKind.u64.wrap x = x := by rw [wu64]; omega
theorem and_low (x : Int) (h0 : 0 ≤ x) (h1 : x < 18446744073709551616) : Go.bits .and .u64 x 4294967295 = x % 4294967296 := by
  obtain ⟨a, rfl⟩ : ∃ a : Nat, x = (a : Int) := ⟨x.toNat, by omega⟩
  have ha : a < 18446744073709551616 := by omega
  unfold Go.bits
  have e1 : (BitVec.ofInt 64 (a : Int)).toNat = a := by simp; omega
  have e2 : (BitVec.ofInt 64 (4294967295 : Int)).toNat = 4294967295 := by decide +kernel
  have e3 : ((BitVec.ofInt 64 (a : Int)) &&& (BitVec.ofInt 64 (4294967295 : Int))).toNat = a % 4294967296 := by
    rw [BitVec.toNat_and, e1, e2]
    exact Nat.and_two_pow_sub_one_eq_mod a 32
  refine (congrArg (fun z : Nat => IntKind.u64.wrap (z : Int)) e3).trans ?_
  show IntKind.u64.wrap ((a % 4294967296 : Nat) : Int) = _
  rw [wu64]
  omega
theorem or_sum (a b : Int) (s : Nat) (ha : 0 ≤ a) (hb : 0 ≤ b) (hb2 : b < 2 ^ s) (hs : a * 2 ^ s + b < 18446744073709551616) : Go.bits .or .u64 (a * 2 ^ s) b = a * 2 ^ s + b := by
  obtain ⟨x, rfl⟩ : ∃ x : Nat, a = (x : Int) := ⟨a.toNat, by omega⟩
  obtain ⟨y, rfl⟩ : ∃ y : Nat, b = (y : Int) := ⟨b.toNat, by omega⟩
  have ep : ((x : Int) * 2 ^ s) = ((x * 2 ^ s : Nat) : Int) := by simp
  have ey : y < 2 ^ s := by
    have : ((y : Nat) : Int) < ((2 ^ s : Nat) : Int) := by simpa using hb2
    exact Int.ofNat_lt.mp this
  rw [ep] at hs ⊢
  generalize hz : x * 2 ^ s = z at *
  have hor : z ||| y = z + y := by
    have := Nat.two_pow_add_eq_or_of_lt ey x
    rw [Nat.mul_comm, hz] at this
    exact this.symm
  unfold Go.bits
  have e1 : (BitVec.ofInt 64 (z : Int)).toNat = z := by simp; omega
  have e2 : (BitVec.ofInt 64 (y : Int)).toNat = y := by simp; omega
  have e3 : ((BitVec.ofInt 64 (z : Int)) ||| (BitVec.ofInt 64 (y : Int))).toNat = z + y := by
    rw [BitVec.toNat_or, e1, e2, hor]
  refine (congrArg (fun z : Nat => IntKind.u64.wrap (z : Int)) e3).trans ?_
  show IntKind.u64.wrap ((z + y : Nat) : Int) = _
  rw [wu64]
  omega
theorem not_i64 (x : Int) (h : -9223372036854775808 ≤ x ∧ x ≤ 9223372036854775807) : Go.bits .xor .i64 (-1) x = -1 - x := by
  show IntKind.i64.wrap ((BitVec.ofInt 64 (-1) ^^^ BitVec.ofInt 64 x).toNat : Int) = _
  have h1 : BitVec.ofInt 64 (-1) = BitVec.allOnes 64 := by decide
  rw [h1, BitVec.allOnes_xor, BitVec.toNat_not, BitVec.toNat_ofInt]
  have e : ((2 ^ 64 - 1 - (x % ((2 ^ 64 : Nat) : Int)).toNat : Nat) : Int) = 18446744073709551615 - x % 18446744073709551616 := by
    have p : ((2 ^ 64 : Nat) : Int) = 18446744073709551616 := by decide +kernel
    have q : (2 ^ 64 : Nat) = 18446744073709551616 := by decide +kernel
    rw [p, q]
    omega
  rw [e]
  simp [IntKind.wrap, IntKind.bits, IntKind.signed]
  omega
theorem not_u64 (x : Int) (h : 0 ≤ x ∧ x ≤ 18446744073709551615) : Go.bits .xor .u64 18446744073709551615 x = 18446744073709551615 - x := by
  show IntKind.u64.wrap ((BitVec.ofInt 64 18446744073709551615 ^^^ BitVec.ofInt 64 x).toNat : Int) = _
  have h1 : BitVec.ofInt 64 18446744073709551615 = BitVec.allOnes 64 := by decide
  rw [h1, BitVec.allOnes_xor, BitVec.toNat_not, BitVec.toNat_ofInt]
  have e : ((2 ^ 64 - 1 - (x % ((2 ^ 64 : Nat) : Int)).toNat : Nat) : Int) = 18446744073709551615 - x % 18446744073709551616 := by
    have p : ((2 ^ 64 : Nat) : Int) = 18446744073709551616 := by decide +kernel
    have q : (2 ^ 64 : Nat) = 18446744073709551616 := by decide +kernel
    rw [p, q]
    omega
  rw [e, wu64]
  omega
/-- The program's sum is the reference's. -/
theorem add_same (a b c d : Int) (hb : 0 ≤ b ∧ b ≤ 18446744073709551615) (hd : 0 ≤ d ∧ d ≤ 18446744073709551615) : impl_WideAdd.f a b c d = spec_WideAdd.f a b c d := by
  unfold impl_WideAdd.f spec_WideAdd.f
  rw [if_pos ⟨hb.1, hb.2, hd.1, hd.2⟩]
  simp only [wu64]
  by_cases c1 : (b + d) % 18446744073709551616 < b
  · rw [if_pos c1]
    have e : (b + d) / 18446744073709551616 = 1 := by omega
    rw [e]
    congr 2
    unfold wrap64
    omega
  · rw [if_neg c1]
    have e : (b + d) / 18446744073709551616 = 0 := by omega
    rw [e]
    congr 2
    unfold wrap64
    omega
theorem spec_add_some (a b c d : Int) : ∃ r, spec_WideAdd.f a b c d = some r := by
  unfold spec_WideAdd.f
  split <;> exact ⟨_, rfl⟩
theorem impl_neg_wide (A : Int) : impl_WideNeg.f (wh A) (wl A) = some (wh (-A), wl (-A)) := by
  have h1 : -9223372036854775808 ≤ wh A ∧ wh A ≤ 9223372036854775807 := by unfold wh wrap64; omega
  have h2 : 0 ≤ wl A ∧ wl A ≤ 18446744073709551615 := by unfold wl; omega
  rw [← spec_neg_wide A]
  unfold spec_WideNeg.f impl_WideNeg.f
  rw [not_i64 _ h1, not_u64 _ h2, add_same _ _ _ _ (by omega) (by omega)]
  have e1 : wrap64 ((-1) - wh A) = -1 - wh A := w64 (by omega) (by omega)
  have e2 : IntKind.u64.wrap (18446744073709551615 - wl A) = 18446744073709551615 - wl A := uw_id _ (by omega) (by omega)
  rw [e1, e2]
theorem size_eq (A : Int) (hA : -170141183460469231731687303715884105728 ≤ A ∧ A < 170141183460469231731687303715884105728) : impl_Wide_size.f (wh A) (wl A) = some ((if 0 ≤ A then A else -A) / 18446744073709551616, (if 0 ≤ A then A else -A) % 18446744073709551616) := by
  unfold impl_Wide_size.f
  by_cases c : 0 ≤ A
  · rw [if_neg (by unfold wh wrap64; omega), if_pos c, wu64]
    have : wh A % 18446744073709551616 = A / 18446744073709551616 := by unfold wh wrap64; omega
    rw [this]; rfl
  · rw [if_pos (by unfold wh wrap64; omega), if_neg c, impl_neg_wide]
    simp only [Option.bind_some]
    rw [wu64]
    have : wh (-A) % 18446744073709551616 = -A / 18446744073709551616 := by unfold wh wrap64; omega
    rw [this]; rfl
theorem halves (a b : Int) (ha : -9223372036854775808 ≤ a ∧ a ≤ 9223372036854775807) (hb : 0 ≤ b ∧ b ≤ 18446744073709551615) : ∃ A : Int, (-170141183460469231731687303715884105728 ≤ A ∧ A < 170141183460469231731687303715884105728) ∧ a = wh A ∧ b = wl A :=
  ⟨a * 18446744073709551616 + b, by omega, by unfold wh wrap64; omega, by unfold wl; omega⟩
theorem qstep (y yn1 yn0 u v q : Int) (hy : y = yn1 * 4294967296 + yn0) (h1 : 2147483648 ≤ yn1 ∧ yn1 < 4294967296) (h0 : 0 ≤ yn0 ∧ yn0 < 4294967296) (hu : 0 ≤ u ∧ u < y) (hv : 0 ≤ v ∧ v < 4294967296) (hq : 0 ≤ q ∧ q ≤ 4294967297) (m : Nat) (hm : q = (u * 4294967296 + v) / y + m) :
    (m = 0 → q < 4294967296 ∧ q * yn0 ≤ 4294967296 * (u - q * yn1) + v) ∧ (0 < m → q * yn0 > 4294967296 * (u - q * yn1) + v ∧ (u - q * yn1 + yn1 ≥ 4294967296 → m = 1)) ∧ (0 ≤ q * yn0 ∧ q * yn0 < 18446744073709551616) := by
  have hT0 : 0 ≤ u * 4294967296 + v := by omega
  have hT1 : u * 4294967296 + v < y * 4294967296 := by omega
  have hQ0 : 0 ≤ (u * 4294967296 + v) / y := Int.ediv_nonneg hT0 (by omega)
  have hQ1 : (u * 4294967296 + v) / y < 4294967296 := Int.ediv_lt_of_lt_mul (by omega) (by omega)
  have e := Int.mul_ediv_add_emod (u * 4294967296 + v) y
  have r0 := Int.emod_nonneg (u * 4294967296 + v) (show y ≠ 0 by omega)
  have r1 := Int.emod_lt_of_pos (u * 4294967296 + v) (show 0 < y by omega)
  generalize (u * 4294967296 + v) / y = Q at *
  generalize (u * 4294967296 + v) % y = r at *
  have eq : q * y = q * yn1 * 4294967296 + q * yn0 := by rw [hy, Int.mul_add, Int.mul_assoc]
  have eq2 : q * y = y * Q + (m : Int) * y := by rw [hm, Int.add_mul, Int.mul_comm Q]
  have b0 : 0 ≤ q * yn0 := Int.mul_nonneg hq.1 h0.1
  have b1 : q * yn0 ≤ 4294967297 * 4294967295 := Int.mul_le_mul hq.2 (by omega) h0.1 (by omega)
  have b2 : 1 ≤ q → q * yn0 - yn0 ≤ 4294967296 * 4294967295 := fun hq1 => by
    have := Int.mul_le_mul (show q - 1 ≤ 4294967296 by omega) (show yn0 ≤ 4294967295 by omega) h0.1 (by omega)
    rw [Int.sub_mul, Int.one_mul] at this
    exact this
  generalize q * yn1 = P1 at *
  generalize q * yn0 = P0 at *
  refine ⟨fun h => ?_, fun h => ⟨?_, fun hb => ?_⟩, b0, by omega⟩
  · subst h
    rw [show ((0 : Nat) : Int) = 0 from rfl, Int.zero_mul] at eq2
    exact ⟨by omega, by omega⟩
  · obtain ⟨n, rfl⟩ : ∃ n, m = n + 1 := ⟨m - 1, by omega⟩
    have : 0 ≤ (n : Int) * y := Int.mul_nonneg (by omega) (by omega)
    rw [show ((n + 1 : Nat) : Int) = (n : Int) + 1 by omega, Int.add_mul, Int.one_mul] at eq2
    omega
  · by_cases c : m = 1
    · exact c
    · exfalso
      obtain ⟨n, rfl⟩ : ∃ n, m = n + 2 := ⟨m - 2, by omega⟩
      have : 0 ≤ (n : Int) * y := Int.mul_nonneg (by omega) (by omega)
      rw [show ((n + 2 : Nat) : Int) = (n : Int) + 2 by omega, Int.add_mul] at eq2
      have := b2 (by omega)
      omega
theorem l0_ev {y yn1 yn0 u un1 un0 s : Int} {R : Int × Int} (hy : y = yn1 * 4294967296 + yn0) (h1 : 2147483648 ≤ yn1 ∧ yn1 < 4294967296) (h0 : 0 ≤ yn0 ∧ yn0 < 4294967296) (hu : 0 ≤ u ∧ u < y) (hv : 0 ≤ un1 ∧ un1 < 4294967296)
    (hfin : Evt (fun k => bits_Div64.j2 k y s yn1 yn0 u un1 un0 ((u * 4294967296 + un1) / y)) R) :
    ∀ (m : Nat) (q r : Int), q = (u * 4294967296 + un1) / y + m → 0 ≤ q → q ≤ 4294967297 → r = u - q * yn1 → 0 ≤ r → r < 4294967296 → Evt (fun k => bits_Div64.l0 k y s yn1 yn0 u un1 un0 q r) R
  | 0, q, r, hm, hq0, hq1, hr, hr0, hr1 => by
    obtain ⟨p1, -, p3, p4⟩ := qstep y yn1 yn0 u un1 q hy h1 h0 hu hv ⟨hq0, hq1⟩ 0 hm
    obtain ⟨c1, c2⟩ := p1 rfl
    rw [← hr] at c2
    have hq : q = (u * 4294967296 + un1) / y := by omega
    refine Evt.step (g := fun k => bits_Div64.j1 k y s yn1 yn0 u un1 un0 q r false) (Evt.step (g := fun k => bits_Div64.j2 k y s yn1 yn0 u un1 un0 ((u * 4294967296 + un1) / y)) hfin fun k => ?_) fun k => ?_
    · simp only [bits_Div64.j1, Bool.false_eq_true, if_false]
      rw [hq]
    · simp only [bits_Div64.l0]
      rw [if_neg (by omega)]
      congr 1
      refine decide_eq_false ?_
      simp only [wu64]
      generalize q * yn0 = P0 at *
      omega
  | m + 1, q, r, hm, hq0, hq1, hr, hr0, hr1 => by
    obtain ⟨-, p2, p3, p4⟩ := qstep y yn1 yn0 u un1 q hy h1 h0 hu hv ⟨hq0, hq1⟩ (m + 1) hm
    obtain ⟨c1, c2⟩ := p2 (by omega)
    have hT0 : 0 ≤ (u * 4294967296 + un1) / y := Int.ediv_nonneg (by omega) (by omega)
    rw [← hr] at c1 c2
    have wq : IntKind.u64.wrap (q - 1) = q - 1 := by rw [wu64]; omega
    have wr : IntKind.u64.wrap (r + yn1) = r + yn1 := by rw [wu64]; omega
    refine Evt.step (g := fun k => bits_Div64.j1 k y s yn1 yn0 u un1 un0 q r true) ?_ fun k => ?_
    · by_cases c : r + yn1 ≥ 4294967296
      · have := c2 c
        have hQ : q - 1 = (u * 4294967296 + un1) / y := by omega
        refine Evt.step (g := fun k => bits_Div64.j2 k y s yn1 yn0 u un1 un0 ((u * 4294967296 + un1) / y)) hfin fun k => ?_
        simp only [bits_Div64.j1, if_true]
        rw [wr, if_pos c, wq, hQ]
      · refine Evt.step (g := fun k => bits_Div64.l0 k y s yn1 yn0 u un1 un0 (q - 1) (r + yn1)) (l0_ev hy h1 h0 hu hv hfin m (q - 1) (r + yn1) (by omega) (by omega) (by omega) (by rw [hr, Int.sub_mul, Int.one_mul]; omega) (by omega) (by omega)) fun k => ?_
        simp only [bits_Div64.j1, if_true]
        rw [wr, if_neg c, wq]
    · simp only [bits_Div64.l0]
      by_cases c : q ≥ 4294967296
      · rw [if_pos c]
      · rw [if_neg c]
        congr 1
        refine decide_eq_true ?_
        simp only [wu64]
        generalize q * yn0 = P0 at *
        omega
theorem l1_ev {y yn1 yn0 u un0 q1 : Int} (hy : y = yn1 * 4294967296 + yn0) (h1 : 2147483648 ≤ yn1 ∧ yn1 < 4294967296) (h0 : 0 ≤ yn0 ∧ yn0 < 4294967296) (hu : 0 ≤ u ∧ u < y) (hv : 0 ≤ un0 ∧ un0 < 4294967296) :
    ∀ (m : Nat) (q r : Int), q = (u * 4294967296 + un0) / y + m → 0 ≤ q → q ≤ 4294967297 → r = u - q * yn1 → 0 ≤ r → r < 4294967296 → Evt (fun k => bits_Div64.l1 k y 0 yn1 yn0 un0 q1 r u q)
      (IntKind.u64.wrap (IntKind.u64.wrap (q1 * 4294967296) + (u * 4294967296 + un0) / y), shr .u64 (IntKind.u64.wrap ((IntKind.u64.wrap ((IntKind.u64.wrap (u * 4294967296)) + un0)) - (IntKind.u64.wrap (((u * 4294967296 + un0) / y) * y)))) 0)
  | 0, q, r, hm, hq0, hq1, hr, hr0, hr1 => by
    obtain ⟨p1, -, p3, p4⟩ := qstep y yn1 yn0 u un0 q hy h1 h0 hu hv ⟨hq0, hq1⟩ 0 hm
    obtain ⟨c1, c2⟩ := p1 rfl
    rw [← hr] at c2
    have hq : q = (u * 4294967296 + un0) / y := by omega
    refine Evt.step (g := fun k => bits_Div64.j4 k y 0 yn1 yn0 un0 q1 r u q false) (Evt.done fun k => ?_) fun k => ?_
    · simp only [bits_Div64.j4, Bool.false_eq_true, if_false]
      rw [if_pos (Int.le_refl 0), hq]
    · simp only [bits_Div64.l1]
      rw [if_neg (by omega)]
      congr 1
      refine decide_eq_false ?_
      simp only [wu64]
      generalize q * yn0 = P0 at *
      omega
  | m + 1, q, r, hm, hq0, hq1, hr, hr0, hr1 => by
    obtain ⟨-, p2, p3, p4⟩ := qstep y yn1 yn0 u un0 q hy h1 h0 hu hv ⟨hq0, hq1⟩ (m + 1) hm
    obtain ⟨c1, c2⟩ := p2 (by omega)
    have hT0 : 0 ≤ (u * 4294967296 + un0) / y := Int.ediv_nonneg (by omega) (by omega)
    rw [← hr] at c1 c2
    have wq : IntKind.u64.wrap (q - 1) = q - 1 := by rw [wu64]; omega
    have wr : IntKind.u64.wrap (r + yn1) = r + yn1 := by rw [wu64]; omega
    refine Evt.step (g := fun k => bits_Div64.j4 k y 0 yn1 yn0 un0 q1 r u q true) ?_ fun k => ?_
    · by_cases c : r + yn1 ≥ 4294967296
      · have := c2 c
        have hQ : q - 1 = (u * 4294967296 + un0) / y := by omega
        refine Evt.done fun k => ?_
        simp only [bits_Div64.j4, if_true]
        rw [wr, if_pos c, wq, hQ, if_pos (Int.le_refl 0)]
      · refine Evt.step (g := fun k => bits_Div64.l1 k y 0 yn1 yn0 un0 q1 (r + yn1) u (q - 1)) (l1_ev hy h1 h0 hu hv m (q - 1) (r + yn1) (by omega) (by omega) (by omega) (by rw [hr, Int.sub_mul, Int.one_mul]; omega) (by omega) (by omega)) fun k => ?_
        simp only [bits_Div64.j4, if_true]
        rw [wr, if_neg c, wq]
    · simp only [bits_Div64.l1]
      by_cases c : q ≥ 4294967296
      · rw [if_pos c]
      · rw [if_neg c]
        congr 1
        refine decide_eq_true ?_
        simp only [wu64]
        generalize q * yn0 = P0 at *
        omega
/-- The first digit tried: no less than the true one, at most one above the base. -/
theorem qfirst (y yn1 yn0 u v : Int) (hy : y = yn1 * 4294967296 + yn0) (h1 : 2147483648 ≤ yn1 ∧ yn1 < 4294967296) (h0 : 0 ≤ yn0 ∧ yn0 < 4294967296) (hu : 0 ≤ u ∧ u < y) (hv : 0 ≤ v ∧ v < 4294967296) :
    ∃ m : Nat, u / yn1 = (u * 4294967296 + v) / y + m ∧ 0 ≤ u / yn1 ∧ u / yn1 ≤ 4294967297 ∧ 0 ≤ u - u / yn1 * yn1 ∧ u - u / yn1 * yn1 < 4294967296 ∧ Int.tdiv u yn1 = u / yn1 ∧ IntKind.u64.wrap (u / yn1) = u / yn1 ∧ IntKind.u64.wrap (u - IntKind.u64.wrap (u / yn1 * yn1)) = u - u / yn1 * yn1 := by
  have e := Int.mul_ediv_add_emod u yn1
  have r0 := Int.emod_nonneg u (show yn1 ≠ 0 by omega)
  have r1 := Int.emod_lt_of_pos u (show 0 < yn1 by omega)
  have q0 : 0 ≤ u / yn1 := Int.ediv_nonneg hu.1 (by omega)
  have q1 : u / yn1 ≤ 4294967297 := by
    have : u / yn1 < 4294967298 := Int.ediv_lt_of_lt_mul (by omega) (by omega)
    omega
  have td : Int.tdiv u yn1 = u / yn1 := Int.tdiv_eq_ediv_of_nonneg hu.1
  have hle : (u * 4294967296 + v) / y ≤ u / yn1 := by
    have : (u * 4294967296 + v) / y < u / yn1 + 1 := by
      refine Int.ediv_lt_of_lt_mul (by omega) ?_
      rw [hy, Int.mul_add, ← Int.mul_assoc, Int.add_mul, Int.one_mul, Int.mul_comm (u / yn1)]
      have : 0 ≤ (u / yn1 + 1) * yn0 := Int.mul_nonneg (by omega) h0.1
      generalize (u / yn1 + 1) * yn0 = z at *
      generalize yn1 * (u / yn1) = z1 at *
      omega
    omega
  rw [Int.mul_comm] at e
  have em : 0 ≤ u / yn1 * yn1 := Int.mul_nonneg q0 (by omega)
  generalize u / yn1 * yn1 = z at *
  refine ⟨(u / yn1 - (u * 4294967296 + v) / y).toNat, by omega, q0, q1, by omega, by omega, td, by rw [wu64]; omega, ?_⟩
  simp only [wu64]
  omega
theorem tens_lz : Evt (fun k => bits_LeadingZeros64.f k 10000000000000000000) 0 := ⟨1, fun k hk => by
  obtain ⟨n, rfl⟩ : ∃ n, k = n + 1 := ⟨k - 1, by omega⟩
  have : bits_Len64.f (n + 1) 10000000000000000000 = some 64 := by
    kernel_rfl
  show bits_LeadingZeros64.f (n + 1) 10000000000000000000 = _
  unfold bits_LeadingZeros64.f
  rw [this]
  exact congrArg some (by decide +kernel : wrap64 (64 - 64) = 0)⟩
theorem div64_tens (x lo : Int) (hx : 0 ≤ x ∧ x < 10000000000000000000) (hlo : 0 ≤ lo ∧ lo < 18446744073709551616) :
    Evt (fun k => bits_Div64.f k x lo 10000000000000000000) ((x * 18446744073709551616 + lo) / 10000000000000000000, (x * 18446744073709551616 + lo) % 10000000000000000000) := by
  by_cases c0 : x = 0
  · subst c0
    refine (Evt.const _).congr fun k => ?_
    unfold bits_Div64.f
    rw [if_neg (by omega), if_neg (by omega), if_pos rfl, Int.tdiv_eq_ediv_of_nonneg hlo.1, Int.tmod_eq_emod_of_nonneg hlo.1, Int.zero_mul, Int.zero_add, uw_id _ (Int.ediv_nonneg hlo.1 (by omega)) (Int.lt_of_le_of_lt (Int.ediv_le_self _ hlo.1) hlo.2)]
  have hv1 : 0 ≤ lo / 4294967296 ∧ lo / 4294967296 < 4294967296 := by omega
  have hv0 : 0 ≤ lo % 4294967296 ∧ lo % 4294967296 < 4294967296 := by omega
  obtain ⟨m, f1, f2, f3, f4, f5, f6, f7, f8⟩ := qfirst 10000000000000000000 2328306436 2313682944 x (lo / 4294967296) (by omega) (by omega) (by omega) hx hv1
  have r1a := Int.emod_nonneg (x * 4294967296 + lo / 4294967296) (show (10000000000000000000 : Int) ≠ 0 by omega)
  have r1b := Int.emod_lt_of_pos (x * 4294967296 + lo / 4294967296) (show (0 : Int) < 10000000000000000000 by omega)
  have e1 := Int.mul_ediv_add_emod (x * 4294967296 + lo / 4294967296) 10000000000000000000
  obtain ⟨Q1, hQ1⟩ : ∃ Q, (x * 4294967296 + lo / 4294967296) / 10000000000000000000 = Q := ⟨_, rfl⟩
  obtain ⟨R1, hR1⟩ : ∃ R, (x * 4294967296 + lo / 4294967296) % 10000000000000000000 = R := ⟨_, rfl⟩
  rw [hR1] at r1a r1b e1
  rw [hQ1] at e1 f1
  obtain ⟨m', g1, g2, g3, g4, g5, g6, g7, g8⟩ := qfirst 10000000000000000000 2328306436 2313682944 R1 (lo % 4294967296) (by omega) (by omega) (by omega) ⟨r1a, r1b⟩ hv0
  have hl1 := l1_ev (y := 10000000000000000000) (yn1 := 2328306436) (yn0 := 2313682944) (u := R1) (un0 := lo % 4294967296) (q1 := Q1) (by omega) (by omega) (by omega) ⟨r1a, r1b⟩ hv0 m' (R1 / 2328306436) (R1 - R1 / 2328306436 * 2328306436) g1 g2 g3 rfl g4 g5
  have r0a := Int.emod_nonneg (R1 * 4294967296 + lo % 4294967296) (show (10000000000000000000 : Int) ≠ 0 by omega)
  have r0b := Int.emod_lt_of_pos (R1 * 4294967296 + lo % 4294967296) (show (0 : Int) < 10000000000000000000 by omega)
  have e0 := Int.mul_ediv_add_emod (R1 * 4294967296 + lo % 4294967296) 10000000000000000000
  obtain ⟨Q0, hQ0⟩ : ∃ Q, (R1 * 4294967296 + lo % 4294967296) / 10000000000000000000 = Q := ⟨_, rfl⟩
  obtain ⟨R0, hR0⟩ : ∃ R, (R1 * 4294967296 + lo % 4294967296) % 10000000000000000000 = R := ⟨_, rfl⟩
  rw [hQ0] at hl1 e0
  rw [hR0] at r0a r0b e0
  have ans : (x * 18446744073709551616 + lo) / 10000000000000000000 = Q1 * 4294967296 + Q0 ∧ (x * 18446744073709551616 + lo) % 10000000000000000000 = R0 := by
    refine (Int.ediv_emod_unique (by omega)).mpr ⟨by omega, r0a, r0b⟩
  have b1 : 0 ≤ Q1 * 4294967296 + Q0 ∧ Q1 * 4294967296 + Q0 < 18446744073709551616 := by omega
  rw [ans.1, ans.2]
  have w1 : IntKind.u64.wrap (IntKind.u64.wrap (Q1 * 4294967296) + Q0) = Q1 * 4294967296 + Q0 := by simp only [wu64]; omega
  have w2 : shr .u64 (IntKind.u64.wrap ((IntKind.u64.wrap ((IntKind.u64.wrap (R1 * 4294967296)) + lo % 4294967296)) - (IntKind.u64.wrap (Q0 * 10000000000000000000)))) 0 = R0 := by
    have : IntKind.u64.wrap ((IntKind.u64.wrap ((IntKind.u64.wrap (R1 * 4294967296)) + lo % 4294967296)) - (IntKind.u64.wrap (Q0 * 10000000000000000000))) = R0 := by simp only [wu64]; omega
    rw [this]
    unfold shr
    simp
  rw [w1, w2] at hl1
  have hj2 : Evt (fun k => bits_Div64.j2 k 10000000000000000000 0 2328306436 2313682944 x (lo / 4294967296) (lo % 4294967296) Q1) (Q1 * 4294967296 + Q0, R0) := by
    refine Evt.step (g := fun k => bits_Div64.l1 k 10000000000000000000 0 2328306436 2313682944 (lo % 4294967296) Q1 (R1 - R1 / 2328306436 * 2328306436) R1 (R1 / 2328306436)) hl1 fun k => ?_
    simp only [bits_Div64.j2]
    have u2 : IntKind.u64.wrap ((IntKind.u64.wrap ((IntKind.u64.wrap (x * 4294967296)) + lo / 4294967296)) - (IntKind.u64.wrap (Q1 * 10000000000000000000))) = R1 := by simp only [wu64]; omega
    rw [if_neg (by decide), u2, g6, g7, g8]
  have hl0 := l0_ev (y := 10000000000000000000) (yn1 := 2328306436) (yn0 := 2313682944) (u := x) (un1 := lo / 4294967296) (un0 := lo % 4294967296) (s := 0) (R := (Q1 * 4294967296 + Q0, R0)) (by omega) (by omega) (by omega) hx hv1 (by rw [hQ1]; exact hj2) m (x / 2328306436) (x - x / 2328306436 * 2328306436) (by rw [hQ1]; exact f1) f2 f3 rfl f4 f5
  obtain ⟨K1, k1⟩ := tens_lz
  obtain ⟨K2, k2⟩ := hl0
  refine ⟨K1 + K2, fun k hk => ?_⟩
  have k1' : bits_LeadingZeros64.f k 10000000000000000000 = some 0 := k1 k (by omega)
  have k2' := k2 k (by omega)
  simp only at k2'
  have s0 : ∀ z : Int, 0 ≤ z → z < 18446744073709551616 → shl .u64 z 0 = z := fun z a b => by
    unfold shl
    simp
    exact uw_id z a b
  have s1 : shr .u64 lo 64 = 0 := by
    unfold shr
    simp only [IntKind.bits]
    rw [show ((64 : Int).toNat) = 64 from rfl, Nat.min_self]
    omega
  have o1 : Go.bits .or .u64 x 0 = x := by
    have := or_sum x 0 0 hx.1 (Int.le_refl 0) (by decide) (by omega)
    simpa using this
  have a1 : Go.bits .and .u64 10000000000000000000 4294967295 = 2313682944 := by rw [and_low _ (by omega) (by omega)]; decide
  have a2 : Go.bits .and .u64 lo 4294967295 = lo % 4294967296 := and_low _ hlo.1 hlo.2
  show bits_Div64.f k x lo 10000000000000000000 = _
  unfold bits_Div64.f
  rw [if_neg (by omega), if_neg (by omega), if_neg c0, k1', Option.bind_some, show IntKind.u64.wrap 0 = 0 by decide, show IntKind.u64.wrap (64 - 0) = 64 by decide, if_pos (Int.le_refl 0), if_pos (by decide), s0 _ (by omega) (by omega), s0 x hx.1 (by omega), s0 lo hlo.1 hlo.2, s1, o1, if_neg (by decide), a1, a2, show (10000000000000000000 : Int) / 4294967296 = 2328306436 by decide, f6, f7, f8]
  exact k2'
/-! The numeral -/
abbrev dd10 := Lib.decDigits
def ints (l : List UInt8) : List Int := l.map fun b => (b.toNat : Int)
def ba (l : List UInt8) : ByteArray := ⟨l.toArray⟩
theorem str_ints (l : List UInt8) : strOfNums (ints l) = ba l := by
  unfold strOfNums ints ba
  rw [List.map_map]
  congr 2
  conv => rhs; rw [← List.map_id l]
  refine List.map_congr_left fun b _ => ?_
  simp
theorem ba_app (a b : List UInt8) : ba a ++ ba b = ba (a ++ b) := by
  refine ByteArray.ext ?_
  simp [ba, ByteArray.data_append]
theorem ba_size (l : List UInt8) : (ba l).size = l.length := by simp [ba, ByteArray.size]
theorem dec_big (u : Nat) (h : ¬ u < 10) : dd10 u = dd10 (u / 10) ++ [UInt8.ofNat (48 + u % 10)] := by
  show Lib.decDigits u = _
  rw [Lib.decDigits, dif_neg h]
theorem dec_one (u : Nat) (h : u < 10) : dd10 u = [UInt8.ofNat (48 + u)] := by
  show Lib.decDigits u = _
  rw [Lib.decDigits, dif_pos h]
theorem byte_dig (r : Int) (h0 : 0 ≤ r) (h1 : r < 10) : [(wrap64 (48 + r)) % 256] = ints [UInt8.ofNat (48 + r.toNat)] := by
  have e : (UInt8.ofNat (48 + r.toNat)).toNat = 48 + r.toNat := by simp only [UInt8.toNat_ofNat']; omega
  simp only [ints, List.map_cons, List.map_nil, e]
  rw [w64 (by omega) (by omega)]
  congr 1
  omega
/-- Digits with zeros ahead. -/
def padded : Nat → Nat → List UInt8
  | 0, _ => []
  | m + 1, p => padded m (p / 10) ++ [UInt8.ofNat (48 + p % 10)]
theorem padded_len : ∀ m p, (padded m p).length = m
  | 0, _ => rfl
  | m + 1, p => by simp [padded, padded_len m]
theorem padded_zero : ∀ m, padded m 0 = List.replicate m 48
  | 0 => rfl
  | m + 1 => by
    rw [List.replicate_succ', padded, Nat.zero_div, padded_zero m]
    rfl
theorem dec_split : ∀ (m u p : Nat), 1 ≤ u → p < 10 ^ m → dd10 (u * 10 ^ m + p) = dd10 u ++ padded m p
  | 0, u, p, hu, hp => by
    have : p = 0 := by simpa using hp
    subst this
    simp [padded]
  | m + 1, u, p, hu, hp => by
    have hp' : p / 10 < 10 ^ m := by
      rw [Nat.pow_succ] at hp
      omega
    have e1 : u * 10 ^ (m + 1) + p = (u * 10 ^ m + p / 10) * 10 + p % 10 := by
      rw [Nat.pow_succ, Nat.add_mul, Nat.mul_assoc]
      omega
    have h1 : 1 ≤ u * 10 ^ m := Nat.mul_pos hu (Nat.pow_pos (by decide))
    have q1 : (u * 10 ^ (m + 1) + p) / 10 = u * 10 ^ m + p / 10 := by rw [e1]; omega
    have q2 : (u * 10 ^ (m + 1) + p) % 10 = p % 10 := by rw [e1]; omega
    rw [dec_big _ (by rw [e1]; omega), q1, q2, dec_split m u (p / 10) hu hp', padded, List.append_assoc]
theorem dec_pad : ∀ (m p : Nat), p < 10 ^ (m + 1) → ∃ n, n + (dd10 p).length = m + 1 ∧ List.replicate n 48 ++ dd10 p = padded (m + 1) p
  | 0, p, hp => by
    have hp : p < 10 := by simpa using hp
    refine ⟨0, by rw [dec_one p hp]; rfl, ?_⟩
    rw [dec_one p hp, padded, padded, Nat.mod_eq_of_lt hp]
    rfl
  | m + 1, p, hp => by
    by_cases c : p < 10
    · refine ⟨m + 1, by rw [dec_one p c]; rfl, ?_⟩
      rw [dec_one p c, padded, Nat.div_eq_of_lt c, padded_zero, Nat.mod_eq_of_lt c]
    · have hp' : p / 10 < 10 ^ (m + 1) := by
        rw [Nat.pow_succ] at hp
        omega
      obtain ⟨n, h1, h2⟩ := dec_pad m (p / 10) hp'
      refine ⟨n, by rw [dec_big p c, List.length_append]; simp only [List.length_cons, List.length_nil]; omega, ?_⟩
      rw [dec_big p c, ← List.append_assoc, h2]
      rfl

/-! The reference's loop -/
theorem digs_of (Q : Int) (out : List Int) (hl : out.length = 128) (h : ∀ j : Nat, j < 128 → rd out (j : Int) = dig Q j) : out = digs Q 128 := by
  refine List.ext_getElem (by rw [hl, digs_len]) fun i h1 h2 => ?_
  rw [← rd_nat out i h1, h i (by omega), ← rd_nat (digs Q 128) i h2, rd_digs Q 128 i (by omega)]
theorem no_bits (Q : Int) (h0 : 0 ≤ Q) (hQ : Q < 340282366920938463463374607431768211456) (h : ∀ i : Nat, i < 128 → dig Q i ≠ 1) : Q = 0 := by
  have key : ∀ n : Nat, n ≤ 128 → Q / 2 ^ (128 - n) = 0 := by
    intro n
    induction n with
    | zero =>
      intro _
      rw [show 128 - 0 = 128 from rfl, e128]
      omega
    | succ n ih =>
      intro hn
      have i1 := ih (by omega)
      have d := h (128 - (n + 1)) (by omega)
      have s := dsucc Q (128 - (n + 1))
      rw [show 128 - (n + 1) + 1 = 128 - n by omega, i1] at s
      have dr := dig_range Q (128 - (n + 1))
      unfold dig at d dr
      generalize Q / 2 ^ (128 - (n + 1)) = z at *
      omega
  simpa using key 128 (Nat.le_refl _)
theorem dig0 (j : Nat) : dig 0 j = 0 := by unfold dig; simp
def anyB (Q : Int) : Nat → Nat → Bool
  | 0, _ => false
  | n + 1, j => (dig Q j == 1) || anyB Q n (j + 1)
theorem anyB_zero : ∀ n j, anyB 0 n j = false
  | 0, _ => rfl
  | n + 1, j => by rw [anyB, dig0, anyB_zero n (j + 1)]; rfl
theorem anyB_none (Q : Int) : ∀ (n j : Nat), anyB Q n j = false → ∀ i, j ≤ i → i < j + n → dig Q i ≠ 1
  | 0, j, _, i, h1, h2 => by omega
  | n + 1, j, h, i, h1, h2 => by
    rw [anyB, Bool.or_eq_false_iff] at h
    rcases Nat.eq_or_lt_of_le h1 with h3 | h3
    · subst h3
      exact beq_eq_false_iff_ne.mp h.1
    · exact anyB_none Q n (j + 1) h.2 i h3 (by omega)
theorem l1_flag {Q : Int} {out : List Int} {a b : Int} {r : ByteArray} : ∀ (n j : Nat) (f : Bool), j + n = 128 →
    Evt (fun k => spec_WideText.l0 k (digs Q 128) out (f || anyB Q n j) a b) r → Evt (fun k => spec_WideText.l1 k (digs Q 128) out f (j : Int) a b) r
  | 0, j, f, hj, h => by
    rw [anyB, Bool.or_false] at h
    refine Evt.step h fun k => ?_
    simp only [spec_WideText.l1]
    rw [if_neg (by omega)]
  | n + 1, j, f, hj, h => by
    have ew : wrap64 ((j : Int) + 1) = ((j + 1 : Nat) : Int) := by rw [w64 (by omega) (by omega)]; omega
    cases f with
    | true =>
      rw [Bool.true_or] at h
      have ih := l1_flag (Q := Q) (out := out) (a := a) (b := b) (r := r) n (j + 1) true (by omega) (by rw [Bool.true_or]; exact h)
      refine Evt.step ih fun k => ?_
      simp only [spec_WideText.l1]
      rw [if_pos (by omega), if_pos trivial, ew]
    | false =>
      rw [Bool.false_or, anyB, ← rd_digs Q 128 j (by omega)] at h
      have ih := l1_flag (Q := Q) (out := out) (a := a) (b := b) (r := r) n (j + 1) ((rd (digs Q 128) (j : Int)) == 1) (by omega) h
      refine Evt.step ih fun k => ?_
      simp only [spec_WideText.l1, Bool.false_eq_true, if_false]
      rw [if_pos (by omega), if_pos (by omega), if_pos (by rw [digs_len]; omega), ew]
def sign (a : Int) (l : List UInt8) : List UInt8 := if a < 0 then 45 :: l else l
theorem spec_loop (a b : Int) : ∀ (m : Nat) (V : Int) (out : List UInt8), 0 ≤ V → V < 340282366920938463463374607431768211456 → V < 10 ^ (m + 1) → out.length + m ≤ 1000 →
    Evt (fun k => spec_WideText.l0 k (digs V 128) (ints out) true a b) (ba (sign a (dd10 V.toNat ++ out)))
  | m, V, out, h0, hV, hm, hl => by
    obtain ⟨o, ho1, ho2, ho3⟩ := divide_ev V 10 h0 hV (by decide) (by decide)
    rw [digs_of (V / 10) o ho1 ho2] at ho3
    have q0 : 0 ≤ V / 10 := by omega
    have hy := byte_dig (V % 10) (by omega) (by omega)
    have hil : ∀ l, (ints l).length = l.length := fun l => by simp [ints]
    have happ : ints [UInt8.ofNat (48 + (V % 10).toNat)] ++ ints out = ints (UInt8.ofNat (48 + (V % 10).toNat) :: out) := by simp [ints]
    refine Evt.step (g := fun k => (spec_l02Divide.f k (digs V 128) 10).bind fun bt141 => ((some (([(wrap64 (48 + bt141.2)) % 256] : List Int) : List Int)).bind fun y145 => (if y145.length + (ints out).length < 140737488355328 then (spec_WideText.l1 k bt141.1 (y145 ++ ints out) false 0 a b) else (none)))) ?_ fun k => by
      simp only [spec_WideText.l0, if_true]
    refine Evt.bind ho3 ?_
    refine Evt.congr (g := fun k => spec_WideText.l1 k (digs (V / 10) 128) (ints (UInt8.ofNat (48 + (V % 10).toNat) :: out)) false ((0 : Nat) : Int) a b) ?_ fun k => by
      simp only [Option.bind_some]
      rw [hy, if_pos (by rw [hil, hil]; simp only [List.length_cons, List.length_nil]; omega), happ]
      rfl
    refine l1_flag 128 0 false rfl ?_
    by_cases c : V / 10 = 0
    · have e : anyB (V / 10) 128 0 = false := by rw [c]; exact anyB_zero _ _
      rw [e, Bool.or_false]
      have hd : dd10 V.toNat ++ out = UInt8.ofNat (48 + (V % 10).toNat) :: out := by
        rw [dec_one _ (by omega), show (V % 10).toNat = V.toNat by omega]
        rfl
      rw [hd]
      refine Evt.done fun k => ?_
      simp only [spec_WideText.l0, Bool.false_eq_true, if_false]
      unfold sign
      by_cases ca : a < 0
      · rw [if_pos ca, if_pos ca]
        simp only [Option.bind_some]
        rw [if_pos (by rw [hil]; simp only [List.length_cons, List.length_nil]; omega)]
        rw [← str_ints]
        congr 1
      · rw [if_neg ca, if_neg ca, str_ints]
    · have e : anyB (V / 10) 128 0 = true := by
        cases d : anyB (V / 10) 128 0 with
        | true => rfl
        | false => exact absurd (no_bits (V / 10) q0 (by omega) fun i hi => anyB_none _ _ _ d i (Nat.zero_le _) (by omega)) c
      rw [e, Bool.or_true]
      obtain ⟨m', rfl⟩ : ∃ m', m = m' + 1 := by
        cases m with
        | zero => exfalso; have : V < 10 := by simpa using hm
                  omega
        | succ m' => exact ⟨m', rfl⟩
      have hlt : V / 10 < 10 ^ (m' + 1) := by
        rw [Int.pow_succ] at hm
        generalize (10 : Int) ^ (m' + 1) = P at *
        omega
      have ih := spec_loop a b m' (V / 10) (UInt8.ofNat (48 + (V % 10).toNat) :: out) q0 (by omega) hlt (by simp only [List.length_cons]; omega)
      have hd : dd10 V.toNat ++ out = dd10 (V / 10).toNat ++ (UInt8.ofNat (48 + (V % 10).toNat) :: out) := by
        rw [dec_big V.toNat (by omega), List.append_assoc, show (V / 10).toNat = V.toNat / 10 by omega, show (V % 10).toNat = V.toNat % 10 by omega]
        rfl
      rw [hd]
      exact ih
  termination_by m => m
def mag (A : Int) : Int := if 0 ≤ A then A else -A
theorem wh_neg (A : Int) (hA : -170141183460469231731687303715884105728 ≤ A ∧ A < 170141183460469231731687303715884105728) : wh A < 0 ↔ A < 0 := by unfold wh wrap64; omega
theorem e39 : (340282366920938463463374607431768211456 : Int) < 10 ^ (38 + 1) := by decide +kernel
theorem spec_text (A : Int) (hA : -170141183460469231731687303715884105728 ≤ A ∧ A < 170141183460469231731687303715884105728) :
    Evt (fun k => spec_WideText.f k (wh A) (wl A)) (ba (sign (wh A) (dd10 (mag A).toNat))) := by
  have hlast := spec_loop (wh A) (wl A) 38 (mag A) [] (by unfold mag; split <;> omega) (by unfold mag; split <;> omega) (by have := e39; unfold mag; split <;> omega) (by decide)
  rw [List.append_nil] at hlast
  have hj : Evt (fun k => spec_WideText.j0 k (digs (mag A) 128) (wh A) (wl A)) (ba (sign (wh A) (dd10 (mag A).toNat))) := Evt.step hlast fun k => by simp only [spec_WideText.j0]; rfl
  by_cases c : A < 0
  · have hm : mag A = -A := by unfold mag; rw [if_neg (by omega)]
    have hb := bits_ev (-A) (by omega) (by omega)
    -- the number's own bits are looked at first
    obtain ⟨own, hown⟩ : ∃ own, Evt (fun k => spec_l02Bits.f k (wh A) (wl A)) own := by
      have := bits_ev (A + 340282366920938463463374607431768211456) (by omega) (by omega)
      rw [show wh (A + 340282366920938463463374607431768211456) = wh A by unfold wh wrap64; omega, show wl (A + 340282366920938463463374607431768211456) = wl A by unfold wl; omega] at this
      exact ⟨_, this⟩
    refine Evt.bind hown ?_
    refine Evt.congr (g := fun k => (spec_l02Bits.f k (wh (-A)) (wl (-A))).bind fun t129 => spec_WideText.j0 k t129 (wh A) (wl A)) ?_ fun k => by
      rw [if_pos ((wh_neg A hA).mpr c), spec_neg_wide]
      rfl
    refine Evt.bind hb ?_
    rw [hm] at hj ⊢
    exact hj
  · have hm : mag A = A := by unfold mag; rw [if_pos (by omega)]
    have hb := bits_ev A (by omega) (by omega)
    refine Evt.bind hb ?_
    refine Evt.congr (g := fun k => spec_WideText.j0 k (digs A 128) (wh A) (wl A)) ?_ fun k => by
      rw [if_neg (fun g => c ((wh_neg A hA).mp g))]
    rw [hm] at hj ⊢
    exact hj

/-! The program's loop -/
theorem fmt_some (z : Int) (h0 : 0 ≤ z) (h1 : z < 18446744073709551616) : strconv_FormatUint.f z 10 = some (ba (dd10 z.toNat)) := by
  unfold strconv_FormatUint.f
  rw [if_pos ⟨h0, h1, rfl⟩]
  rfl
theorem dec_len (u : Nat) (h : u < 18446744073709551616) : (dd10 u).length ≤ 20 := by
  rw [show dd10 u = Lib.decDigits u from rfl, Lib.decDigits_length]
  exact Lib.nDigits_le20 u h
theorem pad_loop {a b hi lo : Int} {x5 : ByteArray} {r : ByteArray} (hx : x5.size ≤ 1000) : ∀ (n : Nat) (l : List UInt8), n + l.length = 19 →
    Evt (fun k => impl_WideText.l0 k hi lo (ba (List.replicate n 48 ++ l) ++ x5) a b) r → Evt (fun k => impl_WideText.l1 k x5 hi lo (ba l) a b) r
  | 0, l, hl, h => by
    refine Evt.step h fun k => ?_
    simp only [impl_WideText.l1]
    rw [if_neg (by rw [ba_size]; omega), if_pos (by rw [ba_size]; omega)]
    rfl
  | n + 1, l, hl, h => by
    have ih := pad_loop (a := a) (b := b) (hi := hi) (lo := lo) (r := r) hx n (48 :: l) (by simp only [List.length_cons]; omega) (by
      rw [show List.replicate n (48 : UInt8) ++ 48 :: l = List.replicate (n + 1) 48 ++ l by rw [List.replicate_succ', List.append_assoc]; rfl]
      exact h)
    refine Evt.step ih fun k => ?_
    simp only [impl_WideText.l1]
    rw [if_pos (by rw [ba_size]; omega), if_pos (by rw [ba_size]; omega), show ((⟨#[48]⟩ : ByteArray) ++ ba l) = ba (48 :: l) from ba_app [48] l]
theorem impl_loop (a b : Int) : ∀ (m : Nat) (V : Int) (out : List UInt8), 0 ≤ V → V < 340282366920938463463374607431768211456 → V < 18446744073709551616 * 10000000000000000000 ^ m → out.length + 19 * m ≤ 500 →
    Evt (fun k => impl_WideText.l0 k (V / 18446744073709551616) (V % 18446744073709551616) (ba out) a b) (ba (sign a (dd10 V.toNat ++ out)))
  | m, V, out, h0, hV, hm, hl => by
    by_cases c : V / 18446744073709551616 > 0
    · obtain ⟨m', rfl⟩ : ∃ m', m = m' + 1 := by
        cases m with
        | zero => exfalso; rw [Int.pow_zero, Int.mul_one] at hm; omega
        | succ m' => exact ⟨m', rfl⟩
      have hD := div64_tens (V / 18446744073709551616 % 10000000000000000000) (V % 18446744073709551616) (by omega) (by omega)
      obtain ⟨W, hW⟩ : ∃ W, V / 10000000000000000000 = W := ⟨_, rfl⟩
      have eW : V / 18446744073709551616 / 10000000000000000000 = W / 18446744073709551616 ∧ (V / 18446744073709551616 % 10000000000000000000 * 18446744073709551616 + V % 18446744073709551616) / 10000000000000000000 = W % 18446744073709551616 ∧ (V / 18446744073709551616 % 10000000000000000000 * 18446744073709551616 + V % 18446744073709551616) % 10000000000000000000 = V % 10000000000000000000 := by omega
      rw [eW.2.1, eW.2.2] at hD
      have hp : (V % 10000000000000000000).toNat < 10 ^ (18 + 1) := by omega
      obtain ⟨n, hn1, hn2⟩ := dec_pad 18 (V % 10000000000000000000).toNat hp
      have hlt : W < 18446744073709551616 * 10000000000000000000 ^ m' := by
        rw [Int.pow_succ, ← Int.mul_assoc] at hm
        generalize 18446744073709551616 * (10000000000000000000 : Int) ^ m' = P at *
        omega
      have ih := impl_loop a b m' W (padded 19 (V % 10000000000000000000).toNat ++ out) (by omega) (by omega) hlt (by rw [List.length_append, padded_len]; omega)
      have hd : dd10 V.toNat ++ out = dd10 W.toNat ++ (padded 19 (V % 10000000000000000000).toNat ++ out) := by
        rw [← List.append_assoc, ← dec_split 19 W.toNat (V % 10000000000000000000).toNat (by omega) hp]
        congr 2
        omega
      rw [hd]
      refine Evt.step (g := fun k => (bits_Div64.f k (V / 18446744073709551616 % 10000000000000000000) (V % 18446744073709551616) 10000000000000000000).bind fun bt168 => ((strconv_FormatUint.f bt168.2 10).bind fun t170 => (impl_WideText.l1 k (ba out) (W / 18446744073709551616) bt168.1 t170 a b))) ?_ fun k => by
        simp only [impl_WideText.l0]
        rw [if_pos c, Int.tmod_eq_emod_of_nonneg (by omega), Int.tdiv_eq_ediv_of_nonneg (by omega), uw_id _ (by omega) (by omega), eW.1]
      refine Evt.bind hD ?_
      refine Evt.congr (g := fun k => impl_WideText.l1 k (ba out) (W / 18446744073709551616) (W % 18446744073709551616) (ba (dd10 (V % 10000000000000000000).toNat)) a b) ?_ fun k => by
        simp only [fmt_some (V % 10000000000000000000) (by omega) (by omega), Option.bind_some]
      refine pad_loop (by rw [ba_size]; omega) n _ hn1 ?_
      rw [hn2, ba_app]
      exact ih
    · have hl20 := dec_len V.toNat (by omega)
      refine Evt.done fun k => ?_
      simp only [impl_WideText.l0]
      rw [if_neg c, fmt_some _ (by omega) (by omega), show V % 18446744073709551616 = V by omega]
      simp only [Option.bind_some]
      rw [if_pos (by rw [ba_size, ba_size]; omega), ba_app]
      unfold sign
      by_cases ca : a < 0
      · rw [if_pos ca, if_pos ca, if_pos (by rw [ba_size, List.length_append]; omega), show ((⟨#[45]⟩ : ByteArray) ++ ba (dd10 V.toNat ++ out)) = ba (45 :: (dd10 V.toNat ++ out)) from ba_app [45] _]
      · rw [if_neg ca, if_neg ca]
  termination_by m => m
theorem e38 : (340282366920938463463374607431768211456 : Int) < 18446744073709551616 * 10000000000000000000 ^ 2 := by decide +kernel
theorem impl_text (A : Int) (hA : -170141183460469231731687303715884105728 ≤ A ∧ A < 170141183460469231731687303715884105728) :
    Evt (fun k => impl_WideText.f k (wh A) (wl A)) (ba (sign (wh A) (dd10 (mag A).toNat))) := by
  have hm0 : 0 ≤ mag A := by unfold mag; split <;> omega
  have hm1 : mag A < 340282366920938463463374607431768211456 := by unfold mag; split <;> omega
  have h := impl_loop (wh A) (wl A) 2 (mag A) [] hm0 hm1 (by have := e38; omega) (by decide)
  rw [List.append_nil] at h
  refine Evt.congr h fun k => ?_
  unfold impl_WideText.f
  rw [size_eq A hA]
  rfl
theorem FnExactWideText : Say.FnExactWideText := by
  intro a b ha hb
  obtain ⟨A, hA, rfl, rfl⟩ := halves a b ha hb
  refine Evt.ex (r := true) ?_
  obtain ⟨K1, t1⟩ := spec_text A hA
  obtain ⟨K2, t2⟩ := impl_text A hA
  refine ⟨K1 + K2, fun k hk => ?_⟩
  have t1 := t1 k (by omega)
  have t2 := t2 k (by omega)
  simp only at t1 t2
  show laws_FnExactWideText.f k (wh A) (wl A) = some true
  unfold laws_FnExactWideText.f laws_toWide.f
  simp only [Option.bind_some, t1, t2, if_true]

end Go.Proofs.YtloiamjekoecgaaDoor.Pure
