/- Proved: for every kind, every number k and every aggregate the program's AggDone answers as the reference's, leaves its argument as it was and hands back memory of its own. No other condition. -/
import Derived.Test.YtnnahpmnkpmopaaZAggDoneSayFnExactAggDone
import Derived.Test.YtnnahpmnkpmopaaZAggDoneBase
import Derived.Test.YtnnahpmnkpmopaaZAggDoneEv
import Derived.Test.YtnnahpmnkpmopaaZAggDoneEw
namespace Go.Proofs.Ytnnahpmnkpmopaa.Pure
open Go.RowKit Go.Proofs.Ytnnahpmnkpmopaa.QFnExactAggDone Go.Proofs.YtnnahpmnkpmopaaW.PrintWords Go.Proofs.YtnnahpmnkpmopaaW.PrintLast Go.Proofs.YtnnahpmnkpmopaaW.PrintMore
open Go.Proofs.Ytnnahpmnkpmopaa.Base
set_option linter.unusedSimpArgs false
set_option linter.unusedVariables false

open Go.Proofs.Ytnnahpmnkpmopaa.Evt
/-- The halves of a whole number, as a wide one has them. -/
def wh (A : Int) : Int := wrap64 (A / 18446744073709551616)
def wl (A : Int) : Int := A % 18446744073709551616
theorem carry (a b c : Int) (h : c = a + b) : (c % 18446744073709551616 = a % 18446744073709551616 + b % 18446744073709551616 ∧ c / 18446744073709551616 = a / 18446744073709551616 + b / 18446744073709551616) ∨ (c % 18446744073709551616 + 18446744073709551616 = a % 18446744073709551616 + b % 18446744073709551616 ∧ c / 18446744073709551616 = a / 18446744073709551616 + b / 18446744073709551616 + 1) := by omega
theorem hi0 (x y : Int) : wrap64 (IntKind.u64.wrap ((IntKind.u64.wrap (wrap64 x)) + (IntKind.u64.wrap (wrap64 y)))) = wrap64 (x + y) := by
  simp only [wu64]
  unfold wrap64
  omega
theorem hi1 (x y : Int) : wrap64 (IntKind.u64.wrap ((IntKind.u64.wrap ((IntKind.u64.wrap (wrap64 x)) + (IntKind.u64.wrap (wrap64 y)))) + 1)) = wrap64 (x + y + 1) := by
  simp only [wu64]
  unfold wrap64
  omega
theorem spec_add_wide (A B : Int) : spec_WideAdd.f (wh A) (wl A) (wh B) (wl B) = some (wh (A + B), wl (A + B)) := by
  unfold spec_WideAdd.f wh wl
  rw [hi0, hi1]
  rcases carry A B (A + B) rfl with ⟨h1, h2⟩ | ⟨h1, h2⟩
  · have e : IntKind.u64.wrap (A % 18446744073709551616 + B % 18446744073709551616) = (A + B) % 18446744073709551616 := by rw [wu64]; omega
    rw [e, if_neg (by omega), h2]
  · have e : IntKind.u64.wrap (A % 18446744073709551616 + B % 18446744073709551616) = (A + B) % 18446744073709551616 := by rw [wu64]; omega
    rw [e, if_pos (by omega), h2]
theorem wh0 : wh 0 = 0 := by decide +kernel
theorem wl1 : wl 1 = 1 := by decide +kernel
theorem wl0 : wl 0 = 0 := by decide +kernel
theorem wh1 : wh 1 = 0 := by decide +kernel
theorem spec_neg_wide (A : Int) : spec_WideNeg.f (wh A) (wl A) = some (wh (-A), wl (-A)) := by
  unfold spec_WideNeg.f
  have e1 : wrap64 ((-1) - wh A) = wh (-A - 1) := by unfold wh wrap64; omega
  have e2 : IntKind.u64.wrap (18446744073709551615 - wl A) = wl (-A - 1) := by rw [wu64]; unfold wl; omega
  have h := spec_add_wide (-A - 1) 1
  rw [wh1, wl1] at h
  rw [e1, e2, h]
  simp only [Option.bind_some]
  rw [show -A - 1 + 1 = -A by omega]
theorem spec_of_wide (n : Int) (h : -9223372036854775808 ≤ n ∧ n ≤ 9223372036854775807) : spec_WideOf.f n = some (wh n, wl n) := by
  unfold spec_WideOf.f
  rw [wu64]
  have e : n % 18446744073709551616 = wl n := rfl
  by_cases c : n < 0
  · rw [if_pos c, e]
    have : wh n = -1 := by unfold wh wrap64; omega
    rw [this]
  · rw [if_neg c, e]
    have : wh n = 0 := by unfold wh wrap64; omega
    rw [this]
def fits (A : Int) : Bool := decide (-9223372036854775808 ≤ A) && decide (A ≤ 9223372036854775807)
theorem spec_int_wide (A : Int) (h : -170141183460469231731687303715884105728 ≤ A ∧ A < 170141183460469231731687303715884105728) : spec_WideInt.f (wh A) (wl A) = some (if fits A = true then A else 0, fits A) := by
  unfold spec_WideInt.f
  have hn : -9223372036854775808 ≤ wrap64 (wl A) ∧ wrap64 (wl A) ≤ 9223372036854775807 := by unfold wrap64; omega
  rw [spec_of_wide _ hn]
  simp only [Option.bind_some]
  have hl : wl (wrap64 (wl A)) = wl A := by unfold wl wrap64; omega
  rw [hl]
  unfold fits
  by_cases c : -9223372036854775808 ≤ A ∧ A ≤ 9223372036854775807
  · have e : wrap64 (wl A) = A := by unfold wl wrap64; omega
    rw [e, decide_eq_true c.1, decide_eq_true c.2]
    simp
  · have e : wh (wrap64 (wl A)) ≠ wh A := by
      intro e
      apply c
      unfold wh wl wrap64 at e
      omega
    have e2 : (decide (-9223372036854775808 ≤ A) && decide (A ≤ 9223372036854775807)) = false := by
      rw [← Bool.not_eq_true, Bool.and_eq_true, decide_eq_true_eq, decide_eq_true_eq]
      exact c
    rw [e2]
    simp [e]

/-- Not rising. -/
def Desc (l : List Int) : Prop := l.Pairwise (fun a b => b ≤ a)
theorem desc_get {l : List Int} (h : Desc l) (i j : Nat) (hj : j < l.length) (hij : i ≤ j) : l[j] ≤ l[i] := by
  rcases Nat.lt_or_eq_of_le hij with c | c
  · exact List.pairwise_iff_getElem.mp h i j (by omega) hj c
  · subst c; exact Int.le_refl _
theorem desc_adj {l : List Int} (h : ∀ i : Nat, (hi : i + 1 < l.length) → l[i + 1] ≤ l[i]) : Desc l := by
  refine List.pairwise_iff_getElem.mpr ?_
  intro i j hi hj hij
  obtain ⟨d, rfl⟩ : ∃ d, j = i + 1 + d := ⟨j - i - 1, by omega⟩
  induction d with
  | zero => exact h i (by omega)
  | succ d ih => exact Int.le_trans (h (i + 1 + d) (by omega)) (ih (by omega) (by omega))
theorem pick_ev (all out : List Int) (h0 : 0 < all.length) (hl : all.length ≤ 1048576) (ho : out.length ≤ 16) :
    ∃ at_ : Nat, at_ < all.length ∧ (∀ j : Nat, j < all.length → rd all (j : Int) ≤ rd all (at_ : Int)) ∧ (Desc all → at_ = 0) ∧
      ∀ r, Evt (fun k => spec_TopOf.l0 k (all.take at_ ++ all.drop (at_ + 1)) (out ++ [rd all (at_ : Int)])) r → Evt (fun k => spec_TopOf.l1 k all out 0 0) r := by
  have go : ∀ (m i a : Nat), i + m = all.length → a < all.length → (∀ j : Nat, j < i → rd all (j : Int) ≤ rd all (a : Int)) → (Desc all → a = 0) →
      ∃ at_ : Nat, at_ < all.length ∧ (∀ j : Nat, j < all.length → rd all (j : Int) ≤ rd all (at_ : Int)) ∧ (Desc all → at_ = 0) ∧
        ∀ r, Evt (fun k => spec_TopOf.l0 k (all.take at_ ++ all.drop (at_ + 1)) (out ++ [rd all (at_ : Int)])) r → Evt (fun k => spec_TopOf.l1 k all out (a : Int) (i : Int)) r := by
    intro m
    induction m with
    | zero =>
      intro i a hi ha hj hd
      refine ⟨a, ha, fun j hj' => hj j (by omega), hd, fun r hr => Evt.step hr fun k => ?_⟩
      have w : wrap64 ((a : Int) + 1) = ((a + 1 : Nat) : Int) := (w64 (by omega) (by omega)).trans (by omega)
      have n1 : ([] : List Int).length + (all.take (a : Int).toNat).length < 17592186044416 := by
        rw [List.length_take, List.length_nil, Int.toNat_natCast]; omega
      have n2 : (([] : List Int) ++ all.take (a : Int).toNat).length + (all.drop ((a + 1 : Nat) : Int).toNat).length < 17592186044416 := by
        rw [List.nil_append, List.length_take, List.length_drop, Int.toNat_natCast, Int.toNat_natCast]; omega
      simp only [spec_TopOf.l1]
      rw [if_neg (show ¬ (i : Int) < (all.length : Int) by omega), if_pos (show (0 : Int) ≤ (a : Int) by omega), if_pos (show (a : Int) < (all.length : Int) by omega), if_pos (show out.length < 17592186044416 by omega)]
      simp only [Option.bind_some, w]
      rw [if_pos (show (a : Int) ≤ (all.length : Int) by omega), if_pos n1, if_pos (show (0 : Int) ≤ ((a + 1 : Nat) : Int) by omega), if_pos (show ((a + 1 : Nat) : Int) ≤ (all.length : Int) by omega), if_pos n2]
      rfl
    | succ m ih =>
      intro i a hi ha hj hd
      have hi' : i < all.length := by omega
      have w : wrap64 ((i : Int) + 1) = ((i + 1 : Nat) : Int) := (w64 (by omega) (by omega)).trans (by omega)
      by_cases c : rd all (i : Int) > rd all (a : Int)
      · obtain ⟨t, t1, t2, t3, t4⟩ := ih (i + 1) i (by omega) hi' (fun j hj' => by
            by_cases e : j = i
            · subst e; exact Int.le_refl _
            · have := hj j (by omega); omega) (fun h => by
            have a0 := hd h
            subst a0
            have := desc_get h 0 i hi' (by omega)
            rw [rd_nat all i hi', rd_nat all 0 ha] at c
            omega)
        refine ⟨t, t1, t2, t3, fun r hr => Evt.step (t4 r hr) fun k => ?_⟩
        simp only [spec_TopOf.l1]
        rw [if_pos (by omega), if_pos (by omega), if_pos (by omega), if_pos (by omega), if_pos c, w]
      · obtain ⟨t, t1, t2, t3, t4⟩ := ih (i + 1) a (by omega) ha (fun j hj' => by
            by_cases e : j = i
            · subst e; omega
            · exact hj j (by omega)) hd
        refine ⟨t, t1, t2, t3, fun r hr => Evt.step (t4 r hr) fun k => ?_⟩
        simp only [spec_TopOf.l1]
        rw [if_pos (by omega), if_pos (by omega), if_pos (by omega), if_pos (by omega), if_neg c, w]
  exact go all.length 0 0 (by omega) h0 (fun j hj => by omega) (fun _ => rfl)
theorem sort_ev : ∀ (m : Nat) (all out : List Int), all.length = m → out.length + m ≤ 4 → Desc out → (∀ x ∈ all, ∀ y ∈ out, x ≤ y) →
    ∃ res, Evt (fun k => spec_TopOf.l0 k all out) res ∧ Desc res ∧ (Desc all → res = out ++ all)
  | 0, all, out, hm, hl, hd, _ => by
    obtain rfl : all = [] := List.eq_nil_of_length_eq_zero hm
    refine ⟨out, ?_, hd, fun _ => by simp⟩
    refine Evt.step (g := fun k => spec_TopOf.j1 k [] out false) (Evt.done fun k => by simp only [spec_TopOf.j1, Bool.false_eq_true, if_false]) fun k => ?_
    simp only [spec_TopOf.l0]
    have : decide ((([] : List Int).length : Int) > 0) = false := by decide
    rw [this, ite_self]
  | m + 1, all, out, hm, hl, hd, hx => by
    obtain ⟨a, a1, a2, a3, a4⟩ := pick_ev all out (by omega) (by omega) (by omega)
    have ea : rd all (a : Int) = all[a] := rd_nat all a a1
    have hlen : (all.take a ++ all.drop (a + 1)).length = m := by rw [List.length_append, List.length_take, List.length_drop]; omega
    have hmem : ∀ x ∈ all.take a ++ all.drop (a + 1), x ∈ all := by
      intro x hx
      rcases List.mem_append.mp hx with g | g
      · exact List.mem_of_mem_take g
      · exact List.mem_of_mem_drop g
    have hmax : ∀ x ∈ all, x ≤ rd all (a : Int) := by
      intro x hx
      obtain ⟨j, hj, rfl⟩ := List.getElem_of_mem hx
      have := a2 j hj
      rw [rd_nat all j hj] at this
      exact this
    have hd' : Desc (out ++ [rd all (a : Int)]) := by
      refine List.pairwise_append.mpr ⟨hd, List.pairwise_singleton _ _, fun y hy z hz => ?_⟩
      rw [List.mem_singleton.mp hz, ea]
      exact hx _ (List.getElem_mem _) y hy
    obtain ⟨res, r1, r2, r3⟩ := sort_ev m (all.take a ++ all.drop (a + 1)) (out ++ [rd all (a : Int)]) hlen (by rw [List.length_append]; simp only [List.length_cons, List.length_nil]; omega) hd' (by
      intro x hxm y hy
      rcases List.mem_append.mp hy with g | g
      · exact hx x (hmem x hxm) y g
      · rw [List.mem_singleton.mp g]; exact hmax x (hmem x hxm))
    refine ⟨res, ?_, r2, fun h => ?_⟩
    · refine Evt.step (g := fun k => spec_TopOf.j1 k all out true) (Evt.step (a4 res r1) fun k => by simp only [spec_TopOf.j1, if_true]) fun k => ?_
      simp only [spec_TopOf.l0]
      rw [if_pos (by omega), decide_eq_true (by omega)]
    · have a0 := a3 h
      subst a0
      cases all with
      | nil => simp at hm
      | cons x t =>
        have e := r3 (by simp only [List.take_zero, List.nil_append, Nat.zero_add, List.drop_succ_cons, List.drop_zero]; exact (List.pairwise_cons.mp h).2)
        rw [e]
        simp [rd]
/-- The reference's check that a short list does not rise. -/
theorem same_ev (l : List Int) (hl : l.length ≤ 4) : ∃ res, Evt (fun k => spec_TopOf.f k l []) res ∧ ∃ b, Evt (fun k => spec_l07Same.f k res l) b ∧ (b = true ↔ Desc l) := by
  obtain ⟨res, r1, r2, r3⟩ := sort_ev l.length l [] rfl (by simpa using hl) List.Pairwise.nil (by simp)
  refine ⟨res, ?_, ?_⟩
  · refine r1.congr fun k => ?_
    unfold spec_TopOf.f
    simp only [Option.bind_some, List.nil_append, List.append_nil, List.length_nil]
    rw [if_pos (by omega), if_pos (by omega)]
  · by_cases hlen : res.length = l.length
    · refine ⟨allB (fun i => decide (rd res i = rd l i)) l.length 0, ?_, ?_⟩
      · have s : Evt (fun k => spec_l07Same.l0 k res l 0) (if allB (fun i => decide (rd res i = rd l i)) l.length 0 = true then true else false) := by
          refine Evt.allx (L := fun i k => spec_l07Same.l0 k res l i) (N := (l.length : Int)) ?_ ?_ l.length 0 (Int.le_refl 0) (by omega)
          · exact Evt.done fun k => by simp only [spec_l07Same.l0]; rw [if_neg (by omega)]
          · intro i i0 hi r hr
            exact Evt.ite hr (Evt.const false) fun k => by
              simp only [spec_l07Same.l0]
              rw [if_pos (by omega), if_pos i0, if_pos hi, w64 (by omega) (by omega)]
              by_cases c : rd res i = rd l i
              · rw [if_pos c, decide_eq_true c]; rfl
              · rw [if_neg c, decide_eq_false c]; rfl
        have s2 : Evt (fun k => spec_l07Same.l0 k res l 0) (allB (fun i => decide (rd res i = rd l i)) l.length 0) := by
          cases hx : allB (fun i => decide (rd res i = rd l i)) l.length 0 <;> rw [hx] at s <;> exact s
        exact s2.congr fun k => by
          unfold spec_l07Same.f
          rw [if_pos (by omega)]
      · rw [allB_iff]
        constructor
        · intro h
          have e : res = l := by
            refine List.ext_getElem hlen fun i h1 h2 => ?_
            have := h (i : Int) (by omega) (by omega)
            rw [decide_eq_true_eq, rd_nat res i h1, rd_nat l i h2] at this
            exact this
          rw [← e]; exact r2
        · intro h i i0 hi
          rw [r3 h, List.nil_append]
          exact decide_eq_true rfl
    · refine ⟨false, (Evt.const false).congr fun k => by unfold spec_l07Same.f; rw [if_neg (by omega)], ?_⟩
      constructor
      · intro h; cases h
      · intro h
        exfalso
        apply hlen
        rw [r3 h, List.nil_append]

theorem dd (x y z : Int) (hy : 0 ≤ y) : x / y / z = x / (y * z) := by rw [Int.ediv_ediv, if_neg (by omega), Int.sub_zero]
theorem dsucc (V : Int) (p : Nat) : V / 2 ^ (p + 1) = V / 2 ^ p / 2 := by
  rw [dd _ _ _ (Int.le_of_lt (Int.pow_pos (by decide))), Int.pow_succ]
/-- A binary digit. -/
def dig (V : Int) (j : Nat) : Int := V / 2 ^ j % 2
theorem dig_range (V : Int) (j : Nat) : dig V j = 0 ∨ dig V j = 1 := by unfold dig; omega
theorem dig_low (H L : Int) (j : Nat) (hj : j < 64) : dig (H * 18446744073709551616 + L) j = dig L j := by
  unfold dig
  have e : (18446744073709551616 : Int) = 2 ^ (63 - j) * 2 * 2 ^ j := by
    rw [← Int.pow_succ, ← Int.pow_add, show 63 - j + 1 + j = 64 by omega]; rfl
  have hp : (2 : Int) ^ j ≠ 0 := by have : (0 : Int) < 2 ^ j := Int.pow_pos (by decide); omega
  have e2 : (H * 18446744073709551616 + L) / 2 ^ j = L / 2 ^ j + 2 * (H * 2 ^ (63 - j)) := by
    rw [show H * 18446744073709551616 + L = L + (2 * (H * 2 ^ (63 - j))) * 2 ^ j by
      rw [e, Int.add_comm, show 2 * (H * 2 ^ (63 - j)) * 2 ^ j = H * (2 ^ (63 - j) * 2 * 2 ^ j) by
        simp only [Int.mul_comm, Int.mul_left_comm]]]
    exact Int.add_mul_ediv_right _ _ hp
  rw [e2]
  omega
theorem dig_high (V : Int) (j : Nat) : dig V (64 + j) = dig (V / 18446744073709551616) j := by
  unfold dig
  rw [show (18446744073709551616 : Int) = 2 ^ 64 from rfl, dd _ _ _ (by decide), ← Int.pow_add]
/-- The digits of a number, the least first. -/
def digs (V : Int) (n : Nat) : List Int := (List.range n).map (dig V)
theorem digs_len (V : Int) (n : Nat) : (digs V n).length = n := by simp [digs]
theorem digs_succ (V : Int) (n : Nat) : digs V (n + 1) = digs V n ++ [dig V n] := by simp [digs, List.range_succ]
theorem rd_digs (V : Int) (n i : Nat) (h : i < n) : rd (digs V n) (i : Int) = dig V i := by
  rw [rd_nat _ i (by rw [digs_len]; exact h)]
  simp [digs]
theorem half (x : Int) (h : 0 ≤ x) (hb : x < 18446744073709551616) : wrap64 (Int.tmod x 2) = x % 2 ∧ IntKind.u64.wrap (Int.tdiv x 2) = x / 2 := by
  rw [Int.tmod_eq_emod_of_nonneg h, Int.tdiv_eq_ediv_of_nonneg h, w64 (by omega) (by omega), wu64]
  omega
theorem bits_ev (V : Int) (h0 : 0 ≤ V) (hV : V < 340282366920938463463374607431768211456) : Evt (fun k => spec_l02Bits.f k (wh V) (wl V)) (digs V 128) := by
  have hd : V = V / 18446744073709551616 * 18446744073709551616 + wl V := by unfold wl; omega
  have hw : IntKind.u64.wrap (wh V) = V / 18446744073709551616 := by rw [wu64]; unfold wh wrap64; omega
  have hH0 : 0 ≤ V / 18446744073709551616 := by omega
  have hH1 : V / 18446744073709551616 < 18446744073709551616 := by omega
  have hL0 : 0 ≤ wl V := by unfold wl; omega
  have hL1 : wl V < 18446744073709551616 := by unfold wl; omega
  have pd : ∀ (x : Int) (i : Nat), 0 ≤ x → x < 18446744073709551616 → 0 ≤ x / 2 ^ i ∧ x / 2 ^ i < 18446744073709551616 := by
    intro x i a b
    have hp : (0 : Int) < 2 ^ i := Int.pow_pos (by decide)
    exact ⟨Int.ediv_nonneg a (Int.le_of_lt hp), Int.lt_of_le_of_lt (Int.ediv_le_self _ a) b⟩
  have high : ∀ (m i : Nat), i + m = 64 → Evt (fun k => spec_l02Bits.l1 k (digs V (64 + i)) (V / 18446744073709551616 / 2 ^ i) (i : Int)) (digs V 128) := by
    intro m
    induction m with
    | zero =>
      intro i hi
      obtain rfl : i = 64 := by omega
      exact Evt.done fun k => by simp only [spec_l02Bits.l1]; rw [if_neg (by decide)]
    | succ m ih =>
      intro i hi
      refine Evt.step (ih (i + 1) (by omega)) fun k => ?_
      have hx := pd _ i hH0 hH1
      have hh := half _ hx.1 hx.2
      simp only [spec_l02Bits.l1]
      rw [if_pos (by omega), if_pos (by rw [digs_len]; omega), hh.1, hh.2, w64 (by omega) (by omega), ← dsucc]
      rw [show 64 + (i + 1) = 64 + i + 1 by omega, digs_succ, dig_high]
      rfl
  have low : ∀ (m i : Nat), i + m = 64 → Evt (fun k => spec_l02Bits.l0 k (digs V i) (wl V / 2 ^ i) (i : Int) (wh V) (wl V)) (digs V 128) := by
    intro m
    induction m with
    | zero =>
      intro i hi
      obtain rfl : i = 64 := by omega
      refine Evt.step (high 64 0 rfl) fun k => ?_
      simp only [spec_l02Bits.l0]
      rw [if_neg (by decide), hw, Int.pow_zero, Int.ediv_one]
      rfl
    | succ m ih =>
      intro i hi
      refine Evt.step (ih (i + 1) (by omega)) fun k => ?_
      have hx := pd _ i hL0 hL1
      have hh := half _ hx.1 hx.2
      simp only [spec_l02Bits.l0]
      rw [if_pos (by omega), if_pos (by rw [digs_len]; omega), hh.1, hh.2, w64 (by omega) (by omega), ← dsucc]
      have e : dig V i = wl V / 2 ^ i % 2 := by
        conv => lhs; rw [hd]
        exact dig_low _ _ i (by omega)
      rw [digs_succ, e]
      rfl
  have s := low 64 0 rfl
  rw [Int.pow_zero, Int.ediv_one] at s
  exact s
theorem rd_set (l : List Int) (p j : Nat) (v : Int) (hp : p < l.length) : rd (l.set p v) (j : Int) = if j = p then v else rd l (j : Int) := by
  unfold rd
  simp only [Int.toNat_natCast, List.getD_eq_getElem?_getD, List.getElem?_set]
  by_cases c : p = j
  · subst c; simp [hp]
  · rw [if_neg c, if_neg (fun e => c e.symm)]
/-- One step of a long division by hand. -/
theorem div_step (X n b : Int) (hn : 0 < n) (hX : 0 ≤ X) (hb : b = X % 2) : (2 * (X / 2 % n) + b ≥ n → X % n = 2 * (X / 2 % n) + b - n ∧ X / n % 2 = 1) ∧ (¬ 2 * (X / 2 % n) + b ≥ n → X % n = 2 * (X / 2 % n) + b ∧ X / n % 2 = 0) := by
  have h1 := Int.emod_nonneg (X / 2) (show n ≠ 0 by omega)
  have h2 := Int.emod_lt_of_pos (X / 2) hn
  have h3 := Int.mul_ediv_add_emod (X / 2) n
  generalize X / 2 % n = r at *
  generalize hq : X / 2 / n = q at *
  have e2 : n * (2 * q) = 2 * (n * q) := Int.mul_left_comm n 2 q
  have e3 : n * (2 * q + 1) = 2 * (n * q) + n := by rw [Int.mul_add, e2, Int.mul_one]
  generalize n * q = y at *
  constructor
  · intro c
    have := (Int.ediv_emod_unique (a := X) (q := 2 * q + 1) (r := 2 * r + b - n) hn).mpr ⟨by rw [e3]; omega, by omega, by omega⟩
    exact ⟨this.2, by rw [this.1]; omega⟩
  · intro c
    have := (Int.ediv_emod_unique (a := X) (q := 2 * q) (r := 2 * r + b) hn).mpr ⟨by rw [e2]; omega, by omega, by omega⟩
    exact ⟨this.2, by rw [this.1]; omega⟩
theorem rd_repl (n j : Nat) (h : j < n) : rd (List.replicate n 0) (j : Int) = 0 := by
  rw [rd_nat _ j (by simpa using h)]
  simp
theorem e128 : (2 : Int) ^ 128 = 340282366920938463463374607431768211456 := by decide +kernel
theorem divide_ev (V n : Int) (h0 : 0 ≤ V) (hV : V < 340282366920938463463374607431768211456) (hn : 1 ≤ n) (hn2 : n ≤ 1000000) :
    ∃ out : List Int, out.length = 128 ∧ (∀ j : Nat, j < 128 → rd out (j : Int) = dig (V / n) j) ∧ Evt (fun k => spec_l02Divide.f k (digs V 128) n) (out, V % n) := by
  have hdig : ∀ p : Nat, dig (V / n) p = V / 2 ^ p / n % 2 := by
    intro p
    unfold dig
    rw [dd _ _ _ (by omega), dd _ _ _ (Int.le_of_lt (Int.pow_pos (by decide))), Int.mul_comm]
  have go : ∀ (p : Nat) (out : List Int), p ≤ 128 → out.length = 128 → (∀ j : Nat, j < 128 → rd out (j : Int) = if p ≤ j then dig (V / n) j else 0) →
      ∃ o : List Int, o.length = 128 ∧ (∀ j : Nat, j < 128 → rd o (j : Int) = dig (V / n) j) ∧ Evt (fun k => spec_l02Divide.l0 k (digs V 128) n out (V / 2 ^ p % n) ((p : Int) - 1)) (o, V % n) := by
    intro p
    induction p with
    | zero =>
      intro out _ hl ho
      refine ⟨out, hl, fun j hj => by rw [ho j hj, if_pos (by omega)], Evt.done fun k => ?_⟩
      simp only [spec_l02Divide.l0]
      rw [if_neg (by omega), Int.pow_zero, Int.ediv_one]
    | succ p ih =>
      intro out hp hl ho
      have hX : 0 ≤ V / 2 ^ p := Int.ediv_nonneg h0 (Int.le_of_lt (Int.pow_pos (by decide)))
      obtain ⟨s1, s2⟩ := div_step (V / 2 ^ p) n (dig V p) (by omega) hX rfl
      have r1 := Int.emod_nonneg (V / 2 ^ (p + 1)) (show n ≠ 0 by omega)
      have r2 := Int.emod_lt_of_pos (V / 2 ^ (p + 1)) (show 0 < n by omega)
      have hd := dig_range V p
      rw [← dsucc] at s1 s2
      have e1 : ∀ k, spec_l02Divide.l0 (k + 1) (digs V 128) n out (V / 2 ^ (p + 1) % n) (((p + 1 : Nat) : Int) - 1) = if 2 * (V / 2 ^ (p + 1) % n) + dig V p ≥ n then spec_l02Divide.l0 k (digs V 128) n (out.set p 1) (2 * (V / 2 ^ (p + 1) % n) + dig V p - n) ((p : Int) - 1) else spec_l02Divide.l0 k (digs V 128) n out (2 * (V / 2 ^ (p + 1) % n) + dig V p) ((p : Int) - 1) := by
        intro k
        have ep : ((p + 1 : Nat) : Int) - 1 = (p : Int) := by omega
        rw [ep]
        simp only [spec_l02Divide.l0]
        rw [if_pos (by omega), if_pos (by omega), digs_len, if_pos (show (p : Int) < ((128 : Nat) : Int) by omega), rd_digs V 128 p (by omega), hl, if_pos (show (p : Int) < ((128 : Nat) : Int) by omega)]
        have e2 : wrap64 (2 * (V / 2 ^ (p + 1) % n)) = 2 * (V / 2 ^ (p + 1) % n) := w64 (by omega) (by omega)
        rw [e2]
        have e3 : wrap64 (2 * (V / 2 ^ (p + 1) % n) + dig V p) = 2 * (V / 2 ^ (p + 1) % n) + dig V p := w64 (by omega) (by omega)
        rw [e3]
        have e4 : wrap64 (2 * (V / 2 ^ (p + 1) % n) + dig V p - n) = 2 * (V / 2 ^ (p + 1) % n) + dig V p - n := w64 (by omega) (by omega)
        rw [e4, w64 (by omega) (by omega)]
        rfl
      by_cases c : 2 * (V / 2 ^ (p + 1) % n) + dig V p ≥ n
      · obtain ⟨a1, a2⟩ := s1 c
        obtain ⟨o, b1, b2, b3⟩ := ih (out.set p 1) (by omega) (by rw [List.length_set]; exact hl) (by
          intro j hj
          rw [rd_set out p j 1 (by omega)]
          by_cases d : j = p
          · subst d
            rw [if_pos rfl, if_pos (by omega), hdig, a2]
          · rw [if_neg d, ho j hj]
            by_cases f : p ≤ j
            · rw [if_pos f, if_pos (by omega)]
            · rw [if_neg f, if_neg (by omega)])
        exact ⟨o, b1, b2, Evt.step b3 fun k => by rw [e1, if_pos c, a1]⟩
      · obtain ⟨a1, a2⟩ := s2 c
        obtain ⟨o, b1, b2, b3⟩ := ih out (by omega) hl (by
          intro j hj
          rw [ho j hj]
          by_cases f : p + 1 ≤ j
          · rw [if_pos f, if_pos (by omega)]
          · rw [if_neg f]
            by_cases d : j = p
            · subst d
              rw [if_pos (by omega), hdig, a2]
            · rw [if_neg (by omega)])
        exact ⟨o, b1, b2, Evt.step b3 fun k => by rw [e1, if_neg c, a1]⟩
  obtain ⟨o, b1, b2, b3⟩ := go 128 (List.replicate 128 0) (by omega) (by simp) (by
    intro j hj
    rw [if_neg (by omega)]
    exact rd_repl 128 j hj)
  refine ⟨o, b1, b2, ?_⟩
  refine b3.congr fun k => ?_
  unfold spec_l02Divide.f
  rw [if_pos (by decide)]
  have : V / 2 ^ 128 % n = 0 := by
    rw [e128, Int.ediv_eq_zero_of_lt h0 hV, Int.zero_emod]
  rw [this]
  rfl
theorem wide_ev (Q : Int) (h0 : 0 ≤ Q) (hQ : Q < 340282366920938463463374607431768211456) (out : List Int) (hl : out.length = 128) (ho : ∀ j : Nat, j < 128 → rd out (j : Int) = dig Q j) :
    Evt (fun k => spec_l02Wide.f k out) (wh Q, wl Q) := by
  have hd : Q = Q / 18446744073709551616 * 18446744073709551616 + wl Q := by unfold wl; omega
  have hH0 : 0 ≤ Q / 18446744073709551616 := by omega
  have hH1 : Q / 18446744073709551616 < 18446744073709551616 := by omega
  have hL0 : 0 ≤ wl Q := by unfold wl; omega
  have hL1 : wl Q < 18446744073709551616 := by unfold wl; omega
  have pd : ∀ (x : Int) (i : Nat), 0 ≤ x → x < 18446744073709551616 → 0 ≤ x / 2 ^ i ∧ x / 2 ^ i < 18446744073709551616 := by
    intro x i a b
    have hp : (0 : Int) < 2 ^ i := Int.pow_pos (by decide)
    exact ⟨Int.ediv_nonneg a (Int.le_of_lt hp), Int.lt_of_le_of_lt (Int.ediv_le_self _ a) b⟩
  have st : ∀ (x : Int) (p : Nat), 0 ≤ x → x < 18446744073709551616 → IntKind.u64.wrap ((IntKind.u64.wrap (2 * (x / 2 ^ (p + 1)))) + (IntKind.u64.wrap (dig x p))) = x / 2 ^ p := by
    intro x p a b
    rw [dsucc]
    have := pd x p a b
    unfold dig
    generalize x / 2 ^ p = y at *
    simp only [wu64]
    omega
  have go : ∀ (p : Nat), p ≤ 64 → Evt (fun k => spec_l02Wide.l0 k out (wl Q / 2 ^ p) (Q / 18446744073709551616 / 2 ^ p) ((p : Int) - 1)) (wh Q, wl Q) := by
    intro p
    induction p with
    | zero =>
      intro _
      exact Evt.done fun k => by
        simp only [spec_l02Wide.l0]
        rw [if_neg (by omega), Int.pow_zero, Int.ediv_one, Int.ediv_one]
        rfl
    | succ p ih =>
      intro hp
      refine Evt.step (ih (by omega)) fun k => ?_
      have ep : ((p + 1 : Nat) : Int) - 1 = (p : Int) := by omega
      have ew : wrap64 (64 + (p : Int)) = ((64 + p : Nat) : Int) := (w64 (by omega) (by omega)).trans (by omega)
      have el : rd out (p : Int) = dig (wl Q) p := by
        rw [ho p (by omega)]
        conv => lhs; rw [hd]
        exact dig_low _ _ p (by omega)
      have eh : rd out ((64 + p : Nat) : Int) = dig (Q / 18446744073709551616) p := by
        rw [ho (64 + p) (by omega), dig_high]
      rw [ep]
      simp only [spec_l02Wide.l0]
      rw [if_pos (by omega), if_pos (by omega), if_pos (by omega), ew, if_pos (by omega), if_pos (by omega), el, eh, st _ p hL0 hL1, st _ p hH0 hH1, w64 (by omega) (by omega)]
  have s := go 64 (by omega)
  refine s.congr fun k => ?_
  unfold spec_l02Wide.f
  rw [show (2 : Int) ^ 64 = 18446744073709551616 from rfl, Int.ediv_eq_zero_of_lt hL0 hL1, Int.ediv_eq_zero_of_lt hH0 hH1]
  rfl

def tb : ByteArray := ⟨#[0, 1, 2, 2, 3, 3, 3, 3, 4, 4, 4, 4, 4, 4, 4, 4, 5, 5, 5, 5, 5, 5, 5, 5, 5, 5, 5, 5, 5, 5, 5, 5, 6, 6, 6, 6, 6, 6, 6, 6, 6, 6, 6, 6, 6, 6, 6, 6, 6, 6, 6, 6, 6, 6, 6, 6, 6, 6, 6, 6, 6, 6, 6, 6, 7, 7, 7, 7, 7, 7, 7, 7, 7, 7, 7, 7, 7, 7, 7, 7, 7, 7, 7, 7, 7, 7, 7, 7, 7, 7, 7, 7, 7, 7, 7, 7, 7, 7, 7, 7, 7, 7, 7, 7, 7, 7, 7, 7, 7, 7, 7, 7, 7, 7, 7, 7, 7, 7, 7, 7, 7, 7, 7, 7, 7, 7, 7, 7, 8, 8, 8, 8, 8, 8, 8, 8, 8, 8, 8, 8, 8, 8, 8, 8, 8, 8, 8, 8, 8, 8, 8, 8, 8, 8, 8, 8, 8, 8, 8, 8, 8, 8, 8, 8, 8, 8, 8, 8, 8, 8, 8, 8, 8, 8, 8, 8, 8, 8, 8, 8, 8, 8, 8, 8, 8, 8, 8, 8, 8, 8, 8, 8, 8, 8, 8, 8, 8, 8, 8, 8, 8, 8, 8, 8, 8, 8, 8, 8, 8, 8, 8, 8, 8, 8, 8, 8, 8, 8, 8, 8, 8, 8, 8, 8, 8, 8, 8, 8, 8, 8, 8, 8, 8, 8, 8, 8, 8, 8, 8, 8, 8, 8, 8, 8, 8, 8, 8, 8, 8, 8, 8, 8, 8, 8, 8, 8]⟩
def tabP (i b : Int) : Prop := (b = 1 ∧ i = 1) ∨ (b = 2 ∧ 2 ≤ i ∧ i < 4) ∨ (b = 3 ∧ 4 ≤ i ∧ i < 8) ∨ (b = 4 ∧ 8 ≤ i ∧ i < 16) ∨ (b = 5 ∧ 16 ≤ i ∧ i < 32) ∨ (b = 6 ∧ 32 ≤ i ∧ i < 64) ∨ (b = 7 ∧ 64 ≤ i ∧ i < 128) ∨ (b = 8 ∧ 128 ≤ i ∧ i < 256)
instance (i b : Int) : Decidable (tabP i b) := by unfold tabP; infer_instance
theorem tab_all : ∀ i : Fin 256, 1 ≤ i.val → tabP (i.val : Int) (bt tb (i.val : Int)) := by decide +kernel
theorem tab_at (i : Int) (h1 : 1 ≤ i) (h2 : i < 256) : tabP i (bt tb i) := by
  have := tab_all ⟨i.toNat, by omega⟩ (by show 1 ≤ i.toNat; omega)
  have e : ((i.toNat : Nat) : Int) = i := by omega
  simp only [e] at this
  exact this
theorem j0_eq (k : Nat) (x0 x2 : Int) : bits_Len64.j0 (k + 1) x0 x2 = if x0 ≥ 65536 then (if (x0 / 65536) ≥ 256 then (if 0 ≤ (((x0 / 65536) / 256) % 256) then (if (((x0 / 65536) / 256) % 256) < 256 then (some (wrap64 ((wrap64 ((wrap64 (x2 + 16)) + 8)) + (wrap64 (bt tb (((x0 / 65536) / 256) % 256)))))) else (none)) else (none)) else (if 0 ≤ ((x0 / 65536) % 256) then (if ((x0 / 65536) % 256) < 256 then (some (wrap64 ((wrap64 (x2 + 16)) + (wrap64 (bt tb ((x0 / 65536) % 256)))))) else (none)) else (none))) else (if x0 ≥ 256 then (if 0 ≤ ((x0 / 256) % 256) then (if ((x0 / 256) % 256) < 256 then (some (wrap64 ((wrap64 (x2 + 8)) + (wrap64 (bt tb ((x0 / 256) % 256)))))) else (none)) else (none)) else (if 0 ≤ ((x0) % 256) then (if ((x0) % 256) < 256 then (some (wrap64 (x2 + (wrap64 (bt tb ((x0) % 256)))))) else (none)) else (none))) := rfl
theorem len_ev (n : Int) (h1 : 1 ≤ n) (h2 : n ≤ 1000000) : ∃ t : Nat, 1 ≤ t ∧ t ≤ 20 ∧ Evt (fun k => bits_Len64.f k n) (t : Int) ∧ 2 ^ (t - 1) ≤ n ∧ n < 2 ^ t := by
  have e0 : ∀ r, Evt (fun k => bits_Len64.j0 k n 0) r → Evt (fun k => bits_Len64.f k n) r := fun r h => h.congr fun k => by
    unfold bits_Len64.f
    rw [if_neg (by omega)]
  by_cases c : n ≥ 65536
  · have hi : 1 ≤ n / 65536 ∧ n / 65536 < 256 := by omega
    have ht := tab_at (n / 65536) hi.1 hi.2
    have ev : Evt (fun k => bits_Len64.j0 k n 0) (wrap64 ((wrap64 (0 + 16)) + (wrap64 (bt tb (n / 65536))))) := Evt.done fun k => by
      rw [j0_eq, if_pos c, if_neg (by omega), if_pos (by omega), if_pos (by omega), show n / 65536 % 256 = n / 65536 by omega]
    rcases ht with ⟨e, a⟩ | ⟨e, a, b⟩ | ⟨e, a, b⟩ | ⟨e, a, b⟩ | ⟨e, a, b⟩ | ⟨e, a, b⟩ | ⟨e, a, b⟩ | ⟨e, a, b⟩
    · rw [e, show wrap64 ((wrap64 (0 + 16)) + (wrap64 1)) = ((17 : Nat) : Int) by decide +kernel] at ev; exact ⟨17, by decide, by decide, e0 _ ev, show (65536 : Int) ≤ n by omega, show n < (131072 : Int) by omega⟩
    · rw [e, show wrap64 ((wrap64 (0 + 16)) + (wrap64 2)) = ((18 : Nat) : Int) by decide +kernel] at ev; exact ⟨18, by decide, by decide, e0 _ ev, show (131072 : Int) ≤ n by omega, show n < (262144 : Int) by omega⟩
    · rw [e, show wrap64 ((wrap64 (0 + 16)) + (wrap64 3)) = ((19 : Nat) : Int) by decide +kernel] at ev; exact ⟨19, by decide, by decide, e0 _ ev, show (262144 : Int) ≤ n by omega, show n < (524288 : Int) by omega⟩
    · rw [e, show wrap64 ((wrap64 (0 + 16)) + (wrap64 4)) = ((20 : Nat) : Int) by decide +kernel] at ev; exact ⟨20, by decide, by decide, e0 _ ev, show (524288 : Int) ≤ n by omega, show n < (1048576 : Int) by omega⟩
    all_goals (exfalso; omega)
  · by_cases d : n ≥ 256
    · have hi : 1 ≤ n / 256 ∧ n / 256 < 256 := by omega
      have ht := tab_at (n / 256) hi.1 hi.2
      have ev : Evt (fun k => bits_Len64.j0 k n 0) (wrap64 ((wrap64 (0 + 8)) + (wrap64 (bt tb (n / 256))))) := Evt.done fun k => by
        rw [j0_eq, if_neg c, if_pos d, if_pos (by omega), if_pos (by omega), show n / 256 % 256 = n / 256 by omega]
      rcases ht with ⟨e, a⟩ | ⟨e, a, b⟩ | ⟨e, a, b⟩ | ⟨e, a, b⟩ | ⟨e, a, b⟩ | ⟨e, a, b⟩ | ⟨e, a, b⟩ | ⟨e, a, b⟩
      · rw [e, show wrap64 ((wrap64 (0 + 8)) + (wrap64 1)) = ((9 : Nat) : Int) by decide +kernel] at ev; exact ⟨9, by decide, by decide, e0 _ ev, show (256 : Int) ≤ n by omega, show n < (512 : Int) by omega⟩
      · rw [e, show wrap64 ((wrap64 (0 + 8)) + (wrap64 2)) = ((10 : Nat) : Int) by decide +kernel] at ev; exact ⟨10, by decide, by decide, e0 _ ev, show (512 : Int) ≤ n by omega, show n < (1024 : Int) by omega⟩
      · rw [e, show wrap64 ((wrap64 (0 + 8)) + (wrap64 3)) = ((11 : Nat) : Int) by decide +kernel] at ev; exact ⟨11, by decide, by decide, e0 _ ev, show (1024 : Int) ≤ n by omega, show n < (2048 : Int) by omega⟩
      · rw [e, show wrap64 ((wrap64 (0 + 8)) + (wrap64 4)) = ((12 : Nat) : Int) by decide +kernel] at ev; exact ⟨12, by decide, by decide, e0 _ ev, show (2048 : Int) ≤ n by omega, show n < (4096 : Int) by omega⟩
      · rw [e, show wrap64 ((wrap64 (0 + 8)) + (wrap64 5)) = ((13 : Nat) : Int) by decide +kernel] at ev; exact ⟨13, by decide, by decide, e0 _ ev, show (4096 : Int) ≤ n by omega, show n < (8192 : Int) by omega⟩
      · rw [e, show wrap64 ((wrap64 (0 + 8)) + (wrap64 6)) = ((14 : Nat) : Int) by decide +kernel] at ev; exact ⟨14, by decide, by decide, e0 _ ev, show (8192 : Int) ≤ n by omega, show n < (16384 : Int) by omega⟩
      · rw [e, show wrap64 ((wrap64 (0 + 8)) + (wrap64 7)) = ((15 : Nat) : Int) by decide +kernel] at ev; exact ⟨15, by decide, by decide, e0 _ ev, show (16384 : Int) ≤ n by omega, show n < (32768 : Int) by omega⟩
      · rw [e, show wrap64 ((wrap64 (0 + 8)) + (wrap64 8)) = ((16 : Nat) : Int) by decide +kernel] at ev; exact ⟨16, by decide, by decide, e0 _ ev, show (32768 : Int) ≤ n by omega, show n < (65536 : Int) by omega⟩
    · have ht := tab_at n h1 (by omega)
      have ev : Evt (fun k => bits_Len64.j0 k n 0) (wrap64 (0 + (wrap64 (bt tb n)))) := Evt.done fun k => by
        rw [j0_eq, if_neg c, if_neg d, if_pos (by omega), if_pos (by omega), show n % 256 = n by omega]
      rcases ht with ⟨e, a⟩ | ⟨e, a, b⟩ | ⟨e, a, b⟩ | ⟨e, a, b⟩ | ⟨e, a, b⟩ | ⟨e, a, b⟩ | ⟨e, a, b⟩ | ⟨e, a, b⟩
      · rw [e, show wrap64 (0 + (wrap64 1)) = ((1 : Nat) : Int) by decide +kernel] at ev; exact ⟨1, by decide, by decide, e0 _ ev, show (1 : Int) ≤ n by omega, show n < (2 : Int) by omega⟩
      · rw [e, show wrap64 (0 + (wrap64 2)) = ((2 : Nat) : Int) by decide +kernel] at ev; exact ⟨2, by decide, by decide, e0 _ ev, show (2 : Int) ≤ n by omega, show n < (4 : Int) by omega⟩
      · rw [e, show wrap64 (0 + (wrap64 3)) = ((3 : Nat) : Int) by decide +kernel] at ev; exact ⟨3, by decide, by decide, e0 _ ev, show (4 : Int) ≤ n by omega, show n < (8 : Int) by omega⟩
      · rw [e, show wrap64 (0 + (wrap64 4)) = ((4 : Nat) : Int) by decide +kernel] at ev; exact ⟨4, by decide, by decide, e0 _ ev, show (8 : Int) ≤ n by omega, show n < (16 : Int) by omega⟩
      · rw [e, show wrap64 (0 + (wrap64 5)) = ((5 : Nat) : Int) by decide +kernel] at ev; exact ⟨5, by decide, by decide, e0 _ ev, show (16 : Int) ≤ n by omega, show n < (32 : Int) by omega⟩
      · rw [e, show wrap64 (0 + (wrap64 6)) = ((6 : Nat) : Int) by decide +kernel] at ev; exact ⟨6, by decide, by decide, e0 _ ev, show (32 : Int) ≤ n by omega, show n < (64 : Int) by omega⟩
      · rw [e, show wrap64 (0 + (wrap64 7)) = ((7 : Nat) : Int) by decide +kernel] at ev; exact ⟨7, by decide, by decide, e0 _ ev, show (64 : Int) ≤ n by omega, show n < (128 : Int) by omega⟩
      · rw [e, show wrap64 (0 + (wrap64 8)) = ((8 : Nat) : Int) by decide +kernel] at ev; exact ⟨8, by decide, by decide, e0 _ ev, show (128 : Int) ≤ n by omega, show n < (256 : Int) by omega⟩
theorem uw_id (x : Int) (h0 : 0 ≤ x) (h1 : x < 18446744073709551616) : IntKind.u64.wrap x = x := by rw [wu64]; omega
theorem and_low (x : Int) (h0 : 0 ≤ x) (h1 : x < 18446744073709551616) : Go.bits .and .u64 x 4294967295 = x % 4294967296 := by
  obtain ⟨a, rfl⟩ : ∃ a : Nat, x = (a : Int) := ⟨x.toNat, by omega⟩
  have ha : a < 18446744073709551616 := by omega
  unfold Go.bits
  have e1 : (BitVec.ofInt 64 (a : Int)).toNat = a := by simp; omega
  have e2 : (BitVec.ofInt 64 (4294967295 : Int)).toNat = 4294967295 := by decide +kernel
  have e3 : ((BitVec.ofInt 64 (a : Int)) &&& (BitVec.ofInt 64 (4294967295 : Int))).toNat = a % 4294967296 := by
    rw [BitVec.toNat_and, e1, e2]
    exact Nat.and_two_pow_sub_one_eq_mod a 32
  refine (congrArg (fun z : Nat => IntKind.u64.wrap (z : Int)) e3).trans ?_
  show IntKind.u64.wrap ((a % 4294967296 : Nat) : Int) = _
  rw [wu64]
  omega
theorem or_sum (a b : Int) (s : Nat) (ha : 0 ≤ a) (hb : 0 ≤ b) (hb2 : b < 2 ^ s) (hs : a * 2 ^ s + b < 18446744073709551616) : Go.bits .or .u64 (a * 2 ^ s) b = a * 2 ^ s + b := by
  obtain ⟨x, rfl⟩ : ∃ x : Nat, a = (x : Int) := ⟨a.toNat, by omega⟩
  obtain ⟨y, rfl⟩ : ∃ y : Nat, b = (y : Int) := ⟨b.toNat, by omega⟩
  have ep : ((x : Int) * 2 ^ s) = ((x * 2 ^ s : Nat) : Int) := by simp
  have ey : y < 2 ^ s := by
    have : ((y : Nat) : Int) < ((2 ^ s : Nat) : Int) := by simpa using hb2
    exact Int.ofNat_lt.mp this
  rw [ep] at hs ⊢
  generalize hz : x * 2 ^ s = z at *
  have hor : z ||| y = z + y := by
    have := Nat.two_pow_add_eq_or_of_lt ey x
    rw [Nat.mul_comm, hz] at this
    exact this.symm
  unfold Go.bits
  have e1 : (BitVec.ofInt 64 (z : Int)).toNat = z := by simp; omega
  have e2 : (BitVec.ofInt 64 (y : Int)).toNat = y := by simp; omega
  have e3 : ((BitVec.ofInt 64 (z : Int)) ||| (BitVec.ofInt 64 (y : Int))).toNat = z + y := by
    rw [BitVec.toNat_or, e1, e2, hor]
  refine (congrArg (fun z : Nat => IntKind.u64.wrap (z : Int)) e3).trans ?_
  show IntKind.u64.wrap ((z + y : Nat) : Int) = _
  rw [wu64]
  omega
/-- The long division's two rounds where the divisor's lower half is 0: no correction is due. -/
theorem core_ev (U1 N1 un1 un0 s : Int) (hs : 0 ≤ s) (hN : 2147483648 ≤ N1 ∧ N1 < 4294967296) (hU : 0 ≤ U1 ∧ U1 < 4294967296 * N1) (h1 : 0 ≤ un1 ∧ un1 < 4294967296) (h0 : 0 ≤ un0 ∧ un0 < 4294967296) :
    Evt (fun k => bits_Div64.l0 k (4294967296 * N1) s N1 0 U1 un1 un0 (IntKind.u64.wrap (Int.tdiv U1 N1)) (IntKind.u64.wrap (U1 - (IntKind.u64.wrap ((IntKind.u64.wrap (Int.tdiv U1 N1)) * N1)))))
      (U1 / N1 * 4294967296 + (U1 % N1 * 4294967296 + un1) / N1, shr .u64 ((U1 % N1 * 4294967296 + un1) % N1 * 4294967296 + un0) s) := by
  have a1 := Int.emod_nonneg U1 (show N1 ≠ 0 by omega)
  have a2 := Int.emod_lt_of_pos U1 (show 0 < N1 by omega)
  have a3 := Int.mul_ediv_add_emod U1 N1
  have a4 : 0 ≤ U1 / N1 := Int.ediv_nonneg hU.1 (by omega)
  have a5 : U1 / N1 < 4294967296 := Int.ediv_lt_of_lt_mul (by omega) hU.2
  generalize hq1 : U1 / N1 = q1 at *
  generalize hr1 : U1 % N1 = r1 at *
  have hU2 : 0 ≤ r1 * 4294967296 + un1 ∧ r1 * 4294967296 + un1 < 4294967296 * N1 := by omega
  have b1 := Int.emod_nonneg (r1 * 4294967296 + un1) (show N1 ≠ 0 by omega)
  have b2 := Int.emod_lt_of_pos (r1 * 4294967296 + un1) (show 0 < N1 by omega)
  have b3 := Int.mul_ediv_add_emod (r1 * 4294967296 + un1) N1
  have b4 : 0 ≤ (r1 * 4294967296 + un1) / N1 := Int.ediv_nonneg hU2.1 (by omega)
  have b5 : (r1 * 4294967296 + un1) / N1 < 4294967296 := Int.ediv_lt_of_lt_mul (by omega) hU2.2
  have td1 : Int.tdiv U1 N1 = q1 := by rw [Int.tdiv_eq_ediv_of_nonneg hU.1, hq1]
  have td2 : Int.tdiv (r1 * 4294967296 + un1) N1 = (r1 * 4294967296 + un1) / N1 := Int.tdiv_eq_ediv_of_nonneg hU2.1
  generalize hq0 : (r1 * 4294967296 + un1) / N1 = q0 at *
  generalize hr2 : (r1 * 4294967296 + un1) % N1 = r2 at *
  have mm1 : 0 ≤ N1 * q1 := Int.mul_nonneg (by omega) a4
  have mm0 : 0 ≤ N1 * q0 := Int.mul_nonneg (by omega) b4
  have m1 : q1 * N1 = U1 - r1 := by rw [Int.mul_comm]; omega
  have m0 : q0 * N1 = r1 * 4294967296 + un1 - r2 := by rw [Int.mul_comm]; omega
  have m2 : q1 * (4294967296 * N1) = 4294967296 * (U1 - r1) := by rw [Int.mul_left_comm, m1]
  have m3 : q0 * (4294967296 * N1) = 4294967296 * (r1 * 4294967296 + un1 - r2) := by rw [Int.mul_left_comm, m0]
  have w1 : IntKind.u64.wrap q1 = q1 := uw_id _ (by omega) (by omega)
  have w2 : IntKind.u64.wrap (q1 * N1) = U1 - r1 := by rw [m1]; exact uw_id _ (by omega) (by omega)
  have w3 : IntKind.u64.wrap (U1 - (U1 - r1)) = r1 := by rw [show U1 - (U1 - r1) = r1 by omega]; exact uw_id _ (by omega) (by omega)
  rw [td1, w1, w2, w3]
  have u2 : IntKind.u64.wrap ((IntKind.u64.wrap ((IntKind.u64.wrap (U1 * 4294967296)) + un1)) - (IntKind.u64.wrap (q1 * (4294967296 * N1)))) = r1 * 4294967296 + un1 := by
    rw [m2]; simp only [wu64]; omega
  have w4 : IntKind.u64.wrap q0 = q0 := uw_id _ (by omega) (by omega)
  have w5 : IntKind.u64.wrap (q0 * N1) = r1 * 4294967296 + un1 - r2 := by rw [m0]; exact uw_id _ (by omega) (by omega)
  have w6 : IntKind.u64.wrap (r1 * 4294967296 + un1 - (r1 * 4294967296 + un1 - r2)) = r2 := by rw [show r1 * 4294967296 + un1 - (r1 * 4294967296 + un1 - r2) = r2 by omega]; exact uw_id _ (by omega) (by omega)
  have w7 : IntKind.u64.wrap ((IntKind.u64.wrap (q1 * 4294967296)) + q0) = q1 * 4294967296 + q0 := by simp only [wu64]; omega
  have w8 : IntKind.u64.wrap ((IntKind.u64.wrap ((IntKind.u64.wrap ((r1 * 4294967296 + un1) * 4294967296)) + un0)) - (IntKind.u64.wrap (q0 * (4294967296 * N1)))) = r2 * 4294967296 + un0 := by
    rw [m3]; simp only [wu64]; omega
  have w9 : ∀ z, decide (IntKind.u64.wrap (z * 0) > IntKind.u64.wrap ((IntKind.u64.wrap (4294967296 * r1)) + un1)) = false := fun z => by
    refine decide_eq_false ?_
    rw [Int.mul_zero]
    simp only [wu64]
    omega
  have w10 : ∀ z, decide (IntKind.u64.wrap (z * 0) > IntKind.u64.wrap ((IntKind.u64.wrap (4294967296 * r2)) + un0)) = false := fun z => by
    refine decide_eq_false ?_
    rw [Int.mul_zero]
    simp only [wu64]
    omega
  have e1 : ∀ k, bits_Div64.l0 (k + 1) (4294967296 * N1) s N1 0 U1 un1 un0 q1 r1 = bits_Div64.j1 k (4294967296 * N1) s N1 0 U1 un1 un0 q1 r1 false := fun k => by
    simp only [bits_Div64.l0]
    rw [if_neg (by omega), w9]
  have e2 : ∀ k, bits_Div64.j1 (k + 1) (4294967296 * N1) s N1 0 U1 un1 un0 q1 r1 false = bits_Div64.j2 k (4294967296 * N1) s N1 0 U1 un1 un0 q1 := fun k => by
    simp only [bits_Div64.j1, Bool.false_eq_true, if_false]
  have e3 : ∀ k, bits_Div64.j2 (k + 1) (4294967296 * N1) s N1 0 U1 un1 un0 q1 = bits_Div64.l1 k (4294967296 * N1) s N1 0 un0 q1 r2 (r1 * 4294967296 + un1) q0 := fun k => by
    simp only [bits_Div64.j2]
    rw [if_neg (by omega), u2, td2, w4, w5, w6]
  have e4 : ∀ k, bits_Div64.l1 (k + 1) (4294967296 * N1) s N1 0 un0 q1 r2 (r1 * 4294967296 + un1) q0 = bits_Div64.j4 k (4294967296 * N1) s N1 0 un0 q1 r2 (r1 * 4294967296 + un1) q0 false := fun k => by
    simp only [bits_Div64.l1]
    rw [if_neg (by omega), w10]
  have e5 : ∀ k, bits_Div64.j4 (k + 1) (4294967296 * N1) s N1 0 un0 q1 r2 (r1 * 4294967296 + un1) q0 false = some (q1 * 4294967296 + q0, shr .u64 (r2 * 4294967296 + un0) s) := fun k => by
    simp only [bits_Div64.j4, Bool.false_eq_true, if_false]
    rw [if_pos hs, w7, w8]
  exact Evt.step (g := fun k => bits_Div64.j1 k (4294967296 * N1) s N1 0 U1 un1 un0 q1 r1 false) (Evt.step (g := fun k => bits_Div64.j2 k (4294967296 * N1) s N1 0 U1 un1 un0 q1) (Evt.step (g := fun k => bits_Div64.l1 k (4294967296 * N1) s N1 0 un0 q1 r2 (r1 * 4294967296 + un1) q0) (Evt.step (g := fun k => bits_Div64.j4 k (4294967296 * N1) s N1 0 un0 q1 r2 (r1 * 4294967296 + un1) q0 false) (Evt.done e5) e4) e3) e2) e1
theorem div64_ev (x lo n : Int) (hx : 0 ≤ x ∧ x < n) (hlo : 0 ≤ lo ∧ lo < 18446744073709551616) (hn1 : 1 ≤ n) (hn2 : n ≤ 1000000) :
    Evt (fun k => bits_Div64.f k x lo n) ((x * 18446744073709551616 + lo) / n, (x * 18446744073709551616 + lo) % n) := by
  by_cases c0 : x = 0
  · subst c0
    refine (Evt.const _).congr fun k => ?_
    unfold bits_Div64.f
    rw [if_neg (by omega), if_neg (by omega), if_pos rfl, Int.tdiv_eq_ediv_of_nonneg hlo.1, Int.tmod_eq_emod_of_nonneg hlo.1, Int.zero_mul, Int.zero_add, uw_id _ (Int.ediv_nonneg hlo.1 (by omega)) (Int.lt_of_le_of_lt (Int.ediv_le_self _ hlo.1) hlo.2)]
  obtain ⟨t, ht1, ht2, hlen, hp1, hp2⟩ := len_ev n hn1 hn2
  -- the powers
  have hPR : (2 : Int) ^ (64 - t) * 2 ^ t = 18446744073709551616 := by rw [← Int.pow_add, show 64 - t + t = 64 by omega]; rfl
  have hP44 : (2 : Int) ^ (64 - t) = 4294967296 * 2 ^ (32 - t) := by
    rw [show (4294967296 : Int) = 2 ^ 32 from rfl, ← Int.pow_add, show 32 + (32 - t) = 64 - t by omega]
  have hPQ : (2 : Int) ^ (32 - t) * 2 ^ t = 4294967296 := by rw [← Int.pow_add, show 32 - t + t = 32 by omega]; rfl
  have hhalf : (2 : Int) ^ t = 2 * 2 ^ (t - 1) := by
    rw [show t = t - 1 + 1 by omega, Int.pow_succ, show t - 1 + 1 - 1 = t - 1 by omega, Int.mul_comm]
  have hPpos : (0 : Int) < 2 ^ (64 - t) := Int.pow_pos (by decide)
  have hQpos : (0 : Int) < 2 ^ (32 - t) := Int.pow_pos (by decide)
  have hRpos : (0 : Int) < 2 ^ t := Int.pow_pos (by decide)
  have hs64 : ∀ z : Nat, z = 64 - t → min z 64 = 64 - t := fun z hz => by omega
  -- what the steps yield
  have eLZ : Evt (fun k => bits_LeadingZeros64.f k n) ((64 - t : Nat) : Int) := by
    refine Evt.bind (f := fun k => bits_Len64.f k n) (g := fun t k => some (wrap64 (64 - t))) hlen ?_
    refine (Evt.const _).congr fun k => ?_
    rw [w64 (by omega) (by omega)]
    congr 1
    omega
  have us : IntKind.u64.wrap ((64 - t : Nat) : Int) = ((64 - t : Nat) : Int) := uw_id _ (by omega) (by omega)
  have us2 : IntKind.u64.wrap (64 - ((64 - t : Nat) : Int)) = (t : Int) := by rw [wu64]; omega
  have hshl : ∀ z : Int, shl .u64 z ((64 - t : Nat) : Int) = IntKind.u64.wrap (z * 2 ^ (64 - t)) := fun z => by
    unfold shl
    rw [Int.toNat_natCast]
    simp only [IntKind.bits]
    rw [hs64 _ rfl]
  have hshr : ∀ z : Int, shr .u64 z (t : Int) = z / 2 ^ t := fun z => by
    unfold shr
    rw [Int.toNat_natCast]
    simp only [IntKind.bits]
    rw [Nat.min_eq_left (by omega)]
  have hshrs : ∀ z : Int, shr .u64 z ((64 - t : Nat) : Int) = z / 2 ^ (64 - t) := fun z => by
    unfold shr
    rw [Int.toNat_natCast]
    simp only [IntKind.bits]
    rw [hs64 _ rfl]
  -- Y = n * P = H * N1
  have hnP : n * 2 ^ (64 - t) < 18446744073709551616 := by
    have := Int.mul_lt_mul_of_pos_right hp2 hPpos
    rw [Int.mul_comm (2 ^ t)] at this
    omega
  have hN1lo : 2147483648 ≤ n * 2 ^ (32 - t) := by
    have := Int.mul_le_mul_of_nonneg_right hp1 (Int.le_of_lt hQpos)
    have e : (2 : Int) ^ (t - 1) * 2 ^ (32 - t) * 2 = 4294967296 := by
      rw [Int.mul_right_comm, Int.mul_comm _ 2, ← hhalf, Int.mul_comm, hPQ]
    omega
  have hY : n * 2 ^ (64 - t) = 4294967296 * (n * 2 ^ (32 - t)) := by rw [hP44, Int.mul_left_comm]
  have hN1hi : n * 2 ^ (32 - t) < 4294967296 := by omega
  -- the number shifted
  have hxP : x * 2 ^ (64 - t) + 2 ^ (64 - t) ≤ n * 2 ^ (64 - t) := by
    have := Int.mul_le_mul_of_nonneg_right (show x + 1 ≤ n by omega) (Int.le_of_lt hPpos)
    rw [Int.add_mul, Int.one_mul] at this
    exact this
  have hxP0 : 0 ≤ x * 2 ^ (64 - t) := Int.mul_nonneg hx.1 (Int.le_of_lt hPpos)
  have hloR0 : 0 ≤ lo / 2 ^ t := Int.ediv_nonneg hlo.1 (Int.le_of_lt hRpos)
  have hloR : lo / 2 ^ t < 2 ^ (64 - t) := Int.ediv_lt_of_lt_mul hRpos (by rw [hPR]; exact hlo.2)
  have hor := or_sum x (lo / 2 ^ t) (64 - t) hx.1 hloR0 hloR (by omega)
  have hlm := Int.mul_ediv_add_emod lo (2 ^ t)
  have hlm0 := Int.emod_nonneg lo (show (2 : Int) ^ t ≠ 0 by omega)
  have hlm1 := Int.emod_lt_of_pos lo hRpos
  have hL1 : lo % 2 ^ t * 2 ^ (64 - t) < 18446744073709551616 := by
    have := Int.mul_lt_mul_of_pos_right hlm1 hPpos
    rw [Int.mul_comm (2 ^ t), hPR] at this
    exact this
  have hL0 : 0 ≤ lo % 2 ^ t * 2 ^ (64 - t) := Int.mul_nonneg hlm0 (Int.le_of_lt hPpos)
  have hloP : lo * 2 ^ (64 - t) = lo / 2 ^ t * 18446744073709551616 + lo % 2 ^ t * 2 ^ (64 - t) := by
    conv => lhs; rw [← hlm]
    rw [Int.add_mul, Int.mul_comm (2 ^ t), Int.mul_assoc, Int.mul_comm (2 ^ t), hPR]
  have hLw : IntKind.u64.wrap (lo * 2 ^ (64 - t)) = lo % 2 ^ t * 2 ^ (64 - t) := by
    rw [hloP, wu64, Int.add_comm, Int.add_mul_emod_self_right]
    omega
  generalize hN1 : n * 2 ^ (32 - t) = N1 at *
  generalize hLL : lo % 2 ^ t * 2 ^ (64 - t) = L at *
  have hyw : IntKind.u64.wrap (n * 2 ^ (64 - t)) = 4294967296 * N1 := by rw [hY]; exact uw_id _ (by omega) (by omega)
  have hxw : IntKind.u64.wrap (x * 2 ^ (64 - t)) = x * 2 ^ (64 - t) := uw_id _ hxP0 (by omega)
  have hydiv : 4294967296 * N1 / 4294967296 = N1 := by omega
  have hyand : Go.bits .and .u64 (4294967296 * N1) 4294967295 = 0 := by rw [and_low _ (by omega) (by omega)]; omega
  have hLand : Go.bits .and .u64 L 4294967295 = L % 4294967296 := and_low _ hL0 hL1
  have hcore := core_ev (x * 2 ^ (64 - t) + lo / 2 ^ t) N1 (L / 4294967296) (L % 4294967296) ((64 - t : Nat) : Int) (by omega) ⟨hN1lo, hN1hi⟩ (by omega) (by omega) (by omega)
  -- the answer
  have hU : x * 2 ^ (64 - t) + lo / 2 ^ t = N1 * ((x * 2 ^ (64 - t) + lo / 2 ^ t) / N1) + (x * 2 ^ (64 - t) + lo / 2 ^ t) % N1 := (Int.mul_ediv_add_emod _ _).symm
  have hT : (x * 18446744073709551616 + lo) * 2 ^ (64 - t) = (x * 2 ^ (64 - t) + lo / 2 ^ t) * 18446744073709551616 + L := by
    rw [Int.add_mul, hloP, Int.mul_right_comm, Int.add_mul]
    omega
  generalize hU1 : x * 2 ^ (64 - t) + lo / 2 ^ t = U1 at *
  have r1a := Int.emod_nonneg U1 (show N1 ≠ 0 by omega)
  have r1b := Int.emod_lt_of_pos U1 (show 0 < N1 by omega)
  generalize hq1 : U1 / N1 = q1 at *
  generalize hr1 : U1 % N1 = r1 at *
  have hU2 := Int.mul_ediv_add_emod (r1 * 4294967296 + L / 4294967296) N1
  have r2a := Int.emod_nonneg (r1 * 4294967296 + L / 4294967296) (show N1 ≠ 0 by omega)
  have r2b := Int.emod_lt_of_pos (r1 * 4294967296 + L / 4294967296) (show 0 < N1 by omega)
  generalize hq0 : (r1 * 4294967296 + L / 4294967296) / N1 = q0 at *
  generalize hr2 : (r1 * 4294967296 + L / 4294967296) % N1 = r2 at *
  have hE : (x * 18446744073709551616 + lo) * 2 ^ (64 - t) = (q1 * 4294967296 + q0) * (n * 2 ^ (64 - t)) + (r2 * 4294967296 + L % 4294967296) := by
    have p1 : q1 * 4294967296 * (4294967296 * N1) = 18446744073709551616 * (N1 * q1) := by
      rw [← Int.mul_assoc, show q1 * 4294967296 * 4294967296 = 18446744073709551616 * q1 by omega, Int.mul_assoc, Int.mul_comm q1]
    have p0 : q0 * (4294967296 * N1) = 4294967296 * (N1 * q0) := by rw [Int.mul_left_comm, Int.mul_comm q0]
    rw [hT, hY, Int.add_mul, p1, p0]
    generalize N1 * q1 = z1 at *
    generalize N1 * q0 = z0 at *
    omega
  have hE2 : r2 * 4294967296 + L % 4294967296 = (x * 18446744073709551616 + lo - n * (q1 * 4294967296 + q0)) * 2 ^ (64 - t) := by
    have p2 : n * (q1 * 4294967296 + q0) * 2 ^ (64 - t) = (q1 * 4294967296 + q0) * (n * 2 ^ (64 - t)) := by rw [Int.mul_comm n, Int.mul_assoc]
    rw [Int.sub_mul, hE, p2]
    omega
  have hfin : (x * 18446744073709551616 + lo) / n = q1 * 4294967296 + q0 ∧ (x * 18446744073709551616 + lo) % n = (r2 * 4294967296 + L % 4294967296) / 2 ^ (64 - t) := by
    have hq : (r2 * 4294967296 + L % 4294967296) / 2 ^ (64 - t) = x * 18446744073709551616 + lo - n * (q1 * 4294967296 + q0) := by
      rw [hE2]
      exact Int.mul_ediv_cancel _ (by omega)
    rw [hq]
    refine (Int.ediv_emod_unique (by omega)).mpr ⟨by omega, ?_, ?_⟩
    · rw [← hq]
      exact Int.ediv_nonneg (by omega) (Int.le_of_lt hPpos)
    · rw [← hq]
      refine Int.ediv_lt_of_lt_mul hPpos ?_
      omega
  rw [hfin.1, hfin.2, ← hshrs]
  refine Evt.congr (g := fun k => (bits_LeadingZeros64.f k n).bind fun t175 => (if 0 ≤ (IntKind.u64.wrap (t175)) then (if 0 ≤ (IntKind.u64.wrap (64 - (IntKind.u64.wrap (t175)))) then (if ((shl .u64 n (IntKind.u64.wrap (t175))) / 4294967296) = 0 then (none) else (bits_Div64.l0 k (shl .u64 n (IntKind.u64.wrap (t175))) (IntKind.u64.wrap (t175)) ((shl .u64 n (IntKind.u64.wrap (t175))) / 4294967296) (Go.bits .and .u64 (shl .u64 n (IntKind.u64.wrap (t175))) 4294967295) (Go.bits .or .u64 (shl .u64 x (IntKind.u64.wrap (t175))) (shr .u64 lo (IntKind.u64.wrap (64 - (IntKind.u64.wrap (t175)))))) ((shl .u64 lo (IntKind.u64.wrap (t175))) / 4294967296) (Go.bits .and .u64 (shl .u64 lo (IntKind.u64.wrap (t175))) 4294967295) (IntKind.u64.wrap (Int.tdiv (Go.bits .or .u64 (shl .u64 x (IntKind.u64.wrap (t175))) (shr .u64 lo (IntKind.u64.wrap (64 - (IntKind.u64.wrap (t175)))))) ((shl .u64 n (IntKind.u64.wrap (t175))) / 4294967296))) (IntKind.u64.wrap ((Go.bits .or .u64 (shl .u64 x (IntKind.u64.wrap (t175))) (shr .u64 lo (IntKind.u64.wrap (64 - (IntKind.u64.wrap (t175)))))) - (IntKind.u64.wrap ((IntKind.u64.wrap (Int.tdiv (Go.bits .or .u64 (shl .u64 x (IntKind.u64.wrap (t175))) (shr .u64 lo (IntKind.u64.wrap (64 - (IntKind.u64.wrap (t175)))))) ((shl .u64 n (IntKind.u64.wrap (t175))) / 4294967296))) * ((shl .u64 n (IntKind.u64.wrap (t175))) / 4294967296))))))) else (none)) else (none))) ?_ fun k => by
    unfold bits_Div64.f
    rw [if_neg (by omega), if_neg (by omega), if_neg c0]
  obtain ⟨K1, k1⟩ := eLZ
  obtain ⟨K2, k2⟩ := hcore
  refine ⟨K1 + K2, fun k hk => ?_⟩
  have k1' : bits_LeadingZeros64.f k n = some ((64 - t : Nat) : Int) := k1 k (by omega)
  have k2' := k2 k (by omega)
  simp only at k2'
  show (bits_LeadingZeros64.f k n).bind _ = _
  rw [k1', Option.bind_some, us, us2, if_pos (by omega), if_pos (by omega), hshl, hshl, hshl, hshr, hyw, hxw, hLw, hor, hydiv, if_neg (by omega), hyand, hLand]
  exact k2'

theorem not_i64 (x : Int) (h : -9223372036854775808 ≤ x ∧ x ≤ 9223372036854775807) : Go.bits .xor .i64 (-1) x = -1 - x := by
  show IntKind.i64.wrap ((BitVec.ofInt 64 (-1) ^^^ BitVec.ofInt 64 x).toNat : Int) = _
  have h1 : BitVec.ofInt 64 (-1) = BitVec.allOnes 64 := by decide
  rw [h1, BitVec.allOnes_xor, BitVec.toNat_not, BitVec.toNat_ofInt]
  have e : ((2 ^ 64 - 1 - (x % ((2 ^ 64 : Nat) : Int)).toNat : Nat) : Int) = 18446744073709551615 - x % 18446744073709551616 := by
    have p : ((2 ^ 64 : Nat) : Int) = 18446744073709551616 := by decide +kernel
    have q : (2 ^ 64 : Nat) = 18446744073709551616 := by decide +kernel
    rw [p, q]
    omega
  rw [e]
  simp [IntKind.wrap, IntKind.bits, IntKind.signed]
  omega
theorem not_u64 (x : Int) (h : 0 ≤ x ∧ x ≤ 18446744073709551615) : Go.bits .xor .u64 18446744073709551615 x = 18446744073709551615 - x := by
  show IntKind.u64.wrap ((BitVec.ofInt 64 18446744073709551615 ^^^ BitVec.ofInt 64 x).toNat : Int) = _
  have h1 : BitVec.ofInt 64 18446744073709551615 = BitVec.allOnes 64 := by decide
  rw [h1, BitVec.allOnes_xor, BitVec.toNat_not, BitVec.toNat_ofInt]
  have e : ((2 ^ 64 - 1 - (x % ((2 ^ 64 : Nat) : Int)).toNat : Nat) : Int) = 18446744073709551615 - x % 18446744073709551616 := by
    have p : ((2 ^ 64 : Nat) : Int) = 18446744073709551616 := by decide +kernel
    have q : (2 ^ 64 : Nat) = 18446744073709551616 := by decide +kernel
    rw [p, q]
    omega
  rw [e, wu64]
  omega

/-- The program's sum is the reference's. -/
theorem add_same (a b c d : Int) (hb : 0 ≤ b ∧ b ≤ 18446744073709551615) (hd : 0 ≤ d ∧ d ≤ 18446744073709551615) : impl_WideAdd.f a b c d = spec_WideAdd.f a b c d := by
  unfold impl_WideAdd.f spec_WideAdd.f
  rw [if_pos ⟨hb.1, hb.2, hd.1, hd.2⟩]
  simp only [wu64]
  by_cases c1 : (b + d) % 18446744073709551616 < b
  · rw [if_pos c1]
    have e : (b + d) / 18446744073709551616 = 1 := by omega
    rw [e]
    congr 2
    unfold wrap64
    omega
  · rw [if_neg c1]
    have e : (b + d) / 18446744073709551616 = 0 := by omega
    rw [e]
    congr 2
    unfold wrap64
    omega
theorem spec_add_some (a b c d : Int) : ∃ r, spec_WideAdd.f a b c d = some r := by
  unfold spec_WideAdd.f
  split <;> exact ⟨_, rfl⟩

theorem impl_neg_wide (A : Int) : impl_WideNeg.f (wh A) (wl A) = some (wh (-A), wl (-A)) := by
  have h1 : -9223372036854775808 ≤ wh A ∧ wh A ≤ 9223372036854775807 := by unfold wh wrap64; omega
  have h2 : 0 ≤ wl A ∧ wl A ≤ 18446744073709551615 := by unfold wl; omega
  rw [← spec_neg_wide A]
  unfold spec_WideNeg.f impl_WideNeg.f
  rw [not_i64 _ h1, not_u64 _ h2, add_same _ _ _ _ (by omega) (by omega)]
  have e1 : wrap64 ((-1) - wh A) = -1 - wh A := w64 (by omega) (by omega)
  have e2 : IntKind.u64.wrap (18446744073709551615 - wl A) = 18446744073709551615 - wl A := uw_id _ (by omega) (by omega)
  rw [e1, e2]
/-- The quotient rounded down, of a whole number of 128 bits. -/
def meanv (A n : Int) : Int := if 0 ≤ A then A / n else -((-A) / n) - (if (-A) % n > 0 then 1 else 0)
theorem int_wide (D : Int) (h : -170141183460469231731687303715884105728 ≤ D ∧ D < 170141183460469231731687303715884105728) : (spec_WideInt.f (wh D) (wl D)).bind (fun bt => some (bt.1, bt.2)) = some (if fits D = true then D else 0, fits D) := by
  rw [spec_int_wide D h]; rfl
theorem quot_range (V n : Int) (h0 : 0 ≤ V) (hn : 1 ≤ n) : 0 ≤ V / n ∧ V / n ≤ V := ⟨Int.ediv_nonneg h0 (by omega), Int.ediv_le_self _ h0⟩
set_option maxHeartbeats 4000000 in
theorem spec_mean (A n : Int) (hA : -170141183460469231731687303715884105728 ≤ A ∧ A < 170141183460469231731687303715884105728) (h1 : 1 ≤ n) (h2 : n ≤ 1000000) :
    Evt (fun k => spec_WideMean.f k (wh A) (wl A) n) (if fits (meanv A n) = true then meanv A n else 0, fits (meanv A n)) := by
  refine Evt.congr (g := fun k => spec_WideMean.j0 k n false (wh A) (wl A)) ?_ fun k => by
    unfold spec_WideMean.f
    rw [if_neg (by omega), decide_eq_false (by omega)]
  by_cases c : 0 ≤ A
  · have hw : wh A ≥ 0 := by unfold wh wrap64; omega
    obtain ⟨out, o1, o2, o3⟩ := divide_ev A n c (by omega) h1 h2
    have hq := quot_range A n c h1
    have hW := wide_ev (A / n) hq.1 (by omega) out o1 o2
    have hm : meanv A n = A / n := if_pos c
    rw [hm]
    refine Evt.step (g := fun k => (spec_l02Bits.f k (wh A) (wl A)).bind fun t131 => ((spec_l02Divide.f k t131 n).bind fun bt134 => ((spec_l02Wide.f k bt134.1).bind fun bt138 => ((spec_WideInt.f bt138.1 bt138.2).bind fun bt140 => (some (bt140.1, bt140.2)))))) ?_ fun k => by
      simp only [spec_WideMean.j0, Bool.false_eq_true, if_false]
      rw [if_pos hw]
    refine Evt.bind (g := fun t131 k => ((spec_l02Divide.f k t131 n).bind fun bt134 => ((spec_l02Wide.f k bt134.1).bind fun bt138 => ((spec_WideInt.f bt138.1 bt138.2).bind fun bt140 => (some (bt140.1, bt140.2)))))) (bits_ev A c (by omega)) ?_
    refine Evt.bind (g := fun bt134 k => ((spec_l02Wide.f k bt134.1).bind fun bt138 => ((spec_WideInt.f bt138.1 bt138.2).bind fun bt140 => (some (bt140.1, bt140.2))))) o3 ?_
    refine Evt.bind (g := fun bt138 k => ((spec_WideInt.f bt138.1 bt138.2).bind fun bt140 => (some (bt140.1, bt140.2)))) hW ?_
    exact (Evt.const _).congr fun k => int_wide (A / n) (by omega)
  · have hw : ¬ wh A ≥ 0 := by unfold wh wrap64; omega
    have c' : 0 ≤ -A := by omega
    obtain ⟨out, o1, o2, o3⟩ := divide_ev (-A) n c' (by omega) h1 h2
    have hq := quot_range (-A) n c' h1
    have hW := wide_ev (-A / n) hq.1 (by omega) out o1 o2
    have hm : meanv A n = -((-A) / n) - (if (-A) % n > 0 then 1 else 0) := if_neg c
    rw [hm]
    refine Evt.step (g := fun k => (spec_l02Bits.f k (wh (-A)) (wl (-A))).bind fun t144 => ((spec_l02Divide.f k t144 n).bind fun bt147 => ((spec_l02Wide.f k bt147.1).bind fun bt151 => ((spec_WideNeg.f bt151.1 bt151.2).bind fun bt153 => (if bt147.2 > 0 then ((spec_WideOf.f (-1)).bind fun bt156 => ((spec_WideAdd.f bt153.1 bt153.2 bt156.1 bt156.2).bind fun bt158 => ((spec_WideInt.f bt158.1 bt158.2).bind fun bt160 => (some (bt160.1, bt160.2))))) else ((spec_WideInt.f bt153.1 bt153.2).bind fun bt162 => (some (bt162.1, bt162.2)))))))) ?_ fun k => by
      simp only [spec_WideMean.j0, Bool.false_eq_true, if_false]
      rw [if_neg hw, spec_neg_wide]
      rfl
    obtain ⟨K1, t1⟩ := bits_ev (-A) c' (by omega)
    obtain ⟨K2, t2⟩ := o3
    obtain ⟨K3, t3⟩ := hW
    simp only at t1 t2 t3
    refine ⟨K1 + K2 + K3, fun k hk => ?_⟩
    simp only
    rw [t1 k (by omega)]
    simp only [Option.bind_some]
    rw [t2 k (by omega)]
    simp only [Option.bind_some]
    rw [t3 k (by omega)]
    simp only [Option.bind_some]
    rw [spec_neg_wide]
    simp only [Option.bind_some]
    by_cases d : (-A) % n > 0
    · rw [if_pos d, if_pos d, spec_of_wide (-1) (by omega)]
      simp only [Option.bind_some]
      rw [spec_add_wide]
      simp only [Option.bind_some]
      rw [show -(-A / n) + -1 = -(-A / n) - 1 by omega]
      -- the quotient is smaller than the number unless the divisor is one
      refine int_wide _ ⟨?_, by omega⟩
      have hn2 : 2 ≤ n := by
        rcases Int.lt_or_eq_of_le h1 with g | g
        · omega
        · subst g; rw [Int.emod_one] at d; omega
      have := Int.mul_ediv_add_emod (-A) n
      have h3 : 2 * (-A / n) ≤ n * (-A / n) := Int.mul_le_mul_of_nonneg_right hn2 hq.1
      omega
    · rw [if_neg d, if_neg d, Int.sub_zero]
      exact int_wide _ (by omega)
theorem size_eq (A : Int) (hA : -170141183460469231731687303715884105728 ≤ A ∧ A < 170141183460469231731687303715884105728) : impl_Wide_size.f (wh A) (wl A) = some ((if 0 ≤ A then A else -A) / 18446744073709551616, (if 0 ≤ A then A else -A) % 18446744073709551616) := by
  unfold impl_Wide_size.f
  by_cases c : 0 ≤ A
  · rw [if_neg (by unfold wh wrap64; omega), if_pos c, wu64]
    have : wh A % 18446744073709551616 = A / 18446744073709551616 := by unfold wh wrap64; omega
    rw [this]; rfl
  · rw [if_pos (by unfold wh wrap64; omega), if_neg c, impl_neg_wide]
    simp only [Option.bind_some]
    rw [wu64]
    have : wh (-A) % 18446744073709551616 = -A / 18446744073709551616 := by unfold wh wrap64; omega
    rw [this]; rfl
theorem impl_mean (A n : Int) (hA : -170141183460469231731687303715884105728 ≤ A ∧ A < 170141183460469231731687303715884105728) (h1 : 1 ≤ n) (h2 : n ≤ 1000000) :
    Evt (fun k => impl_WideMean.f k (wh A) (wl A) n) (if fits (meanv A n) = true then meanv A n else 0, fits (meanv A n)) := by
  obtain ⟨V, hV⟩ : ∃ V, (if 0 ≤ A then A else -A) = V := ⟨_, rfl⟩
  have hV0 : 0 ≤ V ∧ V ≤ 170141183460469231731687303715884105728 := by subst hV; split <;> omega
  have hH0 : 0 ≤ V / 18446744073709551616 := by omega
  have hH1 : V / 18446744073709551616 < 18446744073709551616 := by omega
  have hn : IntKind.u64.wrap n = n := uw_id n (by omega) (by omega)
  have hx0 := Int.emod_nonneg (V / 18446744073709551616) (show n ≠ 0 by omega)
  have hx1 := Int.emod_lt_of_pos (V / 18446744073709551616) (show 0 < n by omega)
  have hD := div64_ev (V / 18446744073709551616 % n) (V % 18446744073709551616) n ⟨hx0, hx1⟩ (by omega) h1 h2
  have hm := Int.mul_ediv_add_emod (V / 18446744073709551616) n
  have hhi0 : 0 ≤ V / 18446744073709551616 / n := Int.ediv_nonneg hH0 (by omega)
  have hhi1 : V / 18446744073709551616 / n ≤ V / 18446744073709551616 := Int.ediv_le_self _ hH0
  generalize hT : V / 18446744073709551616 % n * 18446744073709551616 + V % 18446744073709551616 = T at hD
  have hT0 : 0 ≤ T := by omega
  have hlow0 : 0 ≤ T / n := Int.ediv_nonneg hT0 (by omega)
  have hlow1 : T / n < 18446744073709551616 := Int.ediv_lt_of_lt_mul (by omega) (by omega)
  have hr0 := Int.emod_nonneg T (show n ≠ 0 by omega)
  have hr1 := Int.emod_lt_of_pos T (show 0 < n by omega)
  have hTm := Int.mul_ediv_add_emod T n
  have hQ : V / n = V / 18446744073709551616 / n * 18446744073709551616 + T / n ∧ V % n = T % n := by
    refine (Int.ediv_emod_unique (by omega)).mpr ⟨?_, hr0, hr1⟩
    rw [Int.mul_add, ← Int.mul_assoc]
    omega
  generalize hhi : V / 18446744073709551616 / n = hi at *
  generalize hlow : T / n = low at *
  generalize hrest : T % n = rest at *
  have hmean : meanv A n = if 0 ≤ A then hi * 18446744073709551616 + low else -(hi * 18446744073709551616 + low) - (if rest > 0 then 1 else 0) := by
    unfold meanv
    by_cases c : 0 ≤ A
    · rw [if_pos c] at hV; subst hV
      rw [if_pos c, if_pos c, hQ.1]
    · rw [if_neg c] at hV; subst hV
      rw [if_neg c, if_neg c, hQ.1, hQ.2]
  have hsgn : wh A ≥ 0 ↔ 0 ≤ A := by unfold wh wrap64; omega
  refine Evt.congr (g := fun k => (bits_Div64.f k (V / 18446744073709551616 % n) (V % 18446744073709551616) n).bind fun bt180 => (if hi = 0 then (if wh A ≥ 0 then (impl_WideMean.j0 k bt180.2 bt180.1 (decide (bt180.1 > 9223372036854775807)) (wh A) (wl A)) else (impl_WideMean.j0 k bt180.2 bt180.1 false (wh A) (wl A))) else (some (0, false)))) ?_ fun k => by
    unfold impl_WideMean.f impl_in.f
    rw [if_pos h1, decide_eq_true h2, size_eq A hA, hV]
    simp only [Option.bind_some, if_true]
    rw [hn, if_neg (by omega), Int.tmod_eq_emod_of_nonneg hH0, Int.tdiv_eq_ediv_of_nonneg hH0, hhi, uw_id hi hhi0 (by omega)]
  refine Evt.bind (g := fun bt180 k => (if hi = 0 then (if wh A ≥ 0 then (impl_WideMean.j0 k bt180.2 bt180.1 (decide (bt180.1 > 9223372036854775807)) (wh A) (wl A)) else (impl_WideMean.j0 k bt180.2 bt180.1 false (wh A) (wl A))) else (some (0, false)))) hD ?_
  simp only
  by_cases c0 : hi = 0
  · subst c0
    rw [Int.zero_mul, Int.zero_add] at hmean
    refine Evt.congr ?_ fun k => if_pos rfl
    by_cases c : 0 ≤ A
    · rw [if_pos c] at hmean
      refine Evt.congr ?_ fun k => if_pos (hsgn.mpr c)
      refine Evt.done fun k => ?_
      simp only [impl_WideMean.j0]
      rw [hmean]
      by_cases d : low > 9223372036854775807
      · have hf : fits low = false := by unfold fits; rw [decide_eq_false (show ¬ low ≤ 9223372036854775807 by omega), Bool.and_false]
        rw [decide_eq_true d, hf]; rfl
      · have hf : fits low = true := by unfold fits; rw [decide_eq_true (show low ≤ 9223372036854775807 by omega), decide_eq_true (show -9223372036854775808 ≤ low by omega)]; rfl
        rw [decide_eq_false d, hf, if_neg (by decide), if_pos (hsgn.mpr c), w64 (by omega) (by omega)]; rfl
    · rw [if_neg c] at hmean
      refine Evt.congr ?_ fun k => if_neg (fun g => c (hsgn.mp g))
      refine Evt.done fun k => ?_
      simp only [impl_WideMean.j0, Bool.false_eq_true, if_false]
      rw [hmean, if_neg (fun g => c (hsgn.mp g))]
      have yes : ∀ D : Int, -9223372036854775808 ≤ D → D ≤ 0 → fits D = true := fun D a b => by unfold fits; rw [decide_eq_true a, decide_eq_true (show D ≤ 9223372036854775807 by omega)]; rfl
      have no : ∀ D : Int, D < -9223372036854775808 → fits D = false := fun D a => by unfold fits; rw [decide_eq_false (show ¬ -9223372036854775808 ≤ D by omega), Bool.false_and]
      by_cases d : rest > 0
      · rw [if_pos d, if_pos d, wu64]
        by_cases e : (low + 1) % 18446744073709551616 = 0
        · rw [if_pos e, no _ (by omega)]; rfl
        · rw [if_neg e]
          by_cases f : (low + 1) % 18446744073709551616 > 9223372036854775808
          · rw [if_pos f, no _ (by omega)]; rfl
          · rw [if_neg f, yes _ (by omega) (by omega), if_pos rfl]
            congr 2
            rw [wu64]
            unfold wrap64
            omega
      · rw [if_neg d, if_neg d, Int.sub_zero]
        by_cases f : low > 9223372036854775808
        · rw [if_pos f, no _ (by omega)]; rfl
        · rw [if_neg f, yes _ (by omega) (by omega), if_pos rfl]
          congr 2
          rw [wu64]
          unfold wrap64
          omega
  · have hf : fits (meanv A n) = false := by
      rw [hmean]
      unfold fits
      by_cases c : 0 ≤ A
      · rw [if_pos c, decide_eq_false (show ¬ hi * 18446744073709551616 + low ≤ 9223372036854775807 by omega), Bool.and_false]
      · rw [if_neg c]
        have : ¬ -9223372036854775808 ≤ -(hi * 18446744073709551616 + low) - (if rest > 0 then 1 else 0) := by split <;> omega
        rw [decide_eq_false this, Bool.false_and]
    rw [hf]
    exact (Evt.const _).congr fun k => if_neg c0

theorem mul64_eq (x y : Int) (hx : 0 ≤ x ∧ x < 18446744073709551616) (hy : 0 ≤ y ∧ y < 18446744073709551616) : bits_Mul64.f x y = some (x * y / 18446744073709551616, x * y % 18446744073709551616) := by
  unfold bits_Mul64.f
  rw [and_low y hy.1 hy.2, and_low x hx.1 hx.2]
  have bd : ∀ a b : Int, 0 ≤ a → a ≤ 4294967295 → 0 ≤ b → b ≤ 4294967295 → 0 ≤ a * b ∧ a * b ≤ 18446744065119617025 := by
    intro a b a0 a1 b0 b1
    refine ⟨Int.mul_nonneg a0 b0, ?_⟩
    have := Int.mul_le_mul a1 b1 b0 (by decide)
    omega
  have ex : x = x / 4294967296 * 4294967296 + x % 4294967296 := by omega
  have ey : y = y / 4294967296 * 4294967296 + y % 4294967296 := by omega
  have hx1 : 0 ≤ x / 4294967296 ∧ x / 4294967296 ≤ 4294967295 := by omega
  have hx0 : 0 ≤ x % 4294967296 ∧ x % 4294967296 ≤ 4294967295 := by omega
  have hy1 : 0 ≤ y / 4294967296 ∧ y / 4294967296 ≤ 4294967295 := by omega
  have hy0 : 0 ≤ y % 4294967296 ∧ y % 4294967296 ≤ 4294967295 := by omega
  generalize x / 4294967296 = x1 at *
  generalize x % 4294967296 = x0 at *
  generalize y / 4294967296 = y1 at *
  generalize y % 4294967296 = y0 at *
  have p11 := bd x1 y1 hx1.1 hx1.2 hy1.1 hy1.2
  have p10 := bd x1 y0 hx1.1 hx1.2 hy0.1 hy0.2
  have p01 := bd x0 y1 hx0.1 hx0.2 hy1.1 hy1.2
  have p00 := bd x0 y0 hx0.1 hx0.2 hy0.1 hy0.2
  have e : x * y = x1 * y1 * 18446744073709551616 + (x1 * y0 + x0 * y1) * 4294967296 + x0 * y0 := by
    rw [ex, ey, Int.add_mul, Int.mul_add, Int.mul_add]
    have a1 : x1 * 4294967296 * (y1 * 4294967296) = x1 * y1 * 18446744073709551616 := by
      rw [Int.mul_assoc, Int.mul_left_comm 4294967296 y1, show (4294967296 : Int) * 4294967296 = 18446744073709551616 from rfl, Int.mul_assoc]
    have a2 : x1 * 4294967296 * y0 = x1 * y0 * 4294967296 := Int.mul_right_comm _ _ _
    have a3 : x0 * (y1 * 4294967296) = x0 * y1 * 4294967296 := (Int.mul_assoc _ _ _).symm
    rw [a1, a2, a3]
    omega
  rw [e]
  generalize x1 * y1 = q11 at *
  generalize x1 * y0 = q10 at *
  generalize x0 * y1 = q01 at *
  generalize x0 * y0 = q00 at *
  have w00 : IntKind.u64.wrap q00 = q00 := uw_id _ p00.1 (by omega)
  have w10 : IntKind.u64.wrap q10 = q10 := uw_id _ p10.1 (by omega)
  have w01 : IntKind.u64.wrap q01 = q01 := uw_id _ p01.1 (by omega)
  have w11 : IntKind.u64.wrap q11 = q11 := uw_id _ p11.1 (by omega)
  have wt : IntKind.u64.wrap (q10 + q00 / 4294967296) = q10 + q00 / 4294967296 := uw_id _ (by omega) (by omega)
  rw [w00, w10, w01, w11, wt, and_low _ (by omega) (by omega)]
  simp only [wu64]
  congr 2
  omega

def inr (a : Int) : Prop := -9223372036854775808 ≤ a ∧ a ≤ 9223372036854775807
theorem times_loop : ∀ (d k : Nat) (x P Q : Int), 0 ≤ x → x < 2 ^ d → x ≤ 18446744073709551615 → d < k → spec_l03Times.l0 k x (wh P) (wl P) (wh Q) (wl Q) = some (wh (P + x * Q), wl (P + x * Q)) := by
  intro d
  induction d with
  | zero =>
    intro k x P Q h0 h1 h2 hk
    obtain ⟨k, rfl⟩ : ∃ m, k = m + 1 := ⟨k - 1, by omega⟩
    have hx : x = 0 := by simp at h1; omega
    subst hx
    simp only [spec_l03Times.l0]
    rw [if_neg (by omega), Int.zero_mul, Int.add_zero]
  | succ d ih =>
    intro k x P Q h0 h1 h2 hk
    obtain ⟨k, rfl⟩ : ∃ m, k = m + 1 := ⟨k - 1, by omega⟩
    simp only [spec_l03Times.l0]
    by_cases c : x > 0
    rotate_left
    · have hx : x = 0 := by omega
      subst hx
      rw [if_neg (by omega), Int.zero_mul, Int.add_zero]
    rw [if_pos c, Int.tmod_eq_emod_of_nonneg h0, Int.tdiv_eq_ediv_of_nonneg h0]
    have e1 : IntKind.u64.wrap (x / 2) = x / 2 := by rw [wu64]; omega
    have hp : x / 2 < 2 ^ d := by
      rw [Int.pow_succ] at h1
      omega
    rw [e1]
    by_cases c2 : x % 2 = 1
    · rw [if_pos c2, spec_add_wide P Q, Option.bind_some, spec_add_wide Q Q, Option.bind_some, ih k (x / 2) (P + Q) (Q + Q) (by omega) hp (by omega) (by omega)]
      have hx : P + Q + x / 2 * (Q + Q) = P + x * Q := by
        generalize hy : x / 2 = y
        have : x = 2 * y + 1 := by omega
        rw [this]
        simp only [Int.add_mul, Int.mul_add, Int.one_mul, Int.mul_assoc]
        omega
      rw [hx]
    · rw [if_neg c2, spec_add_wide Q Q, Option.bind_some, ih k (x / 2) P (Q + Q) (by omega) hp (by omega) (by omega)]
      have hx : P + x / 2 * (Q + Q) = P + x * Q := by
        generalize hy : x / 2 = y
        have : x = 2 * y := by omega
        rw [this]
        simp only [Int.add_mul, Int.mul_add, Int.one_mul, Int.mul_assoc]
        omega
      rw [hx]
theorem spec_times (a b : Int) (ha : inr a) (hb : inr b) (k : Nat) (hk : 66 < k) : spec_l03Times.f k a b = some (wh (a * b), wl (a * b)) := by
  obtain ⟨k, rfl⟩ : ∃ m, k = m + 1 := ⟨k - 1, by omega⟩
  unfold inr at ha hb
  unfold spec_l03Times.f
  rw [spec_of_wide a ha]
  simp only [Option.bind_some, spec_l03Times.j0]
  have z0 := wh0
  have z1 := wl0
  by_cases c : b < 0
  · rw [if_pos c, spec_neg_wide]
    simp only [Option.bind_some]
    have e : IntKind.u64.wrap (-(IntKind.u64.wrap b)) = -b := by simp only [wu64]; omega
    have h := times_loop 64 k (-b) 0 (-a) (by omega) (by have : (2 : Int) ^ 64 = 18446744073709551616 := by decide +kernel
                                                         omega) (by omega) (by omega)
    rw [z0, z1] at h
    rw [e, h, Int.zero_add, Int.neg_mul_neg, Int.mul_comm]
  · rw [if_neg c]
    have e : IntKind.u64.wrap b = b := by simp only [wu64]; omega
    have h := times_loop 64 k b 0 a (by omega) (by have : (2 : Int) ^ 64 = 18446744073709551616 := by decide +kernel
                                                   omega) (by omega) (by omega)
    rw [z0, z1] at h
    rw [e, h, Int.zero_add, Int.mul_comm]
theorem fits_iff (A : Int) : fits A = true ↔ inr A := by
  unfold fits inr
  rw [Bool.and_eq_true, decide_eq_true_eq, decide_eq_true_eq]
theorem mul_small (a b : Int) (ha : inr a) (hb : inr b) : -170141183460469231731687303715884105728 ≤ a * b ∧ a * b < 170141183460469231731687303715884105728 := by
  unfold inr at ha hb
  have h1 : a.natAbs ≤ 9223372036854775808 := by omega
  have h2 : b.natAbs ≤ 9223372036854775808 := by omega
  have h3 := Nat.mul_le_mul h1 h2
  rw [← Int.natAbs_mul] at h3
  omega

def Rng (A : Int) : Prop := -170141183460469231731687303715884105728 ≤ A ∧ A < 170141183460469231731687303715884105728
def cmpv (a b : Int) : Int := if a < b then -1 else if a > b then 1 else 0
theorem spec_cmp_wide (A B : Int) (hA : Rng A) (hB : Rng B) : spec_WideCmp.f (wh A) (wl A) (wh B) (wl B) = some (cmpv A B) := by
  obtain ⟨a1, a2⟩ := hA
  obtain ⟨b1, b2⟩ := hB
  have ea : A = wh A * 18446744073709551616 + wl A := by unfold wh wl wrap64; omega
  have eb : B = wh B * 18446744073709551616 + wl B := by unfold wh wl wrap64; omega
  have la : 0 ≤ wl A ∧ wl A < 18446744073709551616 := by unfold wl; omega
  have lb : 0 ≤ wl B ∧ wl B < 18446744073709551616 := by unfold wl; omega
  unfold spec_WideCmp.f cmpv
  generalize wh A = x at *
  generalize wl A = y at *
  generalize wh B = z at *
  generalize wl B = u at *
  by_cases c1 : x = z
  · rw [if_pos c1]
    by_cases c2 : y = u
    · rw [if_pos c2, if_neg (by omega), if_neg (by omega)]
    · rw [if_neg c2]
      by_cases c3 : y < u
      · rw [if_pos c3, if_pos (by omega)]
      · rw [if_neg c3, if_neg (by omega), if_pos (by omega)]
  · rw [if_neg c1]
    by_cases c3 : x < z
    · rw [if_pos c3, if_pos (by omega)]
    · rw [if_neg c3, if_neg (by omega), if_pos (by omega)]
theorem cmp_int (a b : Int) : cmp_Compare_int.f a b = some (cmpv a b) := by
  unfold cmp_Compare_int.f cmp_isNaN_int.f cmpv
  simp only [bne_self_eq_false, Option.bind_some, Bool.false_eq_true, if_false]
  by_cases c : a < b
  · rw [if_pos c, if_pos c]
  · rw [if_neg c, if_neg c]
    by_cases d : a > b
    · rw [if_pos d, if_pos d]
    · rw [if_neg d, if_neg d]
theorem cmp_u64 (a b : Int) : cmp_Compare_uint64.f a b = some (cmpv a b) := by
  unfold cmp_Compare_uint64.f cmp_isNaN_uint64.f cmpv
  simp only [bne_self_eq_false, Option.bind_some, Bool.false_eq_true, if_false]
  by_cases c : a < b
  · rw [if_pos c, if_pos c]
  · rw [if_neg c, if_neg c]
    by_cases d : a > b
    · rw [if_pos d, if_pos d]
    · rw [if_neg d, if_neg d]
theorem or2_ev (a b : Int) : Evt (fun k => cmp_Or_int.f k [a, b]) (if a = 0 then b else a) := by
  refine ⟨3, fun k hk => ?_⟩
  obtain ⟨j, rfl⟩ : ∃ j, k = j + 3 := ⟨k - 3, by omega⟩
  show cmp_Or_int.l0 (j + 3) 0 [a, b] 2 0 = _
  have r0 : rd [a, b] 0 = a := rfl
  have r1 : rd [a, b] 1 = b := rfl
  have w0 : wrap64 (0 + 1) = 1 := by decide +kernel
  have w1 : wrap64 (1 + 1) = 2 := by decide +kernel
  have hl : (([a, b] : List Int).length : Int) = 2 := rfl
  simp only [cmp_Or_int.l0, r0, r1, w0, w1, hl]
  simp only [show (0 : Int) < 2 by decide, show (1 : Int) < 2 by decide, show ¬ (2 : Int) < 2 by decide, show (0 : Int) ≤ 0 by decide, show (0 : Int) ≤ 1 by decide, if_true, if_false]
  by_cases h1 : a = 0
  · rw [if_pos h1, if_pos h1]
    by_cases h2 : b = 0
    · rw [if_pos h2, h2]
    · rw [if_neg h2]
  · rw [if_neg h1, if_neg h1]
theorem impl_cmp_wide (A B : Int) (hA : Rng A) (hB : Rng B) : Evt (fun k => impl_WideCmp.f k (wh A) (wl A) (wh B) (wl B)) (cmpv A B) := by
  obtain ⟨a1, a2⟩ := hA
  obtain ⟨b1, b2⟩ := hB
  have ea : A = wh A * 18446744073709551616 + wl A := by unfold wh wl wrap64; omega
  have eb : B = wh B * 18446744073709551616 + wl B := by unfold wh wl wrap64; omega
  have la : 0 ≤ wl A ∧ wl A < 18446744073709551616 := by unfold wl; omega
  have lb : 0 ≤ wl B ∧ wl B < 18446744073709551616 := by unfold wl; omega
  have e : cmpv A B = if cmpv (wh A) (wh B) = 0 then cmpv (wl A) (wl B) else cmpv (wh A) (wh B) := by
    unfold cmpv
    generalize wh A = x at *
    generalize wl A = y at *
    generalize wh B = z at *
    generalize wl B = u at *
    by_cases c1 : x < z
    · rw [if_pos (show A < B by omega), if_pos c1]; rfl
    · by_cases c2 : x > z
      · rw [if_neg (show ¬ A < B by omega), if_pos (show A > B by omega), if_neg c1, if_pos c2]; rfl
      · have ez : (if x < z then (-1 : Int) else if x > z then 1 else 0) = 0 := by rw [if_neg c1, if_neg c2]
        rw [ez, if_pos rfl]
        by_cases c3 : y < u
        · rw [if_pos c3, if_pos (show A < B by omega)]
        · rw [if_neg c3, if_neg (show ¬ A < B by omega)]
          by_cases c4 : y > u
          · rw [if_pos c4, if_pos (show A > B by omega)]
          · rw [if_neg c4, if_neg (show ¬ A > B by omega)]
  rw [e]
  refine (or2_ev _ _).congr fun k => ?_
  unfold impl_WideCmp.f
  rw [cmp_int, cmp_u64]
  simp only [Option.bind_some]
  cases cmp_Or_int.f k _ <;> rfl
theorem impl_times (n m : Int) (hn : inr n) (hm : 0 ≤ m ∧ m ≤ 1000000) : Evt (fun k => impl_wideTimes.f k n m) (wh (n * m), wl (n * m)) := by
  unfold inr at hn
  have hmw : IntKind.u64.wrap m = m := uw_id _ hm.1 (by omega)
  by_cases c : n < 0
  · refine Evt.congr (g := fun k => impl_wideTimes.j0 k n m (-n)) ?_ fun k => by
      unfold impl_wideTimes.f
      rw [if_pos c]
      have : IntKind.u64.wrap (-(IntKind.u64.wrap n)) = -n := by simp only [wu64]; omega
      rw [this]
    refine Evt.done fun k => ?_
    simp only [impl_wideTimes.j0]
    rw [hmw, mul64_eq (-n) m (by omega) (by omega)]
    simp only [Option.bind_some]
    have := impl_neg_wide (-n * m)
    unfold wh wl at this
    rw [if_pos c, this]
    simp only [Option.bind_some]
    have e : -(-n * m) = n * m := by rw [Int.neg_mul, Int.neg_neg]
    rw [e]
    rfl
  · refine Evt.congr (g := fun k => impl_wideTimes.j0 k n m n) ?_ fun k => by
      unfold impl_wideTimes.f
      rw [if_neg c, uw_id n (by omega) (by omega)]
    refine Evt.done fun k => ?_
    simp only [impl_wideTimes.j0]
    rw [hmw, mul64_eq n m (by omega) (by omega)]
    simp only [Option.bind_some]
    rw [if_neg c]
    rfl

theorem toIntS_step (l ys : List Int) (i k : Nat) (hi : i < l.length) (hl : ys.length = l.length) (hb : l.length ≤ 1048576) :
    laws_toIntS.l0 (k + 1) l ys (i : Int) = laws_toIntS.l0 k l (ys.set i (id l[i])) ((i + 1 : Nat) : Int) := by
  have e : rd l (i : Int) = l[i] := rd_nat l i hi
  simp only [laws_toIntS.l0]
  rw [if_pos (by omega), if_pos (by omega), if_pos (by omega), e, w64 (by omega) (by omega)]
  simp
theorem toIntS_eq (l : List Int) (k : Nat) (hk : l.length < k) (hb : l.length ≤ 1048576) : laws_toIntS.f k l = some l := by
  unfold laws_toIntS.f
  rw [if_pos (by omega), if_pos (by simp; omega)]
  refine up_loop0 (fun k (ys : List Int) i => laws_toIntS.l0 k l ys (i : Int)) l.length (fun i ys => ys.length = l.length ∧ ys.take i = (l.take i).map id) (fun r => r = some l) ?_ ?_ k _ ?_ hk
  · rintro k s i hi ⟨h1, h2⟩
    left
    obtain ⟨h3, h4⟩ := copied_step id l s i hi h1 h2
    exact ⟨_, ⟨h3, h4⟩, toIntS_step l s i k hi h1 hb⟩
  · rintro k s ⟨h1, h2⟩
    simp only [laws_toIntS.l0]
    rw [if_neg (by omega), copied_end _ l s h1 h2]
    simp
  · simp
theorem eqIntS_refl (l : List Int) (k : Nat) (hk : l.length < k) (hb : l.length ≤ 4611686018427387904) : laws_eqIntS.f k l l = some true := by
  unfold laws_eqIntS.f
  rw [if_pos rfl]
  refine up_loop0 (fun k (_ : Unit) i => laws_eqIntS.l0 k l l (i : Int)) l.length (fun _ _ => True) (fun r => r = some true) ?_ ?_ k () trivial hk
  · rintro k _ i hi _
    left
    refine ⟨(), trivial, ?_⟩
    simp only [laws_eqIntS.l0, if_true]
    rw [if_pos (by omega), if_pos (by omega), if_pos (by omega), w64 (by omega) (by omega)]
    simp
  · rintro k _ _
    simp only [laws_eqIntS.l0]
    rw [if_neg (by omega)]

/-- The sum of the numbers from i on. -/
def sumF : List Int → Int
  | [] => 0
  | x :: t => x + sumF t
theorem sumF_bd : ∀ l : List Int, (∀ x ∈ l, inr x) → -9223372036854775808 * (l.length : Int) ≤ sumF l ∧ sumF l ≤ 9223372036854775807 * (l.length : Int)
  | [], _ => by simp [sumF]
  | x :: t, h => by
    have h1 := sumF_bd t (fun y hy => h y (List.mem_cons_of_mem _ hy))
    have h2 := h x List.mem_cons_self
    unfold inr at h2
    simp only [sumF, List.length_cons]
    omega
theorem drop_rdA (l : List Int) (i : Nat) (hi : i < l.length) : l.drop i = rd l (i : Int) :: l.drop (i + 1) := by
  rw [rd_nat l i hi]
  exact List.drop_eq_getElem_cons hi
theorem of_impl (n : Int) (h : inr n) : impl_WideOf.f n = some (wh n, wl n) := by
  unfold inr at h
  unfold impl_WideOf.f
  rw [wu64]
  congr 2
  unfold wh wrap64
  omega
theorem impl_add_wide (A B : Int) : impl_WideAdd.f (wh A) (wl A) (wh B) (wl B) = some (wh (A + B), wl (A + B)) := by
  rw [add_same _ _ _ _ (by unfold wl; omega) (by unfold wl; omega), spec_add_wide]
/-- The reference's loop over the greatest ones: their sum. -/
theorem spec_sum (N S0 S1 mi ma : Int) (l : List Int) (hl : l.length ≤ 4) (hr : ∀ x ∈ l, inr x) (r : Bool) :
    ∀ (m i : Nat) (A : Int), i + m = l.length → Evt (fun k => spec_AggOk.l0 k (l.length : Int) N S0 S1 mi ma l (wh (A + sumF (l.drop i))) (wl (A + sumF (l.drop i)))) r → Evt (fun k => spec_AggOk.l0 k (i : Int) N S0 S1 mi ma l (wh A) (wl A)) r := by
  intro m
  induction m with
  | zero =>
    intro i A hi h
    have e : l.drop i = [] := List.drop_eq_nil_of_le (by omega)
    rw [e] at h
    simp only [sumF, Int.add_zero] at h
    rw [show (i : Int) = (l.length : Int) by omega]
    exact h
  | succ m ih =>
    intro i A hi h
    have hi' : i < l.length := by omega
    have hx : inr (rd l (i : Int)) := by rw [rd_nat l i hi']; exact hr _ (List.getElem_mem _)
    rw [drop_rdA l i hi'] at h
    simp only [sumF] at h
    rw [← Int.add_assoc] at h
    refine Evt.step (ih (i + 1) (A + rd l (i : Int)) (by omega) h) fun k => ?_
    simp only [spec_AggOk.l0]
    rw [if_pos (by omega), if_pos (by omega), spec_of_wide _ hx]
    simp only [Option.bind_some]
    rw [spec_add_wide]
    simp only [Option.bind_some]
    rw [w64 (by omega) (by omega)]
    rfl

def descI (l : List Int) (i : Int) : Bool := decide (i = 0) || decide (rd l i ≤ rd l (i - 1))
theorem desc_iff (l : List Int) : allB (descI l) l.length 0 = true ↔ Desc l := by
  rw [allB_iff]
  constructor
  · intro h
    refine desc_adj fun i hi => ?_
    have := h ((i + 1 : Nat) : Int) (by omega) (by omega)
    unfold descI at this
    rw [decide_eq_false (by omega), Bool.false_or, decide_eq_true_eq, show ((i + 1 : Nat) : Int) - 1 = (i : Int) by omega, rd_nat l (i + 1) hi, rd_nat l i (by omega)] at this
    exact this
  · intro h i i0 hi
    obtain ⟨i, rfl⟩ : ∃ x : Nat, i = (x : Int) := ⟨i.toNat, by omega⟩
    unfold descI
    by_cases c : (i : Int) = 0
    · rw [decide_eq_true c, Bool.true_or]
    · rw [decide_eq_false c, Bool.false_or, decide_eq_true_eq, show (i : Int) - 1 = ((i - 1 : Nat) : Int) by omega, rd_nat l i (by omega), rd_nat l (i - 1) (by omega)]
      exact desc_get h (i - 1) i (by omega) (by omega)
theorem impl_sum (N S0 S1 mi ma : Int) (l : List Int) (hl : l.length ≤ 4) (hr : ∀ x ∈ l, inr x) (r : Bool) :
    ∀ (m i : Nat) (A : Int), i + m = l.length → Evt (fun k => impl_isAgg.l0 k l (l.length : Int) (l.length : Int) N S0 S1 mi ma l (wh (A - sumF (l.drop i))) (wl (A - sumF (l.drop i)))) r →
      Evt (fun k => impl_isAgg.l0 k l (l.length : Int) (i : Int) N S0 S1 mi ma l (wh A) (wl A)) (if allB (descI l) m (i : Int) = true then r else false) := by
  intro m
  induction m with
  | zero =>
    intro i A hi h
    have e : l.drop i = [] := List.drop_eq_nil_of_le (by omega)
    rw [e] at h
    simp only [sumF, Int.sub_zero] at h
    rw [show (i : Int) = (l.length : Int) by omega]
    exact h
  | succ m ih =>
    intro i A hi h
    have hi' : i < l.length := by omega
    have hx : inr (rd l (i : Int)) := by rw [rd_nat l i hi']; exact hr _ (List.getElem_mem _)
    rw [drop_rdA l i hi'] at h
    simp only [sumF] at h
    rw [show A - (rd l (i : Int) + sumF (l.drop (i + 1))) = A - rd l (i : Int) - sumF (l.drop (i + 1)) by omega] at h
    have s := ih (i + 1) (A - rd l (i : Int)) (by omega) h
    have e2 : ∀ k, impl_isAgg.j2 (k + 1) (rd l (i : Int)) l (l.length : Int) (i : Int) false N S0 S1 mi ma l (wh A) (wl A) = impl_isAgg.l0 k l (l.length : Int) ((i + 1 : Nat) : Int) N S0 S1 mi ma l (wh (A - rd l (i : Int))) (wl (A - rd l (i : Int))) := fun k => by
      simp only [impl_isAgg.j2, Bool.false_eq_true, if_false]
      rw [of_impl _ hx]
      simp only [Option.bind_some]
      rw [impl_neg_wide]
      simp only [Option.bind_some]
      rw [impl_add_wide]
      simp only [Option.bind_some]
      rw [w64 (by omega) (by omega)]
      rfl
    have e1 : ∀ k, impl_isAgg.l0 (k + 1) l (l.length : Int) (i : Int) N S0 S1 mi ma l (wh A) (wl A) = impl_isAgg.j2 k (rd l (i : Int)) l (l.length : Int) (i : Int) (!descI l (i : Int)) N S0 S1 mi ma l (wh A) (wl A) := fun k => by
      simp only [impl_isAgg.l0]
      rw [if_pos (by omega), if_pos (by omega), if_pos (by omega)]
      unfold descI
      by_cases c : (i : Int) > 0
      · rw [if_pos c, w64 (by omega) (by omega), if_pos (by omega), if_pos (by omega), decide_eq_false (show ¬ (i : Int) = 0 by omega), Bool.false_or]
        have : decide (rd l (i : Int) > rd l ((i : Int) - 1)) = !decide (rd l (i : Int) ≤ rd l ((i : Int) - 1)) := by
          by_cases d : rd l (i : Int) ≤ rd l ((i : Int) - 1)
          · rw [decide_eq_true d, decide_eq_false (by omega)]; rfl
          · rw [decide_eq_false d, decide_eq_true (by omega)]; rfl
        rw [this]
      · rw [if_neg c, decide_eq_true (show (i : Int) = 0 by omega), Bool.true_or]
        rfl
    show Evt _ (if (descI l (i : Int) && allB (descI l) m ((i : Int) + 1)) = true then r else false)
    refine Evt.step (g := fun k => impl_isAgg.j2 k (rd l (i : Int)) l (l.length : Int) (i : Int) (!descI l (i : Int)) N S0 S1 mi ma l (wh A) (wl A)) ?_ e1
    cases descI l (i : Int) with
    | false =>
      rw [Bool.false_and, if_neg (by decide)]
      exact Evt.done fun k => by simp only [impl_isAgg.j2, Bool.not_false, if_true]
    | true =>
      rw [Bool.true_and, Bool.not_true]
      exact Evt.step s e2

theorem prod_bd (a b : Int) (ha : inr a) (hb : 0 ≤ b ∧ b ≤ 1000000) : -9223372036854775808000000 ≤ a * b ∧ a * b ≤ 9223372036854775808000000 := by
  unfold inr at ha
  have h1 := Int.mul_le_mul_of_nonneg_right (show a ≤ 9223372036854775808 by omega) hb.1
  have h2 := Int.mul_le_mul_of_nonneg_right (show -9223372036854775808 ≤ a by omega) hb.1
  omega
theorem rep (R : Int) (h : -340282366920938463463374607431768211456 ≤ R ∧ R < 340282366920938463463374607431768211456) : ∃ Q, Rng Q ∧ wh R = wh Q ∧ wl R = wl Q ∧ ((Rng R ∧ Q = R) ∨ (R < -170141183460469231731687303715884105728 ∧ Q = R + 340282366920938463463374607431768211456) ∨ (170141183460469231731687303715884105728 ≤ R ∧ Q = R - 340282366920938463463374607431768211456)) := by
  by_cases c1 : R < -170141183460469231731687303715884105728
  · exact ⟨R + 340282366920938463463374607431768211456, ⟨by omega, by omega⟩, by unfold wh wrap64; omega, by unfold wl; omega, .inr (.inl ⟨c1, rfl⟩)⟩
  · by_cases c2 : 170141183460469231731687303715884105728 ≤ R
    · exact ⟨R - 340282366920938463463374607431768211456, ⟨by omega, by omega⟩, by unfold wh wrap64; omega, by unfold wl; omega, .inr (.inr ⟨c2, rfl⟩)⟩
    · exact ⟨R, ⟨by omega, by omega⟩, rfl, rfl, .inl ⟨⟨by omega, by omega⟩, rfl⟩⟩
theorem cmpv_le (a b : Int) : (cmpv a b ≤ 0 ↔ a ≤ b) ∧ (cmpv a b ≥ 0 ↔ b ≤ a) := by
  unfold cmpv
  by_cases c : a < b
  · rw [if_pos c]; constructor <;> constructor <;> intro h <;> omega
  · rw [if_neg c]
    by_cases d : a > b
    · rw [if_pos d]; constructor <;> constructor <;> intro h <;> omega
    · rw [if_neg d]; constructor <;> constructor <;> intro h <;> omega
def lastv (l : List Int) : Int := rd l ((l.length : Int) - 1)
def tailB (N S mi : Int) (l : List Int) : Bool := if N ≤ 4 then decide (mi = lastv l) && decide (S = sumF l) else decide (sumF l + mi * (N - 4) ≤ S) && decide (S ≤ sumF l + mi + rd l 3 * (N - 5))
theorem spec_tail (N S mi ma : Int) (l : List Int) (hN : 1 ≤ N ∧ N ≤ 1000000) (hlen : (l.length : Int) = if N ≤ 4 then N else 4) (hr : ∀ x ∈ l, inr x) (hS : Rng S) (hmi : inr mi) :
    Evt (fun k => spec_AggOk.l0 k (l.length : Int) N (wh S) (wl S) mi ma l (wh (sumF l)) (wl (sumF l))) (tailB N S mi l) := by
  have hb := sumF_bd l hr
  have hS' := hS
  unfold Rng at hS'
  have hmi' := hmi
  unfold inr at hmi'
  by_cases c : N ≤ 4
  · rw [if_pos c] at hlen
    refine Evt.done fun k => ?_
    simp only [spec_AggOk.l0]
    rw [if_neg (by omega), w64 (by omega) (by omega), if_pos (show N - (l.length : Int) = 0 by omega), w64 (by omega) (by omega), if_pos (by omega), if_pos (by omega)]
    unfold tailB lastv
    rw [if_pos c]
    by_cases d : mi = rd l ((l.length : Int) - 1)
    · rw [if_pos d, decide_eq_true d, Bool.true_and]
      congr 1
      by_cases e : S = sumF l
      · rw [decide_eq_true e, e]; simp
      · rw [decide_eq_false e]
        have : ¬ (wh S = wh (sumF l) ∧ wl S = wl (sumF l)) := by
          rintro ⟨g1, g2⟩
          apply e
          unfold wh wrap64 at g1
          unfold wl at g2
          omega
        rw [Bool.eq_false_iff]
        simp only [ne_eq, Bool.and_eq_true, beq_iff_eq]
        exact this
    · rw [if_neg d, decide_eq_false d, Bool.false_and]
  · rw [if_neg c] at hlen
    have hx3 : inr (rd l 3) := by
      rw [show (3 : Int) = ((3 : Nat) : Int) from rfl, rd_nat l 3 (by omega)]; exact hr _ (List.getElem_mem _)
    have p1 := prod_bd mi (N - 4) hmi (by omega)
    have p2 := prod_bd (rd l 3) (N - 5) hx3 (by omega)
    refine ⟨80, fun k hk => ?_⟩
    obtain ⟨j, rfl⟩ : ∃ j, k = j + 1 := ⟨k - 1, by omega⟩
    show spec_AggOk.l0 (j + 1) (l.length : Int) N (wh S) (wl S) mi ma l (wh (sumF l)) (wl (sumF l)) = _
    have e4 : wrap64 (N - (l.length : Int)) = N - 4 := (w64 (by omega) (by omega)).trans (by omega)
    have e5 : wrap64 (N - 4 - 1) = N - 5 := (w64 (by omega) (by omega)).trans (by omega)
    simp only [spec_AggOk.l0, e4, e5, spec_l07Times.f]
    rw [if_neg (by omega), if_neg (by omega), spec_times (N - 4) mi ⟨by omega, by omega⟩ hmi j (by omega)]
    simp only [Option.bind_some]
    rw [spec_add_wide]
    simp only [Option.bind_some]
    rw [spec_of_wide mi hmi]
    simp only [Option.bind_some]
    rw [spec_add_wide]
    simp only [Option.bind_some]
    rw [if_pos (by omega), spec_times (N - 5) (rd l 3) ⟨by omega, by omega⟩ hx3 j (by omega)]
    simp only [Option.bind_some]
    rw [spec_add_wide]
    simp only [Option.bind_some]
    rw [Int.mul_comm (N - 4), Int.mul_comm (N - 5)]
    rw [spec_cmp_wide S _ hS ⟨by omega, by omega⟩]
    simp only [Option.bind_some]
    rw [spec_cmp_wide S _ hS ⟨by omega, by omega⟩]
    simp only [Option.bind_some]
    unfold tailB
    rw [if_neg c]
    by_cases d : sumF l + mi * (N - 4) ≤ S
    · rw [if_pos ((cmpv_le _ _).2.mpr d), decide_eq_true d, Bool.true_and]
      exact congrArg some (decide_eq_decide.2 (cmpv_le _ _).1)
    · rw [if_neg (fun h => d ((cmpv_le _ _).2.mp h)), decide_eq_false d, Bool.false_and]

theorem impl_tail (N S S0 S1 mi ma : Int) (l : List Int) (hN : 1 ≤ N ∧ N ≤ 1000000) (hlen : (l.length : Int) = if N ≤ 4 then N else 4) (hr : ∀ x ∈ l, inr x) (hS : Rng S) (hmi : inr mi) :
    Evt (fun k => impl_isAgg.l0 k l (l.length : Int) (l.length : Int) N S0 S1 mi ma l (wh (S - sumF l)) (wl (S - sumF l))) (if N ≤ 4 then tailB N S mi l else decide (mi ≤ lastv l) && tailB N S mi l) := by
  have hb := sumF_bd l hr
  have hS' := hS
  unfold Rng at hS'
  have hmi' := hmi
  unfold inr at hmi'
  by_cases c : N ≤ 4
  · rw [if_pos c] at hlen ⊢
    refine Evt.done fun k => ?_
    simp only [impl_isAgg.l0]
    rw [if_neg (by omega), w64 (by omega) (by omega), if_pos (by omega), if_pos (by omega), if_pos c]
    unfold tailB lastv
    rw [if_pos c]
    by_cases d : mi = rd l ((l.length : Int) - 1)
    · rw [if_pos d, decide_eq_true d, Bool.true_and]
      congr 1
      by_cases e : S = sumF l
      · rw [decide_eq_true e, e, Int.sub_self]; decide +kernel
      · rw [decide_eq_false e]
        have : ¬ (wh (S - sumF l) = 0 ∧ wl (S - sumF l) = 0) := by
          rintro ⟨g1, g2⟩
          apply e
          unfold wh wrap64 at g1
          unfold wl at g2
          omega
        rw [Bool.eq_false_iff]
        simp only [ne_eq, Bool.and_eq_true, beq_iff_eq]
        exact this
    · rw [if_neg d, decide_eq_false d, Bool.false_and]
  · rw [if_neg c] at hlen ⊢
    have hx3 : inr (rd l 3) := by
      rw [show (3 : Int) = ((3 : Nat) : Int) from rfl, rd_nat l 3 (by omega)]; exact hr _ (List.getElem_mem _)
    have el : lastv l = rd l 3 := by unfold lastv; rw [hlen]; rfl
    have p0 := prod_bd mi (N - 5) hmi (by omega)
    have p2 := prod_bd (rd l 3) (N - 5) hx3 (by omega)
    have ep : mi * (N - 4) = mi * (N - 5) + mi := by rw [show N - 4 = N - 5 + 1 by omega, Int.mul_add, Int.mul_one]
    obtain ⟨Q, hQ, q1, q2, q3⟩ := rep (S - sumF l - mi) (by omega)
    obtain ⟨K1, t1⟩ := impl_times mi (N - 5) hmi (by omega)
    obtain ⟨K2, t2⟩ := impl_times (rd l 3) (N - 5) hx3 (by omega)
    obtain ⟨K3, t3⟩ := impl_cmp_wide (mi * (N - 5)) Q ⟨by omega, by omega⟩ hQ
    obtain ⟨K4, t4⟩ := impl_cmp_wide Q (rd l 3 * (N - 5)) hQ ⟨by omega, by omega⟩
    simp only at t1 t2 t3 t4
    refine ⟨K1 + K2 + K3 + K4 + 1, fun k hk => ?_⟩
    obtain ⟨j, rfl⟩ : ∃ j, k = j + 1 := ⟨k - 1, by omega⟩
    show impl_isAgg.l0 (j + 1) l (l.length : Int) (l.length : Int) N S0 S1 mi ma l (wh (S - sumF l)) (wl (S - sumF l)) = _
    have e4 : wrap64 (N - 4) = N - 4 := w64 (by omega) (by omega)
    have e5 : wrap64 (N - 4 - 1) = N - 5 := (w64 (by omega) (by omega)).trans (by omega)
    have e3 : wrap64 ((l.length : Int) - 1) = 3 := (w64 (by omega) (by omega)).trans (by omega)
    simp only [impl_isAgg.l0, e4, e5, e3]
    rw [if_neg (by omega), if_pos (by omega), if_pos (by omega), if_neg c, of_impl mi hmi]
    simp only [Option.bind_some]
    rw [impl_neg_wide]
    simp only [Option.bind_some]
    rw [impl_add_wide]
    simp only [Option.bind_some]
    rw [show S - sumF l + -mi = S - sumF l - mi by omega, q1, q2, el]
    by_cases d : mi ≤ rd l 3
    · rw [if_pos d, decide_eq_true d, Bool.true_and, t1 j (by omega)]
      simp only [Option.bind_some]
      rw [t3 j (by omega)]
      simp only [Option.bind_some]
      unfold tailB
      rw [if_neg c, ep]
      rcases q3 with ⟨g, e⟩ | ⟨g, e⟩ | ⟨g, e⟩
      · subst e
        by_cases h1 : mi * (N - 5) ≤ S - sumF l - mi
        · rw [if_pos ((cmpv_le _ _).1.mpr h1), t2 j (by omega)]
          simp only [Option.bind_some]
          rw [t4 j (by omega), decide_eq_true (show sumF l + (mi * (N - 5) + mi) ≤ S by omega), Bool.true_and]
          simp only [Option.bind_some]
          exact congrArg some (decide_eq_decide.2 ((cmpv_le _ _).1.trans (by omega)))
        · rw [if_neg (fun h => h1 ((cmpv_le _ _).1.mp h)), decide_eq_false (show ¬ sumF l + (mi * (N - 5) + mi) ≤ S by omega), Bool.false_and]
      · have h1 : mi * (N - 5) ≤ Q := by omega
        have h2 : ¬ Q ≤ rd l 3 * (N - 5) := by omega
        rw [if_pos ((cmpv_le _ _).1.mpr h1), t2 j (by omega)]
        simp only [Option.bind_some]
        rw [t4 j (by omega), decide_eq_false (show ¬ sumF l + (mi * (N - 5) + mi) ≤ S by omega), Bool.false_and]
        simp only [Option.bind_some]
        exact congrArg some (decide_eq_false (fun h => h2 ((cmpv_le _ _).1.mp h)))
      · have h1 : ¬ mi * (N - 5) ≤ Q := by omega
        rw [if_neg (fun h => h1 ((cmpv_le _ _).1.mp h)), decide_eq_false (show ¬ S ≤ sumF l + mi + rd l 3 * (N - 5) by omega), Bool.and_false]
    · rw [if_neg d, decide_eq_false d, Bool.false_and]

theorem mn4 (N : Int) : mn N 4 = if N ≤ 4 then N else 4 := by unfold mn; split <;> (try split) <;> omega
theorem both (N S mi ma : Int) (l : List Int) (hS : Rng S) (hmi : inr mi) (hr : ∀ x ∈ l, inr x) : ∃ r, Evt (fun k => spec_AggOk.f k N (wh S) (wl S) mi ma l) r ∧ Evt (fun k => impl_isAgg.f k N (wh S) (wl S) mi ma l) r ∧ (r = true → N = 0 ∨ ((1 ≤ N ∧ N ≤ 1000000) ∧ l.length ≤ 4)) := by
  have js : Evt (fun k => spec_AggOk.j0 k true N (wh S) (wl S) mi ma l) false := Evt.done fun k => by simp only [spec_AggOk.j0, if_true]
  have ji : Evt (fun k => impl_isAgg.j0 k true N (wh S) (wl S) mi ma l) false := Evt.done fun k => by simp only [impl_isAgg.j0, if_true]
  have toI : ∀ r, Evt (fun k => impl_isAgg.f k N (wh S) (wl S) mi ma l) r → Evt (fun k => impl_isAgg.f k N (wh S) (wl S) mi ma l) r := fun r h => h
  have hm4 := mn4 N
  by_cases h0 : N = 0
  · subst h0
    refine ⟨((wh S == 0 && (wl S == 0)) && (decide (mi = 0) && decide (ma = 0))) && decide ((l.length : Int) = 0), ?_, toI _ ?_, fun _ => .inl rfl⟩
    · by_cases c : (l.length : Int) = 0
      · rw [decide_eq_true c, Bool.and_true]
        refine Evt.congr (g := fun k => spec_AggOk.j0 k false 0 (wh S) (wl S) mi ma l) ?_ fun k => by
          unfold spec_AggOk.f
          rw [if_neg (by decide), if_neg (by decide), c]
          rfl
        refine Evt.done fun k => ?_
        simp only [spec_AggOk.j0, Bool.false_eq_true, if_false, if_true]
        cases (wh S == 0 && (wl S == 0)) with
        | false => rfl
        | true =>
          by_cases d : mi = 0
          · rw [if_pos rfl, if_pos d, decide_eq_true d]; rfl
          · rw [if_pos rfl, if_neg d, decide_eq_false d]; rfl
      · rw [decide_eq_false c, Bool.and_false]
        refine js.congr fun k => ?_
        unfold spec_AggOk.f
        rw [if_neg (by decide), if_neg (by decide), hm4]
        have : ((l.length : Int) != if (0 : Int) ≤ 4 then 0 else 4) = true := by simp only [bne_iff_ne, ne_eq]; exact c
        rw [this]
    · refine (Evt.const _).congr fun k => ?_
      unfold impl_isAgg.f
      rw [if_pos rfl]
      cases (wh S == 0 && (wl S == 0)) with
      | false => rfl
      | true =>
        rw [if_pos rfl]
        by_cases d : mi = 0
        · rw [if_pos d, decide_eq_true d]
          by_cases e : ma = 0
          · rw [if_pos e, decide_eq_true e]; rfl
          · rw [if_neg e, decide_eq_false e]; rfl
        · rw [if_neg d, decide_eq_false d]; rfl
  by_cases hv : (1 ≤ N ∧ N ≤ 1000000) ∧ (l.length : Int) = mn N 4
  · obtain ⟨hN, hlen⟩ := hv
    have hlen' := hlen
    rw [hm4] at hlen
    have hl4 : l.length ≤ 4 := by split at hlen <;> omega
    have hl1 : 1 ≤ l.length := by split at hlen <;> omega
    obtain ⟨res, r1, b, b1, b2⟩ := same_ev l hl4
    have st := spec_tail N S mi ma l hN hlen hr hS hmi
    have it := impl_tail N S (wh S) (wl S) mi ma l hN hlen hr hS hmi
    have ss := spec_sum N (wh S) (wl S) mi ma l hl4 hr _ l.length 0 0 (by omega) (by rw [List.drop_zero, Int.zero_add]; exact st)
    have si := impl_sum N (wh S) (wl S) mi ma l hl4 hr _ l.length 0 S (by omega) (by rw [List.drop_zero]; exact it)
    have eb : allB (descI l) l.length 0 = b := by rw [Bool.eq_iff_iff, desc_iff, b2]
    have si' : Evt (fun k => impl_isAgg.l0 k l (l.length : Int) 0 N (wh S) (wl S) mi ma l (wh S) (wl S)) (if b = true then (if N ≤ 4 then tailB N S mi l else decide (mi ≤ lastv l) && tailB N S mi l) else false) := eb ▸ si
    have ss' : Evt (fun k => spec_AggOk.l0 k 0 N (wh S) (wl S) mi ma l 0 0) (tailB N S mi l) := by
      have := ss
      rw [wh0, wl0] at this
      exact this
    have j1 : ∀ t, Evt (fun k => spec_AggOk.j1 k t N (wh S) (wl S) mi ma l) (!t && tailB N S mi l) := fun t => by
      cases t with
      | true => exact Evt.done fun k => by simp only [spec_AggOk.j1, if_true]; rfl
      | false => rw [Bool.not_false, Bool.true_and]; exact Evt.step ss' fun k => by simp only [spec_AggOk.j1, Bool.false_eq_true, if_false]
    have et : (decide (mi ≤ lastv l) && tailB N S mi l) = (if N ≤ 4 then tailB N S mi l else decide (mi ≤ lastv l) && tailB N S mi l) := by
      by_cases c : N ≤ 4
      · rw [if_pos c]
        unfold tailB
        rw [if_pos c]
        by_cases d : mi = lastv l
        · rw [decide_eq_true d, decide_eq_true (show mi ≤ lastv l by omega)]; rfl
        · rw [decide_eq_false d, Bool.false_and, Bool.and_false]
      · rw [if_neg c]
    refine ⟨(b && decide (rd l 0 = ma)) && (decide (mi ≤ lastv l) && tailB N S mi l), ?_, toI _ ?_, fun _ => .inr ⟨hN, hl4⟩⟩
    · refine Evt.congr (g := fun k => spec_AggOk.j0 k false N (wh S) (wl S) mi ma l) ?_ fun k => by
        unfold spec_AggOk.f
        rw [if_neg (by omega), if_neg (by omega), hlen', bne_self_eq_false]
      obtain ⟨K1, t1⟩ := r1
      obtain ⟨K2, t2⟩ := b1
      simp only at t1 t2
      obtain ⟨K3, t3⟩ := j1 true
      obtain ⟨K4, t4⟩ := j1 (decide (mi > lastv l))
      simp only at t3 t4
      refine ⟨K1 + K2 + K3 + K4 + 1, fun k hk => ?_⟩
      obtain ⟨j, rfl⟩ : ∃ j, k = j + 1 := ⟨k - 1, by omega⟩
      simp only [spec_AggOk.j0, Bool.false_eq_true, if_false]
      rw [if_neg h0, t1 j (by omega)]
      simp only [Option.bind_some]
      rw [t2 j (by omega)]
      simp only [Option.bind_some]
      cases b with
      | false => rw [if_neg (by decide), t3 j (by omega)]; rfl
      | true =>
        rw [if_pos rfl, if_pos (by omega), Bool.true_and]
        by_cases d : rd l 0 = ma
        · rw [if_pos d, decide_eq_true d, w64 (by omega) (by omega), if_pos (by omega), if_pos (by omega), Bool.true_and]
          have := t4 j (by omega)
          unfold lastv at this
          rw [this]
          have e2 : (!decide (mi > rd l ((l.length : Int) - 1))) = decide (mi ≤ lastv l) := by
            unfold lastv
            by_cases f : mi ≤ rd l ((l.length : Int) - 1)
            · rw [decide_eq_true f, decide_eq_false (by omega)]; rfl
            · rw [decide_eq_false f, decide_eq_true (by omega)]; rfl
          rw [e2]
        · rw [if_neg d, decide_eq_false d, t3 j (by omega)]; rfl
    · refine Evt.congr (g := fun k => impl_isAgg.j0 k (rd l 0 != ma) N (wh S) (wl S) mi ma l) ?_ fun k => by
        unfold impl_isAgg.f impl_in.f
        rw [if_neg h0, if_pos hN.1, decide_eq_true hN.2]
        simp only [Option.bind_some, if_true]
        rw [if_pos hlen', if_pos (by omega)]
      by_cases d : rd l 0 = ma
      · rw [decide_eq_true d, Bool.and_true, et, d, bne_self_eq_false]
        have h : Evt (fun k => impl_isAgg.j0 k false N (wh S) (wl S) mi ma l) _ := Evt.step si' fun k => by simp only [impl_isAgg.j0, Bool.false_eq_true, if_false]
        cases b <;> simpa using h
      · have : (rd l 0 != ma) = true := by simp only [bne_iff_ne, ne_eq]; exact d
        rw [decide_eq_false d, Bool.and_false, Bool.false_and, this]
        exact ji
  · refine ⟨false, ?_, toI _ ?_, fun h => by cases h⟩
    · refine js.congr fun k => ?_
      unfold spec_AggOk.f
      by_cases c1 : N < 0
      · rw [if_pos c1]
      · rw [if_neg c1]
        by_cases c2 : N > 1000000
        · rw [if_pos c2]
        · rw [if_neg c2]
          have : ((l.length : Int) != mn N 4) = true := by simp only [bne_iff_ne, ne_eq]; exact fun g => hv ⟨⟨by omega, by omega⟩, g⟩
          rw [this]
    · refine ji.congr fun k => ?_
      unfold impl_isAgg.f impl_in.f
      rw [if_neg h0]
      by_cases c1 : 1 ≤ N
      · rw [if_pos c1]
        by_cases c2 : N ≤ 1000000
        · rw [decide_eq_true c2]
          simp only [Option.bind_some, if_true]
          rw [if_neg (fun g => hv ⟨⟨c1, c2⟩, g⟩)]
        · rw [decide_eq_false c2]; rfl
      · rw [if_neg c1]; rfl

theorem impl_int_wide (A : Int) (h : Rng A) : impl_WideInt.f (wh A) (wl A) = some (if fits A = true then A else 0, fits A) := by
  rw [← spec_int_wide A h]
  unfold impl_WideInt.f spec_WideInt.f
  have hn : inr (wrap64 (wl A)) := by unfold inr wrap64; omega
  rw [of_impl _ hn, spec_of_wide _ hn]
  simp only [Option.bind_some]
  by_cases c1 : wh (wrap64 (wl A)) = wh A <;> by_cases c2 : wl (wrap64 (wl A)) = wl A <;> simp [c1, c2]
def kindB (a b : Int) : Bool := if a = 6 then decide (1 ≤ b) && decide (b ≤ 4) else (decide (1 ≤ a) && decide (a ≤ 5)) && (b == 0)
theorem kind_spec (a b : Int) : spec_AggKind.f a b = some (kindB a b) := by
  unfold spec_AggKind.f kindB
  by_cases c : a = 6
  · rw [if_pos c, if_pos c]
    by_cases d : b ≥ 1
    · rw [if_pos d, decide_eq_true (show 1 ≤ b from d)]; rfl
    · rw [if_neg d, decide_eq_false (show ¬ 1 ≤ b from d)]; rfl
  · rw [if_neg c, if_neg c]
    by_cases d : a ≥ 1
    · rw [if_pos d, decide_eq_true (show 1 ≤ a from d)]
      by_cases e : a < 6
      · rw [if_pos e, decide_eq_true (show a ≤ 5 by omega)]; rfl
      · rw [if_neg e, decide_eq_false (show ¬ a ≤ 5 by omega)]; rfl
    · rw [if_neg d, decide_eq_false (show ¬ 1 ≤ a from d)]; rfl
theorem in_le (a l h : Int) : impl_in.f a l h = some (decide (l ≤ a) && decide (a ≤ h)) := by
  unfold impl_in.f
  by_cases c : l ≤ a <;> simp [c]
theorem kind_impl (a b : Int) : impl_isAggKind.f a b = some (kindB a b) := by
  unfold impl_isAggKind.f kindB
  rw [in_le, in_le]
  by_cases c : a = 6
  · rw [if_pos c, if_pos c]; rfl
  · rw [if_neg c, if_neg c]
    simp only [Option.bind_some]
    cases (decide (1 ≤ a) && decide (a ≤ 5)) <;> rfl

theorem mn_range (a b : Int) : mn a b ≤ b ∧ (mn a b = a ∨ mn a b = b) := by unfold mn; split <;> (try split) <;> omega
theorem done_ev (a b N S mi ma : Int) (l : List Int) (hS : Rng S) (hN : 1 ≤ N ∧ N ≤ 1000000) (hl : l.length ≤ 4) (hk : kindB a b = true) : ∃ (u : List Int) (f : Bool), u.length ≤ 4 ∧ Evt (fun k => spec_AggDone.j0 k a b false N (wh S) (wl S) mi ma l) (u, f) ∧ Evt (fun k => impl_done.f k a b N (wh S) (wl S) mi ma l) (u, f) := by
  have hS2 : -170141183460469231731687303715884105728 ≤ S ∧ S < 170141183460469231731687303715884105728 := hS
  have iw := impl_int_wide S hS
  have sw := spec_int_wide S hS2
  by_cases c1 : a = 1
  · exact ⟨[N], false, by simp, Evt.done fun k => by simp only [spec_AggDone.j0, Bool.false_eq_true, if_false]; rw [if_pos c1], (Evt.const _).congr fun k => by unfold impl_done.f; rw [if_pos c1]⟩
  by_cases c2 : a = 2
  · cases hf : fits S with
    | true =>
      rw [hf] at iw sw
      exact ⟨[S], false, by simp, Evt.done fun k => by simp only [spec_AggDone.j0, Bool.false_eq_true, if_false]; rw [if_neg c1, if_pos c2, sw]; rfl, (Evt.const _).congr fun k => by unfold impl_done.f; rw [if_neg c1, if_pos c2, iw]; rfl⟩
    | false =>
      rw [hf] at iw sw
      exact ⟨[], true, by simp, Evt.done fun k => by simp only [spec_AggDone.j0, Bool.false_eq_true, if_false]; rw [if_neg c1, if_pos c2, sw]; rfl, (Evt.const _).congr fun k => by unfold impl_done.f; rw [if_neg c1, if_pos c2, iw]; rfl⟩
  by_cases c3 : a = 3
  · exact ⟨[mi], false, by simp, Evt.done fun k => by simp only [spec_AggDone.j0, Bool.false_eq_true, if_false]; rw [if_neg c1, if_neg c2, if_pos c3], (Evt.const _).congr fun k => by unfold impl_done.f; rw [if_neg c1, if_neg c2, if_pos c3]⟩
  by_cases c4 : a = 4
  · exact ⟨[ma], false, by simp, Evt.done fun k => by simp only [spec_AggDone.j0, Bool.false_eq_true, if_false]; rw [if_neg c1, if_neg c2, if_neg c3, if_pos c4], (Evt.const _).congr fun k => by unfold impl_done.f; rw [if_neg c1, if_neg c2, if_neg c3, if_pos c4]⟩
  by_cases c5 : a = 5
  · refine ⟨[if fits (meanv S N) = true then meanv S N else 0], false, by simp, ?_, ?_⟩
    · refine Evt.step (g := fun k => (spec_WideMean.f k (wh S) (wl S) N).bind fun bt293 => (some ((([bt293.1] : List Int)), false))) ?_ fun k => by
        simp only [spec_AggDone.j0, Bool.false_eq_true, if_false]
        rw [if_neg c1, if_neg c2, if_neg c3, if_neg c4, if_pos c5]
      exact Evt.bind (g := fun bt293 k => some ((([bt293.1] : List Int)), false)) (spec_mean S N hS2 hN.1 hN.2) (Evt.const _)
    · refine Evt.congr (g := fun k => (impl_WideMean.f k (wh S) (wl S) N).bind fun bt385 => (some ((([bt385.1] : List Int)), false))) ?_ fun k => by
        unfold impl_done.f
        rw [if_neg c1, if_neg c2, if_neg c3, if_neg c4, if_pos c5]
      exact Evt.bind (g := fun bt385 k => some ((([bt385.1] : List Int)), false)) (impl_mean S N hS2 hN.1 hN.2) (Evt.const _)
  · have hb : 1 ≤ b := by
      unfold kindB at hk
      by_cases c6 : a = 6
      · rw [if_pos c6] at hk; simp only [Bool.and_eq_true, decide_eq_true_eq] at hk; omega
      · rw [if_neg c6] at hk; simp only [Bool.and_eq_true, decide_eq_true_eq] at hk; omega
    have hm := mn_range b (l.length : Int)
    refine ⟨l.take (mn b (l.length : Int)).toNat, false, by rw [List.length_take]; omega, ?_, ?_⟩
    · refine Evt.done fun k => ?_
      simp only [spec_AggDone.j0, Bool.false_eq_true, if_false, Option.bind_some, List.nil_append]
      rw [if_neg c1, if_neg c2, if_neg c3, if_neg c4, if_neg c5, if_pos (by omega), if_pos (by omega), if_pos (by rw [List.length_take, List.length_nil]; omega)]
    · refine (Evt.const _).congr fun k => ?_
      unfold impl_done.f slices_Clone_int_int.f
      rw [if_neg c1, if_neg c2, if_neg c3, if_neg c4, if_neg c5, if_pos (by omega), if_pos (by omega), if_pos (by rw [List.length_take]; omega)]
      rfl

def patInt (a : Int) (n : Nat) : List Int := (List.range n).map (fun j : Nat => ((a + 1 * (j : Int))))
theorem markIntS_step (xs : List Int) (z : Int) (i k : Nat) (hi : i < xs.length) (h0 : 0 ≤ z) (hz : z ≤ 1152921504606846976) (hl : xs.length ≤ 1152921504606846976) :
    laws_markIntS.l0 (k + 1) xs z (i : Int) = laws_markIntS.l0 k (xs.set i (z)) (z + 1) ((i + 1 : Nat) : Int) := by
  have v1 : wrap64 (z + 1) = z + 1 := (w64 (by omega) (by omega)).trans (by omega)
  have vi : wrap64 ((i : Int) + 1) = ((i + 1 : Nat) : Int) := (w64 (by omega) (by omega)).trans (by omega)
  simp only [laws_markIntS.l0, Option.bind_some]
  rw [if_pos (by omega), if_pos (by omega)]
  simp only [v1, vi, rd, Int.toNat_natCast, List.set_set, List.getD_eq_getElem?_getD, List.getElem?_set_self hi, Option.getD_some]
theorem markIntS_eq (l : List Int) (a : Int) (k : Nat) (hk : l.length < k) (h0 : 0 ≤ a) (ha : a ≤ 1000000000) (hb : l.length ≤ 4611686018427) : laws_markIntS.f k l a = some (a + 1 * l.length, patInt a l.length) := by
  unfold laws_markIntS.f
  refine up_loop0 (fun k (s : List Int × Int) i => laws_markIntS.l0 k s.1 s.2 (i : Int)) l.length (fun i s => s.1.length = l.length ∧ s.1.take i = ((List.range l.length).take i).map (fun j : Nat => ((a + 1 * (j : Int)))) ∧ s.2 = a + 1 * (i : Int)) (fun r => r = some (a + 1 * l.length, patInt a l.length)) ?_ ?_ k (l, a) ?_ hk
  · rintro k ⟨xs, z⟩ i hi ⟨h1, h2, h3⟩
    simp only at h1 h2 h3
    left
    have hi' : i < (List.range l.length).length := by simpa using hi
    obtain ⟨h4, h5⟩ := copied_step (fun j : Nat => ((a + 1 * (j : Int)))) (List.range l.length) xs i hi' (by simpa using h1) h2
    refine ⟨(_, z + 1), ⟨?_, ?_, ?_⟩, markIntS_step xs z i k (by omega) (by omega) (by omega) (by omega)⟩
    · simp only [List.length_set]
      exact h1
    · rw [List.getElem_range] at h5
      subst h3
      exact h5
    · simp only [h3]
      omega
  · rintro k ⟨xs, z⟩ ⟨h1, h2, h3⟩
    simp only at h1 h2 h3
    simp only [laws_markIntS.l0]
    rw [if_neg (by omega)]
    have h4 := copied_end (fun j : Nat => ((a + 1 * (j : Int)))) (List.range l.length) xs (by simpa using h1) (by simpa using h2)
    rw [h3, h4]
    rfl
  · exact ⟨rfl, by simp, by simp⟩
theorem heldIntS_step (a : Int) (n i k : Nat) (hi : i < n) (h0 : 0 ≤ a) (ha : a ≤ 1000000000) (hl : n ≤ 4611686018427) :
    laws_heldIntS.l0 (k + 1) (patInt a n) (a + 1 * (i : Int)) (i : Int) = laws_heldIntS.l0 k (patInt a n) (a + 1 * ((i + 1 : Nat) : Int)) ((i + 1 : Nat) : Int) := by
  have hlen : (patInt a n).length = n := by simp [patInt]
  have vi : wrap64 ((i : Int) + 1) = ((i + 1 : Nat) : Int) := (w64 (by omega) (by omega)).trans (by omega)
  have e : rd (patInt a n) (i : Int) = (fun j : Nat => ((a + 1 * (j : Int)))) i := by
    unfold rd
    rw [getD_nat _ _ i (by omega)]
    simp only [patInt, List.getElem_map, List.getElem_range]
  have hz : ((a + 1 * ((i + 1 : Nat) : Int)) : Int) = a + 1 * (i : Int) + 1 := by omega
  rw [hz]
  generalize hzz : a + 1 * (i : Int) = z at *
  have hz0 : 0 ≤ z := by omega
  have hz1 : z ≤ 1152921504606846976 := by omega
  have v1 : wrap64 (z + 1) = z + 1 := (w64 (by omega) (by omega)).trans (by omega)
  simp only [laws_heldIntS.l0]
  rw [if_pos (by omega), if_pos (by omega), e]
  simp only [v1, vi, bne_self_eq_false, Bool.false_eq_true, if_true, if_false, hzz]
theorem heldIntS_eq (a : Int) (n k : Nat) (hk : n < k) (h0 : 0 ≤ a) (ha : a ≤ 1000000000) (hl : n ≤ 4611686018427) : laws_heldIntS.f k (patInt a n) a = some (a + 1 * n) := by
  unfold laws_heldIntS.f
  have hlen : (patInt a n).length = n := by simp [patInt]
  refine up_loop0 (fun k (s : Int) i => laws_heldIntS.l0 k (patInt a n) s (i : Int)) n (fun i s => s = a + 1 * (i : Int)) (fun r => r = some (a + 1 * n)) ?_ ?_ k a ?_ hk
  · rintro k s i hi rfl
    left
    exact ⟨_, rfl, heldIntS_step a n i k hi h0 ha hl⟩
  · rintro k s rfl
    simp only [laws_heldIntS.l0]
    rw [if_neg (by omega)]
  · simp

theorem halves (a b : Int) (ha : -9223372036854775808 ≤ a ∧ a ≤ 9223372036854775807) (hb : 0 ≤ b ∧ b ≤ 18446744073709551615) : ∃ A : Int, Rng A ∧ a = wh A ∧ b = wl A :=
  ⟨a * 18446744073709551616 + b, ⟨by omega, by omega⟩, by unfold wh wrap64; omega, by unfold wl; omega⟩
theorem done_both (a b N S mi ma : Int) (l : List Int) (hS : Rng S) (hmi : inr mi) (hr : ∀ x ∈ l, inr x) : ∃ (u : List Int) (f : Bool), u.length ≤ 4 ∧ Evt (fun k => spec_AggDone.f k a b N (wh S) (wl S) mi ma l) (u, f) ∧ Evt (fun k => impl_AggDone.f k a b N (wh S) (wl S) mi ma l) (u, f) := by
  obtain ⟨r, h1, h2, h3⟩ := both N S mi ma l hS hmi hr
  have js : Evt (fun k => spec_AggDone.j0 k a b true N (wh S) (wl S) mi ma l) ([], false) := Evt.done fun k => by simp only [spec_AggDone.j0, if_true]
  have sp : ∀ x, Evt (fun k => if r = true then (if N = 0 then (spec_AggDone.j0 k a b true N (wh S) (wl S) mi ma l) else ((spec_AggKind.f a b).bind fun t278 => (spec_AggDone.j0 k a b (!t278) N (wh S) (wl S) mi ma l))) else (spec_AggDone.j0 k a b true N (wh S) (wl S) mi ma l)) x → Evt (fun k => spec_AggDone.f k a b N (wh S) (wl S) mi ma l) x := fun x h =>
    Evt.bind (f := fun k => spec_AggOk.f k N (wh S) (wl S) mi ma l) (g := fun t277 k => if t277 = true then (if N = 0 then (spec_AggDone.j0 k a b true N (wh S) (wl S) mi ma l) else ((spec_AggKind.f a b).bind fun t278 => (spec_AggDone.j0 k a b (!t278) N (wh S) (wl S) mi ma l))) else (spec_AggDone.j0 k a b true N (wh S) (wl S) mi ma l)) h1 h
  have ip : ∀ x, Evt (fun k => if r = true then (if N = 0 then (some (([] : List Int), false)) else ((impl_isAggKind.f a b).bind fun t396 => (if t396 = true then ((impl_done.f k a b N (wh S) (wl S) mi ma l).bind fun bt397 => (some (bt397.1, bt397.2))) else (some (([] : List Int), false))))) else (some (([] : List Int), false))) x → Evt (fun k => impl_AggDone.f k a b N (wh S) (wl S) mi ma l) x := fun x h =>
    Evt.bind (f := fun k => impl_isAgg.f k N (wh S) (wl S) mi ma l) (g := fun t395 k => if t395 = true then (if N = 0 then (some (([] : List Int), false)) else ((impl_isAggKind.f a b).bind fun t396 => (if t396 = true then ((impl_done.f k a b N (wh S) (wl S) mi ma l).bind fun bt397 => (some (bt397.1, bt397.2))) else (some (([] : List Int), false))))) else (some (([] : List Int), false))) h2 h
  by_cases c : r = true ∧ N ≠ 0 ∧ kindB a b = true
  · obtain ⟨c1, c2, c3⟩ := c
    obtain ⟨hN, hl⟩ := (h3 c1).resolve_left c2
    obtain ⟨u, f, u1, u2, u3⟩ := done_ev a b N S mi ma l hS hN hl c3
    refine ⟨u, f, u1, sp _ (u2.congr fun k => ?_), ip _ (u3.congr fun k => ?_)⟩
    · rw [if_pos c1, if_neg c2, kind_spec, c3]; rfl
    · rw [if_pos c1, if_neg c2, kind_impl, c3]
      simp only [Option.bind_some, if_true]
      cases impl_done.f k a b N (wh S) (wl S) mi ma l <;> rfl
  · refine ⟨[], false, by simp, sp _ (js.congr fun k => ?_), ip _ ((Evt.const _).congr fun k => ?_)⟩
    · by_cases c1 : r = true
      · rw [if_pos c1]
        by_cases c2 : N = 0
        · rw [if_pos c2]
        · rw [if_neg c2, kind_spec, Bool.eq_false_iff.mpr (fun g => c ⟨c1, c2, g⟩)]; rfl
      · rw [if_neg c1]
    · by_cases c1 : r = true
      · rw [if_pos c1]
        by_cases c2 : N = 0
        · rw [if_pos c2]
        · rw [if_neg c2, kind_impl, Bool.eq_false_iff.mpr (fun g => c ⟨c1, c2, g⟩)]; rfl
      · rw [if_neg c1]

theorem FnExactAggDone : Say.FnExactAggDone := by
  intro c d N a b mi ma l hc hd hN ha hb hmi hma hl hr
  obtain ⟨S, hS, rfl, rfl⟩ := halves a b ha hb
  refine Evt.ex (r := true) ?_
  by_cases hs : (1048576 : Int) < l.length
  · refine (Evt.const true).congr fun k => ?_
    unfold laws_FnExactAggDone.f laws_szAgg.f laws_szIntS.f
    rw [w64 (by omega) (by omega), if_pos (show (1048576 : Int) - l.length < 0 by omega)]
    rfl
  · have hl' : l.length ≤ 1048576 := by omega
    obtain ⟨u, f, hu, h1, h2⟩ := done_both c d N S mi ma l hS hmi hr
    obtain ⟨K3, t3⟩ := h1
    obtain ⟨K4, t4⟩ := h2
    simp only at t3 t4
    have ta : ∀ k, l.length < k → laws_toAgg.f k N (wh S) (wl S) mi ma l = some (N, wh S, wl S, mi, ma, l) := fun k hk => by
      unfold laws_toAgg.f laws_toWide.f
      rw [toIntS_eq l k hk hl']; rfl
    have te : ∀ k, l.length < k → laws_eqAgg.f k N (wh S) (wl S) mi ma l N (wh S) (wl S) mi ma l = some true := fun k hk => by
      unfold laws_eqAgg.f laws_eqWide.f
      rw [eqIntS_refl l k hk (by omega)]
      simp
    have tm : ∀ k, l.length < k → laws_markAgg.f k N (wh S) (wl S) mi ma l 1 = some (1 + 1 * (l.length : Int), patInt 1 l.length) := fun k hk => by
      unfold laws_markAgg.f
      rw [markIntS_eq l 1 k hk (by omega) (by omega) (by omega)]; rfl
    refine ⟨K3 + K4 + l.length + 10, fun k hk => ?_⟩
    obtain ⟨j, rfl⟩ : ∃ j, k = j + 3 := ⟨k - 3, by omega⟩
    show laws_FnExactAggDone.f (j + 3) c d N (wh S) (wl S) mi ma l = some true
    unfold laws_FnExactAggDone.f laws_szAgg.f laws_szIntS.f
    rw [w64 (by omega) (by omega), if_neg (show ¬ (1048576 : Int) - l.length < 0 by omega)]
    simp only [Option.bind_some]
    rw [if_neg (show ¬ (1048576 : Int) - l.length < 0 by omega)]
    simp only [Option.bind_some]
    rw [if_neg (show ¬ (1048576 : Int) - l.length < 0 by omega)]
    have e1 : ¬ (1 + 1 * (l.length : Int) < 0) := by omega
    have e2 : ¬ (1 + 1 * (u.length : Int) < 0) := by omega
    simp only [ta (j + 3) (by omega), t3 (j + 3) (by omega), t4 (j + 3) (by omega), eqIntS_refl u (j + 3) (by omega) (by omega), Option.bind_some, bne_self_eq_false, if_true]
    simp only [laws_FnExactAggDone.j0, ta (j + 2) (by omega), te (j + 2) (by omega), tm (j + 2) (by omega), eqIntS_refl u (j + 2) (by omega) (by omega), Option.bind_some, bne_self_eq_false, Bool.false_eq_true, if_false, if_true, if_neg e1]
    simp only [laws_FnExactAggDone.j1, ta (j + 1) (by omega), t4 (j + 1) (by omega), eqIntS_refl u (j + 1) (by omega) (by omega), markIntS_eq u 1 (j + 1) (by omega) (by omega) (by omega) (by omega), heldIntS_eq 1 u.length (j + 1) (by omega) (by omega) (by omega) (by omega), Option.bind_some, bne_self_eq_false, Bool.false_eq_true, if_false, if_true, if_neg e2]
    simp only [laws_FnExactAggDone.j2, heldIntS_eq 1 u.length j (by omega) (by omega) (by omega) (by omega), Option.bind_some, Bool.false_eq_true, if_false, if_true, if_neg e2]

end Go.Proofs.Ytnnahpmnkpmopaa.Pure
