/- Proved: for every aggregate the program's AggJoin answers as the reference's. No other condition. -/
import Derived.Test.YtnnahpmnkpmopaaZAggJoinSayFnExactAggJoin
import Derived.Test.YtnnahpmnkpmopaaZAggJoinBase
import Derived.Test.YtnnahpmnkpmopaaZAggJoinEv
import Derived.Test.YtnnahpmnkpmopaaZAggJoinEw
namespace Go.Proofs.Ytnnahpmnkpmopaa.Pure
open Go.RowKit Go.Proofs.Ytnnahpmnkpmopaa.QFnExactAggJoin Go.Proofs.YtnnahpmnkpmopaaW.PrintWords Go.Proofs.YtnnahpmnkpmopaaW.PrintLast Go.Proofs.YtnnahpmnkpmopaaW.PrintMore
open Go.Proofs.Ytnnahpmnkpmopaa.Base
set_option linter.unusedSimpArgs false
set_option linter.unusedVariables false

open Go.Proofs.Ytnnahpmnkpmopaa.Evt
/-- The halves of a whole number, as a wide one has them. -/
def wh (A : Int) : Int := wrap64 (A / 18446744073709551616)
def wl (A : Int) : Int := A % 18446744073709551616
theorem carry (a b c : Int) (h : c = a + b) : (c % 18446744073709551616 = a % 18446744073709551616 + b % 18446744073709551616 ∧ c / 18446744073709551616 = a / 18446744073709551616 + b / 18446744073709551616) ∨ (c % 18446744073709551616 + 18446744073709551616 = a % 18446744073709551616 + b % 18446744073709551616 ∧ c / 18446744073709551616 = a / 18446744073709551616 + b / 18446744073709551616 + 1) := by omega
theorem hi0 (x y : Int) : wrap64 (IntKind.u64.wrap ((IntKind.u64.wrap (wrap64 x)) + (IntKind.u64.wrap (wrap64 y)))) = wrap64 (x + y) := by
  simp only [wu64]
  unfold wrap64
  omega
theorem hi1 (x y : Int) : wrap64 (IntKind.u64.wrap ((IntKind.u64.wrap ((IntKind.u64.wrap (wrap64 x)) + (IntKind.u64.wrap (wrap64 y)))) + 1)) = wrap64 (x + y + 1) := by
  simp only [wu64]
  unfold wrap64
  omega
theorem spec_add_wide (A B : Int) : spec_WideAdd.f (wh A) (wl A) (wh B) (wl B) = some (wh (A + B), wl (A + B)) := by
  unfold spec_WideAdd.f wh wl
  rw [hi0, hi1]
  rcases carry A B (A + B) rfl with ⟨h1, h2⟩ | ⟨h1, h2⟩
  · have e : IntKind.u64.wrap (A % 18446744073709551616 + B % 18446744073709551616) = (A + B) % 18446744073709551616 := by rw [wu64]; omega
    rw [e, if_neg (by omega), h2]
  · have e : IntKind.u64.wrap (A % 18446744073709551616 + B % 18446744073709551616) = (A + B) % 18446744073709551616 := by rw [wu64]; omega
    rw [e, if_pos (by omega), h2]
theorem wh0 : wh 0 = 0 := by decide +kernel
theorem wl1 : wl 1 = 1 := by decide +kernel
theorem wl0 : wl 0 = 0 := by decide +kernel
theorem wh1 : wh 1 = 0 := by decide +kernel
theorem spec_neg_wide (A : Int) : spec_WideNeg.f (wh A) (wl A) = some (wh (-A), wl (-A)) := by
  unfold spec_WideNeg.f
  have e1 : wrap64 ((-1) - wh A) = wh (-A - 1) := by unfold wh wrap64; omega
  have e2 : IntKind.u64.wrap (18446744073709551615 - wl A) = wl (-A - 1) := by rw [wu64]; unfold wl; omega
  have h := spec_add_wide (-A - 1) 1
  rw [wh1, wl1] at h
  rw [e1, e2, h]
  simp only [Option.bind_some]
  rw [show -A - 1 + 1 = -A by omega]
theorem spec_of_wide (n : Int) (h : -9223372036854775808 ≤ n ∧ n ≤ 9223372036854775807) : spec_WideOf.f n = some (wh n, wl n) := by
  unfold spec_WideOf.f
  rw [wu64]
  have e : n % 18446744073709551616 = wl n := rfl
  by_cases c : n < 0
  · rw [if_pos c, e]
    have : wh n = -1 := by unfold wh wrap64; omega
    rw [this]
  · rw [if_neg c, e]
    have : wh n = 0 := by unfold wh wrap64; omega
    rw [this]
def fits (A : Int) : Bool := decide (-9223372036854775808 ≤ A) && decide (A ≤ 9223372036854775807)
/-- Not rising. -/
def Desc (l : List Int) : Prop := l.Pairwise (fun a b => b ≤ a)
theorem desc_get {l : List Int} (h : Desc l) (i j : Nat) (hj : j < l.length) (hij : i ≤ j) : l[j] ≤ l[i] := by
  rcases Nat.lt_or_eq_of_le hij with c | c
  · exact List.pairwise_iff_getElem.mp h i j (by omega) hj c
  · subst c; exact Int.le_refl _
theorem desc_adj {l : List Int} (h : ∀ i : Nat, (hi : i + 1 < l.length) → l[i + 1] ≤ l[i]) : Desc l := by
  refine List.pairwise_iff_getElem.mpr ?_
  intro i j hi hj hij
  obtain ⟨d, rfl⟩ : ∃ d, j = i + 1 + d := ⟨j - i - 1, by omega⟩
  induction d with
  | zero => exact h i (by omega)
  | succ d ih => exact Int.le_trans (h (i + 1 + d) (by omega)) (ih (by omega) (by omega))
theorem pick_ev (all out : List Int) (h0 : 0 < all.length) (hl : all.length ≤ 4194304) (ho : out.length ≤ 16) :
    ∃ at_ : Nat, at_ < all.length ∧ (∀ j : Nat, j < all.length → rd all (j : Int) ≤ rd all (at_ : Int)) ∧ (Desc all → at_ = 0) ∧
      ∀ r, Evt (fun k => spec_TopOf.l0 k (all.take at_ ++ all.drop (at_ + 1)) (out ++ [rd all (at_ : Int)])) r → Evt (fun k => spec_TopOf.l1 k all out 0 0) r := by
  have go : ∀ (m i a : Nat), i + m = all.length → a < all.length → (∀ j : Nat, j < i → rd all (j : Int) ≤ rd all (a : Int)) → (Desc all → a = 0) →
      ∃ at_ : Nat, at_ < all.length ∧ (∀ j : Nat, j < all.length → rd all (j : Int) ≤ rd all (at_ : Int)) ∧ (Desc all → at_ = 0) ∧
        ∀ r, Evt (fun k => spec_TopOf.l0 k (all.take at_ ++ all.drop (at_ + 1)) (out ++ [rd all (at_ : Int)])) r → Evt (fun k => spec_TopOf.l1 k all out (a : Int) (i : Int)) r := by
    intro m
    induction m with
    | zero =>
      intro i a hi ha hj hd
      refine ⟨a, ha, fun j hj' => hj j (by omega), hd, fun r hr => Evt.step hr fun k => ?_⟩
      have w : wrap64 ((a : Int) + 1) = ((a + 1 : Nat) : Int) := (w64 (by omega) (by omega)).trans (by omega)
      have n1 : ([] : List Int).length + (all.take (a : Int).toNat).length < 17592186044416 := by
        rw [List.length_take, List.length_nil, Int.toNat_natCast]; omega
      have n2 : (([] : List Int) ++ all.take (a : Int).toNat).length + (all.drop ((a + 1 : Nat) : Int).toNat).length < 17592186044416 := by
        rw [List.nil_append, List.length_take, List.length_drop, Int.toNat_natCast, Int.toNat_natCast]; omega
      simp only [spec_TopOf.l1]
      rw [if_neg (show ¬ (i : Int) < (all.length : Int) by omega), if_pos (show (0 : Int) ≤ (a : Int) by omega), if_pos (show (a : Int) < (all.length : Int) by omega), if_pos (show out.length < 17592186044416 by omega)]
      simp only [Option.bind_some, w]
      rw [if_pos (show (a : Int) ≤ (all.length : Int) by omega), if_pos n1, if_pos (show (0 : Int) ≤ ((a + 1 : Nat) : Int) by omega), if_pos (show ((a + 1 : Nat) : Int) ≤ (all.length : Int) by omega), if_pos n2]
      rfl
    | succ m ih =>
      intro i a hi ha hj hd
      have hi' : i < all.length := by omega
      have w : wrap64 ((i : Int) + 1) = ((i + 1 : Nat) : Int) := (w64 (by omega) (by omega)).trans (by omega)
      by_cases c : rd all (i : Int) > rd all (a : Int)
      · obtain ⟨t, t1, t2, t3, t4⟩ := ih (i + 1) i (by omega) hi' (fun j hj' => by
            by_cases e : j = i
            · subst e; exact Int.le_refl _
            · have := hj j (by omega); omega) (fun h => by
            have a0 := hd h
            subst a0
            have := desc_get h 0 i hi' (by omega)
            rw [rd_nat all i hi', rd_nat all 0 ha] at c
            omega)
        refine ⟨t, t1, t2, t3, fun r hr => Evt.step (t4 r hr) fun k => ?_⟩
        simp only [spec_TopOf.l1]
        rw [if_pos (by omega), if_pos (by omega), if_pos (by omega), if_pos (by omega), if_pos c, w]
      · obtain ⟨t, t1, t2, t3, t4⟩ := ih (i + 1) a (by omega) ha (fun j hj' => by
            by_cases e : j = i
            · subst e; omega
            · exact hj j (by omega)) hd
        refine ⟨t, t1, t2, t3, fun r hr => Evt.step (t4 r hr) fun k => ?_⟩
        simp only [spec_TopOf.l1]
        rw [if_pos (by omega), if_pos (by omega), if_pos (by omega), if_pos (by omega), if_neg c, w]
  exact go all.length 0 0 (by omega) h0 (fun j hj => by omega) (fun _ => rfl)
theorem sort_ev : ∀ (m : Nat) (all out : List Int), all.length = m → out.length + m ≤ 4 → Desc out → (∀ x ∈ all, ∀ y ∈ out, x ≤ y) →
    ∃ res, Evt (fun k => spec_TopOf.l0 k all out) res ∧ Desc res ∧ (Desc all → res = out ++ all)
  | 0, all, out, hm, hl, hd, _ => by
    obtain rfl : all = [] := List.eq_nil_of_length_eq_zero hm
    refine ⟨out, ?_, hd, fun _ => by simp⟩
    refine Evt.step (g := fun k => spec_TopOf.j1 k [] out false) (Evt.done fun k => by simp only [spec_TopOf.j1, Bool.false_eq_true, if_false]) fun k => ?_
    simp only [spec_TopOf.l0]
    have : decide ((([] : List Int).length : Int) > 0) = false := by decide
    rw [this, ite_self]
  | m + 1, all, out, hm, hl, hd, hx => by
    obtain ⟨a, a1, a2, a3, a4⟩ := pick_ev all out (by omega) (by omega) (by omega)
    have ea : rd all (a : Int) = all[a] := rd_nat all a a1
    have hlen : (all.take a ++ all.drop (a + 1)).length = m := by rw [List.length_append, List.length_take, List.length_drop]; omega
    have hmem : ∀ x ∈ all.take a ++ all.drop (a + 1), x ∈ all := by
      intro x hx
      rcases List.mem_append.mp hx with g | g
      · exact List.mem_of_mem_take g
      · exact List.mem_of_mem_drop g
    have hmax : ∀ x ∈ all, x ≤ rd all (a : Int) := by
      intro x hx
      obtain ⟨j, hj, rfl⟩ := List.getElem_of_mem hx
      have := a2 j hj
      rw [rd_nat all j hj] at this
      exact this
    have hd' : Desc (out ++ [rd all (a : Int)]) := by
      refine List.pairwise_append.mpr ⟨hd, List.pairwise_singleton _ _, fun y hy z hz => ?_⟩
      rw [List.mem_singleton.mp hz, ea]
      exact hx _ (List.getElem_mem _) y hy
    obtain ⟨res, r1, r2, r3⟩ := sort_ev m (all.take a ++ all.drop (a + 1)) (out ++ [rd all (a : Int)]) hlen (by rw [List.length_append]; simp only [List.length_cons, List.length_nil]; omega) hd' (by
      intro x hxm y hy
      rcases List.mem_append.mp hy with g | g
      · exact hx x (hmem x hxm) y g
      · rw [List.mem_singleton.mp g]; exact hmax x (hmem x hxm))
    refine ⟨res, ?_, r2, fun h => ?_⟩
    · refine Evt.step (g := fun k => spec_TopOf.j1 k all out true) (Evt.step (a4 res r1) fun k => by simp only [spec_TopOf.j1, if_true]) fun k => ?_
      simp only [spec_TopOf.l0]
      rw [if_pos (by omega), decide_eq_true (by omega)]
    · have a0 := a3 h
      subst a0
      cases all with
      | nil => simp at hm
      | cons x t =>
        have e := r3 (by simp only [List.take_zero, List.nil_append, Nat.zero_add, List.drop_succ_cons, List.drop_zero]; exact (List.pairwise_cons.mp h).2)
        rw [e]
        simp [rd]

/-- Sorted, the greatest first. -/
def srt (l : List Int) : List Int := (l.mergeSort (fun x y => decide (x ≤ y))).reverse
/-- The greatest four. -/
def top4 (l : List Int) : List Int := (srt l).take 4
theorem srt_perm (l : List Int) : (srt l).Perm l := (List.reverse_perm _).trans (List.mergeSort_perm _ _)
theorem srt_desc (l : List Int) : Desc (srt l) := by
  have h := List.pairwise_mergeSort (le := fun x y : Int => decide (x ≤ y)) (fun a b c h1 h2 => by simp only [decide_eq_true_eq] at *; omega) (fun a b => by simp only [Bool.or_eq_true, decide_eq_true_eq]; omega) l
  refine List.pairwise_reverse.mpr (h.imp fun g => ?_)
  simpa using g
theorem desc_uniq {l m : List Int} (h1 : Desc l) (h2 : Desc m) (h : l.Perm m) : l = m :=
  List.Perm.eq_of_pairwise (le := fun a b : Int => b ≤ a) (fun a b _ _ g1 g2 => Int.le_antisymm g2 g1) h1 h2 h
theorem srt_of_desc {l : List Int} (h : Desc l) : srt l = l := desc_uniq (srt_desc l) h (srt_perm l)
theorem srt_congr {l m : List Int} (h : l.Perm m) : srt l = srt m := desc_uniq (srt_desc l) (srt_desc m) (((srt_perm l).trans h).trans (srt_perm m).symm)
theorem srt_length (l : List Int) : (srt l).length = l.length := (srt_perm l).length_eq
theorem top4_desc (l : List Int) : Desc (top4 l) := (srt_desc l).sublist (List.take_sublist 4 (srt l))
theorem top4_length (l : List Int) : (top4 l).length ≤ 4 := by unfold top4; rw [List.length_take]; omega
theorem top4_mem {l : List Int} {x : Int} (h : x ∈ top4 l) : x ∈ l := (srt_perm l).mem_iff.mp (List.mem_of_mem_take h)
theorem top4_of_desc {l : List Int} (h : Desc l) (hl : l.length ≤ 4) : top4 l = l := by unfold top4; rw [srt_of_desc h, List.take_of_length_le hl]
/-- The greatest one stands ahead. -/
theorem srt_pick (l : List Int) (a : Nat) (ha : a < l.length) (hm : ∀ x ∈ l, x ≤ l[a]) : srt l = l[a] :: srt (l.take a ++ l.drop (a + 1)) := by
  refine desc_uniq (srt_desc l) (List.pairwise_cons.mpr ⟨fun y hy => ?_, srt_desc _⟩) ?_
  · have := (srt_perm _).mem_iff.mp hy
    rcases List.mem_append.mp this with g | g
    · exact hm y (List.mem_of_mem_take g)
    · exact hm y (List.mem_of_mem_drop g)
  · have e : l = l.take a ++ l[a] :: l.drop (a + 1) := by rw [← List.drop_eq_getElem_cons ha, List.take_append_drop]
    have p : l.Perm (l[a] :: (l.take a ++ l.drop (a + 1))) := by
      have q := List.perm_middle (a := l[a]) (l₁ := l.take a) (l₂ := l.drop (a + 1))
      rw [← e] at q
      exact q
    exact (srt_perm l).trans (p.trans ((srt_perm _).symm.cons _))
/-- The reference's rounds: what has been taken, then the greatest of what is left. -/
theorem pick4_ev : ∀ (m : Nat) (all out : List Int), out.length + m = 4 → all.length ≤ 4194304 → Evt (fun k => spec_TopOf.l0 k all out) (out ++ (srt all).take m)
  | 0, all, out, hm, hl => by
    refine Evt.step (g := fun k => spec_TopOf.j1 k all out false) (Evt.done fun k => by simp only [spec_TopOf.j1, Bool.false_eq_true, if_false, List.take_zero, List.append_nil]) fun k => ?_
    simp only [spec_TopOf.l0]
    rw [if_neg (by omega)]
  | m + 1, all, out, hm, hl => by
    by_cases h0 : all.length = 0
    · obtain rfl : all = [] := List.eq_nil_of_length_eq_zero h0
      have e : srt ([] : List Int) = [] := List.eq_nil_of_length_eq_zero (srt_length [])
      rw [e, List.take_nil, List.append_nil]
      refine Evt.step (g := fun k => spec_TopOf.j1 k [] out false) (Evt.done fun k => by simp only [spec_TopOf.j1, Bool.false_eq_true, if_false]) fun k => ?_
      simp only [spec_TopOf.l0]
      have : decide ((([] : List Int).length : Int) > 0) = false := by decide
      rw [this, ite_self]
    · obtain ⟨a, a1, a2, _, a4⟩ := pick_ev all out (by omega) hl (by omega)
      have ea : rd all (a : Int) = all[a] := rd_nat all a a1
      have hmax : ∀ x ∈ all, x ≤ all[a] := by
        intro x hx
        obtain ⟨j, hj, rfl⟩ := List.getElem_of_mem hx
        have := a2 j hj
        rw [rd_nat all j hj, ea] at this
        exact this
      have hlen : (all.take a ++ all.drop (a + 1)).length ≤ 4194304 := by rw [List.length_append, List.length_take, List.length_drop]; omega
      have ih := pick4_ev m (all.take a ++ all.drop (a + 1)) (out ++ [all[a]]) (by rw [List.length_append]; simp only [List.length_cons, List.length_nil]; omega) hlen
      have e : out ++ (srt all).take (m + 1) = (out ++ [all[a]]) ++ (srt (all.take a ++ all.drop (a + 1))).take m := by
        rw [srt_pick all a a1 hmax, List.take_succ_cons, List.append_assoc]; rfl
      rw [e]
      rw [ea] at a4
      refine Evt.step (g := fun k => spec_TopOf.j1 k all out true) (Evt.step (a4 _ ih) fun k => by simp only [spec_TopOf.j1, if_true]) fun k => ?_
      simp only [spec_TopOf.l0]
      rw [if_pos (by omega), decide_eq_true (by omega)]
theorem topof_ev (l m : List Int) (hl : l.length + m.length ≤ 4194304) : Evt (fun k => spec_TopOf.f k l m) (top4 (l ++ m)) := by
  have h := pick4_ev 4 (l ++ m) [] rfl (by rw [List.length_append]; exact hl)
  rw [List.nil_append] at h
  refine h.congr fun k => ?_
  unfold spec_TopOf.f
  simp only [Option.bind_some, List.nil_append, List.length_nil]
  rw [if_pos (by omega), if_pos (by omega)]
/-- A number comes to its place. -/
theorem same_ev (l : List Int) (hl : l.length ≤ 4) : ∃ res, Evt (fun k => spec_TopOf.f k l []) res ∧ ∃ b, Evt (fun k => spec_l07Same.f k res l) b ∧ (b = true ↔ Desc l) := by
  obtain ⟨res, r1, r2, r3⟩ := sort_ev l.length l [] rfl (by simpa using hl) List.Pairwise.nil (by simp)
  refine ⟨res, ?_, ?_⟩
  · refine r1.congr fun k => ?_
    unfold spec_TopOf.f
    simp only [Option.bind_some, List.nil_append, List.append_nil, List.length_nil]
    rw [if_pos (by omega), if_pos (by omega)]
  · by_cases hlen : res.length = l.length
    · refine ⟨allB (fun i => decide (rd res i = rd l i)) l.length 0, ?_, ?_⟩
      · have s : Evt (fun k => spec_l07Same.l0 k res l 0) (if allB (fun i => decide (rd res i = rd l i)) l.length 0 = true then true else false) := by
          refine Evt.allx (L := fun i k => spec_l07Same.l0 k res l i) (N := (l.length : Int)) ?_ ?_ l.length 0 (Int.le_refl 0) (by omega)
          · exact Evt.done fun k => by simp only [spec_l07Same.l0]; rw [if_neg (by omega)]
          · intro i i0 hi r hr
            exact Evt.ite hr (Evt.const false) fun k => by
              simp only [spec_l07Same.l0]
              rw [if_pos (by omega), if_pos i0, if_pos hi, w64 (by omega) (by omega)]
              by_cases c : rd res i = rd l i
              · rw [if_pos c, decide_eq_true c]; rfl
              · rw [if_neg c, decide_eq_false c]; rfl
        have s2 : Evt (fun k => spec_l07Same.l0 k res l 0) (allB (fun i => decide (rd res i = rd l i)) l.length 0) := by
          cases hx : allB (fun i => decide (rd res i = rd l i)) l.length 0 <;> rw [hx] at s <;> exact s
        exact s2.congr fun k => by
          unfold spec_l07Same.f
          rw [if_pos (by omega)]
      · rw [allB_iff]
        constructor
        · intro h
          have e : res = l := by
            refine List.ext_getElem hlen fun i h1 h2 => ?_
            have := h (i : Int) (by omega) (by omega)
            rw [decide_eq_true_eq, rd_nat res i h1, rd_nat l i h2] at this
            exact this
          rw [← e]; exact r2
        · intro h i i0 hi
          rw [r3 h, List.nil_append]
          exact decide_eq_true rfl
    · refine ⟨false, (Evt.const false).congr fun k => by unfold spec_l07Same.f; rw [if_neg (by omega)], ?_⟩
      constructor
      · intro h; cases h
      · intro h
        exfalso
        apply hlen
        rw [r3 h, List.nil_append]
theorem uw_id (x : Int) (h0 : 0 ≤ x) (h1 : x < 18446744073709551616) : IntKind.u64.wrap x = x := by rw [wu64]; omega
theorem and_low (x : Int) (h0 : 0 ≤ x) (h1 : x < 18446744073709551616) : Go.bits .and .u64 x 4294967295 = x % 4294967296 := by
  obtain ⟨a, rfl⟩ : ∃ a : Nat, x = (a : Int) := ⟨x.toNat, by omega⟩
  have ha : a < 18446744073709551616 := by omega
  unfold Go.bits
  have e1 : (BitVec.ofInt 64 (a : Int)).toNat = a := by simp; omega
  have e2 : (BitVec.ofInt 64 (4294967295 : Int)).toNat = 4294967295 := by decide +kernel
  have e3 : ((BitVec.ofInt 64 (a : Int)) &&& (BitVec.ofInt 64 (4294967295 : Int))).toNat = a % 4294967296 := by
    rw [BitVec.toNat_and, e1, e2]
    exact Nat.and_two_pow_sub_one_eq_mod a 32
  refine (congrArg (fun z : Nat => IntKind.u64.wrap (z : Int)) e3).trans ?_
  show IntKind.u64.wrap ((a % 4294967296 : Nat) : Int) = _
  rw [wu64]
  omega
theorem not_i64 (x : Int) (h : -9223372036854775808 ≤ x ∧ x ≤ 9223372036854775807) : Go.bits .xor .i64 (-1) x = -1 - x := by
  show IntKind.i64.wrap ((BitVec.ofInt 64 (-1) ^^^ BitVec.ofInt 64 x).toNat : Int) = _
  have h1 : BitVec.ofInt 64 (-1) = BitVec.allOnes 64 := by decide
  rw [h1, BitVec.allOnes_xor, BitVec.toNat_not, BitVec.toNat_ofInt]
  have e : ((2 ^ 64 - 1 - (x % ((2 ^ 64 : Nat) : Int)).toNat : Nat) : Int) = 18446744073709551615 - x % 18446744073709551616 := by
    have p : ((2 ^ 64 : Nat) : Int) = 18446744073709551616 := by decide +kernel
    have q : (2 ^ 64 : Nat) = 18446744073709551616 := by decide +kernel
    rw [p, q]
    omega
  rw [e]
  simp [IntKind.wrap, IntKind.bits, IntKind.signed]
  omega
theorem not_u64 (x : Int) (h : 0 ≤ x ∧ x ≤ 18446744073709551615) : Go.bits .xor .u64 18446744073709551615 x = 18446744073709551615 - x := by
  show IntKind.u64.wrap ((BitVec.ofInt 64 18446744073709551615 ^^^ BitVec.ofInt 64 x).toNat : Int) = _
  have h1 : BitVec.ofInt 64 18446744073709551615 = BitVec.allOnes 64 := by decide
  rw [h1, BitVec.allOnes_xor, BitVec.toNat_not, BitVec.toNat_ofInt]
  have e : ((2 ^ 64 - 1 - (x % ((2 ^ 64 : Nat) : Int)).toNat : Nat) : Int) = 18446744073709551615 - x % 18446744073709551616 := by
    have p : ((2 ^ 64 : Nat) : Int) = 18446744073709551616 := by decide +kernel
    have q : (2 ^ 64 : Nat) = 18446744073709551616 := by decide +kernel
    rw [p, q]
    omega
  rw [e, wu64]
  omega
/-- The program's sum is the reference's. -/
theorem add_same (a b c d : Int) (hb : 0 ≤ b ∧ b ≤ 18446744073709551615) (hd : 0 ≤ d ∧ d ≤ 18446744073709551615) : impl_WideAdd.f a b c d = spec_WideAdd.f a b c d := by
  unfold impl_WideAdd.f spec_WideAdd.f
  rw [if_pos ⟨hb.1, hb.2, hd.1, hd.2⟩]
  simp only [wu64]
  by_cases c1 : (b + d) % 18446744073709551616 < b
  · rw [if_pos c1]
    have e : (b + d) / 18446744073709551616 = 1 := by omega
    rw [e]
    congr 2
    unfold wrap64
    omega
  · rw [if_neg c1]
    have e : (b + d) / 18446744073709551616 = 0 := by omega
    rw [e]
    congr 2
    unfold wrap64
    omega
theorem spec_add_some (a b c d : Int) : ∃ r, spec_WideAdd.f a b c d = some r := by
  unfold spec_WideAdd.f
  split <;> exact ⟨_, rfl⟩
theorem impl_neg_wide (A : Int) : impl_WideNeg.f (wh A) (wl A) = some (wh (-A), wl (-A)) := by
  have h1 : -9223372036854775808 ≤ wh A ∧ wh A ≤ 9223372036854775807 := by unfold wh wrap64; omega
  have h2 : 0 ≤ wl A ∧ wl A ≤ 18446744073709551615 := by unfold wl; omega
  rw [← spec_neg_wide A]
  unfold spec_WideNeg.f impl_WideNeg.f
  rw [not_i64 _ h1, not_u64 _ h2, add_same _ _ _ _ (by omega) (by omega)]
  have e1 : wrap64 ((-1) - wh A) = -1 - wh A := w64 (by omega) (by omega)
  have e2 : IntKind.u64.wrap (18446744073709551615 - wl A) = 18446744073709551615 - wl A := uw_id _ (by omega) (by omega)
  rw [e1, e2]
theorem mul64_eq (x y : Int) (hx : 0 ≤ x ∧ x < 18446744073709551616) (hy : 0 ≤ y ∧ y < 18446744073709551616) : bits_Mul64.f x y = some (x * y / 18446744073709551616, x * y % 18446744073709551616) := by
  unfold bits_Mul64.f
  rw [and_low y hy.1 hy.2, and_low x hx.1 hx.2]
  have bd : ∀ a b : Int, 0 ≤ a → a ≤ 4294967295 → 0 ≤ b → b ≤ 4294967295 → 0 ≤ a * b ∧ a * b ≤ 18446744065119617025 := by
    intro a b a0 a1 b0 b1
    refine ⟨Int.mul_nonneg a0 b0, ?_⟩
    have := Int.mul_le_mul a1 b1 b0 (by decide)
    omega
  have ex : x = x / 4294967296 * 4294967296 + x % 4294967296 := by omega
  have ey : y = y / 4294967296 * 4294967296 + y % 4294967296 := by omega
  have hx1 : 0 ≤ x / 4294967296 ∧ x / 4294967296 ≤ 4294967295 := by omega
  have hx0 : 0 ≤ x % 4294967296 ∧ x % 4294967296 ≤ 4294967295 := by omega
  have hy1 : 0 ≤ y / 4294967296 ∧ y / 4294967296 ≤ 4294967295 := by omega
  have hy0 : 0 ≤ y % 4294967296 ∧ y % 4294967296 ≤ 4294967295 := by omega
  generalize x / 4294967296 = x1 at *
  generalize x % 4294967296 = x0 at *
  generalize y / 4294967296 = y1 at *
  generalize y % 4294967296 = y0 at *
  have p11 := bd x1 y1 hx1.1 hx1.2 hy1.1 hy1.2
  have p10 := bd x1 y0 hx1.1 hx1.2 hy0.1 hy0.2
  have p01 := bd x0 y1 hx0.1 hx0.2 hy1.1 hy1.2
  have p00 := bd x0 y0 hx0.1 hx0.2 hy0.1 hy0.2
  have e : x * y = x1 * y1 * 18446744073709551616 + (x1 * y0 + x0 * y1) * 4294967296 + x0 * y0 := by
    rw [ex, ey, Int.add_mul, Int.mul_add, Int.mul_add]
    have a1 : x1 * 4294967296 * (y1 * 4294967296) = x1 * y1 * 18446744073709551616 := by
      rw [Int.mul_assoc, Int.mul_left_comm 4294967296 y1, show (4294967296 : Int) * 4294967296 = 18446744073709551616 from rfl, Int.mul_assoc]
    have a2 : x1 * 4294967296 * y0 = x1 * y0 * 4294967296 := Int.mul_right_comm _ _ _
    have a3 : x0 * (y1 * 4294967296) = x0 * y1 * 4294967296 := (Int.mul_assoc _ _ _).symm
    rw [a1, a2, a3]
    omega
  rw [e]
  generalize x1 * y1 = q11 at *
  generalize x1 * y0 = q10 at *
  generalize x0 * y1 = q01 at *
  generalize x0 * y0 = q00 at *
  have w00 : IntKind.u64.wrap q00 = q00 := uw_id _ p00.1 (by omega)
  have w10 : IntKind.u64.wrap q10 = q10 := uw_id _ p10.1 (by omega)
  have w01 : IntKind.u64.wrap q01 = q01 := uw_id _ p01.1 (by omega)
  have w11 : IntKind.u64.wrap q11 = q11 := uw_id _ p11.1 (by omega)
  have wt : IntKind.u64.wrap (q10 + q00 / 4294967296) = q10 + q00 / 4294967296 := uw_id _ (by omega) (by omega)
  rw [w00, w10, w01, w11, wt, and_low _ (by omega) (by omega)]
  simp only [wu64]
  congr 2
  omega
def inr (a : Int) : Prop := -9223372036854775808 ≤ a ∧ a ≤ 9223372036854775807
theorem times_loop : ∀ (d k : Nat) (x P Q : Int), 0 ≤ x → x < 2 ^ d → x ≤ 18446744073709551615 → d < k → spec_l03Times.l0 k x (wh P) (wl P) (wh Q) (wl Q) = some (wh (P + x * Q), wl (P + x * Q)) := by
  intro d
  induction d with
  | zero =>
    intro k x P Q h0 h1 h2 hk
    obtain ⟨k, rfl⟩ : ∃ m, k = m + 1 := ⟨k - 1, by omega⟩
    have hx : x = 0 := by simp at h1; omega
    subst hx
    simp only [spec_l03Times.l0]
    rw [if_neg (by omega), Int.zero_mul, Int.add_zero]
  | succ d ih =>
    intro k x P Q h0 h1 h2 hk
    obtain ⟨k, rfl⟩ : ∃ m, k = m + 1 := ⟨k - 1, by omega⟩
    simp only [spec_l03Times.l0]
    by_cases c : x > 0
    rotate_left
    · have hx : x = 0 := by omega
      subst hx
      rw [if_neg (by omega), Int.zero_mul, Int.add_zero]
    rw [if_pos c, Int.tmod_eq_emod_of_nonneg h0, Int.tdiv_eq_ediv_of_nonneg h0]
    have e1 : IntKind.u64.wrap (x / 2) = x / 2 := by rw [wu64]; omega
    have hp : x / 2 < 2 ^ d := by
      rw [Int.pow_succ] at h1
      omega
    rw [e1]
    by_cases c2 : x % 2 = 1
    · rw [if_pos c2, spec_add_wide P Q, Option.bind_some, spec_add_wide Q Q, Option.bind_some, ih k (x / 2) (P + Q) (Q + Q) (by omega) hp (by omega) (by omega)]
      have hx : P + Q + x / 2 * (Q + Q) = P + x * Q := by
        generalize hy : x / 2 = y
        have : x = 2 * y + 1 := by omega
        rw [this]
        simp only [Int.add_mul, Int.mul_add, Int.one_mul, Int.mul_assoc]
        omega
      rw [hx]
    · rw [if_neg c2, spec_add_wide Q Q, Option.bind_some, ih k (x / 2) P (Q + Q) (by omega) hp (by omega) (by omega)]
      have hx : P + x / 2 * (Q + Q) = P + x * Q := by
        generalize hy : x / 2 = y
        have : x = 2 * y := by omega
        rw [this]
        simp only [Int.add_mul, Int.mul_add, Int.one_mul, Int.mul_assoc]
        omega
      rw [hx]
theorem spec_times (a b : Int) (ha : inr a) (hb : inr b) (k : Nat) (hk : 66 < k) : spec_l03Times.f k a b = some (wh (a * b), wl (a * b)) := by
  obtain ⟨k, rfl⟩ : ∃ m, k = m + 1 := ⟨k - 1, by omega⟩
  unfold inr at ha hb
  unfold spec_l03Times.f
  rw [spec_of_wide a ha]
  simp only [Option.bind_some, spec_l03Times.j0]
  have z0 := wh0
  have z1 := wl0
  by_cases c : b < 0
  · rw [if_pos c, spec_neg_wide]
    simp only [Option.bind_some]
    have e : IntKind.u64.wrap (-(IntKind.u64.wrap b)) = -b := by simp only [wu64]; omega
    have h := times_loop 64 k (-b) 0 (-a) (by omega) (by have : (2 : Int) ^ 64 = 18446744073709551616 := by decide +kernel
                                                         omega) (by omega) (by omega)
    rw [z0, z1] at h
    rw [e, h, Int.zero_add, Int.neg_mul_neg, Int.mul_comm]
  · rw [if_neg c]
    have e : IntKind.u64.wrap b = b := by simp only [wu64]; omega
    have h := times_loop 64 k b 0 a (by omega) (by have : (2 : Int) ^ 64 = 18446744073709551616 := by decide +kernel
                                                   omega) (by omega) (by omega)
    rw [z0, z1] at h
    rw [e, h, Int.zero_add, Int.mul_comm]
theorem fits_iff (A : Int) : fits A = true ↔ inr A := by
  unfold fits inr
  rw [Bool.and_eq_true, decide_eq_true_eq, decide_eq_true_eq]
theorem mul_small (a b : Int) (ha : inr a) (hb : inr b) : -170141183460469231731687303715884105728 ≤ a * b ∧ a * b < 170141183460469231731687303715884105728 := by
  unfold inr at ha hb
  have h1 : a.natAbs ≤ 9223372036854775808 := by omega
  have h2 : b.natAbs ≤ 9223372036854775808 := by omega
  have h3 := Nat.mul_le_mul h1 h2
  rw [← Int.natAbs_mul] at h3
  omega
def Rng (A : Int) : Prop := -170141183460469231731687303715884105728 ≤ A ∧ A < 170141183460469231731687303715884105728
def cmpv (a b : Int) : Int := if a < b then -1 else if a > b then 1 else 0
theorem spec_cmp_wide (A B : Int) (hA : Rng A) (hB : Rng B) : spec_WideCmp.f (wh A) (wl A) (wh B) (wl B) = some (cmpv A B) := by
  obtain ⟨a1, a2⟩ := hA
  obtain ⟨b1, b2⟩ := hB
  have ea : A = wh A * 18446744073709551616 + wl A := by unfold wh wl wrap64; omega
  have eb : B = wh B * 18446744073709551616 + wl B := by unfold wh wl wrap64; omega
  have la : 0 ≤ wl A ∧ wl A < 18446744073709551616 := by unfold wl; omega
  have lb : 0 ≤ wl B ∧ wl B < 18446744073709551616 := by unfold wl; omega
  unfold spec_WideCmp.f cmpv
  generalize wh A = x at *
  generalize wl A = y at *
  generalize wh B = z at *
  generalize wl B = u at *
  by_cases c1 : x = z
  · rw [if_pos c1]
    by_cases c2 : y = u
    · rw [if_pos c2, if_neg (by omega), if_neg (by omega)]
    · rw [if_neg c2]
      by_cases c3 : y < u
      · rw [if_pos c3, if_pos (by omega)]
      · rw [if_neg c3, if_neg (by omega), if_pos (by omega)]
  · rw [if_neg c1]
    by_cases c3 : x < z
    · rw [if_pos c3, if_pos (by omega)]
    · rw [if_neg c3, if_neg (by omega), if_pos (by omega)]
theorem cmp_int (a b : Int) : cmp_Compare_int.f a b = some (cmpv a b) := by
  unfold cmp_Compare_int.f cmp_isNaN_int.f cmpv
  simp only [bne_self_eq_false, Option.bind_some, Bool.false_eq_true, if_false]
  by_cases c : a < b
  · rw [if_pos c, if_pos c]
  · rw [if_neg c, if_neg c]
    by_cases d : a > b
    · rw [if_pos d, if_pos d]
    · rw [if_neg d, if_neg d]
theorem cmp_u64 (a b : Int) : cmp_Compare_uint64.f a b = some (cmpv a b) := by
  unfold cmp_Compare_uint64.f cmp_isNaN_uint64.f cmpv
  simp only [bne_self_eq_false, Option.bind_some, Bool.false_eq_true, if_false]
  by_cases c : a < b
  · rw [if_pos c, if_pos c]
  · rw [if_neg c, if_neg c]
    by_cases d : a > b
    · rw [if_pos d, if_pos d]
    · rw [if_neg d, if_neg d]
theorem or2_ev (a b : Int) : Evt (fun k => cmp_Or_int.f k [a, b]) (if a = 0 then b else a) := by
  refine ⟨3, fun k hk => ?_⟩
  obtain ⟨j, rfl⟩ : ∃ j, k = j + 3 := ⟨k - 3, by omega⟩
  show cmp_Or_int.l0 (j + 3) 0 [a, b] 2 0 = _
  have r0 : rd [a, b] 0 = a := rfl
  have r1 : rd [a, b] 1 = b := rfl
  have w0 : wrap64 (0 + 1) = 1 := by decide +kernel
  have w1 : wrap64 (1 + 1) = 2 := by decide +kernel
  have hl : (([a, b] : List Int).length : Int) = 2 := rfl
  simp only [cmp_Or_int.l0, r0, r1, w0, w1, hl]
  simp only [show (0 : Int) < 2 by decide, show (1 : Int) < 2 by decide, show ¬ (2 : Int) < 2 by decide, show (0 : Int) ≤ 0 by decide, show (0 : Int) ≤ 1 by decide, if_true, if_false]
  by_cases h1 : a = 0
  · rw [if_pos h1, if_pos h1]
    by_cases h2 : b = 0
    · rw [if_pos h2, h2]
    · rw [if_neg h2]
  · rw [if_neg h1, if_neg h1]
theorem impl_cmp_wide (A B : Int) (hA : Rng A) (hB : Rng B) : Evt (fun k => impl_WideCmp.f k (wh A) (wl A) (wh B) (wl B)) (cmpv A B) := by
  obtain ⟨a1, a2⟩ := hA
  obtain ⟨b1, b2⟩ := hB
  have ea : A = wh A * 18446744073709551616 + wl A := by unfold wh wl wrap64; omega
  have eb : B = wh B * 18446744073709551616 + wl B := by unfold wh wl wrap64; omega
  have la : 0 ≤ wl A ∧ wl A < 18446744073709551616 := by unfold wl; omega
  have lb : 0 ≤ wl B ∧ wl B < 18446744073709551616 := by unfold wl; omega
  have e : cmpv A B = if cmpv (wh A) (wh B) = 0 then cmpv (wl A) (wl B) else cmpv (wh A) (wh B) := by
    unfold cmpv
    generalize wh A = x at *
    generalize wl A = y at *
    generalize wh B = z at *
    generalize wl B = u at *
    by_cases c1 : x < z
    · rw [if_pos (show A < B by omega), if_pos c1]; rfl
    · by_cases c2 : x > z
      · rw [if_neg (show ¬ A < B by omega), if_pos (show A > B by omega), if_neg c1, if_pos c2]; rfl
      · have ez : (if x < z then (-1 : Int) else if x > z then 1 else 0) = 0 := by rw [if_neg c1, if_neg c2]
        rw [ez, if_pos rfl]
        by_cases c3 : y < u
        · rw [if_pos c3, if_pos (show A < B by omega)]
        · rw [if_neg c3, if_neg (show ¬ A < B by omega)]
          by_cases c4 : y > u
          · rw [if_pos c4, if_pos (show A > B by omega)]
          · rw [if_neg c4, if_neg (show ¬ A > B by omega)]
  rw [e]
  refine (or2_ev _ _).congr fun k => ?_
  unfold impl_WideCmp.f
  rw [cmp_int, cmp_u64]
  simp only [Option.bind_some]
  cases cmp_Or_int.f k _ <;> rfl
theorem impl_times (n m : Int) (hn : inr n) (hm : 0 ≤ m ∧ m ≤ 1000000) : Evt (fun k => impl_wideTimes.f k n m) (wh (n * m), wl (n * m)) := by
  unfold inr at hn
  have hmw : IntKind.u64.wrap m = m := uw_id _ hm.1 (by omega)
  by_cases c : n < 0
  · refine Evt.congr (g := fun k => impl_wideTimes.j0 k n m (-n)) ?_ fun k => by
      unfold impl_wideTimes.f
      rw [if_pos c]
      have : IntKind.u64.wrap (-(IntKind.u64.wrap n)) = -n := by simp only [wu64]; omega
      rw [this]
    refine Evt.done fun k => ?_
    simp only [impl_wideTimes.j0]
    rw [hmw, mul64_eq (-n) m (by omega) (by omega)]
    simp only [Option.bind_some]
    have := impl_neg_wide (-n * m)
    unfold wh wl at this
    rw [if_pos c, this]
    simp only [Option.bind_some]
    have e : -(-n * m) = n * m := by rw [Int.neg_mul, Int.neg_neg]
    rw [e]
    rfl
  · refine Evt.congr (g := fun k => impl_wideTimes.j0 k n m n) ?_ fun k => by
      unfold impl_wideTimes.f
      rw [if_neg c, uw_id n (by omega) (by omega)]
    refine Evt.done fun k => ?_
    simp only [impl_wideTimes.j0]
    rw [hmw, mul64_eq n m (by omega) (by omega)]
    simp only [Option.bind_some]
    rw [if_neg c]
    rfl
theorem toIntS_step (l ys : List Int) (i k : Nat) (hi : i < l.length) (hl : ys.length = l.length) (hb : l.length ≤ 1048576) :
    laws_toIntS.l0 (k + 1) l ys (i : Int) = laws_toIntS.l0 k l (ys.set i (id l[i])) ((i + 1 : Nat) : Int) := by
  have e : rd l (i : Int) = l[i] := rd_nat l i hi
  simp only [laws_toIntS.l0]
  rw [if_pos (by omega), if_pos (by omega), if_pos (by omega), e, w64 (by omega) (by omega)]
  simp
theorem toIntS_eq (l : List Int) (k : Nat) (hk : l.length < k) (hb : l.length ≤ 1048576) : laws_toIntS.f k l = some l := by
  unfold laws_toIntS.f
  rw [if_pos (by omega), if_pos (by simp; omega)]
  refine up_loop0 (fun k (ys : List Int) i => laws_toIntS.l0 k l ys (i : Int)) l.length (fun i ys => ys.length = l.length ∧ ys.take i = (l.take i).map id) (fun r => r = some l) ?_ ?_ k _ ?_ hk
  · rintro k s i hi ⟨h1, h2⟩
    left
    obtain ⟨h3, h4⟩ := copied_step id l s i hi h1 h2
    exact ⟨_, ⟨h3, h4⟩, toIntS_step l s i k hi h1 hb⟩
  · rintro k s ⟨h1, h2⟩
    simp only [laws_toIntS.l0]
    rw [if_neg (by omega), copied_end _ l s h1 h2]
    simp
  · simp
theorem eqIntS_refl (l : List Int) (k : Nat) (hk : l.length < k) (hb : l.length ≤ 4611686018427387904) : laws_eqIntS.f k l l = some true := by
  unfold laws_eqIntS.f
  rw [if_pos rfl]
  refine up_loop0 (fun k (_ : Unit) i => laws_eqIntS.l0 k l l (i : Int)) l.length (fun _ _ => True) (fun r => r = some true) ?_ ?_ k () trivial hk
  · rintro k _ i hi _
    left
    refine ⟨(), trivial, ?_⟩
    simp only [laws_eqIntS.l0, if_true]
    rw [if_pos (by omega), if_pos (by omega), if_pos (by omega), w64 (by omega) (by omega)]
    simp
  · rintro k _ _
    simp only [laws_eqIntS.l0]
    rw [if_neg (by omega)]
/-- The sum of the numbers from i on. -/
def sumF : List Int → Int
  | [] => 0
  | x :: t => x + sumF t
theorem sumF_bd : ∀ l : List Int, (∀ x ∈ l, inr x) → -9223372036854775808 * (l.length : Int) ≤ sumF l ∧ sumF l ≤ 9223372036854775807 * (l.length : Int)
  | [], _ => by simp [sumF]
  | x :: t, h => by
    have h1 := sumF_bd t (fun y hy => h y (List.mem_cons_of_mem _ hy))
    have h2 := h x List.mem_cons_self
    unfold inr at h2
    simp only [sumF, List.length_cons]
    omega
theorem drop_rdA (l : List Int) (i : Nat) (hi : i < l.length) : l.drop i = rd l (i : Int) :: l.drop (i + 1) := by
  rw [rd_nat l i hi]
  exact List.drop_eq_getElem_cons hi
theorem of_impl (n : Int) (h : inr n) : impl_WideOf.f n = some (wh n, wl n) := by
  unfold inr at h
  unfold impl_WideOf.f
  rw [wu64]
  congr 2
  unfold wh wrap64
  omega
theorem impl_add_wide (A B : Int) : impl_WideAdd.f (wh A) (wl A) (wh B) (wl B) = some (wh (A + B), wl (A + B)) := by
  rw [add_same _ _ _ _ (by unfold wl; omega) (by unfold wl; omega), spec_add_wide]
/-- The reference's loop over the greatest ones: their sum. -/
theorem spec_sum (N S0 S1 mi ma : Int) (l : List Int) (hl : l.length ≤ 4) (hr : ∀ x ∈ l, inr x) (r : Bool) :
    ∀ (m i : Nat) (A : Int), i + m = l.length → Evt (fun k => spec_AggOk.l0 k (l.length : Int) N S0 S1 mi ma l (wh (A + sumF (l.drop i))) (wl (A + sumF (l.drop i)))) r → Evt (fun k => spec_AggOk.l0 k (i : Int) N S0 S1 mi ma l (wh A) (wl A)) r := by
  intro m
  induction m with
  | zero =>
    intro i A hi h
    have e : l.drop i = [] := List.drop_eq_nil_of_le (by omega)
    rw [e] at h
    simp only [sumF, Int.add_zero] at h
    rw [show (i : Int) = (l.length : Int) by omega]
    exact h
  | succ m ih =>
    intro i A hi h
    have hi' : i < l.length := by omega
    have hx : inr (rd l (i : Int)) := by rw [rd_nat l i hi']; exact hr _ (List.getElem_mem _)
    rw [drop_rdA l i hi'] at h
    simp only [sumF] at h
    rw [← Int.add_assoc] at h
    refine Evt.step (ih (i + 1) (A + rd l (i : Int)) (by omega) h) fun k => ?_
    simp only [spec_AggOk.l0]
    rw [if_pos (by omega), if_pos (by omega), spec_of_wide _ hx]
    simp only [Option.bind_some]
    rw [spec_add_wide]
    simp only [Option.bind_some]
    rw [w64 (by omega) (by omega)]
    rfl
def descI (l : List Int) (i : Int) : Bool := decide (i = 0) || decide (rd l i ≤ rd l (i - 1))
theorem desc_iff (l : List Int) : allB (descI l) l.length 0 = true ↔ Desc l := by
  rw [allB_iff]
  constructor
  · intro h
    refine desc_adj fun i hi => ?_
    have := h ((i + 1 : Nat) : Int) (by omega) (by omega)
    unfold descI at this
    rw [decide_eq_false (by omega), Bool.false_or, decide_eq_true_eq, show ((i + 1 : Nat) : Int) - 1 = (i : Int) by omega, rd_nat l (i + 1) hi, rd_nat l i (by omega)] at this
    exact this
  · intro h i i0 hi
    obtain ⟨i, rfl⟩ : ∃ x : Nat, i = (x : Int) := ⟨i.toNat, by omega⟩
    unfold descI
    by_cases c : (i : Int) = 0
    · rw [decide_eq_true c, Bool.true_or]
    · rw [decide_eq_false c, Bool.false_or, decide_eq_true_eq, show (i : Int) - 1 = ((i - 1 : Nat) : Int) by omega, rd_nat l i (by omega), rd_nat l (i - 1) (by omega)]
      exact desc_get h (i - 1) i (by omega) (by omega)
theorem impl_sum (N S0 S1 mi ma : Int) (l : List Int) (hl : l.length ≤ 4) (hr : ∀ x ∈ l, inr x) (r : Bool) :
    ∀ (m i : Nat) (A : Int), i + m = l.length → Evt (fun k => impl_isAgg.l0 k l (l.length : Int) (l.length : Int) N S0 S1 mi ma l (wh (A - sumF (l.drop i))) (wl (A - sumF (l.drop i)))) r →
      Evt (fun k => impl_isAgg.l0 k l (l.length : Int) (i : Int) N S0 S1 mi ma l (wh A) (wl A)) (if allB (descI l) m (i : Int) = true then r else false) := by
  intro m
  induction m with
  | zero =>
    intro i A hi h
    have e : l.drop i = [] := List.drop_eq_nil_of_le (by omega)
    rw [e] at h
    simp only [sumF, Int.sub_zero] at h
    rw [show (i : Int) = (l.length : Int) by omega]
    exact h
  | succ m ih =>
    intro i A hi h
    have hi' : i < l.length := by omega
    have hx : inr (rd l (i : Int)) := by rw [rd_nat l i hi']; exact hr _ (List.getElem_mem _)
    rw [drop_rdA l i hi'] at h
    simp only [sumF] at h
    rw [show A - (rd l (i : Int) + sumF (l.drop (i + 1))) = A - rd l (i : Int) - sumF (l.drop (i + 1)) by omega] at h
    have s := ih (i + 1) (A - rd l (i : Int)) (by omega) h
    have e2 : ∀ k, impl_isAgg.j2 (k + 1) (rd l (i : Int)) l (l.length : Int) (i : Int) false N S0 S1 mi ma l (wh A) (wl A) = impl_isAgg.l0 k l (l.length : Int) ((i + 1 : Nat) : Int) N S0 S1 mi ma l (wh (A - rd l (i : Int))) (wl (A - rd l (i : Int))) := fun k => by
      simp only [impl_isAgg.j2, Bool.false_eq_true, if_false]
      rw [of_impl _ hx]
      simp only [Option.bind_some]
      rw [impl_neg_wide]
      simp only [Option.bind_some]
      rw [impl_add_wide]
      simp only [Option.bind_some]
      rw [w64 (by omega) (by omega)]
      rfl
    have e1 : ∀ k, impl_isAgg.l0 (k + 1) l (l.length : Int) (i : Int) N S0 S1 mi ma l (wh A) (wl A) = impl_isAgg.j2 k (rd l (i : Int)) l (l.length : Int) (i : Int) (!descI l (i : Int)) N S0 S1 mi ma l (wh A) (wl A) := fun k => by
      simp only [impl_isAgg.l0]
      rw [if_pos (by omega), if_pos (by omega), if_pos (by omega)]
      unfold descI
      by_cases c : (i : Int) > 0
      · rw [if_pos c, w64 (by omega) (by omega), if_pos (by omega), if_pos (by omega), decide_eq_false (show ¬ (i : Int) = 0 by omega), Bool.false_or]
        have : decide (rd l (i : Int) > rd l ((i : Int) - 1)) = !decide (rd l (i : Int) ≤ rd l ((i : Int) - 1)) := by
          by_cases d : rd l (i : Int) ≤ rd l ((i : Int) - 1)
          · rw [decide_eq_true d, decide_eq_false (by omega)]; rfl
          · rw [decide_eq_false d, decide_eq_true (by omega)]; rfl
        rw [this]
      · rw [if_neg c, decide_eq_true (show (i : Int) = 0 by omega), Bool.true_or]
        rfl
    show Evt _ (if (descI l (i : Int) && allB (descI l) m ((i : Int) + 1)) = true then r else false)
    refine Evt.step (g := fun k => impl_isAgg.j2 k (rd l (i : Int)) l (l.length : Int) (i : Int) (!descI l (i : Int)) N S0 S1 mi ma l (wh A) (wl A)) ?_ e1
    cases descI l (i : Int) with
    | false =>
      rw [Bool.false_and, if_neg (by decide)]
      exact Evt.done fun k => by simp only [impl_isAgg.j2, Bool.not_false, if_true]
    | true =>
      rw [Bool.true_and, Bool.not_true]
      exact Evt.step s e2
theorem prod_bd (a b : Int) (ha : inr a) (hb : 0 ≤ b ∧ b ≤ 1000000) : -9223372036854775808000000 ≤ a * b ∧ a * b ≤ 9223372036854775808000000 := by
  unfold inr at ha
  have h1 := Int.mul_le_mul_of_nonneg_right (show a ≤ 9223372036854775808 by omega) hb.1
  have h2 := Int.mul_le_mul_of_nonneg_right (show -9223372036854775808 ≤ a by omega) hb.1
  omega
theorem rep (R : Int) (h : -340282366920938463463374607431768211456 ≤ R ∧ R < 340282366920938463463374607431768211456) : ∃ Q, Rng Q ∧ wh R = wh Q ∧ wl R = wl Q ∧ ((Rng R ∧ Q = R) ∨ (R < -170141183460469231731687303715884105728 ∧ Q = R + 340282366920938463463374607431768211456) ∨ (170141183460469231731687303715884105728 ≤ R ∧ Q = R - 340282366920938463463374607431768211456)) := by
  by_cases c1 : R < -170141183460469231731687303715884105728
  · exact ⟨R + 340282366920938463463374607431768211456, ⟨by omega, by omega⟩, by unfold wh wrap64; omega, by unfold wl; omega, .inr (.inl ⟨c1, rfl⟩)⟩
  · by_cases c2 : 170141183460469231731687303715884105728 ≤ R
    · exact ⟨R - 340282366920938463463374607431768211456, ⟨by omega, by omega⟩, by unfold wh wrap64; omega, by unfold wl; omega, .inr (.inr ⟨c2, rfl⟩)⟩
    · exact ⟨R, ⟨by omega, by omega⟩, rfl, rfl, .inl ⟨⟨by omega, by omega⟩, rfl⟩⟩
theorem cmpv_le (a b : Int) : (cmpv a b ≤ 0 ↔ a ≤ b) ∧ (cmpv a b ≥ 0 ↔ b ≤ a) := by
  unfold cmpv
  by_cases c : a < b
  · rw [if_pos c]; constructor <;> constructor <;> intro h <;> omega
  · rw [if_neg c]
    by_cases d : a > b
    · rw [if_pos d]; constructor <;> constructor <;> intro h <;> omega
    · rw [if_neg d]; constructor <;> constructor <;> intro h <;> omega
def lastv (l : List Int) : Int := rd l ((l.length : Int) - 1)
def tailB (N S mi : Int) (l : List Int) : Bool := if N ≤ 4 then decide (mi = lastv l) && decide (S = sumF l) else decide (sumF l + mi * (N - 4) ≤ S) && decide (S ≤ sumF l + mi + rd l 3 * (N - 5))
theorem spec_tail (N S mi ma : Int) (l : List Int) (hN : 1 ≤ N ∧ N ≤ 1000000) (hlen : (l.length : Int) = if N ≤ 4 then N else 4) (hr : ∀ x ∈ l, inr x) (hS : Rng S) (hmi : inr mi) :
    Evt (fun k => spec_AggOk.l0 k (l.length : Int) N (wh S) (wl S) mi ma l (wh (sumF l)) (wl (sumF l))) (tailB N S mi l) := by
  have hb := sumF_bd l hr
  have hS' := hS
  unfold Rng at hS'
  have hmi' := hmi
  unfold inr at hmi'
  by_cases c : N ≤ 4
  · rw [if_pos c] at hlen
    refine Evt.done fun k => ?_
    simp only [spec_AggOk.l0]
    rw [if_neg (by omega), w64 (by omega) (by omega), if_pos (show N - (l.length : Int) = 0 by omega), w64 (by omega) (by omega), if_pos (by omega), if_pos (by omega)]
    unfold tailB lastv
    rw [if_pos c]
    by_cases d : mi = rd l ((l.length : Int) - 1)
    · rw [if_pos d, decide_eq_true d, Bool.true_and]
      congr 1
      by_cases e : S = sumF l
      · rw [decide_eq_true e, e]; simp
      · rw [decide_eq_false e]
        have : ¬ (wh S = wh (sumF l) ∧ wl S = wl (sumF l)) := by
          rintro ⟨g1, g2⟩
          apply e
          unfold wh wrap64 at g1
          unfold wl at g2
          omega
        rw [Bool.eq_false_iff]
        simp only [ne_eq, Bool.and_eq_true, beq_iff_eq]
        exact this
    · rw [if_neg d, decide_eq_false d, Bool.false_and]
  · rw [if_neg c] at hlen
    have hx3 : inr (rd l 3) := by
      rw [show (3 : Int) = ((3 : Nat) : Int) from rfl, rd_nat l 3 (by omega)]; exact hr _ (List.getElem_mem _)
    have p1 := prod_bd mi (N - 4) hmi (by omega)
    have p2 := prod_bd (rd l 3) (N - 5) hx3 (by omega)
    refine ⟨80, fun k hk => ?_⟩
    obtain ⟨j, rfl⟩ : ∃ j, k = j + 1 := ⟨k - 1, by omega⟩
    show spec_AggOk.l0 (j + 1) (l.length : Int) N (wh S) (wl S) mi ma l (wh (sumF l)) (wl (sumF l)) = _
    have e4 : wrap64 (N - (l.length : Int)) = N - 4 := (w64 (by omega) (by omega)).trans (by omega)
    have e5 : wrap64 (N - 4 - 1) = N - 5 := (w64 (by omega) (by omega)).trans (by omega)
    simp only [spec_AggOk.l0, e4, e5, spec_l07Times.f]
    rw [if_neg (by omega), if_neg (by omega), spec_times (N - 4) mi ⟨by omega, by omega⟩ hmi j (by omega)]
    simp only [Option.bind_some]
    rw [spec_add_wide]
    simp only [Option.bind_some]
    rw [spec_of_wide mi hmi]
    simp only [Option.bind_some]
    rw [spec_add_wide]
    simp only [Option.bind_some]
    rw [if_pos (by omega), spec_times (N - 5) (rd l 3) ⟨by omega, by omega⟩ hx3 j (by omega)]
    simp only [Option.bind_some]
    rw [spec_add_wide]
    simp only [Option.bind_some]
    rw [Int.mul_comm (N - 4), Int.mul_comm (N - 5)]
    rw [spec_cmp_wide S _ hS ⟨by omega, by omega⟩]
    simp only [Option.bind_some]
    rw [spec_cmp_wide S _ hS ⟨by omega, by omega⟩]
    simp only [Option.bind_some]
    unfold tailB
    rw [if_neg c]
    by_cases d : sumF l + mi * (N - 4) ≤ S
    · rw [if_pos ((cmpv_le _ _).2.mpr d), decide_eq_true d, Bool.true_and]
      exact congrArg some (decide_eq_decide.2 (cmpv_le _ _).1)
    · rw [if_neg (fun h => d ((cmpv_le _ _).2.mp h)), decide_eq_false d, Bool.false_and]
theorem impl_tail (N S S0 S1 mi ma : Int) (l : List Int) (hN : 1 ≤ N ∧ N ≤ 1000000) (hlen : (l.length : Int) = if N ≤ 4 then N else 4) (hr : ∀ x ∈ l, inr x) (hS : Rng S) (hmi : inr mi) :
    Evt (fun k => impl_isAgg.l0 k l (l.length : Int) (l.length : Int) N S0 S1 mi ma l (wh (S - sumF l)) (wl (S - sumF l))) (if N ≤ 4 then tailB N S mi l else decide (mi ≤ lastv l) && tailB N S mi l) := by
  have hb := sumF_bd l hr
  have hS' := hS
  unfold Rng at hS'
  have hmi' := hmi
  unfold inr at hmi'
  by_cases c : N ≤ 4
  · rw [if_pos c] at hlen ⊢
    refine Evt.done fun k => ?_
    simp only [impl_isAgg.l0]
    rw [if_neg (by omega), w64 (by omega) (by omega), if_pos (by omega), if_pos (by omega), if_pos c]
    unfold tailB lastv
    rw [if_pos c]
    by_cases d : mi = rd l ((l.length : Int) - 1)
    · rw [if_pos d, decide_eq_true d, Bool.true_and]
      congr 1
      by_cases e : S = sumF l
      · rw [decide_eq_true e, e, Int.sub_self]; decide +kernel
      · rw [decide_eq_false e]
        have : ¬ (wh (S - sumF l) = 0 ∧ wl (S - sumF l) = 0) := by
          rintro ⟨g1, g2⟩
          apply e
          unfold wh wrap64 at g1
          unfold wl at g2
          omega
        rw [Bool.eq_false_iff]
        simp only [ne_eq, Bool.and_eq_true, beq_iff_eq]
        exact this
    · rw [if_neg d, decide_eq_false d, Bool.false_and]
  · rw [if_neg c] at hlen ⊢
    have hx3 : inr (rd l 3) := by
      rw [show (3 : Int) = ((3 : Nat) : Int) from rfl, rd_nat l 3 (by omega)]; exact hr _ (List.getElem_mem _)
    have el : lastv l = rd l 3 := by unfold lastv; rw [hlen]; rfl
    have p0 := prod_bd mi (N - 5) hmi (by omega)
    have p2 := prod_bd (rd l 3) (N - 5) hx3 (by omega)
    have ep : mi * (N - 4) = mi * (N - 5) + mi := by rw [show N - 4 = N - 5 + 1 by omega, Int.mul_add, Int.mul_one]
    obtain ⟨Q, hQ, q1, q2, q3⟩ := rep (S - sumF l - mi) (by omega)
    obtain ⟨K1, t1⟩ := impl_times mi (N - 5) hmi (by omega)
    obtain ⟨K2, t2⟩ := impl_times (rd l 3) (N - 5) hx3 (by omega)
    obtain ⟨K3, t3⟩ := impl_cmp_wide (mi * (N - 5)) Q ⟨by omega, by omega⟩ hQ
    obtain ⟨K4, t4⟩ := impl_cmp_wide Q (rd l 3 * (N - 5)) hQ ⟨by omega, by omega⟩
    simp only at t1 t2 t3 t4
    refine ⟨K1 + K2 + K3 + K4 + 1, fun k hk => ?_⟩
    obtain ⟨j, rfl⟩ : ∃ j, k = j + 1 := ⟨k - 1, by omega⟩
    show impl_isAgg.l0 (j + 1) l (l.length : Int) (l.length : Int) N S0 S1 mi ma l (wh (S - sumF l)) (wl (S - sumF l)) = _
    have e4 : wrap64 (N - 4) = N - 4 := w64 (by omega) (by omega)
    have e5 : wrap64 (N - 4 - 1) = N - 5 := (w64 (by omega) (by omega)).trans (by omega)
    have e3 : wrap64 ((l.length : Int) - 1) = 3 := (w64 (by omega) (by omega)).trans (by omega)
    simp only [impl_isAgg.l0, e4, e5, e3]
    rw [if_neg (by omega), if_pos (by omega), if_pos (by omega), if_neg c, of_impl mi hmi]
    simp only [Option.bind_some]
    rw [impl_neg_wide]
    simp only [Option.bind_some]
    rw [impl_add_wide]
    simp only [Option.bind_some]
    rw [show S - sumF l + -mi = S - sumF l - mi by omega, q1, q2, el]
    by_cases d : mi ≤ rd l 3
    · rw [if_pos d, decide_eq_true d, Bool.true_and, t1 j (by omega)]
      simp only [Option.bind_some]
      rw [t3 j (by omega)]
      simp only [Option.bind_some]
      unfold tailB
      rw [if_neg c, ep]
      rcases q3 with ⟨g, e⟩ | ⟨g, e⟩ | ⟨g, e⟩
      · subst e
        by_cases h1 : mi * (N - 5) ≤ S - sumF l - mi
        · rw [if_pos ((cmpv_le _ _).1.mpr h1), t2 j (by omega)]
          simp only [Option.bind_some]
          rw [t4 j (by omega), decide_eq_true (show sumF l + (mi * (N - 5) + mi) ≤ S by omega), Bool.true_and]
          simp only [Option.bind_some]
          exact congrArg some (decide_eq_decide.2 ((cmpv_le _ _).1.trans (by omega)))
        · rw [if_neg (fun h => h1 ((cmpv_le _ _).1.mp h)), decide_eq_false (show ¬ sumF l + (mi * (N - 5) + mi) ≤ S by omega), Bool.false_and]
      · have h1 : mi * (N - 5) ≤ Q := by omega
        have h2 : ¬ Q ≤ rd l 3 * (N - 5) := by omega
        rw [if_pos ((cmpv_le _ _).1.mpr h1), t2 j (by omega)]
        simp only [Option.bind_some]
        rw [t4 j (by omega), decide_eq_false (show ¬ sumF l + (mi * (N - 5) + mi) ≤ S by omega), Bool.false_and]
        simp only [Option.bind_some]
        exact congrArg some (decide_eq_false (fun h => h2 ((cmpv_le _ _).1.mp h)))
      · have h1 : ¬ mi * (N - 5) ≤ Q := by omega
        rw [if_neg (fun h => h1 ((cmpv_le _ _).1.mp h)), decide_eq_false (show ¬ S ≤ sumF l + mi + rd l 3 * (N - 5) by omega), Bool.and_false]
    · rw [if_neg d, decide_eq_false d, Bool.false_and]
theorem mn4 (N : Int) : mn N 4 = if N ≤ 4 then N else 4 := by unfold mn; split <;> (try split) <;> omega
theorem both (N S mi ma : Int) (l : List Int) (hS : Rng S) (hmi : inr mi) (hr : ∀ x ∈ l, inr x) : ∃ r, Evt (fun k => spec_AggOk.f k N (wh S) (wl S) mi ma l) r ∧ Evt (fun k => impl_isAgg.f k N (wh S) (wl S) mi ma l) r ∧ (r = true → (N = 0 ∧ wh S = 0 ∧ wl S = 0 ∧ mi = 0 ∧ ma = 0 ∧ l = []) ∨ ((1 ≤ N ∧ N ≤ 1000000) ∧ l.length ≤ 4 ∧ Desc l)) := by
  have js : Evt (fun k => spec_AggOk.j0 k true N (wh S) (wl S) mi ma l) false := Evt.done fun k => by simp only [spec_AggOk.j0, if_true]
  have ji : Evt (fun k => impl_isAgg.j0 k true N (wh S) (wl S) mi ma l) false := Evt.done fun k => by simp only [impl_isAgg.j0, if_true]
  have toI : ∀ r, Evt (fun k => impl_isAgg.f k N (wh S) (wl S) mi ma l) r → Evt (fun k => impl_isAgg.f k N (wh S) (wl S) mi ma l) r := fun r h => h
  have hm4 := mn4 N
  by_cases h0 : N = 0
  · subst h0
    refine ⟨((wh S == 0 && (wl S == 0)) && (decide (mi = 0) && decide (ma = 0))) && decide ((l.length : Int) = 0), ?_, toI _ ?_, fun h => .inl (by simp only [Bool.and_eq_true, beq_iff_eq, decide_eq_true_eq] at h; exact ⟨rfl, h.1.1.1, h.1.1.2, h.1.2.1, h.1.2.2, List.eq_nil_of_length_eq_zero (by omega)⟩)⟩
    · by_cases c : (l.length : Int) = 0
      · rw [decide_eq_true c, Bool.and_true]
        refine Evt.congr (g := fun k => spec_AggOk.j0 k false 0 (wh S) (wl S) mi ma l) ?_ fun k => by
          unfold spec_AggOk.f
          rw [if_neg (by decide), if_neg (by decide), c]
          rfl
        refine Evt.done fun k => ?_
        simp only [spec_AggOk.j0, Bool.false_eq_true, if_false, if_true]
        cases (wh S == 0 && (wl S == 0)) with
        | false => rfl
        | true =>
          by_cases d : mi = 0
          · rw [if_pos rfl, if_pos d, decide_eq_true d]; rfl
          · rw [if_pos rfl, if_neg d, decide_eq_false d]; rfl
      · rw [decide_eq_false c, Bool.and_false]
        refine js.congr fun k => ?_
        unfold spec_AggOk.f
        rw [if_neg (by decide), if_neg (by decide), hm4]
        have : ((l.length : Int) != if (0 : Int) ≤ 4 then 0 else 4) = true := by simp only [bne_iff_ne, ne_eq]; exact c
        rw [this]
    · refine (Evt.const _).congr fun k => ?_
      unfold impl_isAgg.f
      rw [if_pos rfl]
      cases (wh S == 0 && (wl S == 0)) with
      | false => rfl
      | true =>
        rw [if_pos rfl]
        by_cases d : mi = 0
        · rw [if_pos d, decide_eq_true d]
          by_cases e : ma = 0
          · rw [if_pos e, decide_eq_true e]; rfl
          · rw [if_neg e, decide_eq_false e]; rfl
        · rw [if_neg d, decide_eq_false d]; rfl
  by_cases hv : (1 ≤ N ∧ N ≤ 1000000) ∧ (l.length : Int) = mn N 4
  · obtain ⟨hN, hlen⟩ := hv
    have hlen' := hlen
    rw [hm4] at hlen
    have hl4 : l.length ≤ 4 := by split at hlen <;> omega
    have hl1 : 1 ≤ l.length := by split at hlen <;> omega
    obtain ⟨res, r1, b, b1, b2⟩ := same_ev l hl4
    have st := spec_tail N S mi ma l hN hlen hr hS hmi
    have it := impl_tail N S (wh S) (wl S) mi ma l hN hlen hr hS hmi
    have ss := spec_sum N (wh S) (wl S) mi ma l hl4 hr _ l.length 0 0 (by omega) (by rw [List.drop_zero, Int.zero_add]; exact st)
    have si := impl_sum N (wh S) (wl S) mi ma l hl4 hr _ l.length 0 S (by omega) (by rw [List.drop_zero]; exact it)
    have eb : allB (descI l) l.length 0 = b := by rw [Bool.eq_iff_iff, desc_iff, b2]
    have si' : Evt (fun k => impl_isAgg.l0 k l (l.length : Int) 0 N (wh S) (wl S) mi ma l (wh S) (wl S)) (if b = true then (if N ≤ 4 then tailB N S mi l else decide (mi ≤ lastv l) && tailB N S mi l) else false) := eb ▸ si
    have ss' : Evt (fun k => spec_AggOk.l0 k 0 N (wh S) (wl S) mi ma l 0 0) (tailB N S mi l) := by
      have := ss
      rw [wh0, wl0] at this
      exact this
    have j1 : ∀ t, Evt (fun k => spec_AggOk.j1 k t N (wh S) (wl S) mi ma l) (!t && tailB N S mi l) := fun t => by
      cases t with
      | true => exact Evt.done fun k => by simp only [spec_AggOk.j1, if_true]; rfl
      | false => rw [Bool.not_false, Bool.true_and]; exact Evt.step ss' fun k => by simp only [spec_AggOk.j1, Bool.false_eq_true, if_false]
    have et : (decide (mi ≤ lastv l) && tailB N S mi l) = (if N ≤ 4 then tailB N S mi l else decide (mi ≤ lastv l) && tailB N S mi l) := by
      by_cases c : N ≤ 4
      · rw [if_pos c]
        unfold tailB
        rw [if_pos c]
        by_cases d : mi = lastv l
        · rw [decide_eq_true d, decide_eq_true (show mi ≤ lastv l by omega)]; rfl
        · rw [decide_eq_false d, Bool.false_and, Bool.and_false]
      · rw [if_neg c]
    refine ⟨(b && decide (rd l 0 = ma)) && (decide (mi ≤ lastv l) && tailB N S mi l), ?_, toI _ ?_, fun h => .inr ⟨hN, hl4, b2.mp (by simp only [Bool.and_eq_true] at h; exact h.1.1)⟩⟩
    · refine Evt.congr (g := fun k => spec_AggOk.j0 k false N (wh S) (wl S) mi ma l) ?_ fun k => by
        unfold spec_AggOk.f
        rw [if_neg (by omega), if_neg (by omega), hlen', bne_self_eq_false]
      obtain ⟨K1, t1⟩ := r1
      obtain ⟨K2, t2⟩ := b1
      simp only at t1 t2
      obtain ⟨K3, t3⟩ := j1 true
      obtain ⟨K4, t4⟩ := j1 (decide (mi > lastv l))
      simp only at t3 t4
      refine ⟨K1 + K2 + K3 + K4 + 1, fun k hk => ?_⟩
      obtain ⟨j, rfl⟩ : ∃ j, k = j + 1 := ⟨k - 1, by omega⟩
      simp only [spec_AggOk.j0, Bool.false_eq_true, if_false]
      rw [if_neg h0, t1 j (by omega)]
      simp only [Option.bind_some]
      rw [t2 j (by omega)]
      simp only [Option.bind_some]
      cases b with
      | false => rw [if_neg (by decide), t3 j (by omega)]; rfl
      | true =>
        rw [if_pos rfl, if_pos (by omega), Bool.true_and]
        by_cases d : rd l 0 = ma
        · rw [if_pos d, decide_eq_true d, w64 (by omega) (by omega), if_pos (by omega), if_pos (by omega), Bool.true_and]
          have := t4 j (by omega)
          unfold lastv at this
          rw [this]
          have e2 : (!decide (mi > rd l ((l.length : Int) - 1))) = decide (mi ≤ lastv l) := by
            unfold lastv
            by_cases f : mi ≤ rd l ((l.length : Int) - 1)
            · rw [decide_eq_true f, decide_eq_false (by omega)]; rfl
            · rw [decide_eq_false f, decide_eq_true (by omega)]; rfl
          rw [e2]
        · rw [if_neg d, decide_eq_false d, t3 j (by omega)]; rfl
    · refine Evt.congr (g := fun k => impl_isAgg.j0 k (rd l 0 != ma) N (wh S) (wl S) mi ma l) ?_ fun k => by
        unfold impl_isAgg.f impl_in.f
        rw [if_neg h0, if_pos hN.1, decide_eq_true hN.2]
        simp only [Option.bind_some, if_true]
        rw [if_pos hlen', if_pos (by omega)]
      by_cases d : rd l 0 = ma
      · rw [decide_eq_true d, Bool.and_true, et, d, bne_self_eq_false]
        have h : Evt (fun k => impl_isAgg.j0 k false N (wh S) (wl S) mi ma l) _ := Evt.step si' fun k => by simp only [impl_isAgg.j0, Bool.false_eq_true, if_false]
        cases b <;> simpa using h
      · have : (rd l 0 != ma) = true := by simp only [bne_iff_ne, ne_eq]; exact d
        rw [decide_eq_false d, Bool.and_false, Bool.false_and, this]
        exact ji
  · refine ⟨false, ?_, toI _ ?_, fun h => by cases h⟩
    · refine js.congr fun k => ?_
      unfold spec_AggOk.f
      by_cases c1 : N < 0
      · rw [if_pos c1]
      · rw [if_neg c1]
        by_cases c2 : N > 1000000
        · rw [if_pos c2]
        · rw [if_neg c2]
          have : ((l.length : Int) != mn N 4) = true := by simp only [bne_iff_ne, ne_eq]; exact fun g => hv ⟨⟨by omega, by omega⟩, g⟩
          rw [this]
    · refine ji.congr fun k => ?_
      unfold impl_isAgg.f impl_in.f
      rw [if_neg h0]
      by_cases c1 : 1 ≤ N
      · rw [if_pos c1]
        by_cases c2 : N ≤ 1000000
        · rw [decide_eq_true c2]
          simp only [Option.bind_some, if_true]
          rw [if_neg (fun g => hv ⟨⟨c1, c2⟩, g⟩)]
        · rw [decide_eq_false c2]; rfl
      · rw [if_neg c1]; rfl
theorem halves (a b : Int) (ha : -9223372036854775808 ≤ a ∧ a ≤ 9223372036854775807) (hb : 0 ≤ b ∧ b ≤ 18446744073709551615) : ∃ A : Int, Rng A ∧ a = wh A ∧ b = wl A :=
  ⟨a * 18446744073709551616 + b, ⟨by omega, by omega⟩, by unfold wh wrap64; omega, by unfold wl; omega⟩
def patInt (a : Int) (n : Nat) : List Int := (List.range n).map (fun j : Nat => ((a + 1 * (j : Int))))
theorem markIntS_step (xs : List Int) (z : Int) (i k : Nat) (hi : i < xs.length) (h0 : 0 ≤ z) (hz : z ≤ 1152921504606846976) (hl : xs.length ≤ 1152921504606846976) :
    laws_markIntS.l0 (k + 1) xs z (i : Int) = laws_markIntS.l0 k (xs.set i (z)) (z + 1) ((i + 1 : Nat) : Int) := by
  have v1 : wrap64 (z + 1) = z + 1 := (w64 (by omega) (by omega)).trans (by omega)
  have vi : wrap64 ((i : Int) + 1) = ((i + 1 : Nat) : Int) := (w64 (by omega) (by omega)).trans (by omega)
  simp only [laws_markIntS.l0, Option.bind_some]
  rw [if_pos (by omega), if_pos (by omega)]
  simp only [v1, vi, rd, Int.toNat_natCast, List.set_set, List.getD_eq_getElem?_getD, List.getElem?_set_self hi, Option.getD_some]
theorem markIntS_eq (l : List Int) (a : Int) (k : Nat) (hk : l.length < k) (h0 : 0 ≤ a) (ha : a ≤ 1000000000) (hb : l.length ≤ 4611686018427) : laws_markIntS.f k l a = some (a + 1 * l.length, patInt a l.length) := by
  unfold laws_markIntS.f
  refine up_loop0 (fun k (s : List Int × Int) i => laws_markIntS.l0 k s.1 s.2 (i : Int)) l.length (fun i s => s.1.length = l.length ∧ s.1.take i = ((List.range l.length).take i).map (fun j : Nat => ((a + 1 * (j : Int)))) ∧ s.2 = a + 1 * (i : Int)) (fun r => r = some (a + 1 * l.length, patInt a l.length)) ?_ ?_ k (l, a) ?_ hk
  · rintro k ⟨xs, z⟩ i hi ⟨h1, h2, h3⟩
    simp only at h1 h2 h3
    left
    have hi' : i < (List.range l.length).length := by simpa using hi
    obtain ⟨h4, h5⟩ := copied_step (fun j : Nat => ((a + 1 * (j : Int)))) (List.range l.length) xs i hi' (by simpa using h1) h2
    refine ⟨(_, z + 1), ⟨?_, ?_, ?_⟩, markIntS_step xs z i k (by omega) (by omega) (by omega) (by omega)⟩
    · simp only [List.length_set]
      exact h1
    · rw [List.getElem_range] at h5
      subst h3
      exact h5
    · simp only [h3]
      omega
  · rintro k ⟨xs, z⟩ ⟨h1, h2, h3⟩
    simp only at h1 h2 h3
    simp only [laws_markIntS.l0]
    rw [if_neg (by omega)]
    have h4 := copied_end (fun j : Nat => ((a + 1 * (j : Int)))) (List.range l.length) xs (by simpa using h1) (by simpa using h2)
    rw [h3, h4]
    rfl
  · exact ⟨rfl, by simp, by simp⟩
theorem heldIntS_step (a : Int) (n i k : Nat) (hi : i < n) (h0 : 0 ≤ a) (ha : a ≤ 1000000000) (hl : n ≤ 4611686018427) :
    laws_heldIntS.l0 (k + 1) (patInt a n) (a + 1 * (i : Int)) (i : Int) = laws_heldIntS.l0 k (patInt a n) (a + 1 * ((i + 1 : Nat) : Int)) ((i + 1 : Nat) : Int) := by
  have hlen : (patInt a n).length = n := by simp [patInt]
  have vi : wrap64 ((i : Int) + 1) = ((i + 1 : Nat) : Int) := (w64 (by omega) (by omega)).trans (by omega)
  have e : rd (patInt a n) (i : Int) = (fun j : Nat => ((a + 1 * (j : Int)))) i := by
    unfold rd
    rw [getD_nat _ _ i (by omega)]
    simp only [patInt, List.getElem_map, List.getElem_range]
  have hz : ((a + 1 * ((i + 1 : Nat) : Int)) : Int) = a + 1 * (i : Int) + 1 := by omega
  rw [hz]
  generalize hzz : a + 1 * (i : Int) = z at *
  have hz0 : 0 ≤ z := by omega
  have hz1 : z ≤ 1152921504606846976 := by omega
  have v1 : wrap64 (z + 1) = z + 1 := (w64 (by omega) (by omega)).trans (by omega)
  simp only [laws_heldIntS.l0]
  rw [if_pos (by omega), if_pos (by omega), e]
  simp only [v1, vi, bne_self_eq_false, Bool.false_eq_true, if_true, if_false, hzz]
theorem heldIntS_eq (a : Int) (n k : Nat) (hk : n < k) (h0 : 0 ≤ a) (ha : a ≤ 1000000000) (hl : n ≤ 4611686018427) : laws_heldIntS.f k (patInt a n) a = some (a + 1 * n) := by
  unfold laws_heldIntS.f
  have hlen : (patInt a n).length = n := by simp [patInt]
  refine up_loop0 (fun k (s : Int) i => laws_heldIntS.l0 k (patInt a n) s (i : Int)) n (fun i s => s = a + 1 * (i : Int)) (fun r => r = some (a + 1 * n)) ?_ ?_ k a ?_ hk
  · rintro k s i hi rfl
    left
    exact ⟨_, rfl, heldIntS_step a n i k hi h0 ha hl⟩
  · rintro k s rfl
    simp only [laws_heldIntS.l0]
    rw [if_neg (by omega)]
  · simp

theorem concat_ev (l m : List Int) (hl : l.length ≤ 1048576) (hm : m.length ≤ 1048576) : Evt (fun k => slices_Concat_int_int.f k [l, m]) (l ++ m) := by
  have r0 : rd_L3 [l, m] 0 = l := rfl
  have r1 : rd_L3 [l, m] 1 = m := rfl
  have w0 : wrap64 ((0 : Int) + (l.length : Int)) = (l.length : Int) := (w64 (by omega) (by omega)).trans (by omega)
  have w1 : wrap64 ((l.length : Int) + (m.length : Int)) = ((l.length + m.length : Nat) : Int) := (w64 (by omega) (by omega)).trans (by omega)
  have wi0 : wrap64 ((0 : Int) + 1) = 1 := by decide +kernel
  have wi1 : wrap64 ((1 : Int) + 1) = 2 := by decide +kernel
  have hlen : (([l, m] : List (List Int)).length : Int) = 2 := rfl
  have a2 : Evt (fun k => slices_Concat_int_int.l1 k (l ++ m) [l, m] 2 2) (l ++ m) := Evt.done fun k => by
    simp only [slices_Concat_int_int.l1]
    rw [if_neg (by omega)]
  have a1 : Evt (fun k => slices_Concat_int_int.l1 k l [l, m] 2 1) (l ++ m) := Evt.step a2 fun k => by
    simp only [slices_Concat_int_int.l1]
    rw [if_pos (by omega), if_pos (by omega), if_pos (by rw [hlen]; omega), r1, if_pos (by omega), wi1]
  have a0 : Evt (fun k => slices_Concat_int_int.l1 k [] [l, m] 2 0) (l ++ m) := Evt.step a1 fun k => by
    simp only [slices_Concat_int_int.l1]
    rw [if_pos (by omega), if_pos (by omega), if_pos (by rw [hlen]; omega), r0, if_pos (by rw [List.length_nil]; omega), wi0, List.nil_append]
  have b2 : Evt (fun k => slices_Concat_int_int.l0 k [l, m] ((l.length + m.length : Nat) : Int) [l, m] 2 2) (l ++ m) := Evt.step a0 fun k => by
    simp only [slices_Concat_int_int.l0]
    have g : slices_Grow_int_int.f [] ((l.length + m.length : Nat) : Int) = some [] := by
      unfold slices_Grow_int_int.f
      rw [if_pos ⟨rfl, by omega, by omega⟩]
    rw [if_neg (by omega), g, Option.bind_some, hlen]
  have b1 : Evt (fun k => slices_Concat_int_int.l0 k [l, m] (l.length : Int) [l, m] 2 1) (l ++ m) := Evt.step b2 fun k => by
    simp only [slices_Concat_int_int.l0]
    rw [if_pos (by omega), if_pos (by omega), if_pos (by rw [hlen]; omega), r1, w1, if_neg (by omega), wi1]
  have b0 : Evt (fun k => slices_Concat_int_int.l0 k [l, m] 0 [l, m] 2 0) (l ++ m) := Evt.step b1 fun k => by
    simp only [slices_Concat_int_int.l0]
    rw [if_pos (by omega), if_pos (by omega), if_pos (by rw [hlen]; omega), r0, w0, if_neg (by omega), wi0]
  exact b0.congr fun k => by unfold slices_Concat_int_int.f; rw [hlen]
theorem wl_bd (A : Int) : 0 ≤ wl A ∧ wl A ≤ 18446744073709551615 := by unfold wl; omega
theorem clone_int_eq (l : List Int) (h : l.length ≤ 1048576) : slices_Clone_int_int.f l = some l := by
  unfold slices_Clone_int_int.f
  rw [if_pos (by omega)]
theorem zero_wide (S : Int) (hS : Rng S) (h1 : wh S = 0) (h2 : wl S = 0) : S = 0 := by
  unfold Rng at hS
  unfold wh wrap64 at h1
  unfold wl at h2
  omega
theorem join_both (N S mi ma : Int) (l : List Int) (M U mj mb : Int) (m : List Int) (hS : Rng S) (hU : Rng U) (hmi : inr mi) (hmj : inr mj) (hl : ∀ x ∈ l, inr x) (hm : ∀ x ∈ m, inr x) (hll : l.length ≤ 1048576) (hml : m.length ≤ 1048576) :
    ∃ (n s1 s2 a b : Int) (t : List Int) (f : Bool), t.length ≤ 4 ∧ Evt (fun k => spec_AggJoin.f k N (wh S) (wl S) mi ma l M (wh U) (wl U) mj mb m) (n, s1, s2, a, b, t, f) ∧ Evt (fun k => impl_AggJoin.f k N (wh S) (wl S) mi ma l M (wh U) (wl U) mj mb m) (n, s1, s2, a, b, t, f) := by
  obtain ⟨r, a1, a2, a3⟩ := both N S mi ma l hS hmi hl
  obtain ⟨q, b1, b2, b3⟩ := both M U mj mb m hU hmj hm
  have js : Evt (fun k => spec_AggJoin.j0 k true N (wh S) (wl S) mi ma l M (wh U) (wl U) mj mb m) (0, 0, 0, 0, 0, ([] : List Int), false) := Evt.done fun k => by simp only [spec_AggJoin.j0, if_true]
  have sp : ∀ x, Evt (fun k => if r = true then (if q = true then spec_AggJoin.j0 k (decide ((wrap64 (N + M)) > 1000000)) N (wh S) (wl S) mi ma l M (wh U) (wl U) mj mb m else spec_AggJoin.j0 k true N (wh S) (wl S) mi ma l M (wh U) (wl U) mj mb m) else spec_AggJoin.j0 k true N (wh S) (wl S) mi ma l M (wh U) (wl U) mj mb m) x → Evt (fun k => spec_AggJoin.f k N (wh S) (wl S) mi ma l M (wh U) (wl U) mj mb m) x := fun x hx => by
    refine Evt.bind (f := fun k => spec_AggOk.f k N (wh S) (wl S) mi ma l) (g := fun t k => if t = true then ((spec_AggOk.f k M (wh U) (wl U) mj mb m).bind fun t232 => if t232 = true then spec_AggJoin.j0 k (decide ((wrap64 (N + M)) > 1000000)) N (wh S) (wl S) mi ma l M (wh U) (wl U) mj mb m else spec_AggJoin.j0 k true N (wh S) (wl S) mi ma l M (wh U) (wl U) mj mb m) else spec_AggJoin.j0 k true N (wh S) (wl S) mi ma l M (wh U) (wl U) mj mb m) a1 ?_
    cases r with
    | false => exact hx.congr fun k => by rw [if_neg (by decide), if_neg (by decide)]
    | true =>
      refine (Evt.bind (f := fun k => spec_AggOk.f k M (wh U) (wl U) mj mb m) (g := fun t232 k => if t232 = true then spec_AggJoin.j0 k (decide ((wrap64 (N + M)) > 1000000)) N (wh S) (wl S) mi ma l M (wh U) (wl U) mj mb m else spec_AggJoin.j0 k true N (wh S) (wl S) mi ma l M (wh U) (wl U) mj mb m) b1 (hx.congr fun k => ?_)).congr fun k => if_pos rfl
      rw [if_pos rfl]
  have ip : ∀ x, Evt (fun k => if r = true then (if q = true then (if (wrap64 (N + M)) > 1000000 then some (0, 0, 0, 0, 0, ([] : List Int), false) else ((impl_joined.f k N (wh S) (wl S) mi ma l M (wh U) (wl U) mj mb m).bind fun bt => some (bt.1, bt.2.1, bt.2.2.1, bt.2.2.2.1, bt.2.2.2.2.1, bt.2.2.2.2.2, true))) else some (0, 0, 0, 0, 0, ([] : List Int), false)) else some (0, 0, 0, 0, 0, ([] : List Int), false)) x → Evt (fun k => impl_AggJoin.f k N (wh S) (wl S) mi ma l M (wh U) (wl U) mj mb m) x := fun x hx => by
    refine Evt.bind (f := fun k => impl_isAgg.f k N (wh S) (wl S) mi ma l) (g := fun t k => if t = true then ((impl_isAgg.f k M (wh U) (wl U) mj mb m).bind fun t300 => if t300 = true then (if (wrap64 (N + M)) > 1000000 then some (0, 0, 0, 0, 0, ([] : List Int), false) else ((impl_joined.f k N (wh S) (wl S) mi ma l M (wh U) (wl U) mj mb m).bind fun bt => some (bt.1, bt.2.1, bt.2.2.1, bt.2.2.2.1, bt.2.2.2.2.1, bt.2.2.2.2.2, true))) else some (0, 0, 0, 0, 0, ([] : List Int), false)) else some (0, 0, 0, 0, 0, ([] : List Int), false)) a2 ?_
    cases r with
    | false => exact hx.congr fun k => by rw [if_neg (by decide), if_neg (by decide)]
    | true =>
      refine (Evt.bind (f := fun k => impl_isAgg.f k M (wh U) (wl U) mj mb m) (g := fun t300 k => if t300 = true then (if (wrap64 (N + M)) > 1000000 then some (0, 0, 0, 0, 0, ([] : List Int), false) else ((impl_joined.f k N (wh S) (wl S) mi ma l M (wh U) (wl U) mj mb m).bind fun bt => some (bt.1, bt.2.1, bt.2.2.1, bt.2.2.2.1, bt.2.2.2.2.1, bt.2.2.2.2.2, true))) else some (0, 0, 0, 0, 0, ([] : List Int), false)) b2 (hx.congr fun k => ?_)).congr fun k => if_pos rfl
      rw [if_pos rfl]
  cases r with
  | false => exact ⟨_, _, _, _, _, _, _, by simp, sp _ (js.congr fun k => if_neg (by decide)), ip _ ((Evt.const _).congr fun k => if_neg (by decide))⟩
  | true =>
  cases q with
  | false => exact ⟨_, _, _, _, _, _, _, by simp, sp _ (js.congr fun k => by rw [if_pos rfl, if_neg (by decide)]), ip _ ((Evt.const _).congr fun k => by rw [if_pos rfl, if_neg (by decide)])⟩
  | true =>
  have A := a3 rfl
  have B := b3 rfl
  have hN : 0 ≤ N ∧ N ≤ 1000000 := by rcases A with ⟨e, _⟩ | ⟨e, _⟩ <;> omega
  have hM : 0 ≤ M ∧ M ≤ 1000000 := by rcases B with ⟨e, _⟩ | ⟨e, _⟩ <;> omega
  have hw : wrap64 (N + M) = N + M := w64 (by omega) (by omega)
  rw [hw] at sp ip
  by_cases hb : N + M > 1000000
  · rw [decide_eq_true hb] at sp
    exact ⟨_, _, _, _, _, _, _, by simp, sp _ (js.congr fun k => by rw [if_pos rfl, if_pos rfl]), ip _ ((Evt.const _).congr fun k => by rw [if_pos rfl, if_pos rfl, if_pos hb])⟩
  rw [decide_eq_false hb] at sp
  have ha : impl_WideAdd.f (wh S) (wl S) (wh U) (wl U) = some (wh (S + U), wl (S + U)) := impl_add_wide S U
  have hs : spec_WideAdd.f (wh S) (wl S) (wh U) (wl U) = some (wh (S + U), wl (S + U)) := by rw [← add_same _ _ _ _ (wl_bd S) (wl_bd U)]; exact ha
  have ht := topof_ev l m (by omega)
  have sp2 : ∀ x, Evt (fun _ : Nat => if N = 0 then (if M = 0 then some (N + M, wh (S + U), wl (S + U), mi, ma, top4 (l ++ m), true) else some (N + M, wh (S + U), wl (S + U), mj, mb, top4 (l ++ m), true)) else (if M = 0 then some (N + M, wh (S + U), wl (S + U), mi, ma, top4 (l ++ m), true) else some (N + M, wh (S + U), wl (S + U), mn mi mj, mx ma mb, top4 (l ++ m), true))) x → Evt (fun k => spec_AggJoin.f k N (wh S) (wl S) mi ma l M (wh U) (wl U) mj mb m) x := fun x hx => by
    refine sp _ (Evt.congr (g := fun k => spec_AggJoin.j0 k false N (wh S) (wl S) mi ma l M (wh U) (wl U) mj mb m) ?_ fun k => by rw [if_pos rfl, if_pos rfl])
    refine Evt.step (Evt.bind (f := fun k => spec_TopOf.f k l m) (g := fun t _ => if N = 0 then (if M = 0 then some (N + M, wh (S + U), wl (S + U), mi, ma, t, true) else some (N + M, wh (S + U), wl (S + U), mj, mb, t, true)) else (if M = 0 then some (N + M, wh (S + U), wl (S + U), mi, ma, t, true) else some (N + M, wh (S + U), wl (S + U), mn mi mj, mx ma mb, t, true))) ht hx) fun k => ?_
    simp only [spec_AggJoin.j0, Bool.false_eq_true, if_false]
    rw [hs, Option.bind_some, hw]
  have ip2 : ∀ n s1 s2 a b t, Evt (fun k => impl_joined.f k N (wh S) (wl S) mi ma l M (wh U) (wl U) mj mb m) (n, s1, s2, a, b, t) → Evt (fun k => impl_AggJoin.f k N (wh S) (wl S) mi ma l M (wh U) (wl U) mj mb m) (n, s1, s2, a, b, t, true) := fun n s1 s2 a b t hx => by
    refine ip _ (Evt.congr (g := fun k => (impl_joined.f k N (wh S) (wl S) mi ma l M (wh U) (wl U) mj mb m).bind fun bt => some (bt.1, bt.2.1, bt.2.2.1, bt.2.2.2.1, bt.2.2.2.2.1, bt.2.2.2.2.2, true)) ?_ fun k => by rw [if_pos rfl, if_pos rfl, if_neg hb])
    exact Evt.bind (g := fun bt _ => some (bt.1, bt.2.1, bt.2.2.1, bt.2.2.2.1, bt.2.2.2.2.1, bt.2.2.2.2.2, true)) hx (Evt.const _)
  have dl : Desc l ∧ l.length ≤ 4 := by
    rcases A with ⟨_, _, _, _, _, rfl⟩ | ⟨_, e, d⟩
    · exact ⟨List.Pairwise.nil, by simp⟩
    · exact ⟨d, e⟩
  have dm : Desc m ∧ m.length ≤ 4 := by
    rcases B with ⟨_, _, _, _, _, rfl⟩ | ⟨_, e, d⟩
    · exact ⟨List.Pairwise.nil, by simp⟩
    · exact ⟨d, e⟩
  by_cases c0 : N = 0
  · rcases A with ⟨_, e1, e2, e3, e4, e5⟩ | ⟨e, _⟩
    rotate_left
    · omega
    have z := zero_wide S hS e1 e2
    have ej : Evt (fun k => impl_joined.f k N (wh S) (wl S) mi ma l M (wh U) (wl U) mj mb m) (M, wh U, wl U, mj, mb, m) := (Evt.const _).congr fun k => by
      unfold impl_joined.f
      rw [if_pos c0, clone_int_eq m hml]; rfl
    refine ⟨_, _, _, _, _, _, _, dm.2, sp2 _ ((Evt.const _).congr fun k => ?_), ip2 _ _ _ _ _ _ ej⟩
    rw [if_pos c0, c0, z, e5, Int.zero_add, Int.zero_add, List.nil_append, top4_of_desc dm.1 dm.2]
    by_cases c1 : M = 0
    · rcases B with ⟨_, _, _, f3, f4, _⟩ | ⟨f, _⟩
      · rw [if_pos c1, e3, e4, f3, f4]
      · omega
    · rw [if_neg c1]
  · by_cases c1 : M > 0
    · have ej : Evt (fun k => impl_joined.f k N (wh S) (wl S) mi ma l M (wh U) (wl U) mj mb m) (N + M, wh (S + U), wl (S + U), mn mi mj, mx ma mb, top4 (l ++ m)) := by
        have et : impl_topOf.f (l ++ m) = some (top4 (l ++ m)) := by
          unfold impl_topOf.f
          rw [if_pos (by rw [List.length_append]; omega)]; rfl
        refine Evt.congr (g := fun k => (slices_Concat_int_int.f k [l, m]).bind fun c => (impl_topOf.f c).bind fun t => some (N + M, wh (S + U), wl (S + U), mn mi mj, mx ma mb, t)) ?_ fun k => by
          unfold impl_joined.f
          rw [if_neg c0, if_pos c1, ha, Option.bind_some, hw]
        exact Evt.bind (g := fun c _ => (impl_topOf.f c).bind fun t => some (N + M, wh (S + U), wl (S + U), mn mi mj, mx ma mb, t)) (concat_ev l m hll hml) ((Evt.const _).congr fun k => by rw [et, Option.bind_some])
      refine ⟨_, _, _, _, _, _, _, top4_length _, sp2 _ ((Evt.const _).congr fun k => ?_), ip2 _ _ _ _ _ _ ej⟩
      rw [if_neg c0, if_neg (by omega)]
    · have c2 : M = 0 := by omega
      rcases B with ⟨_, e1, e2, e3, e4, e5⟩ | ⟨e, _⟩
      rotate_left
      · omega
      have z := zero_wide U hU e1 e2
      have ej : Evt (fun k => impl_joined.f k N (wh S) (wl S) mi ma l M (wh U) (wl U) mj mb m) (N, wh S, wl S, mi, ma, l) := (Evt.const _).congr fun k => by
        unfold impl_joined.f
        rw [if_neg c0, if_neg c1, clone_int_eq l hll]; rfl
      refine ⟨_, _, _, _, _, _, _, dl.2, sp2 _ ((Evt.const _).congr fun k => ?_), ip2 _ _ _ _ _ _ ej⟩
      rw [if_neg c0, if_pos c2, c2, z, e5, Int.add_zero, Int.add_zero, List.append_nil, top4_of_desc dl.1 dl.2]
theorem szAgg_eq (N s1 s2 a b : Int) (l : List Int) (x : Int) (hx : 0 ≤ x ∧ x ≤ 1048576) (hl : l.length ≤ 9223372036854775807) : laws_szAgg.f N s1 s2 a b l x = some (if x - (l.length : Int) < 0 then -1 else x - l.length) := by
  unfold laws_szAgg.f laws_szIntS.f
  rw [w64 (by omega) (by omega)]
  by_cases c : x - (l.length : Int) < 0
  · rw [if_pos c, if_pos c]; rfl
  · rw [if_neg c, if_neg c]
    simp only [Option.bind_some]
    rw [if_neg c]
theorem FnExactAggJoin : Say.FnExactAggJoin := by
  intro N a b mi ma l M c d mj mb m hN ha hb hmi hma hll hl hM hc hd hmj hmb hml hm
  obtain ⟨S, hS, rfl, rfl⟩ := halves a b ha hb
  obtain ⟨U, hU, rfl, rfl⟩ := halves c d hc hd
  refine Evt.ex (r := true) ?_
  by_cases hs : (1048576 : Int) - l.length < 0
  · refine (Evt.const true).congr fun k => ?_
    unfold laws_FnExactAggJoin.f
    rw [szAgg_eq N _ _ mi ma l _ (by omega) hll, if_pos hs]
    rfl
  by_cases hq : (1048576 : Int) - l.length - m.length < 0
  · refine (Evt.const true).congr fun k => ?_
    unfold laws_FnExactAggJoin.f
    rw [szAgg_eq N _ _ mi ma l _ (by omega) hll, if_neg hs, Option.bind_some, if_neg hs, szAgg_eq M _ _ mj mb m _ (by omega) hml, if_pos hq]
    rfl
  have hl' : l.length ≤ 1048576 := by omega
  have hm' : m.length ≤ 1048576 := by omega
  obtain ⟨n, s1, s2, p, q, t, f, ht, h1, h2⟩ := join_both N S mi ma l M U mj mb m hS hU hmi hmj hl hm hl' hm'
  obtain ⟨K3, t3⟩ := h1
  obtain ⟨K4, t4⟩ := h2
  simp only at t3 t4
  have ta : ∀ (N s1 s2 a b : Int) (l : List Int) (k : Nat), l.length < k → l.length ≤ 1048576 → laws_toAgg.f k N s1 s2 a b l = some (N, s1, s2, a, b, l) := fun N s1 s2 a b l k hk hl => by
    unfold laws_toAgg.f laws_toWide.f
    rw [toIntS_eq l k hk hl]; rfl
  have te : ∀ (N s1 s2 a b : Int) (t : List Int) (k : Nat), t.length < k → t.length ≤ 1048576 → laws_eqAgg.f k N s1 s2 a b t N s1 s2 a b t = some true := fun N s1 s2 a b t k hk hl => by
    unfold laws_eqAgg.f laws_eqWide.f
    rw [eqIntS_refl t k hk (by omega)]
    simp
  have tm : ∀ (N s1 s2 a b : Int) (t : List Int) (z : Int) (k : Nat), t.length < k → t.length ≤ 1048576 → 0 ≤ z ∧ z ≤ 10000000 → laws_markAgg.f k N s1 s2 a b t z = some (z + 1 * (t.length : Int), patInt z t.length) := fun N s1 s2 a b t z k hk hl hz => by
    unfold laws_markAgg.f
    rw [markIntS_eq t z k hk (by omega) (by omega) (by omega)]; rfl
  have th : ∀ k, t.length < k → laws_heldAgg.f k n s1 s2 p q (patInt 1 t.length) 1 = some (1 + 1 * (t.length : Int)) := fun k hk => by
    unfold laws_heldAgg.f
    rw [heldIntS_eq 1 t.length k hk (by omega) (by omega) (by omega)]
    simp only [Option.bind_some]
    rw [if_neg (by omega)]
  refine ⟨K3 + K4 + l.length + m.length + t.length + 10, fun k hk => ?_⟩
  obtain ⟨j, rfl⟩ : ∃ j, k = j + 3 := ⟨k - 3, by omega⟩
  have e2 : ¬ (1 + 1 * (t.length : Int) < 0) := by omega
  have e3 : ¬ (1 + 1 * (l.length : Int) + 1 * (m.length : Int) < 0) := by omega
  have q2 : laws_FnExactAggJoin.j2 (j + 1) (1 + 1 * (t.length : Int)) false n s1 s2 p q (patInt 1 t.length) = some true := by
    rw [laws_FnExactAggJoin.j2, if_neg (by decide), th j (by omega), Option.bind_some, if_neg e2, if_pos rfl]
  have q1 : laws_FnExactAggJoin.j1 (j + 2) f false N (wh S) (wl S) mi ma l M (wh U) (wl U) mj mb m n s1 s2 p q t n s1 s2 p q t = some true := by
    rw [laws_FnExactAggJoin.j1, if_neg (by decide), tm n s1 s2 p q t 1 (j + 1) (by omega) (by omega) (by omega), Option.bind_some]
    dsimp only
    rw [th (j + 1) (by omega), Option.bind_some, if_neg e2, if_pos rfl, ta N _ _ mi ma l (j + 1) (by omega) hl', Option.bind_some, ta M _ _ mj mb m (j + 1) (by omega) hm', Option.bind_some]
    dsimp only
    rw [t4 (j + 1) (by omega), Option.bind_some]
    dsimp only
    rw [te n s1 s2 p q t (j + 1) (by omega) (by omega), Option.bind_some, if_pos rfl, bne_self_eq_false]
    exact q2
  have q0 : laws_FnExactAggJoin.j0 (j + 3) f f false N (wh S) (wl S) mi ma l M (wh U) (wl U) mj mb m n s1 s2 p q t N (wh S) (wl S) mi ma l M (wh U) (wl U) mj mb m n s1 s2 p q t = some true := by
    rw [laws_FnExactAggJoin.j0, if_neg (by decide), ta N _ _ mi ma l (j + 2) (by omega) hl', Option.bind_some]
    dsimp only
    rw [te N _ _ mi ma l (j + 2) (by omega) hl', Option.bind_some, if_pos rfl, ta M _ _ mj mb m (j + 2) (by omega) hm', Option.bind_some]
    dsimp only
    rw [te M _ _ mj mb m (j + 2) (by omega) hm', Option.bind_some, if_pos rfl, tm N _ _ mi ma l 1 (j + 2) (by omega) hl' (by omega), Option.bind_some]
    dsimp only
    rw [tm M _ _ mj mb m _ (j + 2) (by omega) hm' (by omega), Option.bind_some]
    dsimp only
    rw [if_neg e3, te n s1 s2 p q t (j + 2) (by omega) (by omega), Option.bind_some, if_pos rfl, bne_self_eq_false]
    exact q1
  show laws_FnExactAggJoin.f (j + 3) N (wh S) (wl S) mi ma l M (wh U) (wl U) mj mb m = some true
  unfold laws_FnExactAggJoin.f
  rw [szAgg_eq N _ _ mi ma l _ (by omega) hll, if_neg hs, Option.bind_some, if_neg hs, szAgg_eq M _ _ mj mb m _ (by omega) hml, if_neg hq, Option.bind_some, if_neg hq, ta N _ _ mi ma l (j + 3) (by omega) hl', Option.bind_some, ta M _ _ mj mb m (j + 3) (by omega) hm', Option.bind_some]
  dsimp only
  rw [t3 (j + 3) (by omega), Option.bind_some, Option.bind_some, Option.bind_some]
  dsimp only
  rw [t4 (j + 3) (by omega), Option.bind_some]
  dsimp only
  rw [te n s1 s2 p q t (j + 3) (by omega) (by omega), Option.bind_some, if_pos rfl, bne_self_eq_false]
  exact q0

end Go.Proofs.Ytnnahpmnkpmopaa.Pure
