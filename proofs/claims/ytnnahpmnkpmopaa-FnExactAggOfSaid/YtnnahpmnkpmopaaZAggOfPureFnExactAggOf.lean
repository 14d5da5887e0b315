/- Proved: for every list the program's AggOf answers as the reference's, leaves its argument as it was and hands back memory of its own. No other condition. -/
import Derived.Test.YtnnahpmnkpmopaaZAggOfSayFnExactAggOf
import Derived.Test.YtnnahpmnkpmopaaZAggOfBase
import Derived.Test.YtnnahpmnkpmopaaZAggOfEv
import Derived.Test.YtnnahpmnkpmopaaZAggOfEw
namespace Go.Proofs.Ytnnahpmnkpmopaa.Pure
open Go.RowKit Go.Proofs.Ytnnahpmnkpmopaa.QFnExactAggOf Go.Proofs.YtnnahpmnkpmopaaW.PrintWords Go.Proofs.YtnnahpmnkpmopaaW.PrintLast Go.Proofs.YtnnahpmnkpmopaaW.PrintMore
open Go.Proofs.Ytnnahpmnkpmopaa.Base
set_option linter.unusedSimpArgs false
set_option linter.unusedVariables false

open Go.Proofs.Ytnnahpmnkpmopaa.Evt
/-- The halves of a whole number, as a wide one has them. -/
def wh (A : Int) : Int := wrap64 (A / 18446744073709551616)
def wl (A : Int) : Int := A % 18446744073709551616
theorem carry (a b c : Int) (h : c = a + b) : (c % 18446744073709551616 = a % 18446744073709551616 + b % 18446744073709551616 ∧ c / 18446744073709551616 = a / 18446744073709551616 + b / 18446744073709551616) ∨ (c % 18446744073709551616 + 18446744073709551616 = a % 18446744073709551616 + b % 18446744073709551616 ∧ c / 18446744073709551616 = a / 18446744073709551616 + b / 18446744073709551616 + 1) := by omega
theorem hi0 (x y : Int) : wrap64 (IntKind.u64.wrap ((IntKind.u64.wrap (wrap64 x)) + (IntKind.u64.wrap (wrap64 y)))) = wrap64 (x + y) := by
  simp only [wu64]
  unfold wrap64
  omega
theorem hi1 (x y : Int) : wrap64 (IntKind.u64.wrap ((IntKind.u64.wrap ((IntKind.u64.wrap (wrap64 x)) + (IntKind.u64.wrap (wrap64 y)))) + 1)) = wrap64 (x + y + 1) := by
  simp only [wu64]
  unfold wrap64
  omega
theorem spec_add_wide (A B : Int) : spec_WideAdd.f (wh A) (wl A) (wh B) (wl B) = some (wh (A + B), wl (A + B)) := by
  unfold spec_WideAdd.f wh wl
  rw [hi0, hi1]
  rcases carry A B (A + B) rfl with ⟨h1, h2⟩ | ⟨h1, h2⟩
  · have e : IntKind.u64.wrap (A % 18446744073709551616 + B % 18446744073709551616) = (A + B) % 18446744073709551616 := by rw [wu64]; omega
    rw [e, if_neg (by omega), h2]
  · have e : IntKind.u64.wrap (A % 18446744073709551616 + B % 18446744073709551616) = (A + B) % 18446744073709551616 := by rw [wu64]; omega
    rw [e, if_pos (by omega), h2]
theorem wh0 : wh 0 = 0 := by decide +kernel
theorem wl1 : wl 1 = 1 := by decide +kernel
theorem wl0 : wl 0 = 0 := by decide +kernel
theorem wh1 : wh 1 = 0 := by decide +kernel
theorem spec_of_wide (n : Int) (h : -9223372036854775808 ≤ n ∧ n ≤ 9223372036854775807) : spec_WideOf.f n = some (wh n, wl n) := by
  unfold spec_WideOf.f
  rw [wu64]
  have e : n % 18446744073709551616 = wl n := rfl
  by_cases c : n < 0
  · rw [if_pos c, e]
    have : wh n = -1 := by unfold wh wrap64; omega
    rw [this]
  · rw [if_neg c, e]
    have : wh n = 0 := by unfold wh wrap64; omega
    rw [this]
def fits (A : Int) : Bool := decide (-9223372036854775808 ≤ A) && decide (A ≤ 9223372036854775807)

/-- Not rising. -/
def Desc (l : List Int) : Prop := l.Pairwise (fun a b => b ≤ a)
theorem desc_get {l : List Int} (h : Desc l) (i j : Nat) (hj : j < l.length) (hij : i ≤ j) : l[j] ≤ l[i] := by
  rcases Nat.lt_or_eq_of_le hij with c | c
  · exact List.pairwise_iff_getElem.mp h i j (by omega) hj c
  · subst c; exact Int.le_refl _
theorem desc_adj {l : List Int} (h : ∀ i : Nat, (hi : i + 1 < l.length) → l[i + 1] ≤ l[i]) : Desc l := by
  refine List.pairwise_iff_getElem.mpr ?_
  intro i j hi hj hij
  obtain ⟨d, rfl⟩ : ∃ d, j = i + 1 + d := ⟨j - i - 1, by omega⟩
  induction d with
  | zero => exact h i (by omega)
  | succ d ih => exact Int.le_trans (h (i + 1 + d) (by omega)) (ih (by omega) (by omega))
theorem pick_ev (all out : List Int) (h0 : 0 < all.length) (hl : all.length ≤ 4194304) (ho : out.length ≤ 16) :
    ∃ at_ : Nat, at_ < all.length ∧ (∀ j : Nat, j < all.length → rd all (j : Int) ≤ rd all (at_ : Int)) ∧ (Desc all → at_ = 0) ∧
      ∀ r, Evt (fun k => spec_TopOf.l0 k (all.take at_ ++ all.drop (at_ + 1)) (out ++ [rd all (at_ : Int)])) r → Evt (fun k => spec_TopOf.l1 k all out 0 0) r := by
  have go : ∀ (m i a : Nat), i + m = all.length → a < all.length → (∀ j : Nat, j < i → rd all (j : Int) ≤ rd all (a : Int)) → (Desc all → a = 0) →
      ∃ at_ : Nat, at_ < all.length ∧ (∀ j : Nat, j < all.length → rd all (j : Int) ≤ rd all (at_ : Int)) ∧ (Desc all → at_ = 0) ∧
        ∀ r, Evt (fun k => spec_TopOf.l0 k (all.take at_ ++ all.drop (at_ + 1)) (out ++ [rd all (at_ : Int)])) r → Evt (fun k => spec_TopOf.l1 k all out (a : Int) (i : Int)) r := by
    intro m
    induction m with
    | zero =>
      intro i a hi ha hj hd
      refine ⟨a, ha, fun j hj' => hj j (by omega), hd, fun r hr => Evt.step hr fun k => ?_⟩
      have w : wrap64 ((a : Int) + 1) = ((a + 1 : Nat) : Int) := (w64 (by omega) (by omega)).trans (by omega)
      have n1 : ([] : List Int).length + (all.take (a : Int).toNat).length < 17592186044416 := by
        rw [List.length_take, List.length_nil, Int.toNat_natCast]; omega
      have n2 : (([] : List Int) ++ all.take (a : Int).toNat).length + (all.drop ((a + 1 : Nat) : Int).toNat).length < 17592186044416 := by
        rw [List.nil_append, List.length_take, List.length_drop, Int.toNat_natCast, Int.toNat_natCast]; omega
      simp only [spec_TopOf.l1]
      rw [if_neg (show ¬ (i : Int) < (all.length : Int) by omega), if_pos (show (0 : Int) ≤ (a : Int) by omega), if_pos (show (a : Int) < (all.length : Int) by omega), if_pos (show out.length < 17592186044416 by omega)]
      simp only [Option.bind_some, w]
      rw [if_pos (show (a : Int) ≤ (all.length : Int) by omega), if_pos n1, if_pos (show (0 : Int) ≤ ((a + 1 : Nat) : Int) by omega), if_pos (show ((a + 1 : Nat) : Int) ≤ (all.length : Int) by omega), if_pos n2]
      rfl
    | succ m ih =>
      intro i a hi ha hj hd
      have hi' : i < all.length := by omega
      have w : wrap64 ((i : Int) + 1) = ((i + 1 : Nat) : Int) := (w64 (by omega) (by omega)).trans (by omega)
      by_cases c : rd all (i : Int) > rd all (a : Int)
      · obtain ⟨t, t1, t2, t3, t4⟩ := ih (i + 1) i (by omega) hi' (fun j hj' => by
            by_cases e : j = i
            · subst e; exact Int.le_refl _
            · have := hj j (by omega); omega) (fun h => by
            have a0 := hd h
            subst a0
            have := desc_get h 0 i hi' (by omega)
            rw [rd_nat all i hi', rd_nat all 0 ha] at c
            omega)
        refine ⟨t, t1, t2, t3, fun r hr => Evt.step (t4 r hr) fun k => ?_⟩
        simp only [spec_TopOf.l1]
        rw [if_pos (by omega), if_pos (by omega), if_pos (by omega), if_pos (by omega), if_pos c, w]
      · obtain ⟨t, t1, t2, t3, t4⟩ := ih (i + 1) a (by omega) ha (fun j hj' => by
            by_cases e : j = i
            · subst e; omega
            · exact hj j (by omega)) hd
        refine ⟨t, t1, t2, t3, fun r hr => Evt.step (t4 r hr) fun k => ?_⟩
        simp only [spec_TopOf.l1]
        rw [if_pos (by omega), if_pos (by omega), if_pos (by omega), if_pos (by omega), if_neg c, w]
  exact go all.length 0 0 (by omega) h0 (fun j hj => by omega) (fun _ => rfl)
theorem sort_ev : ∀ (m : Nat) (all out : List Int), all.length = m → out.length + m ≤ 4 → Desc out → (∀ x ∈ all, ∀ y ∈ out, x ≤ y) →
    ∃ res, Evt (fun k => spec_TopOf.l0 k all out) res ∧ Desc res ∧ (Desc all → res = out ++ all)
  | 0, all, out, hm, hl, hd, _ => by
    obtain rfl : all = [] := List.eq_nil_of_length_eq_zero hm
    refine ⟨out, ?_, hd, fun _ => by simp⟩
    refine Evt.step (g := fun k => spec_TopOf.j1 k [] out false) (Evt.done fun k => by simp only [spec_TopOf.j1, Bool.false_eq_true, if_false]) fun k => ?_
    simp only [spec_TopOf.l0]
    have : decide ((([] : List Int).length : Int) > 0) = false := by decide
    rw [this, ite_self]
  | m + 1, all, out, hm, hl, hd, hx => by
    obtain ⟨a, a1, a2, a3, a4⟩ := pick_ev all out (by omega) (by omega) (by omega)
    have ea : rd all (a : Int) = all[a] := rd_nat all a a1
    have hlen : (all.take a ++ all.drop (a + 1)).length = m := by rw [List.length_append, List.length_take, List.length_drop]; omega
    have hmem : ∀ x ∈ all.take a ++ all.drop (a + 1), x ∈ all := by
      intro x hx
      rcases List.mem_append.mp hx with g | g
      · exact List.mem_of_mem_take g
      · exact List.mem_of_mem_drop g
    have hmax : ∀ x ∈ all, x ≤ rd all (a : Int) := by
      intro x hx
      obtain ⟨j, hj, rfl⟩ := List.getElem_of_mem hx
      have := a2 j hj
      rw [rd_nat all j hj] at this
      exact this
    have hd' : Desc (out ++ [rd all (a : Int)]) := by
      refine List.pairwise_append.mpr ⟨hd, List.pairwise_singleton _ _, fun y hy z hz => ?_⟩
      rw [List.mem_singleton.mp hz, ea]
      exact hx _ (List.getElem_mem _) y hy
    obtain ⟨res, r1, r2, r3⟩ := sort_ev m (all.take a ++ all.drop (a + 1)) (out ++ [rd all (a : Int)]) hlen (by rw [List.length_append]; simp only [List.length_cons, List.length_nil]; omega) hd' (by
      intro x hxm y hy
      rcases List.mem_append.mp hy with g | g
      · exact hx x (hmem x hxm) y g
      · rw [List.mem_singleton.mp g]; exact hmax x (hmem x hxm))
    refine ⟨res, ?_, r2, fun h => ?_⟩
    · refine Evt.step (g := fun k => spec_TopOf.j1 k all out true) (Evt.step (a4 res r1) fun k => by simp only [spec_TopOf.j1, if_true]) fun k => ?_
      simp only [spec_TopOf.l0]
      rw [if_pos (by omega), decide_eq_true (by omega)]
    · have a0 := a3 h
      subst a0
      cases all with
      | nil => simp at hm
      | cons x t =>
        have e := r3 (by simp only [List.take_zero, List.nil_append, Nat.zero_add, List.drop_succ_cons, List.drop_zero]; exact (List.pairwise_cons.mp h).2)
        rw [e]
        simp [rd]

/-- Sorted, the greatest first. -/
def srt (l : List Int) : List Int := (l.mergeSort (fun x y => decide (x ≤ y))).reverse
/-- The greatest four. -/
def top4 (l : List Int) : List Int := (srt l).take 4
theorem srt_perm (l : List Int) : (srt l).Perm l := (List.reverse_perm _).trans (List.mergeSort_perm _ _)
theorem srt_desc (l : List Int) : Desc (srt l) := by
  have h := List.pairwise_mergeSort (le := fun x y : Int => decide (x ≤ y)) (fun a b c h1 h2 => by simp only [decide_eq_true_eq] at *; omega) (fun a b => by simp only [Bool.or_eq_true, decide_eq_true_eq]; omega) l
  refine List.pairwise_reverse.mpr (h.imp fun g => ?_)
  simpa using g
theorem desc_uniq {l m : List Int} (h1 : Desc l) (h2 : Desc m) (h : l.Perm m) : l = m :=
  List.Perm.eq_of_pairwise (le := fun a b : Int => b ≤ a) (fun a b _ _ g1 g2 => Int.le_antisymm g2 g1) h1 h2 h
theorem srt_of_desc {l : List Int} (h : Desc l) : srt l = l := desc_uniq (srt_desc l) h (srt_perm l)
theorem srt_congr {l m : List Int} (h : l.Perm m) : srt l = srt m := desc_uniq (srt_desc l) (srt_desc m) (((srt_perm l).trans h).trans (srt_perm m).symm)
theorem srt_length (l : List Int) : (srt l).length = l.length := (srt_perm l).length_eq
theorem top4_desc (l : List Int) : Desc (top4 l) := (srt_desc l).sublist (List.take_sublist 4 (srt l))
theorem top4_length (l : List Int) : (top4 l).length ≤ 4 := by unfold top4; rw [List.length_take]; omega
theorem top4_mem {l : List Int} {x : Int} (h : x ∈ top4 l) : x ∈ l := (srt_perm l).mem_iff.mp (List.mem_of_mem_take h)
theorem top4_of_desc {l : List Int} (h : Desc l) (hl : l.length ≤ 4) : top4 l = l := by unfold top4; rw [srt_of_desc h, List.take_of_length_le hl]
/-- The greatest one stands ahead. -/
theorem srt_pick (l : List Int) (a : Nat) (ha : a < l.length) (hm : ∀ x ∈ l, x ≤ l[a]) : srt l = l[a] :: srt (l.take a ++ l.drop (a + 1)) := by
  refine desc_uniq (srt_desc l) (List.pairwise_cons.mpr ⟨fun y hy => ?_, srt_desc _⟩) ?_
  · have := (srt_perm _).mem_iff.mp hy
    rcases List.mem_append.mp this with g | g
    · exact hm y (List.mem_of_mem_take g)
    · exact hm y (List.mem_of_mem_drop g)
  · have e : l = l.take a ++ l[a] :: l.drop (a + 1) := by rw [← List.drop_eq_getElem_cons ha, List.take_append_drop]
    have p : l.Perm (l[a] :: (l.take a ++ l.drop (a + 1))) := by
      have q := List.perm_middle (a := l[a]) (l₁ := l.take a) (l₂ := l.drop (a + 1))
      rw [← e] at q
      exact q
    exact (srt_perm l).trans (p.trans ((srt_perm _).symm.cons _))
/-- The reference's rounds: what has been taken, then the greatest of what is left. -/
theorem pick4_ev : ∀ (m : Nat) (all out : List Int), out.length + m = 4 → all.length ≤ 4194304 → Evt (fun k => spec_TopOf.l0 k all out) (out ++ (srt all).take m)
  | 0, all, out, hm, hl => by
    refine Evt.step (g := fun k => spec_TopOf.j1 k all out false) (Evt.done fun k => by simp only [spec_TopOf.j1, Bool.false_eq_true, if_false, List.take_zero, List.append_nil]) fun k => ?_
    simp only [spec_TopOf.l0]
    rw [if_neg (by omega)]
  | m + 1, all, out, hm, hl => by
    by_cases h0 : all.length = 0
    · obtain rfl : all = [] := List.eq_nil_of_length_eq_zero h0
      have e : srt ([] : List Int) = [] := List.eq_nil_of_length_eq_zero (srt_length [])
      rw [e, List.take_nil, List.append_nil]
      refine Evt.step (g := fun k => spec_TopOf.j1 k [] out false) (Evt.done fun k => by simp only [spec_TopOf.j1, Bool.false_eq_true, if_false]) fun k => ?_
      simp only [spec_TopOf.l0]
      have : decide ((([] : List Int).length : Int) > 0) = false := by decide
      rw [this, ite_self]
    · obtain ⟨a, a1, a2, _, a4⟩ := pick_ev all out (by omega) hl (by omega)
      have ea : rd all (a : Int) = all[a] := rd_nat all a a1
      have hmax : ∀ x ∈ all, x ≤ all[a] := by
        intro x hx
        obtain ⟨j, hj, rfl⟩ := List.getElem_of_mem hx
        have := a2 j hj
        rw [rd_nat all j hj, ea] at this
        exact this
      have hlen : (all.take a ++ all.drop (a + 1)).length ≤ 4194304 := by rw [List.length_append, List.length_take, List.length_drop]; omega
      have ih := pick4_ev m (all.take a ++ all.drop (a + 1)) (out ++ [all[a]]) (by rw [List.length_append]; simp only [List.length_cons, List.length_nil]; omega) hlen
      have e : out ++ (srt all).take (m + 1) = (out ++ [all[a]]) ++ (srt (all.take a ++ all.drop (a + 1))).take m := by
        rw [srt_pick all a a1 hmax, List.take_succ_cons, List.append_assoc]; rfl
      rw [e]
      rw [ea] at a4
      refine Evt.step (g := fun k => spec_TopOf.j1 k all out true) (Evt.step (a4 _ ih) fun k => by simp only [spec_TopOf.j1, if_true]) fun k => ?_
      simp only [spec_TopOf.l0]
      rw [if_pos (by omega), decide_eq_true (by omega)]
theorem topof_ev (l m : List Int) (hl : l.length + m.length ≤ 4194304) : Evt (fun k => spec_TopOf.f k l m) (top4 (l ++ m)) := by
  have h := pick4_ev 4 (l ++ m) [] rfl (by rw [List.length_append]; exact hl)
  rw [List.nil_append] at h
  refine h.congr fun k => ?_
  unfold spec_TopOf.f
  simp only [Option.bind_some, List.nil_append, List.length_nil]
  rw [if_pos (by omega), if_pos (by omega)]
/-- A number comes to its place. -/
def ins (x : Int) : List Int → List Int
  | [] => [x]
  | y :: l => if y ≤ x then x :: y :: l else y :: ins x l
theorem ins_perm (x : Int) : ∀ l : List Int, (ins x l).Perm (x :: l)
  | [] => List.Perm.refl _
  | y :: l => by
    unfold ins
    by_cases c : y ≤ x
    · rw [if_pos c]
    · rw [if_neg c]; exact ((ins_perm x l).cons y).trans (List.Perm.swap x y l)
theorem ins_desc (x : Int) : ∀ l : List Int, Desc l → Desc (ins x l)
  | [], _ => List.pairwise_singleton _ _
  | y :: l, h => by
    unfold ins
    obtain ⟨h1, h2⟩ := List.pairwise_cons.mp h
    by_cases c : y ≤ x
    · rw [if_pos c]
      refine List.pairwise_cons.mpr ⟨fun z hz => ?_, h⟩
      rcases List.mem_cons.mp hz with rfl | hz
      · exact c
      · exact Int.le_trans (h1 z hz) c
    · rw [if_neg c]
      refine List.pairwise_cons.mpr ⟨fun z hz => ?_, ins_desc x l h2⟩
      rcases List.mem_cons.mp ((ins_perm x l).mem_iff.mp hz) with rfl | hz
      · omega
      · exact h1 z hz
theorem ins_take (x : Int) : ∀ (n : Nat) (l : List Int), (ins x (l.take n)).take n = (ins x l).take n
  | 0, l => by simp
  | n + 1, [] => by simp
  | n + 1, y :: l => by
    rw [List.take_succ_cons]
    unfold ins
    by_cases c : y ≤ x
    · rw [if_pos c, if_pos c, List.take_succ_cons, List.take_succ_cons]
      congr 1
      cases n with
      | zero => simp
      | succ n => rw [List.take_succ_cons, List.take_succ_cons, List.take_take, Nat.min_eq_left (by omega)]
    · rw [if_neg c, if_neg c, List.take_succ_cons, List.take_succ_cons, ins_take x n l]
theorem srt_snoc (l : List Int) (x : Int) : srt (l ++ [x]) = ins x (srt l) :=
  desc_uniq (srt_desc _) (ins_desc x _ (srt_desc l)) (((srt_perm _).trans (List.perm_append_singleton x l)).trans (((srt_perm l).symm.cons x).trans (ins_perm x _).symm))
theorem top4_snoc (l : List Int) (x : Int) : top4 (top4 l ++ [x]) = top4 (l ++ [x]) := by
  show (srt (top4 l ++ [x])).take 4 = (srt (l ++ [x])).take 4
  rw [srt_snoc, srt_snoc, srt_of_desc (top4_desc l)]
  exact ins_take x 4 (srt l)

/-- The program's sum is the reference's. -/
theorem add_same (a b c d : Int) (hb : 0 ≤ b ∧ b ≤ 18446744073709551615) (hd : 0 ≤ d ∧ d ≤ 18446744073709551615) : impl_WideAdd.f a b c d = spec_WideAdd.f a b c d := by
  unfold impl_WideAdd.f spec_WideAdd.f
  rw [if_pos ⟨hb.1, hb.2, hd.1, hd.2⟩]
  simp only [wu64]
  by_cases c1 : (b + d) % 18446744073709551616 < b
  · rw [if_pos c1]
    have e : (b + d) / 18446744073709551616 = 1 := by omega
    rw [e]
    congr 2
    unfold wrap64
    omega
  · rw [if_neg c1]
    have e : (b + d) / 18446744073709551616 = 0 := by omega
    rw [e]
    congr 2
    unfold wrap64
    omega
theorem spec_add_some (a b c d : Int) : ∃ r, spec_WideAdd.f a b c d = some r := by
  unfold spec_WideAdd.f
  split <;> exact ⟨_, rfl⟩

def inr (n : Int) : Prop := -9223372036854775808 ≤ n ∧ n ≤ 9223372036854775807
theorem of_impl0 (n : Int) (h : inr n) : impl_WideOf.f n = some (wh n, wl n) := by
  unfold impl_WideOf.f
  rw [wu64]
  have : n / 9223372036854775808 = wh n := by unfold inr at h; unfold wh wrap64; omega
  rw [this]; rfl
theorem wl_range (A : Int) : 0 ≤ wl A ∧ wl A ≤ 18446744073709551615 := by unfold wl; omega
theorem add_impl0 (A B : Int) : impl_WideAdd.f (wh A) (wl A) (wh B) (wl B) = some (wh (A + B), wl (A + B)) := by
  rw [add_same _ _ _ _ (wl_range A) (wl_range B), spec_add_wide]
def sumL (x : List Int) (i : Nat) : Int := (x.take i).foldl (fun a b => a + b) 0
def loL (x : List Int) (i : Nat) : Int := (x.take i).foldl mn (rd x 0)
def hiL (x : List Int) (i : Nat) : Int := (x.take i).foldl mx (rd x 0)
theorem take_snoc (x : List Int) (i : Nat) (h : i < x.length) : x.take (i + 1) = x.take i ++ [rd x (i : Int)] := by
  rw [rd_nat x i h, List.take_succ_eq_append_getElem h]
theorem sumL_snoc (x : List Int) (i : Nat) (h : i < x.length) : sumL x (i + 1) = sumL x i + rd x (i : Int) := by
  unfold sumL; rw [take_snoc x i h, List.foldl_append]; rfl
theorem loL_snoc (x : List Int) (i : Nat) (h : i < x.length) : loL x (i + 1) = mn (loL x i) (rd x (i : Int)) := by
  unfold loL; rw [take_snoc x i h, List.foldl_append]; rfl
theorem hiL_snoc (x : List Int) (i : Nat) (h : i < x.length) : hiL x (i + 1) = mx (hiL x i) (rd x (i : Int)) := by
  unfold hiL; rw [take_snoc x i h, List.foldl_append]; rfl
theorem lo1 (x : List Int) (h : 0 < x.length) : loL x 1 = rd x 0 := by
  rw [loL_snoc x 0 h]; show mn (rd x 0) (rd x 0) = rd x 0; unfold mn; split <;> rfl
theorem hi1L (x : List Int) (h : 0 < x.length) : hiL x 1 = rd x 0 := by
  rw [hiL_snoc x 0 h]; show mx (rd x 0) (rd x 0) = rd x 0; unfold mx; split <;> rfl
theorem rd_inr (x : List Int) (hx : ∀ y ∈ x, inr y) (i : Nat) (h : i < x.length) : inr (rd x (i : Int)) := by
  rw [rd_nat x i h]; exact hx _ (List.getElem_mem h)
theorem part_one (x : List Int) (i : Nat) (h : i < x.length) : (x.take ((i + 1 : Nat) : Int).toNat).drop (i : Int).toNat = [rd x (i : Int)] := by
  rw [Int.toNat_natCast, Int.toNat_natCast, take_snoc x i h, List.drop_left' (by rw [List.length_take]; omega)]
theorem spec_loop (x : List Int) (hx : ∀ y ∈ x, inr y) (hl : x.length ≤ 1000000) (n : Int) : ∀ (m i : Nat), i + m = x.length →
    Evt (fun k => spec_AggOf.l0 k x (i : Int) n (wh (sumL x i)) (wl (sumL x i)) (loL x i) (hiL x i) (top4 (x.take i))) (n, wh (sumL x x.length), wl (sumL x x.length), loL x x.length, hiL x x.length, top4 (x.take x.length)) := by
  intro m
  induction m with
  | zero =>
    intro i h
    obtain rfl : i = x.length := by omega
    exact Evt.done fun k => by simp only [spec_AggOf.l0]; rw [if_neg (by omega)]
  | succ m ihm =>
    intro i h
    have hi : i < x.length := by omega
    have ih := ihm (i + 1) (by omega)
    rw [sumL_snoc x i hi, loL_snoc x i hi, hiL_snoc x i hi] at ih
    have ht := topof_ev (top4 (x.take i)) [rd x (i : Int)] (by have := top4_length (x.take i); simp only [List.length_cons, List.length_nil]; omega)
    rw [top4_snoc, ← take_snoc x i hi] at ht
    have w : wrap64 ((i : Int) + 1) = ((i + 1 : Nat) : Int) := (w64 (by omega) (by omega)).trans (by omega)
    refine Evt.step (g := fun k => (spec_TopOf.f k (top4 (x.take i)) [rd x (i : Int)]).bind fun t169 => spec_AggOf.l0 k x ((i + 1 : Nat) : Int) n (wh (sumL x i + rd x (i : Int))) (wl (sumL x i + rd x (i : Int))) (mn (loL x i) (rd x (i : Int))) (mx (hiL x i) (rd x (i : Int))) t169) (Evt.bind (g := fun t169 k => spec_AggOf.l0 k x ((i + 1 : Nat) : Int) n (wh (sumL x i + rd x (i : Int))) (wl (sumL x i + rd x (i : Int))) (mn (loL x i) (rd x (i : Int))) (mx (hiL x i) (rd x (i : Int))) t169) ht ih) fun k => ?_
    simp only [spec_AggOf.l0]
    rw [if_pos (by omega), if_pos (by omega), spec_of_wide _ (rd_inr x hx i hi), Option.bind_some]
    dsimp only
    rw [spec_add_wide, Option.bind_some]
    dsimp only
    rw [w, if_pos (by omega), if_pos (by omega), part_one x i hi]
theorem impl_loop (x : List Int) (hx : ∀ y ∈ x, inr y) (hl : x.length ≤ 1000000) (n a b : Int) (t : List Int) : ∀ (m i : Nat), i + m = x.length →
    Evt (fun k => impl_aggOf.l0 k x (x.length : Int) (i : Int) n (wh (sumL x i)) (wl (sumL x i)) a b t) (n, wh (sumL x x.length), wl (sumL x x.length), a, b, t)
  | 0, i, h => by
    obtain rfl : i = x.length := by omega
    exact Evt.done fun k => by simp only [impl_aggOf.l0]; rw [if_neg (by omega)]
  | m + 1, i, h => by
    have hi : i < x.length := by omega
    have ih := impl_loop x hx hl n a b t m (i + 1) (by omega)
    rw [sumL_snoc x i hi] at ih
    have w : wrap64 ((i : Int) + 1) = ((i + 1 : Nat) : Int) := (w64 (by omega) (by omega)).trans (by omega)
    refine Evt.step ih fun k => ?_
    simp only [impl_aggOf.l0]
    rw [if_pos (by omega), if_pos (by omega), if_pos (by omega), of_impl0 _ (rd_inr x hx i hi)]
    simp only [Option.bind_some]
    rw [add_impl0]
    simp only [Option.bind_some, w]
theorem min_loop (x : List Int) (hl : x.length ≤ 1000000) : ∀ (m i : Nat), i + m = x.length → Evt (fun k => slices_Min_int_int.l0 k x (loL x i) (i : Int)) (loL x x.length)
  | 0, i, h => by
    obtain rfl : i = x.length := by omega
    exact Evt.done fun k => by simp only [slices_Min_int_int.l0]; rw [if_neg (by omega)]
  | m + 1, i, h => by
    have hi : i < x.length := by omega
    have ih := min_loop x hl m (i + 1) (by omega)
    rw [loL_snoc x i hi] at ih
    have w : wrap64 ((i : Int) + 1) = ((i + 1 : Nat) : Int) := (w64 (by omega) (by omega)).trans (by omega)
    refine Evt.step ih fun k => ?_
    simp only [slices_Min_int_int.l0]
    rw [if_pos (by omega), if_pos (by omega), w]
theorem max_loop (x : List Int) (hl : x.length ≤ 1000000) : ∀ (m i : Nat), i + m = x.length → Evt (fun k => slices_Max_int_int.l0 k x (hiL x i) (i : Int)) (hiL x x.length)
  | 0, i, h => by
    obtain rfl : i = x.length := by omega
    exact Evt.done fun k => by simp only [slices_Max_int_int.l0]; rw [if_neg (by omega)]
  | m + 1, i, h => by
    have hi : i < x.length := by omega
    have ih := max_loop x hl m (i + 1) (by omega)
    rw [hiL_snoc x i hi] at ih
    have w : wrap64 ((i : Int) + 1) = ((i + 1 : Nat) : Int) := (w64 (by omega) (by omega)).trans (by omega)
    refine Evt.step ih fun k => ?_
    simp only [slices_Max_int_int.l0]
    rw [if_pos (by omega), if_pos (by omega), w]
theorem min_ev (x : List Int) (h0 : 0 < x.length) (hl : x.length ≤ 1000000) : Evt (fun k => slices_Min_int_int.f k x) (loL x x.length) := by
  have h := min_loop x hl (x.length - 1) 1 (by omega)
  rw [lo1 x h0] at h
  refine h.congr fun k => ?_
  unfold slices_Min_int_int.f
  rw [if_neg (by omega), if_pos (by omega)]; rfl
theorem max_ev (x : List Int) (h0 : 0 < x.length) (hl : x.length ≤ 1000000) : Evt (fun k => slices_Max_int_int.f k x) (hiL x x.length) := by
  have h := max_loop x hl (x.length - 1) 1 (by omega)
  rw [hi1L x h0] at h
  refine h.congr fun k => ?_
  unfold slices_Max_int_int.f
  rw [if_neg (by omega), if_pos (by omega)]; rfl
theorem top4_nil : top4 ([] : List Int) = [] := List.eq_nil_of_length_eq_zero (by unfold top4; rw [List.length_take, srt_length]; rfl)
theorem aggof_both (x : List Int) (hx : ∀ y ∈ x, inr y) (hl : x.length ≤ 1048576) : ∃ (N s1 s2 a b : Int) (t : List Int), t.length ≤ 4 ∧ Evt (fun k => spec_AggOf.f k x) (N, s1, s2, a, b, t) ∧ Evt (fun k => impl_AggOf.f k x) (N, s1, s2, a, b, t) := by
  by_cases h0 : x.length = 0
  · obtain rfl : x = [] := List.eq_nil_of_length_eq_zero h0
    refine ⟨0, 0, 0, 0, 0, [], by simp, ?_, ?_⟩
    · refine Evt.step (g := fun k => some (0, 0, 0, 0, 0, ([] : List Int))) (Evt.const _) fun k => ?_
      unfold spec_AggOf.f
      rw [if_pos (by rfl)]
      simp only [spec_AggOf.j0, if_true]
    · refine (Evt.const _).congr fun k => ?_
      unfold impl_AggOf.f impl_aggOf.f
      rw [if_neg (by simp), if_pos (by rfl)]; rfl
  · by_cases h1 : x.length > 1000000
    · refine ⟨0, 0, 0, 0, 0, [], by simp, ?_, ?_⟩
      · refine Evt.step (g := fun k => some (0, 0, 0, 0, 0, ([] : List Int))) (Evt.const _) fun k => ?_
        unfold spec_AggOf.f
        rw [if_neg (by omega), decide_eq_true (by omega)]
        simp only [spec_AggOf.j0, if_true]
      · refine (Evt.const _).congr fun k => ?_
        unfold impl_AggOf.f
        rw [if_pos (by omega)]
    · have hl1 : x.length ≤ 1000000 := by omega
      have hp : 0 < x.length := by omega
      have s0 := spec_loop x hx hl1 (x.length : Int) x.length 0 (by omega)
      have i0 := impl_loop x hx hl1 (x.length : Int) (loL x x.length) (hiL x x.length) (top4 x) x.length 0 (by omega)
      have e0 : sumL x 0 = 0 := rfl
      have e1 : loL x 0 = rd x 0 := rfl
      have e2 : hiL x 0 = rd x 0 := rfl
      rw [e0, e1, e2, List.take_zero, List.take_length, top4_nil, wh0, wl0] at s0
      rw [e0, wh0, wl0] at i0
      refine ⟨(x.length : Int), wh (sumL x x.length), wl (sumL x x.length), loL x x.length, hiL x x.length, top4 x, top4_length x, ?_, ?_⟩
      · refine Evt.step (f := fun k => spec_AggOf.f k x) s0 fun k => ?_
        unfold spec_AggOf.f
        rw [if_neg (by omega), decide_eq_false (by omega)]
        simp only [spec_AggOf.j0, Bool.false_eq_true, if_false]
        rw [if_pos (by omega)]; rfl
      · refine Evt.congr (g := fun k => (slices_Min_int_int.f k x).bind fun t178 => (slices_Max_int_int.f k x).bind fun t179 => impl_aggOf.l0 k x (x.length : Int) 0 (x.length : Int) 0 0 t178 t179 (top4 x)) ?_ fun k => ?_
        · exact Evt.bind (g := fun t178 k => (slices_Max_int_int.f k x).bind fun t179 => impl_aggOf.l0 k x (x.length : Int) 0 (x.length : Int) 0 0 t178 t179 (top4 x)) (min_ev x hp hl1) (Evt.bind (g := fun t179 k => impl_aggOf.l0 k x (x.length : Int) 0 (x.length : Int) 0 0 (loL x x.length) t179 (top4 x)) (max_ev x hp hl1) i0)
        · unfold impl_AggOf.f impl_aggOf.f
          have et : impl_topOf.f x = some (top4 x) := by unfold impl_topOf.f; rw [if_pos (by omega)]; rfl
          rw [if_neg (by omega), if_neg (by omega), et]
          simp only [Option.bind_some]
          cases slices_Min_int_int.f k x with
          | none => rfl
          | some a =>
            simp only [Option.bind_some]
            cases slices_Max_int_int.f k x with
            | none => rfl
            | some b =>
              simp only [Option.bind_some]
              cases impl_aggOf.l0 k x (x.length : Int) 0 (x.length : Int) 0 0 a b (top4 x) <;> rfl

theorem toIntS_step (l ys : List Int) (i k : Nat) (hi : i < l.length) (hl : ys.length = l.length) (hb : l.length ≤ 1048576) :
    laws_toIntS.l0 (k + 1) l ys (i : Int) = laws_toIntS.l0 k l (ys.set i (id l[i])) ((i + 1 : Nat) : Int) := by
  have e : rd l (i : Int) = l[i] := rd_nat l i hi
  simp only [laws_toIntS.l0]
  rw [if_pos (by omega), if_pos (by omega), if_pos (by omega), e, w64 (by omega) (by omega)]
  simp
theorem toIntS_eq (l : List Int) (k : Nat) (hk : l.length < k) (hb : l.length ≤ 1048576) : laws_toIntS.f k l = some l := by
  unfold laws_toIntS.f
  rw [if_pos (by omega), if_pos (by simp; omega)]
  refine up_loop0 (fun k (ys : List Int) i => laws_toIntS.l0 k l ys (i : Int)) l.length (fun i ys => ys.length = l.length ∧ ys.take i = (l.take i).map id) (fun r => r = some l) ?_ ?_ k _ ?_ hk
  · rintro k s i hi ⟨h1, h2⟩
    left
    obtain ⟨h3, h4⟩ := copied_step id l s i hi h1 h2
    exact ⟨_, ⟨h3, h4⟩, toIntS_step l s i k hi h1 hb⟩
  · rintro k s ⟨h1, h2⟩
    simp only [laws_toIntS.l0]
    rw [if_neg (by omega), copied_end _ l s h1 h2]
    simp
  · simp
theorem eqIntS_refl (l : List Int) (k : Nat) (hk : l.length < k) (hb : l.length ≤ 4611686018427387904) : laws_eqIntS.f k l l = some true := by
  unfold laws_eqIntS.f
  rw [if_pos rfl]
  refine up_loop0 (fun k (_ : Unit) i => laws_eqIntS.l0 k l l (i : Int)) l.length (fun _ _ => True) (fun r => r = some true) ?_ ?_ k () trivial hk
  · rintro k _ i hi _
    left
    refine ⟨(), trivial, ?_⟩
    simp only [laws_eqIntS.l0, if_true]
    rw [if_pos (by omega), if_pos (by omega), if_pos (by omega), w64 (by omega) (by omega)]
    simp
  · rintro k _ _
    simp only [laws_eqIntS.l0]
    rw [if_neg (by omega)]

def patInt (a : Int) (n : Nat) : List Int := (List.range n).map (fun j : Nat => ((a + 1 * (j : Int))))
theorem markIntS_step (xs : List Int) (z : Int) (i k : Nat) (hi : i < xs.length) (h0 : 0 ≤ z) (hz : z ≤ 1152921504606846976) (hl : xs.length ≤ 1152921504606846976) :
    laws_markIntS.l0 (k + 1) xs z (i : Int) = laws_markIntS.l0 k (xs.set i (z)) (z + 1) ((i + 1 : Nat) : Int) := by
  have v1 : wrap64 (z + 1) = z + 1 := (w64 (by omega) (by omega)).trans (by omega)
  have vi : wrap64 ((i : Int) + 1) = ((i + 1 : Nat) : Int) := (w64 (by omega) (by omega)).trans (by omega)
  simp only [laws_markIntS.l0, Option.bind_some]
  rw [if_pos (by omega), if_pos (by omega)]
  simp only [v1, vi, rd, Int.toNat_natCast, List.set_set, List.getD_eq_getElem?_getD, List.getElem?_set_self hi, Option.getD_some]
theorem markIntS_eq (l : List Int) (a : Int) (k : Nat) (hk : l.length < k) (h0 : 0 ≤ a) (ha : a ≤ 1000000000) (hb : l.length ≤ 4611686018427) : laws_markIntS.f k l a = some (a + 1 * l.length, patInt a l.length) := by
  unfold laws_markIntS.f
  refine up_loop0 (fun k (s : List Int × Int) i => laws_markIntS.l0 k s.1 s.2 (i : Int)) l.length (fun i s => s.1.length = l.length ∧ s.1.take i = ((List.range l.length).take i).map (fun j : Nat => ((a + 1 * (j : Int)))) ∧ s.2 = a + 1 * (i : Int)) (fun r => r = some (a + 1 * l.length, patInt a l.length)) ?_ ?_ k (l, a) ?_ hk
  · rintro k ⟨xs, z⟩ i hi ⟨h1, h2, h3⟩
    simp only at h1 h2 h3
    left
    have hi' : i < (List.range l.length).length := by simpa using hi
    obtain ⟨h4, h5⟩ := copied_step (fun j : Nat => ((a + 1 * (j : Int)))) (List.range l.length) xs i hi' (by simpa using h1) h2
    refine ⟨(_, z + 1), ⟨?_, ?_, ?_⟩, markIntS_step xs z i k (by omega) (by omega) (by omega) (by omega)⟩
    · simp only [List.length_set]
      exact h1
    · rw [List.getElem_range] at h5
      subst h3
      exact h5
    · simp only [h3]
      omega
  · rintro k ⟨xs, z⟩ ⟨h1, h2, h3⟩
    simp only at h1 h2 h3
    simp only [laws_markIntS.l0]
    rw [if_neg (by omega)]
    have h4 := copied_end (fun j : Nat => ((a + 1 * (j : Int)))) (List.range l.length) xs (by simpa using h1) (by simpa using h2)
    rw [h3, h4]
    rfl
  · exact ⟨rfl, by simp, by simp⟩
theorem heldIntS_step (a : Int) (n i k : Nat) (hi : i < n) (h0 : 0 ≤ a) (ha : a ≤ 1000000000) (hl : n ≤ 4611686018427) :
    laws_heldIntS.l0 (k + 1) (patInt a n) (a + 1 * (i : Int)) (i : Int) = laws_heldIntS.l0 k (patInt a n) (a + 1 * ((i + 1 : Nat) : Int)) ((i + 1 : Nat) : Int) := by
  have hlen : (patInt a n).length = n := by simp [patInt]
  have vi : wrap64 ((i : Int) + 1) = ((i + 1 : Nat) : Int) := (w64 (by omega) (by omega)).trans (by omega)
  have e : rd (patInt a n) (i : Int) = (fun j : Nat => ((a + 1 * (j : Int)))) i := by
    unfold rd
    rw [getD_nat _ _ i (by omega)]
    simp only [patInt, List.getElem_map, List.getElem_range]
  have hz : ((a + 1 * ((i + 1 : Nat) : Int)) : Int) = a + 1 * (i : Int) + 1 := by omega
  rw [hz]
  generalize hzz : a + 1 * (i : Int) = z at *
  have hz0 : 0 ≤ z := by omega
  have hz1 : z ≤ 1152921504606846976 := by omega
  have v1 : wrap64 (z + 1) = z + 1 := (w64 (by omega) (by omega)).trans (by omega)
  simp only [laws_heldIntS.l0]
  rw [if_pos (by omega), if_pos (by omega), e]
  simp only [v1, vi, bne_self_eq_false, Bool.false_eq_true, if_true, if_false, hzz]
theorem heldIntS_eq (a : Int) (n k : Nat) (hk : n < k) (h0 : 0 ≤ a) (ha : a ≤ 1000000000) (hl : n ≤ 4611686018427) : laws_heldIntS.f k (patInt a n) a = some (a + 1 * n) := by
  unfold laws_heldIntS.f
  have hlen : (patInt a n).length = n := by simp [patInt]
  refine up_loop0 (fun k (s : Int) i => laws_heldIntS.l0 k (patInt a n) s (i : Int)) n (fun i s => s = a + 1 * (i : Int)) (fun r => r = some (a + 1 * n)) ?_ ?_ k a ?_ hk
  · rintro k s i hi rfl
    left
    exact ⟨_, rfl, heldIntS_step a n i k hi h0 ha hl⟩
  · rintro k s rfl
    simp only [laws_heldIntS.l0]
    rw [if_neg (by omega)]
  · simp

theorem FnExactAggOf : Say.FnExactAggOf := by
  intro l hl hr
  refine Evt.ex (r := true) ?_
  by_cases hs : (l.length : Int) > 1048576
  · refine (Evt.const true).congr fun k => ?_
    unfold laws_FnExactAggOf.f
    rw [if_pos hs]
  · have hl' : l.length ≤ 1048576 := by omega
    obtain ⟨N, s1, s2, a, b, t, ht, h1, h2⟩ := aggof_both l hr hl'
    obtain ⟨K3, t3⟩ := h1
    obtain ⟨K4, t4⟩ := h2
    simp only at t3 t4
    have te : ∀ k, t.length < k → laws_eqAgg.f k N s1 s2 a b t N s1 s2 a b t = some true := fun k hk => by
      unfold laws_eqAgg.f laws_eqWide.f
      rw [eqIntS_refl t k hk (by omega)]
      simp
    have tm : ∀ k, t.length < k → laws_markAgg.f k N s1 s2 a b t 1 = some (1 + 1 * (t.length : Int), patInt 1 t.length) := fun k hk => by
      unfold laws_markAgg.f
      rw [markIntS_eq t 1 k hk (by omega) (by omega) (by omega)]; rfl
    have th : ∀ k, t.length < k → laws_heldAgg.f k N s1 s2 a b (patInt 1 t.length) 1 = some (1 + 1 * (t.length : Int)) := fun k hk => by
      unfold laws_heldAgg.f
      rw [heldIntS_eq 1 t.length k hk (by omega) (by omega) (by omega)]
      simp only [Option.bind_some]
      rw [if_neg (by omega)]
    refine ⟨K3 + K4 + l.length + 10, fun k hk => ?_⟩
    obtain ⟨j, rfl⟩ : ∃ j, k = j + 1 := ⟨k - 1, by omega⟩
    show laws_FnExactAggOf.f (j + 1) l = some true
    unfold laws_FnExactAggOf.f
    rw [if_neg hs]
    have e1 : ¬ (1 + 1 * (l.length : Int) < 0) := by omega
    have e2 : ¬ (1 + 1 * (t.length : Int) < 0) := by omega
    simp only [toIntS_eq l (j + 1) (by omega) hl', t3 (j + 1) (by omega), t4 (j + 1) (by omega), te (j + 1) (by omega), eqIntS_refl l (j + 1) (by omega) (by omega), markIntS_eq l 1 (j + 1) (by omega) (by omega) (by omega) (by omega), Option.bind_some, if_true, if_neg e1, Bool.not_true]
    simp only [laws_FnExactAggOf.j0, toIntS_eq l j (by omega) hl', t4 j (by omega), te j (by omega), tm j (by omega), th j (by omega), Option.bind_some, Bool.false_eq_true, if_false, if_true, if_neg e2]

end Go.Proofs.Ytnnahpmnkpmopaa.Pure
