/- Proved: for every two lists the program's TopOf answers as the reference's, leaves its arguments as they were and hands back memory of its own. No other condition. -/
import Derived.Test.YtnnahpmnkpmopaaZTopOfSayFnExactTopOf
import Derived.Test.YtnnahpmnkpmopaaZTopOfBase
import Derived.Test.YtnnahpmnkpmopaaZTopOfEv
import Derived.Test.YtnnahpmnkpmopaaZTopOfEw
namespace Go.Proofs.Ytnnahpmnkpmopaa.Pure
open Go.RowKit Go.Proofs.Ytnnahpmnkpmopaa.QFnExactTopOf Go.Proofs.YtnnahpmnkpmopaaW.PrintWords Go.Proofs.YtnnahpmnkpmopaaW.PrintLast Go.Proofs.YtnnahpmnkpmopaaW.PrintMore
open Go.Proofs.Ytnnahpmnkpmopaa.Base
set_option linter.unusedSimpArgs false
set_option linter.unusedVariables false

open Go.Proofs.Ytnnahpmnkpmopaa.Evt
/-- Not rising. -/
def Desc (l : List Int) : Prop := l.Pairwise (fun a b => b ≤ a)
theorem desc_get {l : List Int} (h : Desc l) (i j : Nat) (hj : j < l.length) (hij : i ≤ j) : l[j] ≤ l[i] := by
  rcases Nat.lt_or_eq_of_le hij with c | c
  · exact List.pairwise_iff_getElem.mp h i j (by omega) hj c
  · subst c; exact Int.le_refl _
theorem desc_adj {l : List Int} (h : ∀ i : Nat, (hi : i + 1 < l.length) → l[i + 1] ≤ l[i]) : Desc l := by
  refine List.pairwise_iff_getElem.mpr ?_
  intro i j hi hj hij
  obtain ⟨d, rfl⟩ : ∃ d, j = i + 1 + d := ⟨j - i - 1, by omega⟩
  induction d with
  | zero => exact h i (by omega)
  | succ d ih => exact Int.le_trans (h (i + 1 + d) (by omega)) (ih (by omega) (by omega))
theorem pick_ev (all out : List Int) (h0 : 0 < all.length) (hl : all.length ≤ 4194304) (ho : out.length ≤ 16) :
    ∃ at_ : Nat, at_ < all.length ∧ (∀ j : Nat, j < all.length → rd all (j : Int) ≤ rd all (at_ : Int)) ∧ (Desc all → at_ = 0) ∧
      ∀ r, Evt (fun k => spec_TopOf.l0 k (all.take at_ ++ all.drop (at_ + 1)) (out ++ [rd all (at_ : Int)])) r → Evt (fun k => spec_TopOf.l1 k all out 0 0) r := by
  have go : ∀ (m i a : Nat), i + m = all.length → a < all.length → (∀ j : Nat, j < i → rd all (j : Int) ≤ rd all (a : Int)) → (Desc all → a = 0) →
      ∃ at_ : Nat, at_ < all.length ∧ (∀ j : Nat, j < all.length → rd all (j : Int) ≤ rd all (at_ : Int)) ∧ (Desc all → at_ = 0) ∧
        ∀ r, Evt (fun k => spec_TopOf.l0 k (all.take at_ ++ all.drop (at_ + 1)) (out ++ [rd all (at_ : Int)])) r → Evt (fun k => spec_TopOf.l1 k all out (a : Int) (i : Int)) r := by
    intro m
    induction m with
    | zero =>
      intro i a hi ha hj hd
      refine ⟨a, ha, fun j hj' => hj j (by omega), hd, fun r hr => Evt.step hr fun k => ?_⟩
      have w : wrap64 ((a : Int) + 1) = ((a + 1 : Nat) : Int) := (w64 (by omega) (by omega)).trans (by omega)
      have n1 : ([] : List Int).length + (all.take (a : Int).toNat).length < 17592186044416 := by
        rw [List.length_take, List.length_nil, Int.toNat_natCast]; omega
      have n2 : (([] : List Int) ++ all.take (a : Int).toNat).length + (all.drop ((a + 1 : Nat) : Int).toNat).length < 17592186044416 := by
        rw [List.nil_append, List.length_take, List.length_drop, Int.toNat_natCast, Int.toNat_natCast]; omega
      simp only [spec_TopOf.l1]
      rw [if_neg (show ¬ (i : Int) < (all.length : Int) by omega), if_pos (show (0 : Int) ≤ (a : Int) by omega), if_pos (show (a : Int) < (all.length : Int) by omega), if_pos (show out.length < 17592186044416 by omega)]
      simp only [Option.bind_some, w]
      rw [if_pos (show (a : Int) ≤ (all.length : Int) by omega), if_pos n1, if_pos (show (0 : Int) ≤ ((a + 1 : Nat) : Int) by omega), if_pos (show ((a + 1 : Nat) : Int) ≤ (all.length : Int) by omega), if_pos n2]
      rfl
    | succ m ih =>
      intro i a hi ha hj hd
      have hi' : i < all.length := by omega
      have w : wrap64 ((i : Int) + 1) = ((i + 1 : Nat) : Int) := (w64 (by omega) (by omega)).trans (by omega)
      by_cases c : rd all (i : Int) > rd all (a : Int)
      · obtain ⟨t, t1, t2, t3, t4⟩ := ih (i + 1) i (by omega) hi' (fun j hj' => by
            by_cases e : j = i
            · subst e; exact Int.le_refl _
            · have := hj j (by omega); omega) (fun h => by
            have a0 := hd h
            subst a0
            have := desc_get h 0 i hi' (by omega)
            rw [rd_nat all i hi', rd_nat all 0 ha] at c
            omega)
        refine ⟨t, t1, t2, t3, fun r hr => Evt.step (t4 r hr) fun k => ?_⟩
        simp only [spec_TopOf.l1]
        rw [if_pos (by omega), if_pos (by omega), if_pos (by omega), if_pos (by omega), if_pos c, w]
      · obtain ⟨t, t1, t2, t3, t4⟩ := ih (i + 1) a (by omega) ha (fun j hj' => by
            by_cases e : j = i
            · subst e; omega
            · exact hj j (by omega)) hd
        refine ⟨t, t1, t2, t3, fun r hr => Evt.step (t4 r hr) fun k => ?_⟩
        simp only [spec_TopOf.l1]
        rw [if_pos (by omega), if_pos (by omega), if_pos (by omega), if_pos (by omega), if_neg c, w]
  exact go all.length 0 0 (by omega) h0 (fun j hj => by omega) (fun _ => rfl)
theorem sort_ev : ∀ (m : Nat) (all out : List Int), all.length = m → out.length + m ≤ 4 → Desc out → (∀ x ∈ all, ∀ y ∈ out, x ≤ y) →
    ∃ res, Evt (fun k => spec_TopOf.l0 k all out) res ∧ Desc res ∧ (Desc all → res = out ++ all)
  | 0, all, out, hm, hl, hd, _ => by
    obtain rfl : all = [] := List.eq_nil_of_length_eq_zero hm
    refine ⟨out, ?_, hd, fun _ => by simp⟩
    refine Evt.step (g := fun k => spec_TopOf.j1 k [] out false) (Evt.done fun k => by simp only [spec_TopOf.j1, Bool.false_eq_true, if_false]) fun k => ?_
    simp only [spec_TopOf.l0]
    have : decide ((([] : List Int).length : Int) > 0) = false := by decide
    rw [this, ite_self]
  | m + 1, all, out, hm, hl, hd, hx => by
    obtain ⟨a, a1, a2, a3, a4⟩ := pick_ev all out (by omega) (by omega) (by omega)
    have ea : rd all (a : Int) = all[a] := rd_nat all a a1
    have hlen : (all.take a ++ all.drop (a + 1)).length = m := by rw [List.length_append, List.length_take, List.length_drop]; omega
    have hmem : ∀ x ∈ all.take a ++ all.drop (a + 1), x ∈ all := by
      intro x hx
      rcases List.mem_append.mp hx with g | g
      · exact List.mem_of_mem_take g
      · exact List.mem_of_mem_drop g
    have hmax : ∀ x ∈ all, x ≤ rd all (a : Int) := by
      intro x hx
      obtain ⟨j, hj, rfl⟩ := List.getElem_of_mem hx
      have := a2 j hj
      rw [rd_nat all j hj] at this
      exact this
    have hd' : Desc (out ++ [rd all (a : Int)]) := by
      refine List.pairwise_append.mpr ⟨hd, List.pairwise_singleton _ _, fun y hy z hz => ?_⟩
      rw [List.mem_singleton.mp hz, ea]
      exact hx _ (List.getElem_mem _) y hy
    obtain ⟨res, r1, r2, r3⟩ := sort_ev m (all.take a ++ all.drop (a + 1)) (out ++ [rd all (a : Int)]) hlen (by rw [List.length_append]; simp only [List.length_cons, List.length_nil]; omega) hd' (by
      intro x hxm y hy
      rcases List.mem_append.mp hy with g | g
      · exact hx x (hmem x hxm) y g
      · rw [List.mem_singleton.mp g]; exact hmax x (hmem x hxm))
    refine ⟨res, ?_, r2, fun h => ?_⟩
    · refine Evt.step (g := fun k => spec_TopOf.j1 k all out true) (Evt.step (a4 res r1) fun k => by simp only [spec_TopOf.j1, if_true]) fun k => ?_
      simp only [spec_TopOf.l0]
      rw [if_pos (by omega), decide_eq_true (by omega)]
    · have a0 := a3 h
      subst a0
      cases all with
      | nil => simp at hm
      | cons x t =>
        have e := r3 (by simp only [List.take_zero, List.nil_append, Nat.zero_add, List.drop_succ_cons, List.drop_zero]; exact (List.pairwise_cons.mp h).2)
        rw [e]
        simp [rd]

/-- Sorted, the greatest first. -/
def srt (l : List Int) : List Int := (l.mergeSort (fun x y => decide (x ≤ y))).reverse
/-- The greatest four. -/
def top4 (l : List Int) : List Int := (srt l).take 4
theorem srt_perm (l : List Int) : (srt l).Perm l := (List.reverse_perm _).trans (List.mergeSort_perm _ _)
theorem srt_desc (l : List Int) : Desc (srt l) := by
  have h := List.pairwise_mergeSort (le := fun x y : Int => decide (x ≤ y)) (fun a b c h1 h2 => by simp only [decide_eq_true_eq] at *; omega) (fun a b => by simp only [Bool.or_eq_true, decide_eq_true_eq]; omega) l
  refine List.pairwise_reverse.mpr (h.imp fun g => ?_)
  simpa using g
theorem desc_uniq {l m : List Int} (h1 : Desc l) (h2 : Desc m) (h : l.Perm m) : l = m :=
  List.Perm.eq_of_pairwise (le := fun a b : Int => b ≤ a) (fun a b _ _ g1 g2 => Int.le_antisymm g2 g1) h1 h2 h
theorem srt_of_desc {l : List Int} (h : Desc l) : srt l = l := desc_uniq (srt_desc l) h (srt_perm l)
theorem srt_congr {l m : List Int} (h : l.Perm m) : srt l = srt m := desc_uniq (srt_desc l) (srt_desc m) (((srt_perm l).trans h).trans (srt_perm m).symm)
theorem srt_length (l : List Int) : (srt l).length = l.length := (srt_perm l).length_eq
theorem top4_desc (l : List Int) : Desc (top4 l) := (srt_desc l).sublist (List.take_sublist 4 (srt l))
theorem top4_length (l : List Int) : (top4 l).length ≤ 4 := by unfold top4; rw [List.length_take]; omega
theorem top4_mem {l : List Int} {x : Int} (h : x ∈ top4 l) : x ∈ l := (srt_perm l).mem_iff.mp (List.mem_of_mem_take h)
theorem top4_of_desc {l : List Int} (h : Desc l) (hl : l.length ≤ 4) : top4 l = l := by unfold top4; rw [srt_of_desc h, List.take_of_length_le hl]
/-- The greatest one stands ahead. -/
theorem srt_pick (l : List Int) (a : Nat) (ha : a < l.length) (hm : ∀ x ∈ l, x ≤ l[a]) : srt l = l[a] :: srt (l.take a ++ l.drop (a + 1)) := by
  refine desc_uniq (srt_desc l) (List.pairwise_cons.mpr ⟨fun y hy => ?_, srt_desc _⟩) ?_
  · have := (srt_perm _).mem_iff.mp hy
    rcases List.mem_append.mp this with g | g
    · exact hm y (List.mem_of_mem_take g)
    · exact hm y (List.mem_of_mem_drop g)
  · have e : l = l.take a ++ l[a] :: l.drop (a + 1) := by rw [← List.drop_eq_getElem_cons ha, List.take_append_drop]
    have p : l.Perm (l[a] :: (l.take a ++ l.drop (a + 1))) := by
      have q := List.perm_middle (a := l[a]) (l₁ := l.take a) (l₂ := l.drop (a + 1))
      rw [← e] at q
      exact q
    exact (srt_perm l).trans (p.trans ((srt_perm _).symm.cons _))
/-- The reference's rounds: what has been taken, then the greatest of what is left. -/
theorem pick4_ev : ∀ (m : Nat) (all out : List Int), out.length + m = 4 → all.length ≤ 4194304 → Evt (fun k => spec_TopOf.l0 k all out) (out ++ (srt all).take m)
  | 0, all, out, hm, hl => by
    refine Evt.step (g := fun k => spec_TopOf.j1 k all out false) (Evt.done fun k => by simp only [spec_TopOf.j1, Bool.false_eq_true, if_false, List.take_zero, List.append_nil]) fun k => ?_
    simp only [spec_TopOf.l0]
    rw [if_neg (by omega)]
  | m + 1, all, out, hm, hl => by
    by_cases h0 : all.length = 0
    · obtain rfl : all = [] := List.eq_nil_of_length_eq_zero h0
      have e : srt ([] : List Int) = [] := List.eq_nil_of_length_eq_zero (srt_length [])
      rw [e, List.take_nil, List.append_nil]
      refine Evt.step (g := fun k => spec_TopOf.j1 k [] out false) (Evt.done fun k => by simp only [spec_TopOf.j1, Bool.false_eq_true, if_false]) fun k => ?_
      simp only [spec_TopOf.l0]
      have : decide ((([] : List Int).length : Int) > 0) = false := by decide
      rw [this, ite_self]
    · obtain ⟨a, a1, a2, _, a4⟩ := pick_ev all out (by omega) hl (by omega)
      have ea : rd all (a : Int) = all[a] := rd_nat all a a1
      have hmax : ∀ x ∈ all, x ≤ all[a] := by
        intro x hx
        obtain ⟨j, hj, rfl⟩ := List.getElem_of_mem hx
        have := a2 j hj
        rw [rd_nat all j hj, ea] at this
        exact this
      have hlen : (all.take a ++ all.drop (a + 1)).length ≤ 4194304 := by rw [List.length_append, List.length_take, List.length_drop]; omega
      have ih := pick4_ev m (all.take a ++ all.drop (a + 1)) (out ++ [all[a]]) (by rw [List.length_append]; simp only [List.length_cons, List.length_nil]; omega) hlen
      have e : out ++ (srt all).take (m + 1) = (out ++ [all[a]]) ++ (srt (all.take a ++ all.drop (a + 1))).take m := by
        rw [srt_pick all a a1 hmax, List.take_succ_cons, List.append_assoc]; rfl
      rw [e]
      rw [ea] at a4
      refine Evt.step (g := fun k => spec_TopOf.j1 k all out true) (Evt.step (a4 _ ih) fun k => by simp only [spec_TopOf.j1, if_true]) fun k => ?_
      simp only [spec_TopOf.l0]
      rw [if_pos (by omega), decide_eq_true (by omega)]
theorem topof_ev (l m : List Int) (hl : l.length + m.length ≤ 4194304) : Evt (fun k => spec_TopOf.f k l m) (top4 (l ++ m)) := by
  have h := pick4_ev 4 (l ++ m) [] rfl (by rw [List.length_append]; exact hl)
  rw [List.nil_append] at h
  refine h.congr fun k => ?_
  unfold spec_TopOf.f
  simp only [Option.bind_some, List.nil_append, List.length_nil]
  rw [if_pos (by omega), if_pos (by omega)]
/-- A number comes to its place. -/
def ins (x : Int) : List Int → List Int
  | [] => [x]
  | y :: l => if y ≤ x then x :: y :: l else y :: ins x l
theorem ins_perm (x : Int) : ∀ l : List Int, (ins x l).Perm (x :: l)
  | [] => List.Perm.refl _
  | y :: l => by
    unfold ins
    by_cases c : y ≤ x
    · rw [if_pos c]
    · rw [if_neg c]; exact ((ins_perm x l).cons y).trans (List.Perm.swap x y l)
theorem ins_desc (x : Int) : ∀ l : List Int, Desc l → Desc (ins x l)
  | [], _ => List.pairwise_singleton _ _
  | y :: l, h => by
    unfold ins
    obtain ⟨h1, h2⟩ := List.pairwise_cons.mp h
    by_cases c : y ≤ x
    · rw [if_pos c]
      refine List.pairwise_cons.mpr ⟨fun z hz => ?_, h⟩
      rcases List.mem_cons.mp hz with rfl | hz
      · exact c
      · exact Int.le_trans (h1 z hz) c
    · rw [if_neg c]
      refine List.pairwise_cons.mpr ⟨fun z hz => ?_, ins_desc x l h2⟩
      rcases List.mem_cons.mp ((ins_perm x l).mem_iff.mp hz) with rfl | hz
      · omega
      · exact h1 z hz
theorem ins_take (x : Int) : ∀ (n : Nat) (l : List Int), (ins x (l.take n)).take n = (ins x l).take n
  | 0, l => by simp
  | n + 1, [] => by simp
  | n + 1, y :: l => by
    rw [List.take_succ_cons]
    unfold ins
    by_cases c : y ≤ x
    · rw [if_pos c, if_pos c, List.take_succ_cons, List.take_succ_cons]
      congr 1
      cases n with
      | zero => simp
      | succ n => rw [List.take_succ_cons, List.take_succ_cons, List.take_take, Nat.min_eq_left (by omega)]
    · rw [if_neg c, if_neg c, List.take_succ_cons, List.take_succ_cons, ins_take x n l]
theorem srt_snoc (l : List Int) (x : Int) : srt (l ++ [x]) = ins x (srt l) :=
  desc_uniq (srt_desc _) (ins_desc x _ (srt_desc l)) (((srt_perm _).trans (List.perm_append_singleton x l)).trans (((srt_perm l).symm.cons x).trans (ins_perm x _).symm))
theorem top4_snoc (l : List Int) (x : Int) : top4 (top4 l ++ [x]) = top4 (l ++ [x]) := by
  show (srt (top4 l ++ [x])).take 4 = (srt (l ++ [x])).take 4
  rw [srt_snoc, srt_snoc, srt_of_desc (top4_desc l)]
  exact ins_take x 4 (srt l)

theorem toIntS_step (l ys : List Int) (i k : Nat) (hi : i < l.length) (hl : ys.length = l.length) (hb : l.length ≤ 1048576) :
    laws_toIntS.l0 (k + 1) l ys (i : Int) = laws_toIntS.l0 k l (ys.set i (id l[i])) ((i + 1 : Nat) : Int) := by
  have e : rd l (i : Int) = l[i] := rd_nat l i hi
  simp only [laws_toIntS.l0]
  rw [if_pos (by omega), if_pos (by omega), if_pos (by omega), e, w64 (by omega) (by omega)]
  simp
theorem toIntS_eq (l : List Int) (k : Nat) (hk : l.length < k) (hb : l.length ≤ 1048576) : laws_toIntS.f k l = some l := by
  unfold laws_toIntS.f
  rw [if_pos (by omega), if_pos (by simp; omega)]
  refine up_loop0 (fun k (ys : List Int) i => laws_toIntS.l0 k l ys (i : Int)) l.length (fun i ys => ys.length = l.length ∧ ys.take i = (l.take i).map id) (fun r => r = some l) ?_ ?_ k _ ?_ hk
  · rintro k s i hi ⟨h1, h2⟩
    left
    obtain ⟨h3, h4⟩ := copied_step id l s i hi h1 h2
    exact ⟨_, ⟨h3, h4⟩, toIntS_step l s i k hi h1 hb⟩
  · rintro k s ⟨h1, h2⟩
    simp only [laws_toIntS.l0]
    rw [if_neg (by omega), copied_end _ l s h1 h2]
    simp
  · simp
theorem eqIntS_refl (l : List Int) (k : Nat) (hk : l.length < k) (hb : l.length ≤ 4611686018427387904) : laws_eqIntS.f k l l = some true := by
  unfold laws_eqIntS.f
  rw [if_pos rfl]
  refine up_loop0 (fun k (_ : Unit) i => laws_eqIntS.l0 k l l (i : Int)) l.length (fun _ _ => True) (fun r => r = some true) ?_ ?_ k () trivial hk
  · rintro k _ i hi _
    left
    refine ⟨(), trivial, ?_⟩
    simp only [laws_eqIntS.l0, if_true]
    rw [if_pos (by omega), if_pos (by omega), if_pos (by omega), w64 (by omega) (by omega)]
    simp
  · rintro k _ _
    simp only [laws_eqIntS.l0]
    rw [if_neg (by omega)]

def patInt (a : Int) (n : Nat) : List Int := (List.range n).map (fun j : Nat => ((a + 1 * (j : Int))))
theorem markIntS_step (xs : List Int) (z : Int) (i k : Nat) (hi : i < xs.length) (h0 : 0 ≤ z) (hz : z ≤ 1152921504606846976) (hl : xs.length ≤ 1152921504606846976) :
    laws_markIntS.l0 (k + 1) xs z (i : Int) = laws_markIntS.l0 k (xs.set i (z)) (z + 1) ((i + 1 : Nat) : Int) := by
  have v1 : wrap64 (z + 1) = z + 1 := (w64 (by omega) (by omega)).trans (by omega)
  have vi : wrap64 ((i : Int) + 1) = ((i + 1 : Nat) : Int) := (w64 (by omega) (by omega)).trans (by omega)
  simp only [laws_markIntS.l0, Option.bind_some]
  rw [if_pos (by omega), if_pos (by omega)]
  simp only [v1, vi, rd, Int.toNat_natCast, List.set_set, List.getD_eq_getElem?_getD, List.getElem?_set_self hi, Option.getD_some]
theorem markIntS_eq (l : List Int) (a : Int) (k : Nat) (hk : l.length < k) (h0 : 0 ≤ a) (ha : a ≤ 1000000000) (hb : l.length ≤ 4611686018427) : laws_markIntS.f k l a = some (a + 1 * l.length, patInt a l.length) := by
  unfold laws_markIntS.f
  refine up_loop0 (fun k (s : List Int × Int) i => laws_markIntS.l0 k s.1 s.2 (i : Int)) l.length (fun i s => s.1.length = l.length ∧ s.1.take i = ((List.range l.length).take i).map (fun j : Nat => ((a + 1 * (j : Int)))) ∧ s.2 = a + 1 * (i : Int)) (fun r => r = some (a + 1 * l.length, patInt a l.length)) ?_ ?_ k (l, a) ?_ hk
  · rintro k ⟨xs, z⟩ i hi ⟨h1, h2, h3⟩
    simp only at h1 h2 h3
    left
    have hi' : i < (List.range l.length).length := by simpa using hi
    obtain ⟨h4, h5⟩ := copied_step (fun j : Nat => ((a + 1 * (j : Int)))) (List.range l.length) xs i hi' (by simpa using h1) h2
    refine ⟨(_, z + 1), ⟨?_, ?_, ?_⟩, markIntS_step xs z i k (by omega) (by omega) (by omega) (by omega)⟩
    · simp only [List.length_set]
      exact h1
    · rw [List.getElem_range] at h5
      subst h3
      exact h5
    · simp only [h3]
      omega
  · rintro k ⟨xs, z⟩ ⟨h1, h2, h3⟩
    simp only at h1 h2 h3
    simp only [laws_markIntS.l0]
    rw [if_neg (by omega)]
    have h4 := copied_end (fun j : Nat => ((a + 1 * (j : Int)))) (List.range l.length) xs (by simpa using h1) (by simpa using h2)
    rw [h3, h4]
    rfl
  · exact ⟨rfl, by simp, by simp⟩
theorem heldIntS_step (a : Int) (n i k : Nat) (hi : i < n) (h0 : 0 ≤ a) (ha : a ≤ 1000000000) (hl : n ≤ 4611686018427) :
    laws_heldIntS.l0 (k + 1) (patInt a n) (a + 1 * (i : Int)) (i : Int) = laws_heldIntS.l0 k (patInt a n) (a + 1 * ((i + 1 : Nat) : Int)) ((i + 1 : Nat) : Int) := by
  have hlen : (patInt a n).length = n := by simp [patInt]
  have vi : wrap64 ((i : Int) + 1) = ((i + 1 : Nat) : Int) := (w64 (by omega) (by omega)).trans (by omega)
  have e : rd (patInt a n) (i : Int) = (fun j : Nat => ((a + 1 * (j : Int)))) i := by
    unfold rd
    rw [getD_nat _ _ i (by omega)]
    simp only [patInt, List.getElem_map, List.getElem_range]
  have hz : ((a + 1 * ((i + 1 : Nat) : Int)) : Int) = a + 1 * (i : Int) + 1 := by omega
  rw [hz]
  generalize hzz : a + 1 * (i : Int) = z at *
  have hz0 : 0 ≤ z := by omega
  have hz1 : z ≤ 1152921504606846976 := by omega
  have v1 : wrap64 (z + 1) = z + 1 := (w64 (by omega) (by omega)).trans (by omega)
  simp only [laws_heldIntS.l0]
  rw [if_pos (by omega), if_pos (by omega), e]
  simp only [v1, vi, bne_self_eq_false, Bool.false_eq_true, if_true, if_false, hzz]
theorem heldIntS_eq (a : Int) (n k : Nat) (hk : n < k) (h0 : 0 ≤ a) (ha : a ≤ 1000000000) (hl : n ≤ 4611686018427) : laws_heldIntS.f k (patInt a n) a = some (a + 1 * n) := by
  unfold laws_heldIntS.f
  have hlen : (patInt a n).length = n := by simp [patInt]
  refine up_loop0 (fun k (s : Int) i => laws_heldIntS.l0 k (patInt a n) s (i : Int)) n (fun i s => s = a + 1 * (i : Int)) (fun r => r = some (a + 1 * n)) ?_ ?_ k a ?_ hk
  · rintro k s i hi rfl
    left
    exact ⟨_, rfl, heldIntS_step a n i k hi h0 ha hl⟩
  · rintro k s rfl
    simp only [laws_heldIntS.l0]
    rw [if_neg (by omega)]
  · simp

theorem concat_ev (l m : List Int) (hl : l.length ≤ 1048576) (hm : m.length ≤ 1048576) : Evt (fun k => slices_Concat_int_int.f k [l, m]) (l ++ m) := by
  have r0 : rd_L1 [l, m] 0 = l := rfl
  have r1 : rd_L1 [l, m] 1 = m := rfl
  have w0 : wrap64 ((0 : Int) + (l.length : Int)) = (l.length : Int) := (w64 (by omega) (by omega)).trans (by omega)
  have w1 : wrap64 ((l.length : Int) + (m.length : Int)) = ((l.length + m.length : Nat) : Int) := (w64 (by omega) (by omega)).trans (by omega)
  have wi0 : wrap64 ((0 : Int) + 1) = 1 := by decide +kernel
  have wi1 : wrap64 ((1 : Int) + 1) = 2 := by decide +kernel
  have hlen : (([l, m] : List (List Int)).length : Int) = 2 := rfl
  have a2 : Evt (fun k => slices_Concat_int_int.l1 k (l ++ m) [l, m] 2 2) (l ++ m) := Evt.done fun k => by
    simp only [slices_Concat_int_int.l1]
    rw [if_neg (by omega)]
  have a1 : Evt (fun k => slices_Concat_int_int.l1 k l [l, m] 2 1) (l ++ m) := Evt.step a2 fun k => by
    simp only [slices_Concat_int_int.l1]
    rw [if_pos (by omega), if_pos (by omega), if_pos (by rw [hlen]; omega), r1, if_pos (by omega), wi1]
  have a0 : Evt (fun k => slices_Concat_int_int.l1 k [] [l, m] 2 0) (l ++ m) := Evt.step a1 fun k => by
    simp only [slices_Concat_int_int.l1]
    rw [if_pos (by omega), if_pos (by omega), if_pos (by rw [hlen]; omega), r0, if_pos (by rw [List.length_nil]; omega), wi0, List.nil_append]
  have b2 : Evt (fun k => slices_Concat_int_int.l0 k [l, m] ((l.length + m.length : Nat) : Int) [l, m] 2 2) (l ++ m) := Evt.step a0 fun k => by
    simp only [slices_Concat_int_int.l0]
    have g : slices_Grow_int_int.f [] ((l.length + m.length : Nat) : Int) = some [] := by
      unfold slices_Grow_int_int.f
      rw [if_pos ⟨rfl, by omega, by omega⟩]
    rw [if_neg (by omega), g, Option.bind_some, hlen]
  have b1 : Evt (fun k => slices_Concat_int_int.l0 k [l, m] (l.length : Int) [l, m] 2 1) (l ++ m) := Evt.step b2 fun k => by
    simp only [slices_Concat_int_int.l0]
    rw [if_pos (by omega), if_pos (by omega), if_pos (by rw [hlen]; omega), r1, w1, if_neg (by omega), wi1]
  have b0 : Evt (fun k => slices_Concat_int_int.l0 k [l, m] 0 [l, m] 2 0) (l ++ m) := Evt.step b1 fun k => by
    simp only [slices_Concat_int_int.l0]
    rw [if_pos (by omega), if_pos (by omega), if_pos (by rw [hlen]; omega), r0, w0, if_neg (by omega), wi0]
  exact b0.congr fun k => by unfold slices_Concat_int_int.f; rw [hlen]
theorem impl_topof_ev (l m : List Int) (hl : l.length ≤ 1048576) (hm : m.length ≤ 1048576) : Evt (fun k => impl_TopOf.f k l m) (top4 (l ++ m)) := by
  have et : impl_topOf.f (l ++ m) = some (top4 (l ++ m)) := by
    unfold impl_topOf.f
    rw [if_pos (by rw [List.length_append]; omega)]; rfl
  have hb : Evt (fun _ : Nat => (impl_topOf.f (l ++ m)).bind fun t159 => some t159) (top4 (l ++ m)) := (Evt.const _).congr fun k => by rw [et, Option.bind_some]
  have hc := Evt.bind (g := fun t156 _ => (impl_topOf.f t156).bind fun t159 => some t159) (concat_ev l m hl hm) hb
  exact hc.congr fun k => by unfold impl_TopOf.f; exact Eq.refl _

theorem FnExactTopOf : Say.FnExactTopOf := by
  intro l m hl hr hl2 hr2
  refine Evt.ex (r := true) ?_
  by_cases hs : (l.length : Int) > 1048576
  · refine (Evt.const true).congr fun k => ?_
    unfold laws_FnExactTopOf.f
    rw [if_pos hs]
  by_cases hs2 : (m.length : Int) > 1048576
  · refine (Evt.const true).congr fun k => ?_
    unfold laws_FnExactTopOf.f
    rw [if_neg hs, if_pos hs2]
  · have hl' : l.length ≤ 1048576 := by omega
    have hm' : m.length ≤ 1048576 := by omega
    obtain ⟨K3, t3⟩ := topof_ev l m (by omega)
    obtain ⟨K4, t4⟩ := impl_topof_ev l m hl' hm'
    simp only at t3 t4
    have ht := top4_length (l ++ m)
    generalize top4 (l ++ m) = t at t3 t4 ht
    refine ⟨K3 + K4 + l.length + m.length + 10, fun k hk => ?_⟩
    obtain ⟨j, rfl⟩ : ∃ j, k = j + 1 := ⟨k - 1, by omega⟩
    show laws_FnExactTopOf.f (j + 1) l m = some true
    have e1 : ¬ (1 + 1 * (l.length : Int) + 1 * (m.length : Int) < 0) := by omega
    have e2 : ¬ (1 + 1 * (t.length : Int) < 0) := by omega
    have q : laws_FnExactTopOf.j0 (j + 1) l m t t false = some true := by
      rw [laws_FnExactTopOf.j0, if_neg (by decide), markIntS_eq t 1 j (by omega) (by omega) (by omega) (by omega), Option.bind_some]
      dsimp only
      rw [heldIntS_eq 1 t.length j (by omega) (by omega) (by omega) (by omega), Option.bind_some, if_neg e2, if_pos rfl, toIntS_eq l j (by omega) hl', Option.bind_some, toIntS_eq m j (by omega) hm', Option.bind_some, t4 j (by omega), Option.bind_some, eqIntS_refl t j (by omega) (by omega), Option.bind_some, if_pos rfl, Option.bind_some, if_neg e2, if_pos rfl]
    unfold laws_FnExactTopOf.f
    rw [if_neg hs, if_neg hs2, toIntS_eq l (j + 1) (by omega) hl', Option.bind_some, toIntS_eq m (j + 1) (by omega) hm', Option.bind_some, t3 (j + 1) (by omega), Option.bind_some, Option.bind_some, Option.bind_some, t4 (j + 1) (by omega), Option.bind_some, eqIntS_refl t (j + 1) (by omega) (by omega), Option.bind_some, if_pos rfl, Option.bind_some, eqIntS_refl l (j + 1) (by omega) (by omega), Option.bind_some, if_pos rfl, Option.bind_some, eqIntS_refl m (j + 1) (by omega) (by omega), Option.bind_some, if_pos rfl, markIntS_eq l 1 (j + 1) (by omega) (by omega) (by omega) (by omega), Option.bind_some]
    dsimp only
    rw [markIntS_eq m (1 + 1 * (l.length : Int)) (j + 1) (by omega) (by omega) (by omega) (by omega), Option.bind_some]
    dsimp only
    rw [if_neg e1, Option.bind_some]
    exact q

end Go.Proofs.Ytnnahpmnkpmopaa.Pure
