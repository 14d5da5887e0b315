/- Proved: calls of the program come to the answers of the plain Lean functions that stand beside them. Each contract names its conditions. (Written by a program of this session, over the printer of the kit.) -/
import Derived.Test.YtnnahpmnkpmopaaZAggOkQFnExactAggOkx4a
import Derived.Test.YtnnahpmnkpmopaaZAggOkQFnExactAggOkx0
import Derived.Test.YtnnahpmnkpmopaaZAggOkQFnExactAggOkx1
import Derived.Test.YtnnahpmnkpmopaaZAggOkQFnExactAggOkx2
import Derived.Test.YtnnahpmnkpmopaaZAggOkQFnExactAggOkx3
namespace Go.Proofs.Ytnnahpmnkpmopaa.QFnExactAggOk
open Go.RowKit Go.Proofs.YtnnahpmnkpmopaaW.PrintWords Go.Proofs.YtnnahpmnkpmopaaW.PrintLast Go.Proofs.YtnnahpmnkpmopaaW.PrintMore
attribute [local go_sem] max2_int min2_int max_two min_two max_three min_three max_four min_four   -- for this text's walks alone
set_option linter.unusedVariables false
set_option linter.unusedSimpArgs false

attribute [local go_sem high] eqA30
set_option maxHeartbeats 8000000 in
set_option maxRecDepth 100000 in
theorem spec_AggOk.calls (k : Nat) (a0_0 : Int) (a0_1 : Int) (a0_2 : Int) (a0_3 : Int) (a0_4 : Int) (A0_5 : Option Addr) (c0_5 : Nat) (l0_5 : List Int) (r : Bool) (w : World) (hr0_5 : Kd.C (Kd.int .i64) w A0_5 l0_5.length l0_5) (hc0_5 : l0_5.length ≤ c0_5) (h : spec_AggOk.f k a0_0 a0_1 a0_2 a0_3 a0_4 l0_5 = some r) :
  Calls Try.prog 9 #[.agg #[.int .i64 a0_0, .int .i64 a0_1, .int .u64 a0_2, .int .i64 a0_3, .int .i64 a0_4, .slice A0_5 l0_5.length c0_5]] w fun e w' => e = .returned (.bool r) ∧ Below w.heap.size w w' := by
 have hu32 := Try.underlying32
 have hu30 := Try.underlying30
 have HR0_5 := zp.mk hr0_5
 have HC0_5 := zp.mk hc0_5
 clear hr0_5 hc0_5
 have HB := zp.mk (Below.refl w.heap.size w)
 have H : (if a0_0 < 0 then (spec_AggOk.j0 k true a0_0 a0_1 a0_2 a0_3 a0_4 l0_5) else (if a0_0 > 1000000 then (spec_AggOk.j0 k true a0_0 a0_1 a0_2 a0_3 a0_4 l0_5) else (spec_AggOk.j0 k ((l0_5.length : Int) != (mn a0_0 4)) a0_0 a0_1 a0_2 a0_3 a0_4 l0_5))) = some r := h
 clear h
 have HC2 := zp.mk H
 clear H
 go_enter Try.func9, Try.ntmps9
 go_upto_region 1 with (first | ((with_reducible refine zo (N := 1) rfl ?_); (try (refine gate_guard (by rfl) ?_; dsimp only)); refine zm ?hg (N := 1) ?hd (cs := #[.int .i64 a0_0, .int .i64 a0_1, .int .u64 a0_2, .int .i64 a0_3, .int .i64 a0_4, .slice A0_5 l0_5.length c0_5]) (t := 32) ?hr ?_; (case hd => rfl); (case hg => rfl); (case hr => first | (go_simp; done) | (go_simp; rfl)); intro gb166 hg w3 hbox hb; have n0_ := zp.mk (zj (by repeat (first | (with_reducible first | exact HB.out | apply zc | apply za | apply zb) | exact HB.out)) hb); have n1_ := zp.mk (hbox); have n2_ := zp.mk ((by rw [hg]; exact (zk (by repeat (first | (with_reducible first | exact HB.out | apply zc | apply za | apply zb) | exact HB.out))) : w.heap.size ≤ gb166)); have n3_ := zp.mk ((by rw [hg]; exact (zk (by repeat (first | (with_reducible first | exact HB.out | apply zc | apply za | apply zb) | exact HB.out))) : w.heap.size ≤ gb166)); clear HB; have HB := n0_; have BK166 := n1_; have GW166 := n2_; have GE166 := n3_; clear n0_ n1_ n2_ n3_; clear hb hbox hg))
 (try simp only [Act.put, List.setIfInBounds_toArray, List.set_cons_zero, List.set_cons_succ])
 go_cut [24] (fun v24 wc => ∃ (kq : Nat) (x24_1 : Bool), v24 = .bool x24_1 ∧ zp (spec_AggOk.j0 kq x24_1 a0_0 a0_1 a0_2 a0_3 a0_4 l0_5 = some r) ∧ zp (kq ≤ k) ∧ zp (wc.heap[gb166]? = some (.cells #[.int .i64 a0_0, .int .i64 a0_1, .int .u64 a0_2, .int .i64 a0_3, .int .i64 a0_4, (.slice A0_5 l0_5.length c0_5)] 32 (0, 0))) ∧ zp (Below w.heap.size w wc))
 case first =>
  have H := HC2.out
  clear HC2
  by_cases c4 : a0_0 < 0
  ·rw [if_pos c4] at H
   have c4b0 : decide (a0_0 < 0) = true := decide_eq_true c4
   clear c4
   (first | rw [c4b0] | (simp only [i64_w, i32_w]; rw [c4b0]) | skip)
   have H' := zp.mk H
   clear H
   have hcz5_0 : w3.cell? ⟨gb166, 0, none⟩ = some (.int .i64 a0_0) := (ze BK166.out 0).trans rfl
   have hcz5_1 : w3.cell? ⟨gb166, 1, none⟩ = some (.int .i64 a0_1) := (ze BK166.out 1).trans rfl
   have hcz5_2 : w3.cell? ⟨gb166, 2, none⟩ = some (.int .u64 a0_2) := (ze BK166.out 2).trans rfl
   have hcz5_3 : w3.cell? ⟨gb166, 3, none⟩ = some (.int .i64 a0_3) := (ze BK166.out 3).trans rfl
   have hcz5_4 : w3.cell? ⟨gb166, 4, none⟩ = some (.int .i64 a0_4) := (ze BK166.out 4).trans rfl
   have hcz5_5 : w3.cell? ⟨gb166, 5, none⟩ = some (.slice A0_5 l0_5.length c0_5) := (ze BK166.out 5).trans rfl
   have hfz5_0 := zd BK166.out 0
   have hfz5_1 := zd BK166.out 1
   have hfz5_2 := zd BK166.out 2
   have hfz5_3 := zd BK166.out 3
   have hfz5_4 := zd BK166.out 4
   have hfz5_5 := zd BK166.out 5
   go_wp2
   go_meet
   case rel => exact ⟨_, (true), (by first | rfl | (simp; done) | (simp [*]; done)), H', ⟨by first | omega | exact Nat.le_refl _⟩, ⟨by (with_reducible repeat (first | refine zf ?_ _ | refine zi ?_ | refine zg ?_ _)); exact BK166.out⟩, ⟨by repeat (first | (with_reducible first | exact HB.out | apply zc | apply za | apply zb | refine zh ?_ GE166.out) | exact HB.out)⟩⟩
  ·rw [if_neg c4] at H
   have c4b0 : decide (a0_0 < 0) = false := decide_eq_false c4
   clear c4
   (first | rw [c4b0] | (simp only [i64_w, i32_w]; rw [c4b0]) | skip)
   by_cases c6 : a0_0 > 1000000
   ·rw [if_pos c6] at H
    have c6b0 : decide (1000000 < a0_0) = true := decide_eq_true c6
    clear c6
    have H' := zp.mk H
    clear H
    have hcz7_0 : w3.cell? ⟨gb166, 0, none⟩ = some (.int .i64 a0_0) := (ze BK166.out 0).trans rfl
    have hcz7_1 : w3.cell? ⟨gb166, 1, none⟩ = some (.int .i64 a0_1) := (ze BK166.out 1).trans rfl
    have hcz7_2 : w3.cell? ⟨gb166, 2, none⟩ = some (.int .u64 a0_2) := (ze BK166.out 2).trans rfl
    have hcz7_3 : w3.cell? ⟨gb166, 3, none⟩ = some (.int .i64 a0_3) := (ze BK166.out 3).trans rfl
    have hcz7_4 : w3.cell? ⟨gb166, 4, none⟩ = some (.int .i64 a0_4) := (ze BK166.out 4).trans rfl
    have hcz7_5 : w3.cell? ⟨gb166, 5, none⟩ = some (.slice A0_5 l0_5.length c0_5) := (ze BK166.out 5).trans rfl
    have hfz7_0 := zd BK166.out 0
    have hfz7_1 := zd BK166.out 1
    have hfz7_2 := zd BK166.out 2
    have hfz7_3 := zd BK166.out 3
    have hfz7_4 := zd BK166.out 4
    have hfz7_5 := zd BK166.out 5
    go_wp2
    go_meet
    case rel => exact ⟨_, (true), (by first | rfl | (simp; done) | (simp [*]; done)), H', ⟨by first | omega | exact Nat.le_refl _⟩, ⟨by (with_reducible repeat (first | refine zf ?_ _ | refine zi ?_ | refine zg ?_ _)); exact BK166.out⟩, ⟨by repeat (first | (with_reducible first | exact HB.out | apply zc | apply za | apply zb | refine zh ?_ GE166.out) | exact HB.out)⟩⟩
   ·rw [if_neg c6] at H
    have c6b0 : decide (1000000 < a0_0) = false := decide_eq_false c6
    clear c6
    obtain ⟨ji8, hji8⟩ : ∃ j_ : Int, (mn a0_0 4) = j_ := ⟨_, rfl⟩
    replace H : (spec_AggOk.j0 k ((l0_5.length : Int) != (ji8)) a0_0 a0_1 a0_2 a0_3 a0_4 l0_5) = some r := by first | (rw [hji8] at H; exact H) | (simp only [hji8] at H ⊢; exact H)
    (try (have hji8h : ji8 ≤ 4 := by (rw [← hji8]; unfold mn; (repeat' split) <;> omega)))
    (try (have hji8g : ji8 ≤ 64 := by omega))
    have hji8_ : (if 4 < a0_0 then 4 else a0_0) = ji8 := hji8
    have H' := zp.mk H
    clear H
    have hcz9_0 : w3.cell? ⟨gb166, 0, none⟩ = some (.int .i64 a0_0) := (ze BK166.out 0).trans rfl
    have hcz9_1 : w3.cell? ⟨gb166, 1, none⟩ = some (.int .i64 a0_1) := (ze BK166.out 1).trans rfl
    have hcz9_2 : w3.cell? ⟨gb166, 2, none⟩ = some (.int .u64 a0_2) := (ze BK166.out 2).trans rfl
    have hcz9_3 : w3.cell? ⟨gb166, 3, none⟩ = some (.int .i64 a0_3) := (ze BK166.out 3).trans rfl
    have hcz9_4 : w3.cell? ⟨gb166, 4, none⟩ = some (.int .i64 a0_4) := (ze BK166.out 4).trans rfl
    have hcz9_5 : w3.cell? ⟨gb166, 5, none⟩ = some (.slice A0_5 l0_5.length c0_5) := (ze BK166.out 5).trans rfl
    have hfz9_0 := zd BK166.out 0
    have hfz9_1 := zd BK166.out 1
    have hfz9_2 := zd BK166.out 2
    have hfz9_3 := zd BK166.out 3
    have hfz9_4 := zd BK166.out 4
    have hfz9_5 := zd BK166.out 5
    go_wp2
    go_meet
    case rel => exact ⟨_, (((l0_5.length : Int) != (ji8))), (by first | rfl | (simp; done) | (simp only [← hji8] <;> (first | rfl | simp)) | (simp [*]; done)), H', ⟨by first | omega | exact Nat.le_refl _⟩, ⟨by (with_reducible repeat (first | refine zf ?_ _ | refine zi ?_ | refine zg ?_ _)); exact BK166.out⟩, ⟨by repeat (first | (with_reducible first | exact HB.out | apply zc | apply za | apply zb | refine zh ?_ GE166.out) | exact HB.out)⟩⟩
 case rest =>
  clear HC2
  try clear p2
  try clear c4
  try clear c4b0
  try clear c6
  try clear c6b0
  try clear c9
  try clear hcz5_0
  try clear hcz5_1
  try clear hcz5_2
  try clear hcz5_3
  try clear hcz5_4
  try clear hcz5_5
  try clear hcz7_0
  try clear hcz7_1
  try clear hcz7_2
  try clear hcz7_3
  try clear hcz7_4
  try clear hcz7_5
  try clear hcz9_0
  try clear hcz9_1
  try clear hcz9_2
  try clear hcz9_3
  try clear hcz9_4
  try clear hcz9_5
  try clear hfz5_0
  try clear hfz5_1
  try clear hfz5_2
  try clear hfz5_3
  try clear hfz5_4
  try clear hfz5_5
  try clear hfz7_0
  try clear hfz7_1
  try clear hfz7_2
  try clear hfz7_3
  try clear hfz7_4
  try clear hfz7_5
  try clear hfz9_0
  try clear hfz9_1
  try clear hfz9_2
  try clear hfz9_3
  try clear hfz9_4
  try clear hfz9_5
  obtain ⟨kq, x24_1, rfl, HA, HJ1, BK166, HB⟩ := hcut
  cases kq with
  | zero => exact absurd HA.out (by simp [spec_AggOk.j0])
  | succ kj1 =>
   have H := HA.out
   clear HA
   simp only [spec_AggOk.j0] at H
   by_cases c10 : x24_1 = true
   ·subst c10
    have H1 : (some false) = some r := by rw [if_pos rfl] at H; exact H
    clear H
    have H := H1
    clear H1
    obtain rfl := Option.some.inj H
    go_wp2
    go_ret
    exact ⟨by first | rfl | (simp [errW_none, errW_some] <;> rfl) | (simp [*, errW_none, errW_some] <;> rfl), by repeat (first | (with_reducible first | exact HB.out | apply zc | apply za | apply zb | refine zh ?_ GE166.out) | exact HB.out)⟩
   ·replace c10 := Bool.eq_false_iff.mpr c10
    subst c10
    have H1 : (if a0_0 = 0 then (if (a0_1 == 0 && (a0_2 == 0)) = true then (if a0_3 = 0 then (some (a0_4 == 0)) else (some false)) else (some false)) else ((spec_TopOf.f kj1 l0_5 ([] : List Int)).bind fun t167 => ((spec_l07Same.f kj1 t167 l0_5).bind fun t170 => (if t170 = true then (if 0 < (l0_5.length : Int) then (if (rd l0_5 0) = a0_4 then (if 0 ≤ (wrap64 ((l0_5.length : Int) - 1)) then (if (wrap64 ((l0_5.length : Int) - 1)) < (l0_5.length : Int) then (spec_AggOk.j1 kj1 (decide (a0_3 > (rd l0_5 (wrap64 ((l0_5.length : Int) - 1))))) a0_0 a0_1 a0_2 a0_3 a0_4 l0_5) else (none)) else (none)) else (spec_AggOk.j1 kj1 true a0_0 a0_1 a0_2 a0_3 a0_4 l0_5)) else (none)) else (spec_AggOk.j1 kj1 true a0_0 a0_1 a0_2 a0_3 a0_4 l0_5))))) = some r := by rw [if_neg (show ¬ (false = true) by decide)] at H; exact H
    clear H
    have H := H1
    clear H1
    by_cases c11 : a0_0 = 0
    ·rw [if_pos c11] at H
     have c11b0 : (a0_0 == 0) = true := beq_iff_eq.mpr c11
     have c11b1 : (a0_0 != 0) = false := bne_eq_false_iff_eq.mpr c11
     clear c11
     by_cases c12 : (a0_1 == 0 && (a0_2 == 0)) = true
     ·rw [if_pos c12] at H
      have c12b0 : (a0_1 == 0 && (a0_2 == 0)) = true := c12
      (try (have c12b1 : decide (a0_1 = 0 && (a0_2 == 0)) = true := by simpa using c12))
      (try (have c12b2 : (a0_1 == 0 && (a0_2 == 0)) = true := by simpa using c12))
      clear c12
      by_cases c13 : a0_3 = 0
      ·rw [if_pos c13] at H
       have c13b0 : (a0_3 == 0) = true := beq_iff_eq.mpr c13
       have c13b1 : (a0_3 != 0) = false := bne_eq_false_iff_eq.mpr c13
       clear c13
       obtain rfl := Option.some.inj H
       have hcz14_0 : wc.cell? ⟨gb166, 0, none⟩ = some (.int .i64 a0_0) := (ze BK166.out 0).trans rfl
       have hcz14_1 : wc.cell? ⟨gb166, 1, none⟩ = some (.int .i64 a0_1) := (ze BK166.out 1).trans rfl
       have hcz14_2 : wc.cell? ⟨gb166, 2, none⟩ = some (.int .u64 a0_2) := (ze BK166.out 2).trans rfl
       have hcz14_3 : wc.cell? ⟨gb166, 3, none⟩ = some (.int .i64 a0_3) := (ze BK166.out 3).trans rfl
       have hcz14_4 : wc.cell? ⟨gb166, 4, none⟩ = some (.int .i64 a0_4) := (ze BK166.out 4).trans rfl
       have hcz14_5 : wc.cell? ⟨gb166, 5, none⟩ = some (.slice A0_5 l0_5.length c0_5) := (ze BK166.out 5).trans rfl
       have hfz14_0 := zd BK166.out 0
       have hfz14_1 := zd BK166.out 1
       have hfz14_2 := zd BK166.out 2
       have hfz14_3 := zd BK166.out 3
       have hfz14_4 := zd BK166.out 4
       have hfz14_5 := zd BK166.out 5
       go_wp2
       go_ret
       exact ⟨by first | rfl | (simp [errW_none, errW_some] <;> rfl) | (simp [*, errW_none, errW_some] <;> rfl), by repeat (first | (with_reducible first | exact HB.out | apply zc | apply za | apply zb | refine zh ?_ GE166.out) | exact HB.out)⟩
      ·rw [if_neg c13] at H
       have c13b0 : (a0_3 == 0) = false := beq_eq_false_iff_ne.mpr c13
       have c13b1 : (a0_3 != 0) = true := bne_iff_ne.mpr c13
       obtain rfl := Option.some.inj H
       have hcz15_0 : wc.cell? ⟨gb166, 0, none⟩ = some (.int .i64 a0_0) := (ze BK166.out 0).trans rfl
       have hcz15_1 : wc.cell? ⟨gb166, 1, none⟩ = some (.int .i64 a0_1) := (ze BK166.out 1).trans rfl
       have hcz15_2 : wc.cell? ⟨gb166, 2, none⟩ = some (.int .u64 a0_2) := (ze BK166.out 2).trans rfl
       have hcz15_3 : wc.cell? ⟨gb166, 3, none⟩ = some (.int .i64 a0_3) := (ze BK166.out 3).trans rfl
       have hcz15_4 : wc.cell? ⟨gb166, 4, none⟩ = some (.int .i64 a0_4) := (ze BK166.out 4).trans rfl
       have hcz15_5 : wc.cell? ⟨gb166, 5, none⟩ = some (.slice A0_5 l0_5.length c0_5) := (ze BK166.out 5).trans rfl
       have hfz15_0 := zd BK166.out 0
       have hfz15_1 := zd BK166.out 1
       have hfz15_2 := zd BK166.out 2
       have hfz15_3 := zd BK166.out 3
       have hfz15_4 := zd BK166.out 4
       have hfz15_5 := zd BK166.out 5
       go_wp2
       go_ret
       exact ⟨by first | rfl | (simp [errW_none, errW_some] <;> rfl) | (simp [*, errW_none, errW_some] <;> rfl), by repeat (first | (with_reducible first | exact HB.out | apply zc | apply za | apply zb | refine zh ?_ GE166.out) | exact HB.out)⟩
     ·rw [if_neg c12] at H
      have c12b0 : (a0_1 == 0 && (a0_2 == 0)) = false := by simpa using c12
      (try (have c12b1 : decide (a0_1 = 0 && (a0_2 == 0)) = false := by simpa using c12))
      (try (have c12b2 : (a0_1 == 0 && (a0_2 == 0)) = false := by simpa using c12))
      (try (have c12b3 : ¬ (a0_1 = 0 && (a0_2 == 0)) := by simpa using c12))
      clear c12
      obtain rfl := Option.some.inj H
      have hcz16_0 : wc.cell? ⟨gb166, 0, none⟩ = some (.int .i64 a0_0) := (ze BK166.out 0).trans rfl
      have hcz16_1 : wc.cell? ⟨gb166, 1, none⟩ = some (.int .i64 a0_1) := (ze BK166.out 1).trans rfl
      have hcz16_2 : wc.cell? ⟨gb166, 2, none⟩ = some (.int .u64 a0_2) := (ze BK166.out 2).trans rfl
      have hcz16_3 : wc.cell? ⟨gb166, 3, none⟩ = some (.int .i64 a0_3) := (ze BK166.out 3).trans rfl
      have hcz16_4 : wc.cell? ⟨gb166, 4, none⟩ = some (.int .i64 a0_4) := (ze BK166.out 4).trans rfl
      have hcz16_5 : wc.cell? ⟨gb166, 5, none⟩ = some (.slice A0_5 l0_5.length c0_5) := (ze BK166.out 5).trans rfl
      have hfz16_0 := zd BK166.out 0
      have hfz16_1 := zd BK166.out 1
      have hfz16_2 := zd BK166.out 2
      have hfz16_3 := zd BK166.out 3
      have hfz16_4 := zd BK166.out 4
      have hfz16_5 := zd BK166.out 5
      go_wp2
      go_ret
      exact ⟨by first | rfl | (simp [errW_none, errW_some] <;> rfl) | (simp [*, errW_none, errW_some] <;> rfl), by repeat (first | (with_reducible first | exact HB.out | apply zc | apply za | apply zb | refine zh ?_ GE166.out) | exact HB.out)⟩
    ·rw [if_neg c11] at H
     have c11b0 : (a0_0 == 0) = false := beq_eq_false_iff_ne.mpr c11
     have c11b1 : (a0_0 != 0) = true := bne_iff_ne.mpr c11
     have HC17 := zp.mk H
     clear H
     have hcz18_0 : wc.cell? ⟨gb166, 0, none⟩ = some (.int .i64 a0_0) := (ze BK166.out 0).trans rfl
     have hcz18_1 : wc.cell? ⟨gb166, 1, none⟩ = some (.int .i64 a0_1) := (ze BK166.out 1).trans rfl
     have hcz18_2 : wc.cell? ⟨gb166, 2, none⟩ = some (.int .u64 a0_2) := (ze BK166.out 2).trans rfl
     have hcz18_3 : wc.cell? ⟨gb166, 3, none⟩ = some (.int .i64 a0_3) := (ze BK166.out 3).trans rfl
     have hcz18_4 : wc.cell? ⟨gb166, 4, none⟩ = some (.int .i64 a0_4) := (ze BK166.out 4).trans rfl
     have hcz18_5 : wc.cell? ⟨gb166, 5, none⟩ = some (.slice A0_5 l0_5.length c0_5) := (ze BK166.out 5).trans rfl
     have hfz18_0 := zd BK166.out 0
     have hfz18_1 := zd BK166.out 1
     have hfz18_2 := zd BK166.out 2
     have hfz18_3 := zd BK166.out 3
     have hfz18_4 := zd BK166.out 4
     have hfz18_5 := zd BK166.out 5
     go_upto_region 5 with (fail)
     go_cut [70] (fun v70 wc => ∃ (kq : Nat) (x70_16 : Bool), v70 = .bool x70_16 ∧ zp (spec_AggOk.j1 kq x70_16 a0_0 a0_1 a0_2 a0_3 a0_4 l0_5 = some r) ∧ zp (kq ≤ kj1) ∧ zp (wc.heap[gb166]? = some (.cells #[.int .i64 a0_0, .int .i64 a0_1, .int .u64 a0_2, .int .i64 a0_3, .int .i64 a0_4, (.slice A0_5 l0_5.length c0_5)] 32 (0, 0))) ∧ zp (Below w.heap.size w wc))
     case first =>
      have H := HC17.out
      clear HC17
      replace H := Option.bind_eq_some_iff.mp H
      obtain ⟨t167, A190, H⟩ := H
      replace H : ((spec_l07Same.f kj1 t167 l0_5).bind fun t170 => (if t170 = true then (if 0 < (l0_5.length : Int) then (if (rd l0_5 0) = a0_4 then (if 0 ≤ (wrap64 ((l0_5.length : Int) - 1)) then (if (wrap64 ((l0_5.length : Int) - 1)) < (l0_5.length : Int) then (spec_AggOk.j1 kj1 (decide (a0_3 > (rd l0_5 (wrap64 ((l0_5.length : Int) - 1))))) a0_0 a0_1 a0_2 a0_3 a0_4 l0_5) else (none)) else (none)) else (spec_AggOk.j1 kj1 true a0_0 a0_1 a0_2 a0_3 a0_4 l0_5)) else (none)) else (spec_AggOk.j1 kj1 true a0_0 a0_1 a0_2 a0_3 a0_4 l0_5))) = some r := H
      have A19 := zp.mk A190
      clear A190
      replace H := Option.bind_eq_some_iff.mp H
      obtain ⟨t170, A200, H⟩ := H
      replace H : (if t170 = true then (if 0 < (l0_5.length : Int) then (if (rd l0_5 0) = a0_4 then (if 0 ≤ (wrap64 ((l0_5.length : Int) - 1)) then (if (wrap64 ((l0_5.length : Int) - 1)) < (l0_5.length : Int) then (spec_AggOk.j1 kj1 (decide (a0_3 > (rd l0_5 (wrap64 ((l0_5.length : Int) - 1))))) a0_0 a0_1 a0_2 a0_3 a0_4 l0_5) else (none)) else (none)) else (spec_AggOk.j1 kj1 true a0_0 a0_1 a0_2 a0_3 a0_4 l0_5)) else (none)) else (spec_AggOk.j1 kj1 true a0_0 a0_1 a0_2 a0_3 a0_4 l0_5)) = some r := H
      have A20 := zp.mk A200
      clear A200
      by_cases c21 : t170 = true
      ·subst c21
       have H1 : (if 0 < (l0_5.length : Int) then (if (rd l0_5 0) = a0_4 then (if 0 ≤ (wrap64 ((l0_5.length : Int) - 1)) then (if (wrap64 ((l0_5.length : Int) - 1)) < (l0_5.length : Int) then (spec_AggOk.j1 kj1 (decide (a0_3 > (rd l0_5 (wrap64 ((l0_5.length : Int) - 1))))) a0_0 a0_1 a0_2 a0_3 a0_4 l0_5) else (none)) else (none)) else (spec_AggOk.j1 kj1 true a0_0 a0_1 a0_2 a0_3 a0_4 l0_5)) else (none)) = some r := by rw [if_pos rfl] at H; exact H
       clear H
       have H := H1
       clear H1
       by_cases c22 : 0 < (l0_5.length : Int)
       ·rw [if_pos c22] at H
        have c22b0 : decide (0 < (l0_5.length : Int)) = true := decide_eq_true c22
        have c22b1 : decide (0 < l0_5.length) = true := decide_eq_true (by omega)
        clear c22
        (first | rw [c22b0] | (simp only [i64_w, i32_w]; rw [c22b0]) | skip)
        by_cases c23 : (rd l0_5 0) = a0_4
        ·rw [if_pos c23] at H
         have c23b0 : ((rd l0_5 0) == a0_4) = true := beq_iff_eq.mpr c23
         have c23b1 : ((rd l0_5 0) != a0_4) = false := bne_eq_false_iff_eq.mpr c23
         clear c23
         obtain ⟨ji24, hji24⟩ : ∃ j_ : Int, (wrap64 ((l0_5.length : Int) - 1)) = j_ := ⟨_, rfl⟩
         replace H : (if 0 ≤ (ji24) then (if (ji24) < (l0_5.length : Int) then (spec_AggOk.j1 kj1 (decide (a0_3 > (rd l0_5 (ji24)))) a0_0 a0_1 a0_2 a0_3 a0_4 l0_5) else (none)) else (none)) = some r := by first | (rw [hji24] at H; exact H) | (simp only [hji24] at H ⊢; exact H)
         (try rw [hji24] at A19)
         (try rw [hji24] at A20)
         have hji24w : (IntKind.i64.wrap ((l0_5.length : Int) - 1)) = ji24 := (i64_w _).trans hji24
         by_cases c25 : 0 ≤ (ji24)
         ·rw [if_pos c25] at H
          have c25b0 : decide (0 ≤ (ji24)) = true := decide_eq_true c25
          clear c25
          by_cases c26 : (ji24) < (l0_5.length : Int)
          ·rw [if_pos c26] at H
           have c26b0 : decide ((ji24) < (l0_5.length : Int)) = true := decide_eq_true c26
           clear c26
           have H' := zp.mk H
           clear H
           try go_wp2
           have n0_ := zp.mk (zi BK166.out)
           have n1_ := zp.mk (zb HB.out)
           clear BK166
           clear HB
           have BK166 := n0_
           have HB := n1_
           clear n0_ n1_
           have p171 : 0 ≤ (0 : Int) := (by omega)
           have q171 : 0 < (l0_5.length : Int) := of_decide_eq_true (by first | (with_reducible assumption) | assumption)
           obtain ⟨ad171, e171, hx171_0⟩ := Kd.at_int HR0_5.out 0 p171 q171
           have hw171_0 := hx171_0
           (try rw [show ((0 : Int)).toNat = 0 from rfl] at hw171_0)
           (try rw [show 0 * 1 = 0 from rfl] at hw171_0)
           (try rw [Addr.add_zero'] at hw171_0)
           cases e171
           have qi171 : (0 < l0_5.length) = True := eq_true (by omega)
           (try rw [show ((0 : Int)).toNat = 0 from rfl] at hx171_0)
           (try rw [Addr.add_zero'] at hx171_0)
           replace hx171_0 := (HB.out.cell (World.block_lt_of_cell? w _ hx171_0)).trans hx171_0
           replace p171 := eq_true p171
           replace q171 := eq_true q171
           have p172 : 0 ≤ ((ji24) : Int) := of_decide_eq_true (by first | (with_reducible assumption) | assumption)
           have q172 : (ji24) < (l0_5.length : Int) := of_decide_eq_true (by first | (with_reducible assumption) | assumption)
           obtain ⟨ad172, e172, hx172_0⟩ := Kd.at_int HR0_5.out (ji24) p172 q172
           have hw172_0 := hx172_0
           obtain rfl : ad171 = ad172 := (by injection e172)
           replace hx172_0 := (HB.out.cell (World.block_lt_of_cell? w _ hx172_0)).trans hx172_0
           replace p172 := eq_true p172
           replace q172 := eq_true q172
           refine start_ (n := 29) (S := fun w' => w'.cell? ⟨gb166, 0, none⟩ = some (.int .i64 a0_0) ∧ w'.cell? ⟨gb166, 1, none⟩ = some (.int .i64 a0_1) ∧ w'.cell? ⟨gb166, 2, none⟩ = some (.int .u64 a0_2) ∧ w'.cell? ⟨gb166, 3, none⟩ = some (.int .i64 a0_3) ∧ w'.cell? ⟨gb166, 4, none⟩ = some (.int .i64 a0_4) ∧ w'.cell? ⟨gb166, 5, none⟩ = some (.slice (some ad171) l0_5.length c0_5) ∧ w'.cell? ad171 = some (.int .i64 (rd l0_5 0)) ∧ w'.cell? (ad171.add ((ji24)).toNat) = some (.int .i64 (rd l0_5 (ji24)))) (ds := []) #[false, false, false, false, false, false, false, false, false, false, false, false, false, false, false, false, false, false, false, false, false, false, false, false, false, false, false, false, false] (by kernel_rfl) rfl rfl ⟨(ze BK166.out 0).trans rfl, (ze BK166.out 1).trans rfl, (ze BK166.out 2).trans rfl, (ze BK166.out 3).trans rfl, (ze BK166.out 4).trans rfl, (ze BK166.out 5).trans rfl, ((HB.out.cell (World.block_lt_of_cell? w _ hw171_0)).trans hw171_0), ((HB.out.cell (World.block_lt_of_cell? w _ hw172_0)).trans hw172_0)⟩ (fun hHeld => ?_); refine with_tabW spec_AggOk.tab5 spec_AggOk.bits5 (fun HT_ HW_ => ?_)
           generalize wc.drew = w27 at BK166 HB hx171_0 hx172_0 hHeld ⊢
           refine pure_ (i := 0) (N := some 42) (v := ?_) (a' := ?_) #[true, false, false, false, false, false, false, false, false, false, false, false, false, false, false, false, false, false, false, false, false, false, false, false, false, false, false, false, false] rfl rfl (any_of HT_.out (by kernel_rfl)) (fun _ _ _ h => h) (Or.inl ⟨by rfl, ?_⟩) ?_ ?_
           rotate_left
           ·intro w'
            go_simp
            with_reducible rfl
           rotate_left
           ·simp only [Act.put, List.setIfInBounds_toArray, List.set_cons_zero, List.set_cons_succ, i64_w, i32_w]
            rfl
           refine pure_ (i := 3) (N := some 45) (v := ?_) (a' := ?_) #[true, false, false, true, false, false, false, false, false, false, false, false, false, false, false, false, false, false, false, false, false, false, false, false, false, false, false, false, false] rfl rfl (any_of HT_.out (by kernel_rfl)) (fun _ _ _ h => h) (Or.inl ⟨by rfl, ?_⟩) ?_ ?_
           rotate_left
           ·intro w'
            go_simp
            with_reducible rfl
           rotate_left
           ·simp only [Act.put, List.setIfInBounds_toArray, List.set_cons_zero, List.set_cons_succ, i64_w, i32_w]
            rfl
           refine take_ (i := 1) (N := some 43) (v := ?_) (a' := ?_) #[true, true, false, true, false, false, false, false, false, false, false, false, false, false, false, false, false, false, false, false, false, false, false, false, false, false, false, false, false] rfl rfl (take_ofW HT_.out HW_.out (by kernel_rfl)) (fun _ _ _ h => h) (Or.inl ⟨by rfl, ?_⟩) hHeld ?_ ?_
           rotate_left
           ·rintro w' ⟨s0, s1, s2, s3, s4, s5, s6, s7⟩
            go_simp
            with_reducible rfl
           rotate_left
           ·simp only [Act.put, List.setIfInBounds_toArray, List.set_cons_zero, List.set_cons_succ, i64_w, i32_w]
            rfl
           refine take_ (i := 4) (N := some 46) (v := ?_) (a' := ?_) #[true, true, false, true, true, false, false, false, false, false, false, false, false, false, false, false, false, false, false, false, false, false, false, false, false, false, false, false, false] rfl rfl (take_ofW HT_.out HW_.out (by kernel_rfl)) (fun _ _ _ h => h) (Or.inl ⟨by rfl, ?_⟩) hHeld ?_ ?_
           rotate_left
           ·rintro w' ⟨s0, s1, s2, s3, s4, s5, s6, s7⟩
            go_simp
            with_reducible rfl
           rotate_left
           ·simp only [Act.put, List.setIfInBounds_toArray, List.set_cons_zero, List.set_cons_succ, i64_w, i32_w]
            rfl
           refine one_ (i := 2) (N := some 44) #[true, true, true, true, true, false, false, false, false, false, false, false, false, false, false, false, false, false, false, false, false, false, false, false, false, false, false, false, false] rfl rfl (one_of HT_.out (by kernel_rfl)) (by decide) (fun K hK => ?_)
           refine goes_ Try.func19 (by kernel_rfl) rfl #[.slice (some ad171) l0_5.length c0_5, .slice none 0 0] (by rfl) rfl rfl (by (try simp only [List.map_toArray, List.map_cons, List.map_nil]); first | done | rfl | (simp only [List.length_drop, List.length_take]; rfl)) ?_
           refine (spec_TopOf.calls kj1 _ _ l0_5 _ _ ([] : List Int) t167 _ ?side1 ?side2 ?side3 ?side4 A19.out).mono ?_
           (case side1 => repeat (first | exact (Kd.zs HR0_5.out HB.out) | (with_reducible refine Kd.zr ?_ _) | (with_reducible refine Kd.zq ?_ _) | (with_reducible refine Kd.C_drew ?_)))
           (case side2 => exact HC0_5.out)
           (case side3 => exact Kd.C_nil _ _)
           (case side4 => exact Nat.le_refl _)
           rintro e w28 ⟨v168, rfl, ho0, hb⟩
           refine ⟨_, rfl, ?_⟩
           have n0_ := zp.mk (Kd.R_lower ho0 (zk (by repeat (first | (with_reducible first | exact HB.out | apply zc | apply za | apply zb | refine zh ?_ GE166.out) | exact HB.out))))
           have n1_ := zp.mk (zl (g := gb166) (o := .cells #[.int .i64 a0_0, .int .i64 a0_1, .int .u64 a0_2, .int .i64 a0_3, .int .i64 a0_4, .slice (some ad171) l0_5.length c0_5] 32 (0, 0)) (by (with_reducible repeat (first | refine zf ?_ _ | refine zi ?_ | refine zg ?_ _)); exact BK166.out) hb)
           have n2_ := zp.mk (zj (by repeat (first | (with_reducible first | exact HB.out | apply zc | apply za | apply zb | refine zh ?_ GE166.out) | exact HB.out)) hb)
           clear BK166
           clear HB
           have HO169 := n0_
           have BK166 := n1_
           have HB := n2_
           clear n0_ n1_ n2_
           (try clear hb)
           (try clear hb2)
           (try clear hk)
           (try clear hi)
           (try clear ho0)
           obtain ⟨Ao29, co29, eo29⟩ := Kd.R_slice HO169.out
           (first | subst eo29 | (injection eo29 with f1_ f2_ f3_; have f4_ := f1_.symm; have f5_ := f3_.symm; clear f1_ f2_ f3_; subst f4_; subst f5_))
           refine hK.out _ _ ⟨(ze BK166.out 0).trans rfl, (ze BK166.out 1).trans rfl, (ze BK166.out 2).trans rfl, (ze BK166.out 3).trans rfl, (ze BK166.out 4).trans rfl, (ze BK166.out 5).trans rfl, ((HB.out.cell (World.block_lt_of_cell? w _ hw171_0)).trans hw171_0), ((HB.out.cell (World.block_lt_of_cell? w _ hw172_0)).trans hw172_0)⟩ (fun hHeld => ?_)
           clear hK K
           refine norm_ (a' := ?_) ?_ ?_
           rotate_left
           ·show Act.put _ (some 44) _ = _
            simp only [Act.put, List.setIfInBounds_toArray, List.set_cons_zero, List.set_cons_succ, i64_w, i32_w]
            rfl
           refine one_ (i := 5) (N := some 47) #[true, true, true, true, true, true, false, false, false, false, false, false, false, false, false, false, false, false, false, false, false, false, false, false, false, false, false, false, false] rfl rfl (one_of HT_.out (by kernel_rfl)) (by decide) (fun K hK => ?_)
           refine goes_ Try.func28 (by kernel_rfl) rfl #[.slice Ao29 t167.length co29, .slice (some ad171) l0_5.length c0_5] (by rfl) rfl rfl (by (try simp only [List.map_toArray, List.map_cons, List.map_nil]); first | done | rfl | (simp only [List.length_drop, List.length_take]; rfl)) ?_
           with_reducible refine (spec_l07Same.calls kj1 _ _ t167 _ _ l0_5 true _ ?side1 ?side2 ?side3 ?side4 A20.out).mono ?_
           (case side1 => repeat (first | exact (Kd.R_reads' HO169.out).2.2 | (with_reducible refine Kd.zr ?_ _) | (with_reducible refine Kd.zq ?_ _) | (with_reducible refine Kd.C_drew ?_)))
           (case side2 => exact (Kd.R_reads' HO169.out).2.1)
           (case side3 => repeat (first | exact (Kd.zs HR0_5.out HB.out) | (with_reducible refine Kd.zr ?_ _) | (with_reducible refine Kd.zq ?_ _) | (with_reducible refine Kd.C_drew ?_)))
           (case side4 => exact HC0_5.out)
           rintro e w' ⟨rfl, ⟨nd, rfl⟩⟩
           refine ⟨_, rfl, ?_⟩
           refine hK.out _ _ ⟨(ze BK166.out 0).trans rfl, (ze BK166.out 1).trans rfl, (ze BK166.out 2).trans rfl, (ze BK166.out 3).trans rfl, (ze BK166.out 4).trans rfl, (ze BK166.out 5).trans rfl, ((HB.out.cell (World.block_lt_of_cell? w _ hw171_0)).trans hw171_0), ((HB.out.cell (World.block_lt_of_cell? w _ hw172_0)).trans hw172_0)⟩ (fun hHeld => ?_)
           clear hK K
           refine norm_ (a' := ?_) ?_ ?_
           rotate_left
           ·show Act.put _ (some 47) _ = _
            simp only [Act.put, List.setIfInBounds_toArray, List.set_cons_zero, List.set_cons_succ, i64_w, i32_w]
            rfl
           refine pure_ (i := 6) (N := some 48) (v := ?_) (a' := ?_) #[true, true, true, true, true, true, true, false, false, false, false, false, false, false, false, false, false, false, false, false, false, false, false, false, false, false, false, false, false] rfl rfl (any_of HT_.out (by kernel_rfl)) (fun _ _ _ h => h) (Or.inl ⟨by rfl, ?_⟩) ?_ ?_
           rotate_left
           ·intro w'
            go_simp
            with_reducible rfl
           rotate_left
           ·simp only [Act.put, List.setIfInBounds_toArray, List.set_cons_zero, List.set_cons_succ, i64_w, i32_w]
            rfl
           refine pure_ (i := 7) (N := some 49) (v := ?_) (a' := ?_) #[true, true, true, true, true, true, true, true, false, false, false, false, false, false, false, false, false, false, false, false, false, false, false, false, false, false, false, false, false] rfl rfl (any_of HT_.out (by kernel_rfl)) (fun _ _ _ h => h) (Or.inl ⟨by rfl, ?_⟩) ?_ ?_
           rotate_left
           ·intro w'
            go_simp
            with_reducible rfl
           rotate_left
           ·simp only [Act.put, List.setIfInBounds_toArray, List.set_cons_zero, List.set_cons_succ, i64_w, i32_w]
            rfl
           refine pure_ (i := 8) (N := some 50) (v := ?_) (a' := ?_) #[true, true, true, true, true, true, true, true, true, false, false, false, false, false, false, false, false, false, false, false, false, false, false, false, false, false, false, false, false] rfl rfl (any_of HT_.out (by kernel_rfl)) (fun _ _ _ h => h) (Or.inl ⟨by rfl, ?_⟩) ?_ ?_
           rotate_left
           ·intro w'
            go_simp
            with_reducible rfl
           rotate_left
           ·simp only [Act.put, List.setIfInBounds_toArray, List.set_cons_zero, List.set_cons_succ, i64_w, i32_w]
            rfl
           refine pure_ (i := 12) (N := some 54) (v := ?_) (a' := ?_) #[true, true, true, true, true, true, true, true, true, false, false, false, true, false, false, false, false, false, false, false, false, false, false, false, false, false, false, false, false] rfl rfl (any_of HT_.out (by kernel_rfl)) (fun _ _ _ h => h) (Or.inl ⟨by rfl, ?_⟩) ?_ ?_
           rotate_left
           ·intro w'
            go_simp
            with_reducible rfl
           rotate_left
           ·simp only [Act.put, List.setIfInBounds_toArray, List.set_cons_zero, List.set_cons_succ, i64_w, i32_w]
            rfl
           refine take_ (i := 9) (N := some 51) (v := ?_) (a' := ?_) #[true, true, true, true, true, true, true, true, true, true, false, false, true, false, false, false, false, false, false, false, false, false, false, false, false, false, false, false, false] rfl rfl (take_ofW HT_.out HW_.out (by kernel_rfl)) (fun _ _ _ h => h) (Or.inl ⟨by rfl, ?_⟩) hHeld ?_ ?_
           rotate_left
           ·rintro w' ⟨s0, s1, s2, s3, s4, s5, s6, s7⟩
            go_simp
            with_reducible rfl
           rotate_left
           ·simp only [Act.put, List.setIfInBounds_toArray, List.set_cons_zero, List.set_cons_succ, i64_w, i32_w]
            rfl
           refine pure_ (i := 10) (N := some 52) (v := ?_) (a' := ?_) #[true, true, true, true, true, true, true, true, true, true, true, false, true, false, false, false, false, false, false, false, false, false, false, false, false, false, false, false, false] rfl rfl (any_of HT_.out (by kernel_rfl)) (fun _ _ _ h => h) (Or.inl ⟨by rfl, ?_⟩) ?_ ?_
           rotate_left
           ·intro w'
            go_simp
            with_reducible rfl
           rotate_left
           ·simp only [Act.put, List.setIfInBounds_toArray, List.set_cons_zero, List.set_cons_succ, i64_w, i32_w]
            rfl
           refine take_ (i := 11) (N := some 53) (v := ?_) (a' := ?_) #[true, true, true, true, true, true, true, true, true, true, true, true, true, false, false, false, false, false, false, false, false, false, false, false, false, false, false, false, false] rfl rfl (take_ofW HT_.out HW_.out (by kernel_rfl)) (fun _ _ _ h => h) (Or.inl ⟨by rfl, ?_⟩) hHeld ?_ ?_
           rotate_left
           ·rintro w' ⟨s0, s1, s2, s3, s4, s5, s6, s7⟩
            go_simp
            with_reducible rfl
           rotate_left
           ·simp only [Act.put, List.setIfInBounds_toArray, List.set_cons_zero, List.set_cons_succ, i64_w, i32_w]
            rfl
           refine take_ (i := 13) (N := some 55) (v := ?_) (a' := ?_) #[true, true, true, true, true, true, true, true, true, true, true, true, true, true, false, false, false, false, false, false, false, false, false, false, false, false, false, false, false] rfl rfl (take_ofW HT_.out HW_.out (by kernel_rfl)) (fun _ _ _ h => h) (Or.inl ⟨by rfl, ?_⟩) hHeld ?_ ?_
           rotate_left
           ·rintro w' ⟨s0, s1, s2, s3, s4, s5, s6, s7⟩
            go_simp
            with_reducible rfl
           rotate_left
           ·simp only [Act.put, List.setIfInBounds_toArray, List.set_cons_zero, List.set_cons_succ, i64_w, i32_w]
            rfl
           refine pure_ (i := 14) (N := some 56) (v := ?_) (a' := ?_) #[true, true, true, true, true, true, true, true, true, true, true, true, true, true, true, false, false, false, false, false, false, false, false, false, false, false, false, false, false] rfl rfl (any_of HT_.out (by kernel_rfl)) (fun _ _ _ h => h) (Or.inl ⟨by rfl, ?_⟩) ?_ ?_
           rotate_left
           ·intro w'
            go_simp
            with_reducible rfl
           rotate_left
           ·simp only [Act.put, List.setIfInBounds_toArray, List.set_cons_zero, List.set_cons_succ, i64_w, i32_w]
            rfl
           refine pure_ (i := 15) (N := some 57) (v := ?_) (a' := ?_) #[true, true, true, true, true, true, true, true, true, true, true, true, true, true, true, true, false, false, false, false, false, false, false, false, false, false, false, false, false] rfl rfl (any_of HT_.out (by kernel_rfl)) (fun _ _ _ h => h) (Or.inl ⟨by rfl, ?_⟩) ?_ ?_
           rotate_left
           ·intro w'
            go_simp
            with_reducible rfl
           rotate_left
           ·simp only [Act.put, List.setIfInBounds_toArray, List.set_cons_zero, List.set_cons_succ, i64_w, i32_w]
            rfl
           refine pure_ (i := 16) (N := some 58) (v := ?_) (a' := ?_) #[true, true, true, true, true, true, true, true, true, true, true, true, true, true, true, true, true, false, false, false, false, false, false, false, false, false, false, false, false] rfl rfl (any_of HT_.out (by kernel_rfl)) (fun _ _ _ h => h) (Or.inl ⟨by rfl, ?_⟩) ?_ ?_
           rotate_left
           ·intro w'
            go_simp
            with_reducible rfl
           rotate_left
           ·simp only [Act.put, List.setIfInBounds_toArray, List.set_cons_zero, List.set_cons_succ, i64_w, i32_w]
            rfl
           refine pure_ (i := 17) (N := some 59) (v := ?_) (a' := ?_) #[true, true, true, true, true, true, true, true, true, true, true, true, true, true, true, true, true, true, false, false, false, false, false, false, false, false, false, false, false] rfl rfl (any_of HT_.out (by kernel_rfl)) (fun _ _ _ h => h) (Or.inl ⟨by rfl, ?_⟩) ?_ ?_
           rotate_left
           ·intro w'
            go_simp
            with_reducible rfl
           rotate_left
           ·simp only [Act.put, List.setIfInBounds_toArray, List.set_cons_zero, List.set_cons_succ, i64_w, i32_w]
            rfl
           refine pure_ (i := 19) (N := some 61) (v := ?_) (a' := ?_) #[true, true, true, true, true, true, true, true, true, true, true, true, true, true, true, true, true, true, false, true, false, false, false, false, false, false, false, false, false] rfl rfl (any_of HT_.out (by kernel_rfl)) (fun _ _ _ h => h) (Or.inl ⟨by rfl, ?_⟩) ?_ ?_
           rotate_left
           ·intro w'
            go_simp
            with_reducible rfl
           rotate_left
           ·simp only [Act.put, List.setIfInBounds_toArray, List.set_cons_zero, List.set_cons_succ, i64_w, i32_w]
            rfl
           refine pure_ (i := 21) (N := some 63) (v := ?_) (a' := ?_) #[true, true, true, true, true, true, true, true, true, true, true, true, true, true, true, true, true, true, false, true, false, true, false, false, false, false, false, false, false] rfl rfl (any_of HT_.out (by kernel_rfl)) (fun _ _ _ h => h) (Or.inl ⟨by rfl, ?_⟩) ?_ ?_
           rotate_left
           ·intro w'
            go_simp
            with_reducible rfl
           rotate_left
           ·simp only [Act.put, List.setIfInBounds_toArray, List.set_cons_zero, List.set_cons_succ, i64_w, i32_w]
            rfl
           refine take_ (i := 18) (N := some 60) (v := ?_) (a' := ?_) #[true, true, true, true, true, true, true, true, true, true, true, true, true, true, true, true, true, true, true, true, false, true, false, false, false, false, false, false, false] rfl rfl (take_ofW HT_.out HW_.out (by kernel_rfl)) (fun _ _ _ h => h) (Or.inl ⟨by rfl, ?_⟩) hHeld ?_ ?_
           rotate_left
           ·rintro w' ⟨s0, s1, s2, s3, s4, s5, s6, s7⟩
            go_simp
            with_reducible rfl
           rotate_left
           ·simp only [Act.put, List.setIfInBounds_toArray, List.set_cons_zero, List.set_cons_succ, i64_w, i32_w]
            rfl
           refine take_ (i := 20) (N := some 62) (v := ?_) (a' := ?_) #[true, true, true, true, true, true, true, true, true, true, true, true, true, true, true, true, true, true, true, true, true, true, false, false, false, false, false, false, false] rfl rfl (take_ofW HT_.out HW_.out (by kernel_rfl)) (fun _ _ _ h => h) (Or.inl ⟨by rfl, ?_⟩) hHeld ?_ ?_
           rotate_left
           ·rintro w' ⟨s0, s1, s2, s3, s4, s5, s6, s7⟩
            go_simp
            with_reducible rfl
           rotate_left
           ·simp only [Act.put, List.setIfInBounds_toArray, List.set_cons_zero, List.set_cons_succ, i64_w, i32_w]
            rfl
           refine take_ (i := 22) (N := some 64) (v := ?_) (a' := ?_) #[true, true, true, true, true, true, true, true, true, true, true, true, true, true, true, true, true, true, true, true, true, true, true, false, false, false, false, false, false] rfl rfl (take_ofW HT_.out HW_.out (by kernel_rfl)) (fun _ _ _ h => h) (Or.inl ⟨by rfl, ?_⟩) hHeld ?_ ?_
           rotate_left
           ·rintro w' ⟨s0, s1, s2, s3, s4, s5, s6, s7⟩
            go_simp
            with_reducible rfl
           rotate_left
           ·simp only [Act.put, List.setIfInBounds_toArray, List.set_cons_zero, List.set_cons_succ, i64_w, i32_w]
            rfl
           refine pure_ (i := 23) (N := some 65) (v := ?_) (a' := ?_) #[true, true, true, true, true, true, true, true, true, true, true, true, true, true, true, true, true, true, true, true, true, true, true, true, false, false, false, false, false] rfl rfl (any_of HT_.out (by kernel_rfl)) (fun _ _ _ h => h) (Or.inl ⟨by rfl, ?_⟩) ?_ ?_
           rotate_left
           ·intro w'
            go_simp
            with_reducible rfl
           rotate_left
           ·simp only [Act.put, List.setIfInBounds_toArray, List.set_cons_zero, List.set_cons_succ, i64_w, i32_w]
            rfl
           refine pure_ (i := 24) (N := some 66) (v := ?_) (a' := ?_) #[true, true, true, true, true, true, true, true, true, true, true, true, true, true, true, true, true, true, true, true, true, true, true, true, true, false, false, false, false] rfl rfl (any_of HT_.out (by kernel_rfl)) (fun _ _ _ h => h) (Or.inl ⟨by rfl, ?_⟩) ?_ ?_
           rotate_left
           ·intro w'
            go_simp
            with_reducible rfl
           rotate_left
           ·simp only [Act.put, List.setIfInBounds_toArray, List.set_cons_zero, List.set_cons_succ, i64_w, i32_w]
            rfl
           refine pure_ (i := 25) (N := some 67) (v := ?_) (a' := ?_) #[true, true, true, true, true, true, true, true, true, true, true, true, true, true, true, true, true, true, true, true, true, true, true, true, true, true, false, false, false] rfl rfl (any_of HT_.out (by kernel_rfl)) (fun _ _ _ h => h) (Or.inl ⟨by rfl, ?_⟩) ?_ ?_
           rotate_left
           ·intro w'
            go_simp
            with_reducible rfl
           rotate_left
           ·simp only [Act.put, List.setIfInBounds_toArray, List.set_cons_zero, List.set_cons_succ, i64_w, i32_w]
            rfl
           refine take_ (i := 26) (N := some 68) (v := ?_) (a' := ?_) #[true, true, true, true, true, true, true, true, true, true, true, true, true, true, true, true, true, true, true, true, true, true, true, true, true, true, true, false, false] rfl rfl (take_ofW HT_.out HW_.out (by kernel_rfl)) (fun _ _ _ h => h) (Or.inl ⟨by rfl, ?_⟩) hHeld ?_ ?_
           rotate_left
           ·rintro w' ⟨s0, s1, s2, s3, s4, s5, s6, s7⟩
            go_simp
            with_reducible rfl
           rotate_left
           ·simp only [Act.put, List.setIfInBounds_toArray, List.set_cons_zero, List.set_cons_succ, i64_w, i32_w]
            rfl
           refine pure_ (i := 27) (N := some 69) (v := ?_) (a' := ?_) #[true, true, true, true, true, true, true, true, true, true, true, true, true, true, true, true, true, true, true, true, true, true, true, true, true, true, true, true, false] rfl rfl (any_of HT_.out (by kernel_rfl)) (fun _ _ _ h => h) (Or.inl ⟨by rfl, ?_⟩) ?_ ?_
           rotate_left
           ·intro w'
            go_simp
            with_reducible rfl
           rotate_left
           ·simp only [Act.put, List.setIfInBounds_toArray, List.set_cons_zero, List.set_cons_succ, i64_w, i32_w]
            rfl
           refine pure_ (i := 28) (N := some 70) (v := ?_) (a' := ?_) #[true, true, true, true, true, true, true, true, true, true, true, true, true, true, true, true, true, true, true, true, true, true, true, true, true, true, true, true, true] rfl rfl (any_of HT_.out (by kernel_rfl)) (fun _ _ _ h => h) (Or.inl ⟨by rfl, ?_⟩) ?_ ?_
           rotate_left
           ·intro w'
            go_simp
            with_reducible rfl
           rotate_left
           ·simp only [Act.put, List.setIfInBounds_toArray, List.set_cons_zero, List.set_cons_succ, i64_w, i32_w]
            rfl
           refine done_ (done_of HT_.out (by kernel_rfl)) ?_
           try go_wp2
           go_meet
           case rel => exact ⟨_, (decide (a0_3 > (rd l0_5 (ji24)))), (by first | rfl | (simp; done) | (simp only [← hji24] <;> (first | rfl | simp)) | (simp [*]; done)), H', ⟨by have := HJ1.out; first | omega | exact Nat.le_refl _⟩, ⟨by (with_reducible repeat (first | refine zf ?_ _ | refine zi ?_ | refine zg ?_ _)); exact BK166.out⟩, ⟨by repeat (first | (with_reducible first | exact HB.out | apply zc | apply za | apply zb | refine zh ?_ GE166.out) | exact HB.out)⟩⟩
          ·rw [if_neg c26] at H
           exact absurd H (by simp)
         ·rw [if_neg c25] at H
          exact absurd H (by simp)
        ·rw [if_neg c23] at H
         have c23b0 : ((rd l0_5 0) == a0_4) = false := beq_eq_false_iff_ne.mpr c23
         have c23b1 : ((rd l0_5 0) != a0_4) = true := bne_iff_ne.mpr c23
         have H' := zp.mk H
         clear H
         try go_wp2
         have n0_ := zp.mk (zi BK166.out)
         have n1_ := zp.mk (zb HB.out)
         clear BK166
         clear HB
         have BK166 := n0_
         have HB := n1_
         clear n0_ n1_
         have p171 : 0 ≤ (0 : Int) := (by omega)
         have q171 : 0 < (l0_5.length : Int) := of_decide_eq_true (by first | (with_reducible assumption) | assumption)
         obtain ⟨ad171, e171, hx171_0⟩ := Kd.at_int HR0_5.out 0 p171 q171
         have hw171_0 := hx171_0
         (try rw [show ((0 : Int)).toNat = 0 from rfl] at hw171_0)
         (try rw [show 0 * 1 = 0 from rfl] at hw171_0)
         (try rw [Addr.add_zero'] at hw171_0)
         cases e171
         have qi171 : (0 < l0_5.length) = True := eq_true (by omega)
         (try rw [show ((0 : Int)).toNat = 0 from rfl] at hx171_0)
         (try rw [Addr.add_zero'] at hx171_0)
         replace hx171_0 := (HB.out.cell (World.block_lt_of_cell? w _ hx171_0)).trans hx171_0
         replace p171 := eq_true p171
         replace q171 := eq_true q171
         refine start_ (n := 29) (S := fun w' => w'.cell? ⟨gb166, 0, none⟩ = some (.int .i64 a0_0) ∧ w'.cell? ⟨gb166, 1, none⟩ = some (.int .i64 a0_1) ∧ w'.cell? ⟨gb166, 2, none⟩ = some (.int .u64 a0_2) ∧ w'.cell? ⟨gb166, 3, none⟩ = some (.int .i64 a0_3) ∧ w'.cell? ⟨gb166, 4, none⟩ = some (.int .i64 a0_4) ∧ w'.cell? ⟨gb166, 5, none⟩ = some (.slice (some ad171) l0_5.length c0_5) ∧ w'.cell? ad171 = some (.int .i64 (rd l0_5 0))) (ds := []) #[false, false, false, false, false, false, false, false, false, false, false, false, false, false, false, false, false, false, false, false, false, false, false, false, false, false, false, false, false] (by kernel_rfl) rfl rfl ⟨(ze BK166.out 0).trans rfl, (ze BK166.out 1).trans rfl, (ze BK166.out 2).trans rfl, (ze BK166.out 3).trans rfl, (ze BK166.out 4).trans rfl, (ze BK166.out 5).trans rfl, ((HB.out.cell (World.block_lt_of_cell? w _ hw171_0)).trans hw171_0)⟩ (fun hHeld => ?_); refine with_tabW spec_AggOk.tab5 spec_AggOk.bits5 (fun HT_ HW_ => ?_)
         generalize wc.drew = w30 at BK166 HB hx171_0 hHeld ⊢
         refine pure_ (i := 0) (N := some 42) (v := ?_) (a' := ?_) #[true, false, false, false, false, false, false, false, false, false, false, false, false, false, false, false, false, false, false, false, false, false, false, false, false, false, false, false, false] rfl rfl (any_of HT_.out (by kernel_rfl)) (fun _ _ _ h => h) (Or.inl ⟨by rfl, ?_⟩) ?_ ?_
         rotate_left
         ·intro w'
          go_simp
          with_reducible rfl
         rotate_left
         ·simp only [Act.put, List.setIfInBounds_toArray, List.set_cons_zero, List.set_cons_succ, i64_w, i32_w]
          rfl
         refine pure_ (i := 3) (N := some 45) (v := ?_) (a' := ?_) #[true, false, false, true, false, false, false, false, false, false, false, false, false, false, false, false, false, false, false, false, false, false, false, false, false, false, false, false, false] rfl rfl (any_of HT_.out (by kernel_rfl)) (fun _ _ _ h => h) (Or.inl ⟨by rfl, ?_⟩) ?_ ?_
         rotate_left
         ·intro w'
          go_simp
          with_reducible rfl
         rotate_left
         ·simp only [Act.put, List.setIfInBounds_toArray, List.set_cons_zero, List.set_cons_succ, i64_w, i32_w]
          rfl
         refine take_ (i := 1) (N := some 43) (v := ?_) (a' := ?_) #[true, true, false, true, false, false, false, false, false, false, false, false, false, false, false, false, false, false, false, false, false, false, false, false, false, false, false, false, false] rfl rfl (take_ofW HT_.out HW_.out (by kernel_rfl)) (fun _ _ _ h => h) (Or.inl ⟨by rfl, ?_⟩) hHeld ?_ ?_
         rotate_left
         ·rintro w' ⟨s0, s1, s2, s3, s4, s5, s6⟩
          go_simp
          with_reducible rfl
         rotate_left
         ·simp only [Act.put, List.setIfInBounds_toArray, List.set_cons_zero, List.set_cons_succ, i64_w, i32_w]
          rfl
         refine take_ (i := 4) (N := some 46) (v := ?_) (a' := ?_) #[true, true, false, true, true, false, false, false, false, false, false, false, false, false, false, false, false, false, false, false, false, false, false, false, false, false, false, false, false] rfl rfl (take_ofW HT_.out HW_.out (by kernel_rfl)) (fun _ _ _ h => h) (Or.inl ⟨by rfl, ?_⟩) hHeld ?_ ?_
         rotate_left
         ·rintro w' ⟨s0, s1, s2, s3, s4, s5, s6⟩
          go_simp
          with_reducible rfl
         rotate_left
         ·simp only [Act.put, List.setIfInBounds_toArray, List.set_cons_zero, List.set_cons_succ, i64_w, i32_w]
          rfl
         refine one_ (i := 2) (N := some 44) #[true, true, true, true, true, false, false, false, false, false, false, false, false, false, false, false, false, false, false, false, false, false, false, false, false, false, false, false, false] rfl rfl (one_of HT_.out (by kernel_rfl)) (by decide) (fun K hK => ?_)
         refine goes_ Try.func19 (by kernel_rfl) rfl #[.slice (some ad171) l0_5.length c0_5, .slice none 0 0] (by rfl) rfl rfl (by (try simp only [List.map_toArray, List.map_cons, List.map_nil]); first | done | rfl | (simp only [List.length_drop, List.length_take]; rfl)) ?_
         refine (spec_TopOf.calls kj1 _ _ l0_5 _ _ ([] : List Int) t167 _ ?side1 ?side2 ?side3 ?side4 A19.out).mono ?_
         (case side1 => repeat (first | exact (Kd.zs HR0_5.out HB.out) | (with_reducible refine Kd.zr ?_ _) | (with_reducible refine Kd.zq ?_ _) | (with_reducible refine Kd.C_drew ?_)))
         (case side2 => exact HC0_5.out)
         (case side3 => exact Kd.C_nil _ _)
         (case side4 => exact Nat.le_refl _)
         rintro e w31 ⟨v168, rfl, ho0, hb⟩
         refine ⟨_, rfl, ?_⟩
         have n0_ := zp.mk (Kd.R_lower ho0 (zk (by repeat (first | (with_reducible first | exact HB.out | apply zc | apply za | apply zb | refine zh ?_ GE166.out) | exact HB.out))))
         have n1_ := zp.mk (zl (g := gb166) (o := .cells #[.int .i64 a0_0, .int .i64 a0_1, .int .u64 a0_2, .int .i64 a0_3, .int .i64 a0_4, .slice (some ad171) l0_5.length c0_5] 32 (0, 0)) (by (with_reducible repeat (first | refine zf ?_ _ | refine zi ?_ | refine zg ?_ _)); exact BK166.out) hb)
         have n2_ := zp.mk (zj (by repeat (first | (with_reducible first | exact HB.out | apply zc | apply za | apply zb | refine zh ?_ GE166.out) | exact HB.out)) hb)
         clear BK166
         clear HB
         have HO169 := n0_
         have BK166 := n1_
         have HB := n2_
         clear n0_ n1_ n2_
         (try clear hb)
         (try clear hb2)
         (try clear hk)
         (try clear hi)
         (try clear ho0)
         obtain ⟨Ao32, co32, eo32⟩ := Kd.R_slice HO169.out
         (first | subst eo32 | (injection eo32 with f1_ f2_ f3_; have f4_ := f1_.symm; have f5_ := f3_.symm; clear f1_ f2_ f3_; subst f4_; subst f5_))
         refine hK.out _ _ ⟨(ze BK166.out 0).trans rfl, (ze BK166.out 1).trans rfl, (ze BK166.out 2).trans rfl, (ze BK166.out 3).trans rfl, (ze BK166.out 4).trans rfl, (ze BK166.out 5).trans rfl, ((HB.out.cell (World.block_lt_of_cell? w _ hw171_0)).trans hw171_0)⟩ (fun hHeld => ?_)
         clear hK K
         refine norm_ (a' := ?_) ?_ ?_
         rotate_left
         ·show Act.put _ (some 44) _ = _
          simp only [Act.put, List.setIfInBounds_toArray, List.set_cons_zero, List.set_cons_succ, i64_w, i32_w]
          rfl
         refine one_ (i := 5) (N := some 47) #[true, true, true, true, true, true, false, false, false, false, false, false, false, false, false, false, false, false, false, false, false, false, false, false, false, false, false, false, false] rfl rfl (one_of HT_.out (by kernel_rfl)) (by decide) (fun K hK => ?_)
         refine goes_ Try.func28 (by kernel_rfl) rfl #[.slice Ao32 t167.length co32, .slice (some ad171) l0_5.length c0_5] (by rfl) rfl rfl (by (try simp only [List.map_toArray, List.map_cons, List.map_nil]); first | done | rfl | (simp only [List.length_drop, List.length_take]; rfl)) ?_
         with_reducible refine (spec_l07Same.calls kj1 _ _ t167 _ _ l0_5 true _ ?side1 ?side2 ?side3 ?side4 A20.out).mono ?_
         (case side1 => repeat (first | exact (Kd.R_reads' HO169.out).2.2 | (with_reducible refine Kd.zr ?_ _) | (with_reducible refine Kd.zq ?_ _) | (with_reducible refine Kd.C_drew ?_)))
         (case side2 => exact (Kd.R_reads' HO169.out).2.1)
         (case side3 => repeat (first | exact (Kd.zs HR0_5.out HB.out) | (with_reducible refine Kd.zr ?_ _) | (with_reducible refine Kd.zq ?_ _) | (with_reducible refine Kd.C_drew ?_)))
         (case side4 => exact HC0_5.out)
         rintro e w' ⟨rfl, ⟨nd, rfl⟩⟩
         refine ⟨_, rfl, ?_⟩
         refine hK.out _ _ ⟨(ze BK166.out 0).trans rfl, (ze BK166.out 1).trans rfl, (ze BK166.out 2).trans rfl, (ze BK166.out 3).trans rfl, (ze BK166.out 4).trans rfl, (ze BK166.out 5).trans rfl, ((HB.out.cell (World.block_lt_of_cell? w _ hw171_0)).trans hw171_0)⟩ (fun hHeld => ?_)
         clear hK K
         refine norm_ (a' := ?_) ?_ ?_
         rotate_left
         ·show Act.put _ (some 47) _ = _
          simp only [Act.put, List.setIfInBounds_toArray, List.set_cons_zero, List.set_cons_succ, i64_w, i32_w]
          rfl
         refine pure_ (i := 6) (N := some 48) (v := ?_) (a' := ?_) #[true, true, true, true, true, true, true, false, false, false, false, false, false, false, false, false, false, false, false, false, false, false, false, false, false, false, false, false, false] rfl rfl (any_of HT_.out (by kernel_rfl)) (fun _ _ _ h => h) (Or.inl ⟨by rfl, ?_⟩) ?_ ?_
         rotate_left
         ·intro w'
          go_simp
          with_reducible rfl
         rotate_left
         ·simp only [Act.put, List.setIfInBounds_toArray, List.set_cons_zero, List.set_cons_succ, i64_w, i32_w]
          rfl
         refine pure_ (i := 7) (N := some 49) (v := ?_) (a' := ?_) #[true, true, true, true, true, true, true, true, false, false, false, false, false, false, false, false, false, false, false, false, false, false, false, false, false, false, false, false, false] rfl rfl (any_of HT_.out (by kernel_rfl)) (fun _ _ _ h => h) (Or.inl ⟨by rfl, ?_⟩) ?_ ?_
         rotate_left
         ·intro w'
          go_simp
          with_reducible rfl
         rotate_left
         ·simp only [Act.put, List.setIfInBounds_toArray, List.set_cons_zero, List.set_cons_succ, i64_w, i32_w]
          rfl
         refine pure_ (i := 8) (N := some 50) (v := ?_) (a' := ?_) #[true, true, true, true, true, true, true, true, true, false, false, false, false, false, false, false, false, false, false, false, false, false, false, false, false, false, false, false, false] rfl rfl (any_of HT_.out (by kernel_rfl)) (fun _ _ _ h => h) (Or.inl ⟨by rfl, ?_⟩) ?_ ?_
         rotate_left
         ·intro w'
          go_simp
          with_reducible rfl
         rotate_left
         ·simp only [Act.put, List.setIfInBounds_toArray, List.set_cons_zero, List.set_cons_succ, i64_w, i32_w]
          rfl
         refine pure_ (i := 12) (N := some 54) (v := ?_) (a' := ?_) #[true, true, true, true, true, true, true, true, true, false, false, false, true, false, false, false, false, false, false, false, false, false, false, false, false, false, false, false, false] rfl rfl (any_of HT_.out (by kernel_rfl)) (fun _ _ _ h => h) (Or.inl ⟨by rfl, ?_⟩) ?_ ?_
         rotate_left
         ·intro w'
          go_simp
          with_reducible rfl
         rotate_left
         ·simp only [Act.put, List.setIfInBounds_toArray, List.set_cons_zero, List.set_cons_succ, i64_w, i32_w]
          rfl
         refine take_ (i := 9) (N := some 51) (v := ?_) (a' := ?_) #[true, true, true, true, true, true, true, true, true, true, false, false, true, false, false, false, false, false, false, false, false, false, false, false, false, false, false, false, false] rfl rfl (take_ofW HT_.out HW_.out (by kernel_rfl)) (fun _ _ _ h => h) (Or.inl ⟨by rfl, ?_⟩) hHeld ?_ ?_
         rotate_left
         ·rintro w' ⟨s0, s1, s2, s3, s4, s5, s6⟩
          go_simp
          with_reducible rfl
         rotate_left
         ·simp only [Act.put, List.setIfInBounds_toArray, List.set_cons_zero, List.set_cons_succ, i64_w, i32_w]
          rfl
         refine pure_ (i := 10) (N := some 52) (v := ?_) (a' := ?_) #[true, true, true, true, true, true, true, true, true, true, true, false, true, false, false, false, false, false, false, false, false, false, false, false, false, false, false, false, false] rfl rfl (any_of HT_.out (by kernel_rfl)) (fun _ _ _ h => h) (Or.inl ⟨by rfl, ?_⟩) ?_ ?_
         rotate_left
         ·intro w'
          go_simp
          with_reducible rfl
         rotate_left
         ·simp only [Act.put, List.setIfInBounds_toArray, List.set_cons_zero, List.set_cons_succ, i64_w, i32_w]
          rfl
         refine take_ (i := 11) (N := some 53) (v := ?_) (a' := ?_) #[true, true, true, true, true, true, true, true, true, true, true, true, true, false, false, false, false, false, false, false, false, false, false, false, false, false, false, false, false] rfl rfl (take_ofW HT_.out HW_.out (by kernel_rfl)) (fun _ _ _ h => h) (Or.inl ⟨by rfl, ?_⟩) hHeld ?_ ?_
         rotate_left
         ·rintro w' ⟨s0, s1, s2, s3, s4, s5, s6⟩
          go_simp
          with_reducible rfl
         rotate_left
         ·simp only [Act.put, List.setIfInBounds_toArray, List.set_cons_zero, List.set_cons_succ, i64_w, i32_w]
          rfl
         refine take_ (i := 13) (N := some 55) (v := ?_) (a' := ?_) #[true, true, true, true, true, true, true, true, true, true, true, true, true, true, false, false, false, false, false, false, false, false, false, false, false, false, false, false, false] rfl rfl (take_ofW HT_.out HW_.out (by kernel_rfl)) (fun _ _ _ h => h) (Or.inl ⟨by rfl, ?_⟩) hHeld ?_ ?_
         rotate_left
         ·rintro w' ⟨s0, s1, s2, s3, s4, s5, s6⟩
          go_simp
          with_reducible rfl
         rotate_left
         ·simp only [Act.put, List.setIfInBounds_toArray, List.set_cons_zero, List.set_cons_succ, i64_w, i32_w]
          rfl
         refine pure_ (i := 14) (N := some 56) (v := ?_) (a' := ?_) #[true, true, true, true, true, true, true, true, true, true, true, true, true, true, true, false, false, false, false, false, false, false, false, false, false, false, false, false, false] rfl rfl (any_of HT_.out (by kernel_rfl)) (fun _ _ _ h => h) (Or.inl ⟨by rfl, ?_⟩) ?_ ?_
         rotate_left
         ·intro w'
          go_simp
          with_reducible rfl
         rotate_left
         ·simp only [Act.put, List.setIfInBounds_toArray, List.set_cons_zero, List.set_cons_succ, i64_w, i32_w]
          rfl
         refine pure_ (i := 15) (N := some 57) (v := ?_) (a' := ?_) #[true, true, true, true, true, true, true, true, true, true, true, true, true, true, true, true, false, false, false, false, false, false, false, false, false, false, false, false, false] rfl rfl (any_of HT_.out (by kernel_rfl)) (fun _ _ _ h => h) (Or.inl ⟨by rfl, ?_⟩) ?_ ?_
         rotate_left
         ·intro w'
          go_simp
          with_reducible rfl
         rotate_left
         ·simp only [Act.put, List.setIfInBounds_toArray, List.set_cons_zero, List.set_cons_succ, i64_w, i32_w]
          rfl
         refine pure_ (i := 16) (N := some 58) (v := ?_) (a' := ?_) #[true, true, true, true, true, true, true, true, true, true, true, true, true, true, true, true, true, false, false, false, false, false, false, false, false, false, false, false, false] rfl rfl (any_of HT_.out (by kernel_rfl)) (fun _ _ _ h => h) (Or.inl ⟨by rfl, ?_⟩) ?_ ?_
         rotate_left
         ·intro w'
          go_simp
          with_reducible rfl
         rotate_left
         ·simp only [Act.put, List.setIfInBounds_toArray, List.set_cons_zero, List.set_cons_succ, i64_w, i32_w]
          rfl
         refine pure_ (i := 17) (N := some 59) (v := undef) (a' := ?_) #[true, true, true, true, true, true, true, true, true, true, true, true, true, true, true, true, true, true, false, false, false, false, false, false, false, false, false, false, false] rfl rfl (any_of HT_.out (by kernel_rfl)) (fun _ _ _ h => h) (Or.inr ⟨by rfl, rfl⟩) ?_ ?_
         rotate_left
         ·simp only [Act.put, List.setIfInBounds_toArray, List.set_cons_zero, List.set_cons_succ, i64_w, i32_w]
          rfl
         refine pure_ (i := 18) (N := some 60) (v := undef) (a' := ?_) #[true, true, true, true, true, true, true, true, true, true, true, true, true, true, true, true, true, true, true, false, false, false, false, false, false, false, false, false, false] rfl rfl (any_of HT_.out (by kernel_rfl)) (fun _ _ _ h => h) (Or.inr ⟨by rfl, rfl⟩) ?_ ?_
         rotate_left
         ·simp only [Act.put, List.setIfInBounds_toArray, List.set_cons_zero, List.set_cons_succ, i64_w, i32_w]
          rfl
         refine pure_ (i := 19) (N := some 61) (v := undef) (a' := ?_) #[true, true, true, true, true, true, true, true, true, true, true, true, true, true, true, true, true, true, true, true, false, false, false, false, false, false, false, false, false] rfl rfl (any_of HT_.out (by kernel_rfl)) (fun _ _ _ h => h) (Or.inr ⟨by rfl, rfl⟩) ?_ ?_
         rotate_left
         ·simp only [Act.put, List.setIfInBounds_toArray, List.set_cons_zero, List.set_cons_succ, i64_w, i32_w]
          rfl
         refine pure_ (i := 20) (N := some 62) (v := undef) (a' := ?_) #[true, true, true, true, true, true, true, true, true, true, true, true, true, true, true, true, true, true, true, true, true, false, false, false, false, false, false, false, false] rfl rfl (any_of HT_.out (by kernel_rfl)) (fun _ _ _ h => h) (Or.inr ⟨by rfl, rfl⟩) ?_ ?_
         rotate_left
         ·simp only [Act.put, List.setIfInBounds_toArray, List.set_cons_zero, List.set_cons_succ, i64_w, i32_w]
          rfl
         refine pure_ (i := 21) (N := some 63) (v := undef) (a' := ?_) #[true, true, true, true, true, true, true, true, true, true, true, true, true, true, true, true, true, true, true, true, true, true, false, false, false, false, false, false, false] rfl rfl (any_of HT_.out (by kernel_rfl)) (fun _ _ _ h => h) (Or.inr ⟨by rfl, rfl⟩) ?_ ?_
         rotate_left
         ·simp only [Act.put, List.setIfInBounds_toArray, List.set_cons_zero, List.set_cons_succ, i64_w, i32_w]
          rfl
         refine pure_ (i := 22) (N := some 64) (v := undef) (a' := ?_) #[true, true, true, true, true, true, true, true, true, true, true, true, true, true, true, true, true, true, true, true, true, true, true, false, false, false, false, false, false] rfl rfl (any_of HT_.out (by kernel_rfl)) (fun _ _ _ h => h) (Or.inr ⟨by rfl, rfl⟩) ?_ ?_
         rotate_left
         ·simp only [Act.put, List.setIfInBounds_toArray, List.set_cons_zero, List.set_cons_succ, i64_w, i32_w]
          rfl
         refine pure_ (i := 23) (N := some 65) (v := undef) (a' := ?_) #[true, true, true, true, true, true, true, true, true, true, true, true, true, true, true, true, true, true, true, true, true, true, true, true, false, false, false, false, false] rfl rfl (any_of HT_.out (by kernel_rfl)) (fun _ _ _ h => h) (Or.inr ⟨by rfl, rfl⟩) ?_ ?_
         rotate_left
         ·simp only [Act.put, List.setIfInBounds_toArray, List.set_cons_zero, List.set_cons_succ, i64_w, i32_w]
          rfl
         refine pure_ (i := 24) (N := some 66) (v := undef) (a' := ?_) #[true, true, true, true, true, true, true, true, true, true, true, true, true, true, true, true, true, true, true, true, true, true, true, true, true, false, false, false, false] rfl rfl (any_of HT_.out (by kernel_rfl)) (fun _ _ _ h => h) (Or.inr ⟨by rfl, rfl⟩) ?_ ?_
         rotate_left
         ·simp only [Act.put, List.setIfInBounds_toArray, List.set_cons_zero, List.set_cons_succ, i64_w, i32_w]
          rfl
         refine pure_ (i := 25) (N := some 67) (v := undef) (a' := ?_) #[true, true, true, true, true, true, true, true, true, true, true, true, true, true, true, true, true, true, true, true, true, true, true, true, true, true, false, false, false] rfl rfl (any_of HT_.out (by kernel_rfl)) (fun _ _ _ h => h) (Or.inr ⟨by rfl, rfl⟩) ?_ ?_
         rotate_left
         ·simp only [Act.put, List.setIfInBounds_toArray, List.set_cons_zero, List.set_cons_succ, i64_w, i32_w]
          rfl
         refine pure_ (i := 26) (N := some 68) (v := undef) (a' := ?_) #[true, true, true, true, true, true, true, true, true, true, true, true, true, true, true, true, true, true, true, true, true, true, true, true, true, true, true, false, false] rfl rfl (any_of HT_.out (by kernel_rfl)) (fun _ _ _ h => h) (Or.inr ⟨by rfl, rfl⟩) ?_ ?_
         rotate_left
         ·simp only [Act.put, List.setIfInBounds_toArray, List.set_cons_zero, List.set_cons_succ, i64_w, i32_w]
          rfl
         refine pure_ (i := 27) (N := some 69) (v := undef) (a' := ?_) #[true, true, true, true, true, true, true, true, true, true, true, true, true, true, true, true, true, true, true, true, true, true, true, true, true, true, true, true, false] rfl rfl (any_of HT_.out (by kernel_rfl)) (fun _ _ _ h => h) (Or.inr ⟨by rfl, rfl⟩) ?_ ?_
         rotate_left
         ·simp only [Act.put, List.setIfInBounds_toArray, List.set_cons_zero, List.set_cons_succ, i64_w, i32_w]
          rfl
         refine pure_ (i := 28) (N := some 70) (v := ?_) (a' := ?_) #[true, true, true, true, true, true, true, true, true, true, true, true, true, true, true, true, true, true, true, true, true, true, true, true, true, true, true, true, true] rfl rfl (any_of HT_.out (by kernel_rfl)) (fun _ _ _ h => h) (Or.inl ⟨by rfl, ?_⟩) ?_ ?_
         rotate_left
         ·intro w'
          go_simp
          with_reducible rfl
         rotate_left
         ·simp only [Act.put, List.setIfInBounds_toArray, List.set_cons_zero, List.set_cons_succ, i64_w, i32_w]
          rfl
         refine done_ (done_of HT_.out (by kernel_rfl)) ?_
         try go_wp2
         go_meet
         case rel => exact ⟨_, (true), (by first | rfl | (simp; done) | (simp [*]; done)), H', ⟨by have := HJ1.out; first | omega | exact Nat.le_refl _⟩, ⟨by (with_reducible repeat (first | refine zf ?_ _ | refine zi ?_ | refine zg ?_ _)); exact BK166.out⟩, ⟨by repeat (first | (with_reducible first | exact HB.out | apply zc | apply za | apply zb | refine zh ?_ GE166.out) | exact HB.out)⟩⟩
       ·rw [if_neg c22] at H
        exact absurd H (by simp)
      ·replace c21 := Bool.eq_false_iff.mpr c21
       subst c21
       have H1 : (spec_AggOk.j1 kj1 true a0_0 a0_1 a0_2 a0_3 a0_4 l0_5) = some r := by rw [if_neg (show ¬ (false = true) by decide)] at H; exact H
       clear H
       have H := H1
       clear H1
       have H' := zp.mk H
       clear H
       try go_wp2
       have n0_ := zp.mk (zi BK166.out)
       have n1_ := zp.mk (zb HB.out)
       clear BK166
       clear HB
       have BK166 := n0_
       have HB := n1_
       clear n0_ n1_
       refine start_ (n := 29) (S := fun w' => w'.cell? ⟨gb166, 0, none⟩ = some (.int .i64 a0_0) ∧ w'.cell? ⟨gb166, 1, none⟩ = some (.int .i64 a0_1) ∧ w'.cell? ⟨gb166, 2, none⟩ = some (.int .u64 a0_2) ∧ w'.cell? ⟨gb166, 3, none⟩ = some (.int .i64 a0_3) ∧ w'.cell? ⟨gb166, 4, none⟩ = some (.int .i64 a0_4) ∧ w'.cell? ⟨gb166, 5, none⟩ = some (.slice A0_5 l0_5.length c0_5)) (ds := []) #[false, false, false, false, false, false, false, false, false, false, false, false, false, false, false, false, false, false, false, false, false, false, false, false, false, false, false, false, false] (by kernel_rfl) rfl rfl ⟨(ze BK166.out 0).trans rfl, (ze BK166.out 1).trans rfl, (ze BK166.out 2).trans rfl, (ze BK166.out 3).trans rfl, (ze BK166.out 4).trans rfl, (ze BK166.out 5).trans rfl⟩ (fun hHeld => ?_); refine with_tabW spec_AggOk.tab5 spec_AggOk.bits5 (fun HT_ HW_ => ?_)
       generalize wc.drew = w33 at BK166 HB hHeld ⊢
       refine pure_ (i := 0) (N := some 42) (v := ?_) (a' := ?_) #[true, false, false, false, false, false, false, false, false, false, false, false, false, false, false, false, false, false, false, false, false, false, false, false, false, false, false, false, false] rfl rfl (any_of HT_.out (by kernel_rfl)) (fun _ _ _ h => h) (Or.inl ⟨by rfl, ?_⟩) ?_ ?_
       rotate_left
       ·intro w'
        go_simp
        with_reducible rfl
       rotate_left
       ·simp only [Act.put, List.setIfInBounds_toArray, List.set_cons_zero, List.set_cons_succ, i64_w, i32_w]
        rfl
       refine pure_ (i := 3) (N := some 45) (v := ?_) (a' := ?_) #[true, false, false, true, false, false, false, false, false, false, false, false, false, false, false, false, false, false, false, false, false, false, false, false, false, false, false, false, false] rfl rfl (any_of HT_.out (by kernel_rfl)) (fun _ _ _ h => h) (Or.inl ⟨by rfl, ?_⟩) ?_ ?_
       rotate_left
       ·intro w'
        go_simp
        with_reducible rfl
       rotate_left
       ·simp only [Act.put, List.setIfInBounds_toArray, List.set_cons_zero, List.set_cons_succ, i64_w, i32_w]
        rfl
       refine take_ (i := 1) (N := some 43) (v := ?_) (a' := ?_) #[true, true, false, true, false, false, false, false, false, false, false, false, false, false, false, false, false, false, false, false, false, false, false, false, false, false, false, false, false] rfl rfl (take_ofW HT_.out HW_.out (by kernel_rfl)) (fun _ _ _ h => h) (Or.inl ⟨by rfl, ?_⟩) hHeld ?_ ?_
       rotate_left
       ·rintro w' ⟨s0, s1, s2, s3, s4, s5⟩
        go_simp
        with_reducible rfl
       rotate_left
       ·simp only [Act.put, List.setIfInBounds_toArray, List.set_cons_zero, List.set_cons_succ, i64_w, i32_w]
        rfl
       refine take_ (i := 4) (N := some 46) (v := ?_) (a' := ?_) #[true, true, false, true, true, false, false, false, false, false, false, false, false, false, false, false, false, false, false, false, false, false, false, false, false, false, false, false, false] rfl rfl (take_ofW HT_.out HW_.out (by kernel_rfl)) (fun _ _ _ h => h) (Or.inl ⟨by rfl, ?_⟩) hHeld ?_ ?_
       rotate_left
       ·rintro w' ⟨s0, s1, s2, s3, s4, s5⟩
        go_simp
        with_reducible rfl
       rotate_left
       ·simp only [Act.put, List.setIfInBounds_toArray, List.set_cons_zero, List.set_cons_succ, i64_w, i32_w]
        rfl
       refine one_ (i := 2) (N := some 44) #[true, true, true, true, true, false, false, false, false, false, false, false, false, false, false, false, false, false, false, false, false, false, false, false, false, false, false, false, false] rfl rfl (one_of HT_.out (by kernel_rfl)) (by decide) (fun K hK => ?_)
       refine goes_ Try.func19 (by kernel_rfl) rfl #[.slice A0_5 l0_5.length c0_5, .slice none 0 0] (by rfl) rfl rfl (by (try simp only [List.map_toArray, List.map_cons, List.map_nil]); first | done | rfl | (simp only [List.length_drop, List.length_take]; rfl)) ?_
       refine (spec_TopOf.calls kj1 _ _ l0_5 _ _ ([] : List Int) t167 _ ?side1 ?side2 ?side3 ?side4 A19.out).mono ?_
       (case side1 => repeat (first | exact (Kd.zs HR0_5.out HB.out) | (with_reducible refine Kd.zr ?_ _) | (with_reducible refine Kd.zq ?_ _) | (with_reducible refine Kd.C_drew ?_)))
       (case side2 => exact HC0_5.out)
       (case side3 => exact Kd.C_nil _ _)
       (case side4 => exact Nat.le_refl _)
       rintro e w34 ⟨v168, rfl, ho0, hb⟩
       refine ⟨_, rfl, ?_⟩
       have n0_ := zp.mk (Kd.R_lower ho0 (zk (by repeat (first | (with_reducible first | exact HB.out | apply zc | apply za | apply zb | refine zh ?_ GE166.out) | exact HB.out))))
       have n1_ := zp.mk (zl (g := gb166) (o := .cells #[.int .i64 a0_0, .int .i64 a0_1, .int .u64 a0_2, .int .i64 a0_3, .int .i64 a0_4, .slice A0_5 l0_5.length c0_5] 32 (0, 0)) (by (with_reducible repeat (first | refine zf ?_ _ | refine zi ?_ | refine zg ?_ _)); exact BK166.out) hb)
       have n2_ := zp.mk (zj (by repeat (first | (with_reducible first | exact HB.out | apply zc | apply za | apply zb | refine zh ?_ GE166.out) | exact HB.out)) hb)
       clear BK166
       clear HB
       have HO169 := n0_
       have BK166 := n1_
       have HB := n2_
       clear n0_ n1_ n2_
       (try clear hb)
       (try clear hb2)
       (try clear hk)
       (try clear hi)
       (try clear ho0)
       obtain ⟨Ao35, co35, eo35⟩ := Kd.R_slice HO169.out
       (first | subst eo35 | (injection eo35 with f1_ f2_ f3_; have f4_ := f1_.symm; have f5_ := f3_.symm; clear f1_ f2_ f3_; subst f4_; subst f5_))
       refine hK.out _ _ ⟨(ze BK166.out 0).trans rfl, (ze BK166.out 1).trans rfl, (ze BK166.out 2).trans rfl, (ze BK166.out 3).trans rfl, (ze BK166.out 4).trans rfl, (ze BK166.out 5).trans rfl⟩ (fun hHeld => ?_)
       clear hK K
       refine norm_ (a' := ?_) ?_ ?_
       rotate_left
       ·show Act.put _ (some 44) _ = _
        simp only [Act.put, List.setIfInBounds_toArray, List.set_cons_zero, List.set_cons_succ, i64_w, i32_w]
        rfl
       refine one_ (i := 5) (N := some 47) #[true, true, true, true, true, true, false, false, false, false, false, false, false, false, false, false, false, false, false, false, false, false, false, false, false, false, false, false, false] rfl rfl (one_of HT_.out (by kernel_rfl)) (by decide) (fun K hK => ?_)
       refine goes_ Try.func28 (by kernel_rfl) rfl #[.slice Ao35 t167.length co35, .slice A0_5 l0_5.length c0_5] (by rfl) rfl rfl (by (try simp only [List.map_toArray, List.map_cons, List.map_nil]); first | done | rfl | (simp only [List.length_drop, List.length_take]; rfl)) ?_
       with_reducible refine (spec_l07Same.calls kj1 _ _ t167 _ _ l0_5 false _ ?side1 ?side2 ?side3 ?side4 A20.out).mono ?_
       (case side1 => repeat (first | exact (Kd.R_reads' HO169.out).2.2 | (with_reducible refine Kd.zr ?_ _) | (with_reducible refine Kd.zq ?_ _) | (with_reducible refine Kd.C_drew ?_)))
       (case side2 => exact (Kd.R_reads' HO169.out).2.1)
       (case side3 => repeat (first | exact (Kd.zs HR0_5.out HB.out) | (with_reducible refine Kd.zr ?_ _) | (with_reducible refine Kd.zq ?_ _) | (with_reducible refine Kd.C_drew ?_)))
       (case side4 => exact HC0_5.out)
       rintro e w' ⟨rfl, ⟨nd, rfl⟩⟩
       refine ⟨_, rfl, ?_⟩
       refine hK.out _ _ ⟨(ze BK166.out 0).trans rfl, (ze BK166.out 1).trans rfl, (ze BK166.out 2).trans rfl, (ze BK166.out 3).trans rfl, (ze BK166.out 4).trans rfl, (ze BK166.out 5).trans rfl⟩ (fun hHeld => ?_)
       clear hK K
       refine norm_ (a' := ?_) ?_ ?_
       rotate_left
       ·show Act.put _ (some 47) _ = _
        simp only [Act.put, List.setIfInBounds_toArray, List.set_cons_zero, List.set_cons_succ, i64_w, i32_w]
        rfl
       refine pure_ (i := 6) (N := some 48) (v := ?_) (a' := ?_) #[true, true, true, true, true, true, true, false, false, false, false, false, false, false, false, false, false, false, false, false, false, false, false, false, false, false, false, false, false] rfl rfl (any_of HT_.out (by kernel_rfl)) (fun _ _ _ h => h) (Or.inl ⟨by rfl, ?_⟩) ?_ ?_
       rotate_left
       ·intro w'
        go_simp
        with_reducible rfl
       rotate_left
       ·simp only [Act.put, List.setIfInBounds_toArray, List.set_cons_zero, List.set_cons_succ, i64_w, i32_w]
        rfl
       refine pure_ (i := 7) (N := some 49) (v := ?_) (a' := ?_) #[true, true, true, true, true, true, true, true, false, false, false, false, false, false, false, false, false, false, false, false, false, false, false, false, false, false, false, false, false] rfl rfl (any_of HT_.out (by kernel_rfl)) (fun _ _ _ h => h) (Or.inl ⟨by rfl, ?_⟩) ?_ ?_
       rotate_left
       ·intro w'
        go_simp
        with_reducible rfl
       rotate_left
       ·simp only [Act.put, List.setIfInBounds_toArray, List.set_cons_zero, List.set_cons_succ, i64_w, i32_w]
        rfl
       refine pure_ (i := 8) (N := some 50) (v := undef) (a' := ?_) #[true, true, true, true, true, true, true, true, true, false, false, false, false, false, false, false, false, false, false, false, false, false, false, false, false, false, false, false, false] rfl rfl (any_of HT_.out (by kernel_rfl)) (fun _ _ _ h => h) (Or.inr ⟨by rfl, rfl⟩) ?_ ?_
       rotate_left
       ·simp only [Act.put, List.setIfInBounds_toArray, List.set_cons_zero, List.set_cons_succ, i64_w, i32_w]
        rfl
       refine pure_ (i := 9) (N := some 51) (v := undef) (a' := ?_) #[true, true, true, true, true, true, true, true, true, true, false, false, false, false, false, false, false, false, false, false, false, false, false, false, false, false, false, false, false] rfl rfl (any_of HT_.out (by kernel_rfl)) (fun _ _ _ h => h) (Or.inr ⟨by rfl, rfl⟩) ?_ ?_
       rotate_left
       ·simp only [Act.put, List.setIfInBounds_toArray, List.set_cons_zero, List.set_cons_succ, i64_w, i32_w]
        rfl
       refine pure_ (i := 10) (N := some 52) (v := undef) (a' := ?_) #[true, true, true, true, true, true, true, true, true, true, true, false, false, false, false, false, false, false, false, false, false, false, false, false, false, false, false, false, false] rfl rfl (any_of HT_.out (by kernel_rfl)) (fun _ _ _ h => h) (Or.inr ⟨by rfl, rfl⟩) ?_ ?_
       rotate_left
       ·simp only [Act.put, List.setIfInBounds_toArray, List.set_cons_zero, List.set_cons_succ, i64_w, i32_w]
        rfl
       refine pure_ (i := 11) (N := some 53) (v := undef) (a' := ?_) #[true, true, true, true, true, true, true, true, true, true, true, true, false, false, false, false, false, false, false, false, false, false, false, false, false, false, false, false, false] rfl rfl (any_of HT_.out (by kernel_rfl)) (fun _ _ _ h => h) (Or.inr ⟨by rfl, rfl⟩) ?_ ?_
       rotate_left
       ·simp only [Act.put, List.setIfInBounds_toArray, List.set_cons_zero, List.set_cons_succ, i64_w, i32_w]
        rfl
       refine pure_ (i := 12) (N := some 54) (v := undef) (a' := ?_) #[true, true, true, true, true, true, true, true, true, true, true, true, true, false, false, false, false, false, false, false, false, false, false, false, false, false, false, false, false] rfl rfl (any_of HT_.out (by kernel_rfl)) (fun _ _ _ h => h) (Or.inr ⟨by rfl, rfl⟩) ?_ ?_
       rotate_left
       ·simp only [Act.put, List.setIfInBounds_toArray, List.set_cons_zero, List.set_cons_succ, i64_w, i32_w]
        rfl
       refine pure_ (i := 13) (N := some 55) (v := undef) (a' := ?_) #[true, true, true, true, true, true, true, true, true, true, true, true, true, true, false, false, false, false, false, false, false, false, false, false, false, false, false, false, false] rfl rfl (any_of HT_.out (by kernel_rfl)) (fun _ _ _ h => h) (Or.inr ⟨by rfl, rfl⟩) ?_ ?_
       rotate_left
       ·simp only [Act.put, List.setIfInBounds_toArray, List.set_cons_zero, List.set_cons_succ, i64_w, i32_w]
        rfl
       refine pure_ (i := 14) (N := some 56) (v := undef) (a' := ?_) #[true, true, true, true, true, true, true, true, true, true, true, true, true, true, true, false, false, false, false, false, false, false, false, false, false, false, false, false, false] rfl rfl (any_of HT_.out (by kernel_rfl)) (fun _ _ _ h => h) (Or.inr ⟨by rfl, rfl⟩) ?_ ?_
       rotate_left
       ·simp only [Act.put, List.setIfInBounds_toArray, List.set_cons_zero, List.set_cons_succ, i64_w, i32_w]
        rfl
       refine pure_ (i := 15) (N := some 57) (v := ?_) (a' := ?_) #[true, true, true, true, true, true, true, true, true, true, true, true, true, true, true, true, false, false, false, false, false, false, false, false, false, false, false, false, false] rfl rfl (any_of HT_.out (by kernel_rfl)) (fun _ _ _ h => h) (Or.inl ⟨by rfl, ?_⟩) ?_ ?_
       rotate_left
       ·intro w'
        go_simp
        with_reducible rfl
       rotate_left
       ·simp only [Act.put, List.setIfInBounds_toArray, List.set_cons_zero, List.set_cons_succ, i64_w, i32_w]
        rfl
       refine pure_ (i := 16) (N := some 58) (v := ?_) (a' := ?_) #[true, true, true, true, true, true, true, true, true, true, true, true, true, true, true, true, true, false, false, false, false, false, false, false, false, false, false, false, false] rfl rfl (any_of HT_.out (by kernel_rfl)) (fun _ _ _ h => h) (Or.inl ⟨by rfl, ?_⟩) ?_ ?_
       rotate_left
       ·intro w'
        go_simp
        with_reducible rfl
       rotate_left
       ·simp only [Act.put, List.setIfInBounds_toArray, List.set_cons_zero, List.set_cons_succ, i64_w, i32_w]
        rfl
       refine pure_ (i := 17) (N := some 59) (v := undef) (a' := ?_) #[true, true, true, true, true, true, true, true, true, true, true, true, true, true, true, true, true, true, false, false, false, false, false, false, false, false, false, false, false] rfl rfl (any_of HT_.out (by kernel_rfl)) (fun _ _ _ h => h) (Or.inr ⟨by rfl, rfl⟩) ?_ ?_
       rotate_left
       ·simp only [Act.put, List.setIfInBounds_toArray, List.set_cons_zero, List.set_cons_succ, i64_w, i32_w]
        rfl
       refine pure_ (i := 18) (N := some 60) (v := undef) (a' := ?_) #[true, true, true, true, true, true, true, true, true, true, true, true, true, true, true, true, true, true, true, false, false, false, false, false, false, false, false, false, false] rfl rfl (any_of HT_.out (by kernel_rfl)) (fun _ _ _ h => h) (Or.inr ⟨by rfl, rfl⟩) ?_ ?_
       rotate_left
       ·simp only [Act.put, List.setIfInBounds_toArray, List.set_cons_zero, List.set_cons_succ, i64_w, i32_w]
        rfl
       refine pure_ (i := 19) (N := some 61) (v := undef) (a' := ?_) #[true, true, true, true, true, true, true, true, true, true, true, true, true, true, true, true, true, true, true, true, false, false, false, false, false, false, false, false, false] rfl rfl (any_of HT_.out (by kernel_rfl)) (fun _ _ _ h => h) (Or.inr ⟨by rfl, rfl⟩) ?_ ?_
       rotate_left
       ·simp only [Act.put, List.setIfInBounds_toArray, List.set_cons_zero, List.set_cons_succ, i64_w, i32_w]
        rfl
       refine pure_ (i := 20) (N := some 62) (v := undef) (a' := ?_) #[true, true, true, true, true, true, true, true, true, true, true, true, true, true, true, true, true, true, true, true, true, false, false, false, false, false, false, false, false] rfl rfl (any_of HT_.out (by kernel_rfl)) (fun _ _ _ h => h) (Or.inr ⟨by rfl, rfl⟩) ?_ ?_
       rotate_left
       ·simp only [Act.put, List.setIfInBounds_toArray, List.set_cons_zero, List.set_cons_succ, i64_w, i32_w]
        rfl
       refine pure_ (i := 21) (N := some 63) (v := undef) (a' := ?_) #[true, true, true, true, true, true, true, true, true, true, true, true, true, true, true, true, true, true, true, true, true, true, false, false, false, false, false, false, false] rfl rfl (any_of HT_.out (by kernel_rfl)) (fun _ _ _ h => h) (Or.inr ⟨by rfl, rfl⟩) ?_ ?_
       rotate_left
       ·simp only [Act.put, List.setIfInBounds_toArray, List.set_cons_zero, List.set_cons_succ, i64_w, i32_w]
        rfl
       refine pure_ (i := 22) (N := some 64) (v := undef) (a' := ?_) #[true, true, true, true, true, true, true, true, true, true, true, true, true, true, true, true, true, true, true, true, true, true, true, false, false, false, false, false, false] rfl rfl (any_of HT_.out (by kernel_rfl)) (fun _ _ _ h => h) (Or.inr ⟨by rfl, rfl⟩) ?_ ?_
       rotate_left
       ·simp only [Act.put, List.setIfInBounds_toArray, List.set_cons_zero, List.set_cons_succ, i64_w, i32_w]
        rfl
       refine pure_ (i := 23) (N := some 65) (v := undef) (a' := ?_) #[true, true, true, true, true, true, true, true, true, true, true, true, true, true, true, true, true, true, true, true, true, true, true, true, false, false, false, false, false] rfl rfl (any_of HT_.out (by kernel_rfl)) (fun _ _ _ h => h) (Or.inr ⟨by rfl, rfl⟩) ?_ ?_
       rotate_left
       ·simp only [Act.put, List.setIfInBounds_toArray, List.set_cons_zero, List.set_cons_succ, i64_w, i32_w]
        rfl
       refine pure_ (i := 24) (N := some 66) (v := undef) (a' := ?_) #[true, true, true, true, true, true, true, true, true, true, true, true, true, true, true, true, true, true, true, true, true, true, true, true, true, false, false, false, false] rfl rfl (any_of HT_.out (by kernel_rfl)) (fun _ _ _ h => h) (Or.inr ⟨by rfl, rfl⟩) ?_ ?_
       rotate_left
       ·simp only [Act.put, List.setIfInBounds_toArray, List.set_cons_zero, List.set_cons_succ, i64_w, i32_w]
        rfl
       refine pure_ (i := 25) (N := some 67) (v := undef) (a' := ?_) #[true, true, true, true, true, true, true, true, true, true, true, true, true, true, true, true, true, true, true, true, true, true, true, true, true, true, false, false, false] rfl rfl (any_of HT_.out (by kernel_rfl)) (fun _ _ _ h => h) (Or.inr ⟨by rfl, rfl⟩) ?_ ?_
       rotate_left
       ·simp only [Act.put, List.setIfInBounds_toArray, List.set_cons_zero, List.set_cons_succ, i64_w, i32_w]
        rfl
       refine pure_ (i := 26) (N := some 68) (v := undef) (a' := ?_) #[true, true, true, true, true, true, true, true, true, true, true, true, true, true, true, true, true, true, true, true, true, true, true, true, true, true, true, false, false] rfl rfl (any_of HT_.out (by kernel_rfl)) (fun _ _ _ h => h) (Or.inr ⟨by rfl, rfl⟩) ?_ ?_
       rotate_left
       ·simp only [Act.put, List.setIfInBounds_toArray, List.set_cons_zero, List.set_cons_succ, i64_w, i32_w]
        rfl
       refine pure_ (i := 27) (N := some 69) (v := undef) (a' := ?_) #[true, true, true, true, true, true, true, true, true, true, true, true, true, true, true, true, true, true, true, true, true, true, true, true, true, true, true, true, false] rfl rfl (any_of HT_.out (by kernel_rfl)) (fun _ _ _ h => h) (Or.inr ⟨by rfl, rfl⟩) ?_ ?_
       rotate_left
       ·simp only [Act.put, List.setIfInBounds_toArray, List.set_cons_zero, List.set_cons_succ, i64_w, i32_w]
        rfl
       refine pure_ (i := 28) (N := some 70) (v := ?_) (a' := ?_) #[true, true, true, true, true, true, true, true, true, true, true, true, true, true, true, true, true, true, true, true, true, true, true, true, true, true, true, true, true] rfl rfl (any_of HT_.out (by kernel_rfl)) (fun _ _ _ h => h) (Or.inl ⟨by rfl, ?_⟩) ?_ ?_
       rotate_left
       ·intro w'
        go_simp
        with_reducible rfl
       rotate_left
       ·simp only [Act.put, List.setIfInBounds_toArray, List.set_cons_zero, List.set_cons_succ, i64_w, i32_w]
        rfl
       refine done_ (done_of HT_.out (by kernel_rfl)) ?_
       try go_wp2
       go_meet
       case rel => exact ⟨_, (true), (by first | rfl | (simp; done) | (simp [*]; done)), H', ⟨by have := HJ1.out; first | omega | exact Nat.le_refl _⟩, ⟨by (with_reducible repeat (first | refine zf ?_ _ | refine zi ?_ | refine zg ?_ _)); exact BK166.out⟩, ⟨by repeat (first | (with_reducible first | exact HB.out | apply zc | apply za | apply zb | refine zh ?_ GE166.out) | exact HB.out)⟩⟩
     case rest =>
      clear HC17
      try clear c1
      try clear p1
      try clear q1
      try clear hx1
      try clear qi1
      try clear c2
      try clear p2
      try clear p17
      try clear q17
      try clear hx17
      try clear qi17
      try clear c19
      try clear c21
      try clear c22
      try clear c23
      try clear c23b0
      try clear c23b1
      try clear c25
      try clear c26
      try clear c28
      try clear hx171_0
      try clear p171
      try clear q171
      obtain ⟨kq, x70_16, rfl, HA, HJ16, BK166, HB⟩ := hcut
      cases kq with
      | zero => exact absurd HA.out (by simp [spec_AggOk.j1])
      | succ kj16 =>
       have H := HA.out
       clear HA
       simp only [spec_AggOk.j1] at H
       by_cases c36 : x70_16 = true
       ·subst c36
        have H1 : (some false) = some r := by rw [if_pos rfl] at H; exact H
        clear H
        have H := H1
        clear H1
        obtain rfl := Option.some.inj H
        go_wp2
        go_ret
        exact ⟨by first | rfl | (simp [errW_none, errW_some] <;> rfl) | (simp [*, errW_none, errW_some] <;> rfl), by repeat (first | (with_reducible first | exact HB.out | apply zc | apply za | apply zb | refine zh ?_ GE166.out) | exact HB.out)⟩
       ·replace c36 := Bool.eq_false_iff.mpr c36
        subst c36
        have H1 : (spec_AggOk.l0 kj16 0 a0_0 a0_1 a0_2 a0_3 a0_4 l0_5 0 0) = some r := by rw [if_neg (show ¬ (false = true) by decide)] at H; exact H
        clear H
        have H := H1
        clear H1
        have H' := zp.mk H
        clear H
        go_wp2_with (first | ((with_reducible refine zo (N := 3) rfl ?_); (try (refine gate_guard (by rfl) ?_; dsimp only)); refine zm ?hg (N := 3) ?hd (cs := #[.int .i64 0, .int .u64 0]) (t := 30) ?hr ?_; (case hd => rfl); (case hg => rfl); (case hr => first | (go_simp; done) | (go_simp; rfl)); intro gb173 hg w37 hbox hb; have n0_ := zp.mk (zl (g := gb166) (o := .cells #[.int .i64 a0_0, .int .i64 a0_1, .int .u64 a0_2, .int .i64 a0_3, .int .i64 a0_4, .slice A0_5 l0_5.length c0_5] 32 (0, 0)) (by (with_reducible repeat (first | refine zf ?_ _ | refine zi ?_ | refine zg ?_ _)); exact BK166.out) hb); have n1_ := zp.mk (zj (by repeat (first | (with_reducible first | exact HB.out | apply zc | apply za | apply zb | refine zh ?_ GE166.out) | exact HB.out)) hb); have n2_ := zp.mk (hbox); have n3_ := zp.mk ((by rw [hg]; exact (zk (by repeat (first | (with_reducible first | exact HB.out | apply zc | apply za | apply zb | refine zh ?_ GE166.out) | exact HB.out))) : w.heap.size ≤ gb173)); have n4_ := zp.mk ((by rw [hg]; exact (zk (by repeat (first | (with_reducible first | exact HB.out | apply zc | apply za | apply zb | refine zh ?_ GE166.out) | exact HB.out))) : w.heap.size ≤ gb173)); have n5_ := zp.mk ((by rw [hg]; exact Nat.ne_of_lt (blk_lt (g := gb166) (o := .cells #[.int .i64 a0_0, .int .i64 a0_1, .int .u64 a0_2, .int .i64 a0_3, .int .i64 a0_4, .slice A0_5 l0_5.length c0_5] 32 (0, 0)) (by (with_reducible repeat (first | refine zf ?_ _ | refine zi ?_ | refine zg ?_ _)); exact BK166.out)) : gb166 ≠ gb173)); have n6_ := zp.mk ((by rw [hg]; exact Nat.ne_of_gt (blk_lt (g := gb166) (o := .cells #[.int .i64 a0_0, .int .i64 a0_1, .int .u64 a0_2, .int .i64 a0_3, .int .i64 a0_4, .slice A0_5 l0_5.length c0_5] 32 (0, 0)) (by (with_reducible repeat (first | refine zf ?_ _ | refine zi ?_ | refine zg ?_ _)); exact BK166.out)) : gb173 ≠ gb166)); clear BK166; clear HB; have BK166 := n0_; have HB := n1_; have BK173 := n2_; have GW173 := n3_; have GE173 := n4_; have NB166_173 := n5_; have NB173_166 := n6_; clear n0_ n1_ n2_ n3_ n4_ n5_ n6_; clear hb hbox hg; have hnb38 := NB173_166.out; have hnc38 := NB166_173.out; have hcz39_0 : w37.cell? ⟨gb173, 0, none⟩ = some (.int .i64 0) := (ze BK173.out 0).trans rfl; have hcz39_1 : w37.cell? ⟨gb173, 1, none⟩ = some (.int .u64 0) := (ze BK173.out 1).trans rfl; have hfz39_0 := zd BK173.out 0; have hfz39_1 := zd BK173.out 1))
        go_loopg [4] kj16 (fun kq v4 w' => ∃ (x4_3 : Int) (x174000_3 : Int) (x174001_3 : Int), v4 = .int .i64 x4_3 ∧ zp (spec_AggOk.l0 kq x4_3 a0_0 a0_1 a0_2 a0_3 a0_4 l0_5 x174000_3 x174001_3 = some r) ∧ zp (kq ≤ kj16) ∧ zp (w'.heap[gb166]? = some (.cells #[.int .i64 a0_0, .int .i64 a0_1, .int .u64 a0_2, .int .i64 a0_3, .int .i64 a0_4, (.slice A0_5 l0_5.length c0_5)] 32 (0, 0))) ∧ zp (w'.heap[gb173]? = some (.cells #[.int .i64 x174000_3, .int .u64 x174001_3] 30 (0, 0))) ∧ zp (Below w.heap.size w w'))
        case atStart => exact ⟨(0), (0), (0), (by first | rfl | (simp; done) | (simp [*]; done)), H', ⟨Nat.le_refl _⟩, ⟨by (with_reducible repeat (first | refine zf ?_ _ | refine zi ?_ | refine zg ?_ _)); refine blk_far ?_ NB166_173.out _; (with_reducible repeat (first | refine zf ?_ _ | refine zi ?_ | refine zg ?_ _)); refine blk_far ?_ NB166_173.out _; (with_reducible repeat (first | refine zf ?_ _ | refine zi ?_ | refine zg ?_ _)); exact BK166.out⟩, ⟨by (with_reducible repeat (first | refine zf ?_ _ | refine zi ?_ | refine zg ?_ _)); refine blk_put (cs := #[.int .i64 0, .int .u64 0]) ?_ 1 _ rfl; (with_reducible repeat (first | refine zf ?_ _ | refine zi ?_ | refine zg ?_ _)); refine blk_put (cs := #[.int .i64 0, .int .u64 0]) ?_ 0 _ rfl; (with_reducible repeat (first | refine zf ?_ _ | refine zi ?_ | refine zg ?_ _)); exact BK173.out⟩, ⟨by repeat (first | (with_reducible first | exact HB.out | apply zc | apply za | apply zb | refine zh ?_ GE166.out | refine zh ?_ GE173.out) | exact HB.out)⟩⟩
        case round =>
         clear H'
         try clear c1
         try clear p1
         try clear q1
         try clear hx1
         try clear qi1
         try clear c2
         try clear p2
         try clear c3
         try clear p17
         try clear q17
         try clear hx17
         try clear qi17
         try clear c19
         try clear c21
         try clear c22
         try clear c23
         try clear c23b0
         try clear c23b1
         try clear c25
         try clear c26
         try clear c28
         try clear c36
         try clear c38
         try clear hcz39_0
         try clear hcz39_1
         try clear hfz39_0
         try clear hfz39_1
         try clear hx171_0
         try clear p1
         try clear p17
         try clear p171
         try clear p2
         try clear q1
         try clear q17
         try clear q171
         obtain ⟨x4_3, x174000_3, x174001_3, rfl, HA, HK3, BK166, BK173, HB⟩ := hrel
         cases gk with
         | zero => exact absurd HA.out (by simp [spec_AggOk.l0])
         | succ k3 =>
          have H := HA.out
          clear HA
          simp only [spec_AggOk.l0] at H
          by_cases c40 : x4_3 < (l0_5.length : Int)
          ·rw [if_pos c40] at H
           have c40b0 : decide (x4_3 < (l0_5.length : Int)) = true := decide_eq_true c40
           clear c40
           by_cases c41 : 0 ≤ x4_3
           ·rw [if_pos c41] at H
            have c41b0 : decide (0 ≤ x4_3) = true := decide_eq_true c41
            clear c41
            replace H := Option.bind_eq_some_iff.mp H
            obtain ⟨⟨t175, t176⟩, A420, H⟩ := H
            replace H : ((spec_WideAdd.f x174000_3 x174001_3 t175 t176).bind fun bt177 => (spec_AggOk.l0 k3 (wrap64 (x4_3 + 1)) a0_0 a0_1 a0_2 a0_3 a0_4 l0_5 bt177.1 bt177.2)) = some r := H
            have A42 := zp.mk A420
            clear A420
            replace H := Option.bind_eq_some_iff.mp H
            obtain ⟨⟨t177, t178⟩, A430, H⟩ := H
            replace H : (spec_AggOk.l0 k3 (wrap64 (x4_3 + 1)) a0_0 a0_1 a0_2 a0_3 a0_4 l0_5 t177 t178) = some r := H
            have A43 := zp.mk A430
            clear A430
            have H' := zp.mk H
            clear H
            have hnb44 := NB166_173.out
            have hnc44 := NB173_166.out
            have hcz45_0 : wr.cell? ⟨gb166, 0, none⟩ = some (.int .i64 a0_0) := (ze BK166.out 0).trans rfl
            have hcz45_1 : wr.cell? ⟨gb166, 1, none⟩ = some (.int .i64 a0_1) := (ze BK166.out 1).trans rfl
            have hcz45_2 : wr.cell? ⟨gb166, 2, none⟩ = some (.int .u64 a0_2) := (ze BK166.out 2).trans rfl
            have hcz45_3 : wr.cell? ⟨gb166, 3, none⟩ = some (.int .i64 a0_3) := (ze BK166.out 3).trans rfl
            have hcz45_4 : wr.cell? ⟨gb166, 4, none⟩ = some (.int .i64 a0_4) := (ze BK166.out 4).trans rfl
            have hcz45_5 : wr.cell? ⟨gb166, 5, none⟩ = some (.slice A0_5 l0_5.length c0_5) := (ze BK166.out 5).trans rfl
            have hfz45_0 := zd BK166.out 0
            have hfz45_1 := zd BK166.out 1
            have hfz45_2 := zd BK166.out 2
            have hfz45_3 := zd BK166.out 3
            have hfz45_4 := zd BK166.out 4
            have hfz45_5 := zd BK166.out 5
            try go_wp2
            have n0_ := zp.mk (zi BK166.out)
            have n1_ := zp.mk (zi BK173.out)
            have n2_ := zp.mk (zb HB.out)
            clear BK166
            clear BK173
            clear HB
            have BK166 := n0_
            have BK173 := n1_
            have HB := n2_
            clear n0_ n1_ n2_
            have p174 : 0 ≤ (x4_3 : Int) := of_decide_eq_true (by first | (with_reducible assumption) | assumption)
            have q174 : x4_3 < (l0_5.length : Int) := of_decide_eq_true (by first | (with_reducible assumption) | assumption)
            obtain ⟨ad174, e174, hx174_0⟩ := Kd.at_int HR0_5.out x4_3 p174 q174
            have hw174_0 := hx174_0
            cases e174
            replace hx174_0 := (HB.out.cell (World.block_lt_of_cell? w _ hx174_0)).trans hx174_0
            replace p174 := eq_true p174
            replace q174 := eq_true q174
            refine start_ (n := 9) (S := fun w' => w'.cell? ⟨gb173, 0, none⟩ = some (.int .i64 x174000_3) ∧ w'.cell? ⟨gb173, 1, none⟩ = some (.int .u64 x174001_3) ∧ w'.cell? ⟨gb166, 0, none⟩ = some (.int .i64 a0_0) ∧ w'.cell? ⟨gb166, 1, none⟩ = some (.int .i64 a0_1) ∧ w'.cell? ⟨gb166, 2, none⟩ = some (.int .u64 a0_2) ∧ w'.cell? ⟨gb166, 3, none⟩ = some (.int .i64 a0_3) ∧ w'.cell? ⟨gb166, 4, none⟩ = some (.int .i64 a0_4) ∧ w'.cell? ⟨gb166, 5, none⟩ = some (.slice (some ad174) l0_5.length c0_5) ∧ w'.cell? (ad174.add (x4_3).toNat) = some (.int .i64 (rd l0_5 x4_3))) (ds := [8]) #[false, false, false, false, false, false, false, false, false] (by kernel_rfl) rfl rfl ⟨(ze BK173.out 0).trans rfl, (ze BK173.out 1).trans rfl, (ze BK166.out 0).trans rfl, (ze BK166.out 1).trans rfl, (ze BK166.out 2).trans rfl, (ze BK166.out 3).trans rfl, (ze BK166.out 4).trans rfl, (ze BK166.out 5).trans rfl, ((HB.out.cell (World.block_lt_of_cell? w _ hw174_0)).trans hw174_0)⟩ (fun hHeld => ?_); refine with_tabW spec_AggOk.tab11 spec_AggOk.bits11 (fun HT_ HW_ => ?_)
            generalize wr.drew = w46 at BK166 BK173 HB hx174_0 hHeld ⊢
            refine pure_ (i := 1) (N := some 80) (v := ?_) (a' := ?_) #[false, true, false, false, false, false, false, false, false] rfl rfl (any_of HT_.out (by kernel_rfl)) (fun _ _ _ h => h) (Or.inl ⟨by rfl, ?_⟩) ?_ ?_
            rotate_left
            ·intro w'
             go_simp
             with_reducible rfl
            rotate_left
            ·simp only [Act.put, List.setIfInBounds_toArray, List.set_cons_zero, List.set_cons_succ, i64_w, i32_w]
             rfl
            refine pure_ (i := 3) (N := some 82) (v := ?_) (a' := ?_) #[false, true, false, true, false, false, false, false, false] rfl rfl (any_of HT_.out (by kernel_rfl)) (fun _ _ _ h => h) (Or.inl ⟨by rfl, ?_⟩) ?_ ?_
            rotate_left
            ·intro w'
             go_simp
             with_reducible rfl
            rotate_left
            ·simp only [Act.put, List.setIfInBounds_toArray, List.set_cons_zero, List.set_cons_succ, i64_w, i32_w]
             rfl
            refine take_ (i := 0) (N := some 79) (v := ?_) (a' := ?_) #[true, true, false, true, false, false, false, false, false] rfl rfl (take_ofW HT_.out HW_.out (by kernel_rfl)) (fun _ _ _ h => h) (Or.inl ⟨by rfl, ?_⟩) hHeld ?_ ?_
            rotate_left
            ·rintro w' ⟨s0, s1, s2, s3, s4, s5, s6, s7, s8⟩
             go_simp
             with_reducible rfl
            rotate_left
            ·simp only [Act.put, List.setIfInBounds_toArray, List.set_cons_zero, List.set_cons_succ, i64_w, i32_w]
             rfl
            refine take_ (i := 2) (N := some 81) (v := ?_) (a' := ?_) #[true, true, true, true, false, false, false, false, false] rfl rfl (take_ofW HT_.out HW_.out (by kernel_rfl)) (fun _ _ _ h => h) (Or.inl ⟨by rfl, ?_⟩) hHeld ?_ ?_
            rotate_left
            ·rintro w' ⟨s0, s1, s2, s3, s4, s5, s6, s7, s8⟩
             go_simp
             with_reducible rfl
            rotate_left
            ·simp only [Act.put, List.setIfInBounds_toArray, List.set_cons_zero, List.set_cons_succ, i64_w, i32_w]
             rfl
            refine pure_ (i := 4) (N := some 83) (v := ?_) (a' := ?_) #[true, true, true, true, true, false, false, false, false] rfl rfl (any_of HT_.out (by kernel_rfl)) (fun _ _ _ h => h) (Or.inl ⟨by rfl, ?_⟩) ?_ ?_
            rotate_left
            ·intro w'
             go_simp
             with_reducible rfl
            rotate_left
            ·simp only [Act.put, List.setIfInBounds_toArray, List.set_cons_zero, List.set_cons_succ, i64_w, i32_w]
             rfl
            refine take_ (i := 5) (N := some 84) (v := ?_) (a' := ?_) #[true, true, true, true, true, true, false, false, false] rfl rfl (take_ofW HT_.out HW_.out (by kernel_rfl)) (fun _ _ _ h => h) (Or.inl ⟨by rfl, ?_⟩) hHeld ?_ ?_
            rotate_left
            ·rintro w' ⟨s0, s1, s2, s3, s4, s5, s6, s7, s8⟩
             go_simp
             with_reducible rfl
            rotate_left
            ·simp only [Act.put, List.setIfInBounds_toArray, List.set_cons_zero, List.set_cons_succ, i64_w, i32_w]
             rfl
            refine one_ (i := 6) (N := some 85) #[true, true, true, true, true, true, true, false, false] rfl rfl (one_of HT_.out (by kernel_rfl)) (by decide) (fun K hK => ?_)
            refine goes_ Try.func30 (by kernel_rfl) rfl #[.int .i64 (rd l0_5 x4_3)] (by rfl) rfl rfl (by (try simp only [List.map_toArray, List.map_cons, List.map_nil]); first | done | rfl | (simp only [List.length_drop, List.length_take]; rfl)) ?_
            with_reducible refine (spec_WideOf.calls (rd l0_5 x4_3) t175 t176 _ A42.out).mono ?_
            rintro e w47 ⟨rfl, hb⟩
            refine ⟨_, rfl, ?_⟩
            have n0_ := zp.mk (zl (g := gb166) (o := .cells #[.int .i64 a0_0, .int .i64 a0_1, .int .u64 a0_2, .int .i64 a0_3, .int .i64 a0_4, .slice (some ad174) l0_5.length c0_5] 32 (0, 0)) (by (with_reducible repeat (first | refine zf ?_ _ | refine zi ?_ | refine zg ?_ _)); exact BK166.out) hb)
            have n1_ := zp.mk (zl (g := gb173) (o := .cells #[.int .i64 x174000_3, .int .u64 x174001_3] 30 (0, 0)) (by (with_reducible repeat (first | refine zf ?_ _ | refine zi ?_ | refine zg ?_ _)); exact BK173.out) hb)
            have n2_ := zp.mk (zj (by repeat (first | (with_reducible first | exact HB.out | apply zc | apply za | apply zb | refine zh ?_ GE166.out | refine zh ?_ GE173.out) | exact HB.out)) hb)
            clear BK166
            clear BK173
            clear HB
            have BK166 := n0_
            have BK173 := n1_
            have HB := n2_
            clear n0_ n1_ n2_
            (try clear hb)
            (try clear hb2)
            (try clear hk)
            (try clear hi)
            refine hK.out _ _ ⟨(ze BK173.out 0).trans rfl, (ze BK173.out 1).trans rfl, (ze BK166.out 0).trans rfl, (ze BK166.out 1).trans rfl, (ze BK166.out 2).trans rfl, (ze BK166.out 3).trans rfl, (ze BK166.out 4).trans rfl, (ze BK166.out 5).trans rfl, ((HB.out.cell (World.block_lt_of_cell? w _ hw174_0)).trans hw174_0)⟩ (fun hHeld => ?_)
            clear hK K
            refine norm_ (a' := ?_) ?_ ?_
            rotate_left
            ·show Act.put _ (some 85) _ = _
             simp only [Act.put, List.setIfInBounds_toArray, List.set_cons_zero, List.set_cons_succ, i64_w, i32_w]
             rfl
            refine one_ (i := 7) (N := some 86) #[true, true, true, true, true, true, true, true, false] rfl rfl (one_of HT_.out (by kernel_rfl)) (by decide) (fun K hK => ?_)
            refine goes_ Try.func29 (by kernel_rfl) rfl #[.agg #[.int .i64 x174000_3, .int .u64 x174001_3], .agg #[.int .i64 t175, .int .u64 t176]] (by rfl) rfl rfl (by (try simp only [List.map_toArray, List.map_cons, List.map_nil]); first | done | rfl | (simp only [List.length_drop, List.length_take]; rfl)) ?_
            with_reducible refine (spec_WideAdd.calls x174000_3 x174001_3 t175 t176 t177 t178 _ A43.out).mono ?_
            rintro e w48 ⟨rfl, hb⟩
            refine ⟨_, rfl, ?_⟩
            have n0_ := zp.mk (zl (g := gb166) (o := .cells #[.int .i64 a0_0, .int .i64 a0_1, .int .u64 a0_2, .int .i64 a0_3, .int .i64 a0_4, .slice (some ad174) l0_5.length c0_5] 32 (0, 0)) (by (with_reducible repeat (first | refine zf ?_ _ | refine zi ?_ | refine zg ?_ _)); exact BK166.out) hb)
            have n1_ := zp.mk (zl (g := gb173) (o := .cells #[.int .i64 x174000_3, .int .u64 x174001_3] 30 (0, 0)) (by (with_reducible repeat (first | refine zf ?_ _ | refine zi ?_ | refine zg ?_ _)); exact BK173.out) hb)
            have n2_ := zp.mk (zj (by repeat (first | (with_reducible first | exact HB.out | apply zc | apply za | apply zb | refine zh ?_ GE166.out | refine zh ?_ GE173.out) | exact HB.out)) hb)
            clear BK166
            clear BK173
            clear HB
            have BK166 := n0_
            have BK173 := n1_
            have HB := n2_
            clear n0_ n1_ n2_
            (try clear hb)
            (try clear hb2)
            (try clear hk)
            (try clear hi)
            refine hK.out _ _ ⟨(ze BK173.out 0).trans rfl, (ze BK173.out 1).trans rfl, (ze BK166.out 0).trans rfl, (ze BK166.out 1).trans rfl, (ze BK166.out 2).trans rfl, (ze BK166.out 3).trans rfl, (ze BK166.out 4).trans rfl, (ze BK166.out 5).trans rfl, ((HB.out.cell (World.block_lt_of_cell? w _ hw174_0)).trans hw174_0)⟩ (fun hHeld => ?_)
            clear hK K
            refine norm_ (a' := ?_) ?_ ?_
            rotate_left
            ·show Act.put _ (some 86) _ = _
             simp only [Act.put, List.setIfInBounds_toArray, List.set_cons_zero, List.set_cons_succ, i64_w, i32_w]
             rfl
            refine last_ (i := 8) (N := none) #[true, true, true, true, true, true, true, true, true] rfl rfl (one_of HT_.out (by kernel_rfl)) (by decide) (fun K hK => ?_)
            have hs49 : w48.cell? ⟨gb173, 0, none⟩ = some (.int .i64 x174000_3) := (ze BK173.out 0).trans rfl
            have hfs49 := zd BK173.out 0
            have hns49_0 := NB166_173.out
            have hms49_0 := NB173_166.out
            have hs50 : w48.cell? ⟨gb173, 1, none⟩ = some (.int .u64 x174001_3) := (ze BK173.out 1).trans rfl
            have hfs50 := zd BK173.out 1
            have hns50_0 := NB166_173.out
            have hms50_0 := NB173_166.out
            refine skip_ (w1 := ?_) (by rfl) rfl ?_ ?_
            rotate_left
            ·go_simp
             rfl
            refine hK.out _ _ ?_
            clear hK K
            refine done_ (done_of HT_.out (by kernel_rfl)) ?_
            try go_wp2
            go_roundg k3
            case measure => have := HJ1.out; have := HJ16.out; have := HK3.out; omega
            case rel => exact ⟨(wrap64 (x4_3 + 1)), (t177), (t178), (by first | rfl | (simp; done) | (simp [*]; done)), H', ⟨by have := HJ1.out; have := HJ16.out; have := HK3.out; omega⟩, ⟨by (with_reducible repeat (first | refine zf ?_ _ | refine zi ?_ | refine zg ?_ _)); refine blk_far ?_ NB166_173.out _; (with_reducible repeat (first | refine zf ?_ _ | refine zi ?_ | refine zg ?_ _)); refine blk_far ?_ NB166_173.out _; (with_reducible repeat (first | refine zf ?_ _ | refine zi ?_ | refine zg ?_ _)); exact BK166.out⟩, ⟨by (with_reducible repeat (first | refine zf ?_ _ | refine zi ?_ | refine zg ?_ _)); refine blk_put (cs := #[.int .i64 t177, .int .u64 x174001_3]) ?_ 1 _ rfl; (with_reducible repeat (first | refine zf ?_ _ | refine zi ?_ | refine zg ?_ _)); refine blk_put (cs := #[.int .i64 x174000_3, .int .u64 x174001_3]) ?_ 0 _ rfl; (with_reducible repeat (first | refine zf ?_ _ | refine zi ?_ | refine zg ?_ _)); exact BK173.out⟩, ⟨by repeat (first | (with_reducible first | exact HB.out | apply zc | apply za | apply zb | refine zh ?_ GE166.out | refine zh ?_ GE173.out) | exact HB.out)⟩⟩
           ·rw [if_neg c41] at H
            exact absurd H (by simp)
          ·rw [if_neg c40] at H
           have c40b0 : decide (x4_3 < (l0_5.length : Int)) = false := decide_eq_false c40
           clear c40
           by_cases c51 : (wrap64 (a0_0 - (l0_5.length : Int))) = 0
           ·rw [if_pos c51] at H
            have c51b0 : ((wrap64 (a0_0 - (l0_5.length : Int))) == 0) = true := beq_iff_eq.mpr c51
            have c51b1 : ((wrap64 (a0_0 - (l0_5.length : Int))) != 0) = false := bne_eq_false_iff_eq.mpr c51
            clear c51
            obtain ⟨ji52, hji52⟩ : ∃ j_ : Int, (wrap64 ((l0_5.length : Int) - 1)) = j_ := ⟨_, rfl⟩
            replace H : (if 0 ≤ (ji52) then (if (ji52) < (l0_5.length : Int) then (if a0_3 = (rd l0_5 (ji52)) then (some (a0_1 == x174000_3 && (a0_2 == x174001_3))) else (some false)) else (none)) else (none)) = some r := by first | (rw [hji52] at H; exact H) | (simp only [hji52] at H ⊢; exact H)
            have hji52w : (IntKind.i64.wrap ((l0_5.length : Int) - 1)) = ji52 := (i64_w _).trans hji52
            by_cases c53 : 0 ≤ (ji52)
            ·rw [if_pos c53] at H
             have c53b0 : decide (0 ≤ (ji52)) = true := decide_eq_true c53
             clear c53
             by_cases c54 : (ji52) < (l0_5.length : Int)
             ·rw [if_pos c54] at H
              have c54b0 : decide ((ji52) < (l0_5.length : Int)) = true := decide_eq_true c54
              clear c54
              by_cases c55 : a0_3 = (rd l0_5 (ji52))
              ·rw [if_pos c55] at H
               have c55b0 : (a0_3 == (rd l0_5 (ji52))) = true := beq_iff_eq.mpr c55
               have c55b1 : (a0_3 != (rd l0_5 (ji52))) = false := bne_eq_false_iff_eq.mpr c55
               clear c55
               obtain rfl := Option.some.inj H
               have hnb56 := NB166_173.out
               have hnc56 := NB173_166.out
               have hcz57_0 : wr.cell? ⟨gb166, 0, none⟩ = some (.int .i64 a0_0) := (ze BK166.out 0).trans rfl
               have hcz57_1 : wr.cell? ⟨gb166, 1, none⟩ = some (.int .i64 a0_1) := (ze BK166.out 1).trans rfl
               have hcz57_2 : wr.cell? ⟨gb166, 2, none⟩ = some (.int .u64 a0_2) := (ze BK166.out 2).trans rfl
               have hcz57_3 : wr.cell? ⟨gb166, 3, none⟩ = some (.int .i64 a0_3) := (ze BK166.out 3).trans rfl
               have hcz57_4 : wr.cell? ⟨gb166, 4, none⟩ = some (.int .i64 a0_4) := (ze BK166.out 4).trans rfl
               have hcz57_5 : wr.cell? ⟨gb166, 5, none⟩ = some (.slice A0_5 l0_5.length c0_5) := (ze BK166.out 5).trans rfl
               have hfz57_0 := zd BK166.out 0
               have hfz57_1 := zd BK166.out 1
               have hfz57_2 := zd BK166.out 2
               have hfz57_3 := zd BK166.out 3
               have hfz57_4 := zd BK166.out 4
               have hfz57_5 := zd BK166.out 5
               try go_wp2
               have n0_ := zp.mk (zi BK166.out)
               have n1_ := zp.mk (zi BK173.out)
               have n2_ := zp.mk (zb HB.out)
               clear BK166
               clear BK173
               clear HB
               have BK166 := n0_
               have BK173 := n1_
               have HB := n2_
               clear n0_ n1_ n2_
               have p179 : 0 ≤ ((ji52) : Int) := of_decide_eq_true (by first | (with_reducible assumption) | assumption)
               have q179 : (ji52) < (l0_5.length : Int) := of_decide_eq_true (by first | (with_reducible assumption) | assumption)
               obtain ⟨ad179, e179, hx179_0⟩ := Kd.at_int HR0_5.out (ji52) p179 q179
               have hw179_0 := hx179_0
               cases e179
               replace hx179_0 := (HB.out.cell (World.block_lt_of_cell? w _ hx179_0)).trans hx179_0
               replace p179 := eq_true p179
               replace q179 := eq_true q179
               refine start_ (n := 18) (S := fun w' => w'.cell? ⟨gb166, 0, none⟩ = some (.int .i64 a0_0) ∧ w'.cell? ⟨gb166, 1, none⟩ = some (.int .i64 a0_1) ∧ w'.cell? ⟨gb166, 2, none⟩ = some (.int .u64 a0_2) ∧ w'.cell? ⟨gb166, 3, none⟩ = some (.int .i64 a0_3) ∧ w'.cell? ⟨gb166, 4, none⟩ = some (.int .i64 a0_4) ∧ w'.cell? ⟨gb166, 5, none⟩ = some (.slice (some ad179) l0_5.length c0_5) ∧ w'.cell? ⟨gb173, 0, none⟩ = some (.int .i64 x174000_3) ∧ w'.cell? ⟨gb173, 1, none⟩ = some (.int .u64 x174001_3) ∧ w'.cell? (ad179.add ((ji52)).toNat) = some (.int .i64 (rd l0_5 (ji52)))) (ds := []) #[false, false, false, false, false, false, false, false, false, false, false, false, false, false, false, false, false, false] (by kernel_rfl) rfl rfl ⟨(ze BK166.out 0).trans rfl, (ze BK166.out 1).trans rfl, (ze BK166.out 2).trans rfl, (ze BK166.out 3).trans rfl, (ze BK166.out 4).trans rfl, (ze BK166.out 5).trans rfl, (ze BK173.out 0).trans rfl, (ze BK173.out 1).trans rfl, ((HB.out.cell (World.block_lt_of_cell? w _ hw179_0)).trans hw179_0)⟩ (fun hHeld => ?_); refine with_tabW spec_AggOk.tab14 spec_AggOk.bits14 (fun HT_ HW_ => ?_)
               generalize wr.drew = w58 at BK166 BK173 HB hx179_0 hHeld ⊢
               refine pure_ (i := 0) (N := some 95) (v := ?_) (a' := ?_) #[true, false, false, false, false, false, false, false, false, false, false, false, false, false, false, false, false, false] rfl rfl (any_of HT_.out (by kernel_rfl)) (fun _ _ _ h => h) (Or.inl ⟨by rfl, ?_⟩) ?_ ?_
               rotate_left
               ·intro w'
                go_simp
                with_reducible rfl
               rotate_left
               ·simp only [Act.put, List.setIfInBounds_toArray, List.set_cons_zero, List.set_cons_succ, i64_w, i32_w]
                rfl
               refine pure_ (i := 2) (N := some 97) (v := ?_) (a' := ?_) #[true, false, true, false, false, false, false, false, false, false, false, false, false, false, false, false, false, false] rfl rfl (any_of HT_.out (by kernel_rfl)) (fun _ _ _ h => h) (Or.inl ⟨by rfl, ?_⟩) ?_ ?_
               rotate_left
               ·intro w'
                go_simp
                with_reducible rfl
               rotate_left
               ·simp only [Act.put, List.setIfInBounds_toArray, List.set_cons_zero, List.set_cons_succ, i64_w, i32_w]
                rfl
               refine pure_ (i := 4) (N := some 99) (v := ?_) (a' := ?_) #[true, false, true, false, true, false, false, false, false, false, false, false, false, false, false, false, false, false] rfl rfl (any_of HT_.out (by kernel_rfl)) (fun _ _ _ h => h) (Or.inl ⟨by rfl, ?_⟩) ?_ ?_
               rotate_left
               ·intro w'
                go_simp
                with_reducible rfl
               rotate_left
               ·simp only [Act.put, List.setIfInBounds_toArray, List.set_cons_zero, List.set_cons_succ, i64_w, i32_w]
                rfl
               refine take_ (i := 1) (N := some 96) (v := ?_) (a' := ?_) #[true, true, true, false, true, false, false, false, false, false, false, false, false, false, false, false, false, false] rfl rfl (take_ofW HT_.out HW_.out (by kernel_rfl)) (fun _ _ _ h => h) (Or.inl ⟨by rfl, ?_⟩) hHeld ?_ ?_
               rotate_left
               ·rintro w' ⟨s0, s1, s2, s3, s4, s5, s6, s7, s8⟩
                go_simp
                with_reducible rfl
               rotate_left
               ·simp only [Act.put, List.setIfInBounds_toArray, List.set_cons_zero, List.set_cons_succ, i64_w, i32_w]
                rfl
               refine take_ (i := 3) (N := some 98) (v := ?_) (a' := ?_) #[true, true, true, true, true, false, false, false, false, false, false, false, false, false, false, false, false, false] rfl rfl (take_ofW HT_.out HW_.out (by kernel_rfl)) (fun _ _ _ h => h) (Or.inl ⟨by rfl, ?_⟩) hHeld ?_ ?_
               rotate_left
               ·rintro w' ⟨s0, s1, s2, s3, s4, s5, s6, s7, s8⟩
                go_simp
                with_reducible rfl
               rotate_left
               ·simp only [Act.put, List.setIfInBounds_toArray, List.set_cons_zero, List.set_cons_succ, i64_w, i32_w]
                rfl
               refine take_ (i := 5) (N := some 100) (v := ?_) (a' := ?_) #[true, true, true, true, true, true, false, false, false, false, false, false, false, false, false, false, false, false] rfl rfl (take_ofW HT_.out HW_.out (by kernel_rfl)) (fun _ _ _ h => h) (Or.inl ⟨by rfl, ?_⟩) hHeld ?_ ?_
               rotate_left
               ·rintro w' ⟨s0, s1, s2, s3, s4, s5, s6, s7, s8⟩
                go_simp
                with_reducible rfl
               rotate_left
               ·simp only [Act.put, List.setIfInBounds_toArray, List.set_cons_zero, List.set_cons_succ, i64_w, i32_w]
                rfl
               refine pure_ (i := 6) (N := some 101) (v := ?_) (a' := ?_) #[true, true, true, true, true, true, true, false, false, false, false, false, false, false, false, false, false, false] rfl rfl (any_of HT_.out (by kernel_rfl)) (fun _ _ _ h => h) (Or.inl ⟨by rfl, ?_⟩) ?_ ?_
               rotate_left
               ·intro w'
                go_simp
                with_reducible rfl
               rotate_left
               ·simp only [Act.put, List.setIfInBounds_toArray, List.set_cons_zero, List.set_cons_succ, i64_w, i32_w]
                rfl
               refine pure_ (i := 7) (N := some 102) (v := ?_) (a' := ?_) #[true, true, true, true, true, true, true, true, false, false, false, false, false, false, false, false, false, false] rfl rfl (any_of HT_.out (by kernel_rfl)) (fun _ _ _ h => h) (Or.inl ⟨by rfl, ?_⟩) ?_ ?_
               rotate_left
               ·intro w'
                go_simp
                with_reducible rfl
               rotate_left
               ·simp only [Act.put, List.setIfInBounds_toArray, List.set_cons_zero, List.set_cons_succ, i64_w, i32_w]
                rfl
               refine pure_ (i := 8) (N := some 103) (v := ?_) (a' := ?_) #[true, true, true, true, true, true, true, true, true, false, false, false, false, false, false, false, false, false] rfl rfl (any_of HT_.out (by kernel_rfl)) (fun _ _ _ h => h) (Or.inl ⟨by rfl, ?_⟩) ?_ ?_
               rotate_left
               ·intro w'
                go_simp
                with_reducible rfl
               rotate_left
               ·simp only [Act.put, List.setIfInBounds_toArray, List.set_cons_zero, List.set_cons_succ, i64_w, i32_w]
                rfl
               refine take_ (i := 9) (N := some 104) (v := ?_) (a' := ?_) #[true, true, true, true, true, true, true, true, true, true, false, false, false, false, false, false, false, false] rfl rfl (take_ofW HT_.out HW_.out (by kernel_rfl)) (fun _ _ _ h => h) (Or.inl ⟨by rfl, ?_⟩) hHeld ?_ ?_
               rotate_left
               ·rintro w' ⟨s0, s1, s2, s3, s4, s5, s6, s7, s8⟩
                go_simp
                with_reducible rfl
               rotate_left
               ·simp only [Act.put, List.setIfInBounds_toArray, List.set_cons_zero, List.set_cons_succ, i64_w, i32_w]
                rfl
               refine pure_ (i := 10) (N := some 105) (v := ?_) (a' := ?_) #[true, true, true, true, true, true, true, true, true, true, true, false, false, false, false, false, false, false] rfl rfl (any_of HT_.out (by kernel_rfl)) (fun _ _ _ h => h) (Or.inl ⟨by rfl, ?_⟩) ?_ ?_
               rotate_left
               ·intro w'
                go_simp
                with_reducible rfl
               rotate_left
               ·simp only [Act.put, List.setIfInBounds_toArray, List.set_cons_zero, List.set_cons_succ, i64_w, i32_w]
                rfl
               refine pure_ (i := 11) (N := some 106) (v := ?_) (a' := ?_) #[true, true, true, true, true, true, true, true, true, true, true, true, false, false, false, false, false, false] rfl rfl (any_of HT_.out (by kernel_rfl)) (fun _ _ _ h => h) (Or.inl ⟨by rfl, ?_⟩) ?_ ?_
               rotate_left
               ·intro w'
                go_simp
                with_reducible rfl
               rotate_left
               ·simp only [Act.put, List.setIfInBounds_toArray, List.set_cons_zero, List.set_cons_succ, i64_w, i32_w]
                rfl
               refine pure_ (i := 12) (N := some 107) (v := ?_) (a' := ?_) #[true, true, true, true, true, true, true, true, true, true, true, true, true, false, false, false, false, false] rfl rfl (any_of HT_.out (by kernel_rfl)) (fun _ _ _ h => h) (Or.inl ⟨by rfl, ?_⟩) ?_ ?_
               rotate_left
               ·intro w'
                go_simp
                with_reducible rfl
               rotate_left
               ·simp only [Act.put, List.setIfInBounds_toArray, List.set_cons_zero, List.set_cons_succ, i64_w, i32_w]
                rfl
               refine take_ (i := 13) (N := some 108) (v := ?_) (a' := ?_) #[true, true, true, true, true, true, true, true, true, true, true, true, true, true, false, false, false, false] rfl rfl (take_ofW HT_.out HW_.out (by kernel_rfl)) (fun _ _ _ h => h) (Or.inl ⟨by rfl, ?_⟩) hHeld ?_ ?_
               rotate_left
               ·rintro w' ⟨s0, s1, s2, s3, s4, s5, s6, s7, s8⟩
                go_simp
                with_reducible rfl
               rotate_left
               ·simp only [Act.put, List.setIfInBounds_toArray, List.set_cons_zero, List.set_cons_succ, i64_w, i32_w]
                rfl
               refine take_ (i := 14) (N := some 109) (v := ?_) (a' := ?_) #[true, true, true, true, true, true, true, true, true, true, true, true, true, true, true, false, false, false] rfl rfl (take_ofW HT_.out HW_.out (by kernel_rfl)) (fun _ _ _ h => h) (Or.inl ⟨by rfl, ?_⟩) hHeld ?_ ?_
               rotate_left
               ·rintro w' ⟨s0, s1, s2, s3, s4, s5, s6, s7, s8⟩
                go_simp
                with_reducible rfl
               rotate_left
               ·simp only [Act.put, List.setIfInBounds_toArray, List.set_cons_zero, List.set_cons_succ, i64_w, i32_w]
                rfl
               refine pure_ (i := 15) (N := some 110) (v := ?_) (a' := ?_) #[true, true, true, true, true, true, true, true, true, true, true, true, true, true, true, true, false, false] rfl rfl (any_of HT_.out (by kernel_rfl)) (fun _ _ _ h => h) (Or.inl ⟨by rfl, ?_⟩) ?_ ?_
               rotate_left
               ·intro w'
                go_simp
                with_reducible rfl
               rotate_left
               ·simp only [Act.put, List.setIfInBounds_toArray, List.set_cons_zero, List.set_cons_succ, i64_w, i32_w]
                rfl
               refine pure_ (i := 16) (N := some 111) (v := ?_) (a' := ?_) #[true, true, true, true, true, true, true, true, true, true, true, true, true, true, true, true, true, false] rfl rfl (any_of HT_.out (by kernel_rfl)) (fun _ _ _ h => h) (Or.inl ⟨by rfl, ?_⟩) ?_ ?_
               rotate_left
               ·intro w'
                go_simp
                with_reducible rfl
               rotate_left
               ·simp only [Act.put, List.setIfInBounds_toArray, List.set_cons_zero, List.set_cons_succ, i64_w, i32_w]
                rfl
               refine pure_ (i := 17) (N := some 2) (v := ?_) (a' := ?_) #[true, true, true, true, true, true, true, true, true, true, true, true, true, true, true, true, true, true] rfl rfl (any_of HT_.out (by kernel_rfl)) (fun _ _ _ h => h) (Or.inl ⟨by rfl, ?_⟩) ?_ ?_
               rotate_left
               ·intro w'
                go_simp
                with_reducible rfl
               rotate_left
               ·simp only [Act.put, List.setIfInBounds_toArray, List.set_cons_zero, List.set_cons_succ, i64_w, i32_w]
                rfl
               refine done_ (done_of HT_.out (by kernel_rfl)) ?_
               try go_wp2
               go_ret
               exact ⟨by first | rfl | (simp [errW_none, errW_some] <;> rfl) | (simp only [← hji52]; first | rfl | (simp [errW_none, errW_some] <;> rfl)) | (simp [*, errW_none, errW_some] <;> rfl), by repeat (first | (with_reducible first | exact HB.out | apply zc | apply za | apply zb | refine zh ?_ GE166.out | refine zh ?_ GE173.out) | exact HB.out)⟩
              ·rw [if_neg c55] at H
               have c55b0 : (a0_3 == (rd l0_5 (ji52))) = false := beq_eq_false_iff_ne.mpr c55
               have c55b1 : (a0_3 != (rd l0_5 (ji52))) = true := bne_iff_ne.mpr c55
               obtain rfl := Option.some.inj H
               have hnb59 := NB166_173.out
               have hnc59 := NB173_166.out
               have hcz60_0 : wr.cell? ⟨gb166, 0, none⟩ = some (.int .i64 a0_0) := (ze BK166.out 0).trans rfl
               have hcz60_1 : wr.cell? ⟨gb166, 1, none⟩ = some (.int .i64 a0_1) := (ze BK166.out 1).trans rfl
               have hcz60_2 : wr.cell? ⟨gb166, 2, none⟩ = some (.int .u64 a0_2) := (ze BK166.out 2).trans rfl
               have hcz60_3 : wr.cell? ⟨gb166, 3, none⟩ = some (.int .i64 a0_3) := (ze BK166.out 3).trans rfl
               have hcz60_4 : wr.cell? ⟨gb166, 4, none⟩ = some (.int .i64 a0_4) := (ze BK166.out 4).trans rfl
               have hcz60_5 : wr.cell? ⟨gb166, 5, none⟩ = some (.slice A0_5 l0_5.length c0_5) := (ze BK166.out 5).trans rfl
               have hfz60_0 := zd BK166.out 0
               have hfz60_1 := zd BK166.out 1
               have hfz60_2 := zd BK166.out 2
               have hfz60_3 := zd BK166.out 3
               have hfz60_4 := zd BK166.out 4
               have hfz60_5 := zd BK166.out 5
               try go_wp2
               have n0_ := zp.mk (zi BK166.out)
               have n1_ := zp.mk (zi BK173.out)
               have n2_ := zp.mk (zb HB.out)
               clear BK166
               clear BK173
               clear HB
               have BK166 := n0_
               have BK173 := n1_
               have HB := n2_
               clear n0_ n1_ n2_
               have p179 : 0 ≤ ((ji52) : Int) := of_decide_eq_true (by first | (with_reducible assumption) | assumption)
               have q179 : (ji52) < (l0_5.length : Int) := of_decide_eq_true (by first | (with_reducible assumption) | assumption)
               obtain ⟨ad179, e179, hx179_0⟩ := Kd.at_int HR0_5.out (ji52) p179 q179
               have hw179_0 := hx179_0
               cases e179
               replace hx179_0 := (HB.out.cell (World.block_lt_of_cell? w _ hx179_0)).trans hx179_0
               replace p179 := eq_true p179
               replace q179 := eq_true q179
               refine start_ (n := 18) (S := fun w' => w'.cell? ⟨gb166, 0, none⟩ = some (.int .i64 a0_0) ∧ w'.cell? ⟨gb166, 1, none⟩ = some (.int .i64 a0_1) ∧ w'.cell? ⟨gb166, 2, none⟩ = some (.int .u64 a0_2) ∧ w'.cell? ⟨gb166, 3, none⟩ = some (.int .i64 a0_3) ∧ w'.cell? ⟨gb166, 4, none⟩ = some (.int .i64 a0_4) ∧ w'.cell? ⟨gb166, 5, none⟩ = some (.slice (some ad179) l0_5.length c0_5) ∧ w'.cell? (ad179.add ((ji52)).toNat) = some (.int .i64 (rd l0_5 (ji52)))) (ds := []) #[false, false, false, false, false, false, false, false, false, false, false, false, false, false, false, false, false, false] (by kernel_rfl) rfl rfl ⟨(ze BK166.out 0).trans rfl, (ze BK166.out 1).trans rfl, (ze BK166.out 2).trans rfl, (ze BK166.out 3).trans rfl, (ze BK166.out 4).trans rfl, (ze BK166.out 5).trans rfl, ((HB.out.cell (World.block_lt_of_cell? w _ hw179_0)).trans hw179_0)⟩ (fun hHeld => ?_); refine with_tabW spec_AggOk.tab14 spec_AggOk.bits14 (fun HT_ HW_ => ?_)
               generalize wr.drew = w61 at BK166 BK173 HB hx179_0 hHeld ⊢
               refine pure_ (i := 0) (N := some 95) (v := ?_) (a' := ?_) #[true, false, false, false, false, false, false, false, false, false, false, false, false, false, false, false, false, false] rfl rfl (any_of HT_.out (by kernel_rfl)) (fun _ _ _ h => h) (Or.inl ⟨by rfl, ?_⟩) ?_ ?_
               rotate_left
               ·intro w'
                go_simp
                with_reducible rfl
               rotate_left
               ·simp only [Act.put, List.setIfInBounds_toArray, List.set_cons_zero, List.set_cons_succ, i64_w, i32_w]
                rfl
               refine pure_ (i := 2) (N := some 97) (v := ?_) (a' := ?_) #[true, false, true, false, false, false, false, false, false, false, false, false, false, false, false, false, false, false] rfl rfl (any_of HT_.out (by kernel_rfl)) (fun _ _ _ h => h) (Or.inl ⟨by rfl, ?_⟩) ?_ ?_
               rotate_left
               ·intro w'
                go_simp
                with_reducible rfl
               rotate_left
               ·simp only [Act.put, List.setIfInBounds_toArray, List.set_cons_zero, List.set_cons_succ, i64_w, i32_w]
                rfl
               refine pure_ (i := 4) (N := some 99) (v := ?_) (a' := ?_) #[true, false, true, false, true, false, false, false, false, false, false, false, false, false, false, false, false, false] rfl rfl (any_of HT_.out (by kernel_rfl)) (fun _ _ _ h => h) (Or.inl ⟨by rfl, ?_⟩) ?_ ?_
               rotate_left
               ·intro w'
                go_simp
                with_reducible rfl
               rotate_left
               ·simp only [Act.put, List.setIfInBounds_toArray, List.set_cons_zero, List.set_cons_succ, i64_w, i32_w]
                rfl
               refine take_ (i := 1) (N := some 96) (v := ?_) (a' := ?_) #[true, true, true, false, true, false, false, false, false, false, false, false, false, false, false, false, false, false] rfl rfl (take_ofW HT_.out HW_.out (by kernel_rfl)) (fun _ _ _ h => h) (Or.inl ⟨by rfl, ?_⟩) hHeld ?_ ?_
               rotate_left
               ·rintro w' ⟨s0, s1, s2, s3, s4, s5, s6⟩
                go_simp
                with_reducible rfl
               rotate_left
               ·simp only [Act.put, List.setIfInBounds_toArray, List.set_cons_zero, List.set_cons_succ, i64_w, i32_w]
                rfl
               refine take_ (i := 3) (N := some 98) (v := ?_) (a' := ?_) #[true, true, true, true, true, false, false, false, false, false, false, false, false, false, false, false, false, false] rfl rfl (take_ofW HT_.out HW_.out (by kernel_rfl)) (fun _ _ _ h => h) (Or.inl ⟨by rfl, ?_⟩) hHeld ?_ ?_
               rotate_left
               ·rintro w' ⟨s0, s1, s2, s3, s4, s5, s6⟩
                go_simp
                with_reducible rfl
               rotate_left
               ·simp only [Act.put, List.setIfInBounds_toArray, List.set_cons_zero, List.set_cons_succ, i64_w, i32_w]
                rfl
               refine take_ (i := 5) (N := some 100) (v := ?_) (a' := ?_) #[true, true, true, true, true, true, false, false, false, false, false, false, false, false, false, false, false, false] rfl rfl (take_ofW HT_.out HW_.out (by kernel_rfl)) (fun _ _ _ h => h) (Or.inl ⟨by rfl, ?_⟩) hHeld ?_ ?_
               rotate_left
               ·rintro w' ⟨s0, s1, s2, s3, s4, s5, s6⟩
                go_simp
                with_reducible rfl
               rotate_left
               ·simp only [Act.put, List.setIfInBounds_toArray, List.set_cons_zero, List.set_cons_succ, i64_w, i32_w]
                rfl
               refine pure_ (i := 6) (N := some 101) (v := ?_) (a' := ?_) #[true, true, true, true, true, true, true, false, false, false, false, false, false, false, false, false, false, false] rfl rfl (any_of HT_.out (by kernel_rfl)) (fun _ _ _ h => h) (Or.inl ⟨by rfl, ?_⟩) ?_ ?_
               rotate_left
               ·intro w'
                go_simp
                with_reducible rfl
               rotate_left
               ·simp only [Act.put, List.setIfInBounds_toArray, List.set_cons_zero, List.set_cons_succ, i64_w, i32_w]
                rfl
               refine pure_ (i := 7) (N := some 102) (v := ?_) (a' := ?_) #[true, true, true, true, true, true, true, true, false, false, false, false, false, false, false, false, false, false] rfl rfl (any_of HT_.out (by kernel_rfl)) (fun _ _ _ h => h) (Or.inl ⟨by rfl, ?_⟩) ?_ ?_
               rotate_left
               ·intro w'
                go_simp
                with_reducible rfl
               rotate_left
               ·simp only [Act.put, List.setIfInBounds_toArray, List.set_cons_zero, List.set_cons_succ, i64_w, i32_w]
                rfl
               refine pure_ (i := 8) (N := some 103) (v := ?_) (a' := ?_) #[true, true, true, true, true, true, true, true, true, false, false, false, false, false, false, false, false, false] rfl rfl (any_of HT_.out (by kernel_rfl)) (fun _ _ _ h => h) (Or.inl ⟨by rfl, ?_⟩) ?_ ?_
               rotate_left
               ·intro w'
                go_simp
                with_reducible rfl
               rotate_left
               ·simp only [Act.put, List.setIfInBounds_toArray, List.set_cons_zero, List.set_cons_succ, i64_w, i32_w]
                rfl
               refine take_ (i := 9) (N := some 104) (v := ?_) (a' := ?_) #[true, true, true, true, true, true, true, true, true, true, false, false, false, false, false, false, false, false] rfl rfl (take_ofW HT_.out HW_.out (by kernel_rfl)) (fun _ _ _ h => h) (Or.inl ⟨by rfl, ?_⟩) hHeld ?_ ?_
               rotate_left
               ·rintro w' ⟨s0, s1, s2, s3, s4, s5, s6⟩
                go_simp
                with_reducible rfl
               rotate_left
               ·simp only [Act.put, List.setIfInBounds_toArray, List.set_cons_zero, List.set_cons_succ, i64_w, i32_w]
                rfl
               refine pure_ (i := 10) (N := some 105) (v := ?_) (a' := ?_) #[true, true, true, true, true, true, true, true, true, true, true, false, false, false, false, false, false, false] rfl rfl (any_of HT_.out (by kernel_rfl)) (fun _ _ _ h => h) (Or.inl ⟨by rfl, ?_⟩) ?_ ?_
               rotate_left
               ·intro w'
                go_simp
                with_reducible rfl
               rotate_left
               ·simp only [Act.put, List.setIfInBounds_toArray, List.set_cons_zero, List.set_cons_succ, i64_w, i32_w]
                rfl
               refine pure_ (i := 11) (N := some 106) (v := ?_) (a' := ?_) #[true, true, true, true, true, true, true, true, true, true, true, true, false, false, false, false, false, false] rfl rfl (any_of HT_.out (by kernel_rfl)) (fun _ _ _ h => h) (Or.inl ⟨by rfl, ?_⟩) ?_ ?_
               rotate_left
               ·intro w'
                go_simp
                with_reducible rfl
               rotate_left
               ·simp only [Act.put, List.setIfInBounds_toArray, List.set_cons_zero, List.set_cons_succ, i64_w, i32_w]
                rfl
               refine pure_ (i := 12) (N := some 107) (v := undef) (a' := ?_) #[true, true, true, true, true, true, true, true, true, true, true, true, true, false, false, false, false, false] rfl rfl (any_of HT_.out (by kernel_rfl)) (fun _ _ _ h => h) (Or.inr ⟨by rfl, rfl⟩) ?_ ?_
               rotate_left
               ·simp only [Act.put, List.setIfInBounds_toArray, List.set_cons_zero, List.set_cons_succ, i64_w, i32_w]
                rfl
               refine pure_ (i := 13) (N := some 108) (v := undef) (a' := ?_) #[true, true, true, true, true, true, true, true, true, true, true, true, true, true, false, false, false, false] rfl rfl (any_of HT_.out (by kernel_rfl)) (fun _ _ _ h => h) (Or.inr ⟨by rfl, rfl⟩) ?_ ?_
               rotate_left
               ·simp only [Act.put, List.setIfInBounds_toArray, List.set_cons_zero, List.set_cons_succ, i64_w, i32_w]
                rfl
               refine pure_ (i := 14) (N := some 109) (v := undef) (a' := ?_) #[true, true, true, true, true, true, true, true, true, true, true, true, true, true, true, false, false, false] rfl rfl (any_of HT_.out (by kernel_rfl)) (fun _ _ _ h => h) (Or.inr ⟨by rfl, rfl⟩) ?_ ?_
               rotate_left
               ·simp only [Act.put, List.setIfInBounds_toArray, List.set_cons_zero, List.set_cons_succ, i64_w, i32_w]
                rfl
               refine pure_ (i := 15) (N := some 110) (v := undef) (a' := ?_) #[true, true, true, true, true, true, true, true, true, true, true, true, true, true, true, true, false, false] rfl rfl (any_of HT_.out (by kernel_rfl)) (fun _ _ _ h => h) (Or.inr ⟨by rfl, rfl⟩) ?_ ?_
               rotate_left
               ·simp only [Act.put, List.setIfInBounds_toArray, List.set_cons_zero, List.set_cons_succ, i64_w, i32_w]
                rfl
               refine pure_ (i := 16) (N := some 111) (v := ?_) (a' := ?_) #[true, true, true, true, true, true, true, true, true, true, true, true, true, true, true, true, true, false] rfl rfl (any_of HT_.out (by kernel_rfl)) (fun _ _ _ h => h) (Or.inl ⟨by rfl, ?_⟩) ?_ ?_
               rotate_left
               ·intro w'
                go_simp
                with_reducible rfl
               rotate_left
               ·simp only [Act.put, List.setIfInBounds_toArray, List.set_cons_zero, List.set_cons_succ, i64_w, i32_w]
                rfl
               refine pure_ (i := 17) (N := some 2) (v := ?_) (a' := ?_) #[true, true, true, true, true, true, true, true, true, true, true, true, true, true, true, true, true, true] rfl rfl (any_of HT_.out (by kernel_rfl)) (fun _ _ _ h => h) (Or.inl ⟨by rfl, ?_⟩) ?_ ?_
               rotate_left
               ·intro w'
                go_simp
                with_reducible rfl
               rotate_left
               ·simp only [Act.put, List.setIfInBounds_toArray, List.set_cons_zero, List.set_cons_succ, i64_w, i32_w]
                rfl
               refine done_ (done_of HT_.out (by kernel_rfl)) ?_
               try go_wp2
               go_ret
               exact ⟨by first | rfl | (simp [errW_none, errW_some] <;> rfl) | (simp only [← hji52]; first | rfl | (simp [errW_none, errW_some] <;> rfl)) | (simp [*, errW_none, errW_some] <;> rfl), by repeat (first | (with_reducible first | exact HB.out | apply zc | apply za | apply zb | refine zh ?_ GE166.out | refine zh ?_ GE173.out) | exact HB.out)⟩
             ·rw [if_neg c54] at H
              exact absurd H (by simp)
            ·rw [if_neg c53] at H
             exact absurd H (by simp)
           ·rw [if_neg c51] at H
            have c51b0 : ((wrap64 (a0_0 - (l0_5.length : Int))) == 0) = false := beq_eq_false_iff_ne.mpr c51
            have c51b1 : ((wrap64 (a0_0 - (l0_5.length : Int))) != 0) = true := bne_iff_ne.mpr c51
            replace H := Option.bind_eq_some_iff.mp H
            obtain ⟨⟨t180, t181⟩, A620, H⟩ := H
            replace H : ((spec_WideAdd.f x174000_3 x174001_3 t180 t181).bind fun bt182 => ((spec_WideOf.f a0_3).bind fun bt185 => ((spec_WideAdd.f x174000_3 x174001_3 bt185.1 bt185.2).bind fun bt187 => (if 3 < (l0_5.length : Int) then ((spec_l07Times.f k3 (wrap64 ((wrap64 (a0_0 - (l0_5.length : Int))) - 1)) (rd l0_5 3)).bind fun bt190 => ((spec_WideAdd.f bt187.1 bt187.2 bt190.1 bt190.2).bind fun bt192 => ((spec_WideCmp.f a0_1 a0_2 bt182.1 bt182.2).bind fun t195 => (if t195 ≥ 0 then ((spec_WideCmp.f a0_1 a0_2 bt192.1 bt192.2).bind fun t196 => (some (decide (t196 ≤ 0)))) else (some false))))) else (none))))) = some r := H
            have A62 := zp.mk A620
            clear A620
            replace H := Option.bind_eq_some_iff.mp H
            obtain ⟨⟨t182, t183⟩, A630, H⟩ := H
            replace H : ((spec_WideOf.f a0_3).bind fun bt185 => ((spec_WideAdd.f x174000_3 x174001_3 bt185.1 bt185.2).bind fun bt187 => (if 3 < (l0_5.length : Int) then ((spec_l07Times.f k3 (wrap64 ((wrap64 (a0_0 - (l0_5.length : Int))) - 1)) (rd l0_5 3)).bind fun bt190 => ((spec_WideAdd.f bt187.1 bt187.2 bt190.1 bt190.2).bind fun bt192 => ((spec_WideCmp.f a0_1 a0_2 t182 t183).bind fun t195 => (if t195 ≥ 0 then ((spec_WideCmp.f a0_1 a0_2 bt192.1 bt192.2).bind fun t196 => (some (decide (t196 ≤ 0)))) else (some false))))) else (none)))) = some r := H
            have A63 := zp.mk A630
            clear A630
            replace H := Option.bind_eq_some_iff.mp H
            obtain ⟨⟨t185, t186⟩, A640, H⟩ := H
            replace H : ((spec_WideAdd.f x174000_3 x174001_3 t185 t186).bind fun bt187 => (if 3 < (l0_5.length : Int) then ((spec_l07Times.f k3 (wrap64 ((wrap64 (a0_0 - (l0_5.length : Int))) - 1)) (rd l0_5 3)).bind fun bt190 => ((spec_WideAdd.f bt187.1 bt187.2 bt190.1 bt190.2).bind fun bt192 => ((spec_WideCmp.f a0_1 a0_2 t182 t183).bind fun t195 => (if t195 ≥ 0 then ((spec_WideCmp.f a0_1 a0_2 bt192.1 bt192.2).bind fun t196 => (some (decide (t196 ≤ 0)))) else (some false))))) else (none))) = some r := H
            have A64 := zp.mk A640
            clear A640
            replace H := Option.bind_eq_some_iff.mp H
            obtain ⟨⟨t187, t188⟩, A650, H⟩ := H
            replace H : (if 3 < (l0_5.length : Int) then ((spec_l07Times.f k3 (wrap64 ((wrap64 (a0_0 - (l0_5.length : Int))) - 1)) (rd l0_5 3)).bind fun bt190 => ((spec_WideAdd.f t187 t188 bt190.1 bt190.2).bind fun bt192 => ((spec_WideCmp.f a0_1 a0_2 t182 t183).bind fun t195 => (if t195 ≥ 0 then ((spec_WideCmp.f a0_1 a0_2 bt192.1 bt192.2).bind fun t196 => (some (decide (t196 ≤ 0)))) else (some false))))) else (none)) = some r := H
            have A65 := zp.mk A650
            clear A650
            by_cases c66 : 3 < (l0_5.length : Int)
            ·rw [if_pos c66] at H
             have c66b0 : decide (3 < (l0_5.length : Int)) = true := decide_eq_true c66
             have c66b1 : decide (3 < l0_5.length) = true := decide_eq_true (by omega)
             clear c66
             replace H := Option.bind_eq_some_iff.mp H
             obtain ⟨⟨t190, t191⟩, A670, H⟩ := H
             replace H : ((spec_WideAdd.f t187 t188 t190 t191).bind fun bt192 => ((spec_WideCmp.f a0_1 a0_2 t182 t183).bind fun t195 => (if t195 ≥ 0 then ((spec_WideCmp.f a0_1 a0_2 bt192.1 bt192.2).bind fun t196 => (some (decide (t196 ≤ 0)))) else (some false)))) = some r := H
             have A67 := zp.mk A670
             clear A670
             replace H := Option.bind_eq_some_iff.mp H
             obtain ⟨⟨t192, t193⟩, A680, H⟩ := H
             replace H : ((spec_WideCmp.f a0_1 a0_2 t182 t183).bind fun t195 => (if t195 ≥ 0 then ((spec_WideCmp.f a0_1 a0_2 t192 t193).bind fun t196 => (some (decide (t196 ≤ 0)))) else (some false))) = some r := H
             have A68 := zp.mk A680
             clear A680
             replace H := Option.bind_eq_some_iff.mp H
             obtain ⟨t195, A690, H⟩ := H
             replace H : (if t195 ≥ 0 then ((spec_WideCmp.f a0_1 a0_2 t192 t193).bind fun t196 => (some (decide (t196 ≤ 0)))) else (some false)) = some r := H
             have A69 := zp.mk A690
             clear A690
             by_cases c70 : t195 ≥ 0
             ·rw [if_pos c70] at H
              have c70b0 : decide (0 ≤ t195) = true := decide_eq_true c70
              clear c70
              replace H := Option.bind_eq_some_iff.mp H
              obtain ⟨t196, A710, H⟩ := H
              replace H : (some (decide (t196 ≤ 0))) = some r := H
              have A71 := zp.mk A710
              clear A710
              obtain rfl := Option.some.inj H
              have hnb72 := NB166_173.out
              have hnc72 := NB173_166.out
              have hcz73_0 : wr.cell? ⟨gb166, 0, none⟩ = some (.int .i64 a0_0) := (ze BK166.out 0).trans rfl
              have hcz73_1 : wr.cell? ⟨gb166, 1, none⟩ = some (.int .i64 a0_1) := (ze BK166.out 1).trans rfl
              have hcz73_2 : wr.cell? ⟨gb166, 2, none⟩ = some (.int .u64 a0_2) := (ze BK166.out 2).trans rfl
              have hcz73_3 : wr.cell? ⟨gb166, 3, none⟩ = some (.int .i64 a0_3) := (ze BK166.out 3).trans rfl
              have hcz73_4 : wr.cell? ⟨gb166, 4, none⟩ = some (.int .i64 a0_4) := (ze BK166.out 4).trans rfl
              have hcz73_5 : wr.cell? ⟨gb166, 5, none⟩ = some (.slice A0_5 l0_5.length c0_5) := (ze BK166.out 5).trans rfl
              have hfz73_0 := zd BK166.out 0
              have hfz73_1 := zd BK166.out 1
              have hfz73_2 := zd BK166.out 2
              have hfz73_3 := zd BK166.out 3
              have hfz73_4 := zd BK166.out 4
              have hfz73_5 := zd BK166.out 5
              try go_wp2
              have n0_ := zp.mk (zi BK166.out)
              have n1_ := zp.mk (zi BK173.out)
              have n2_ := zp.mk (zb HB.out)
              clear BK166
              clear BK173
              clear HB
              have BK166 := n0_
              have BK173 := n1_
              have HB := n2_
              clear n0_ n1_ n2_
              refine start_ (n := 8) (S := fun w' => True) (ds := []) #[false, false, false, false, false, false, false, false] (by kernel_rfl) rfl rfl trivial (fun hHeld => ?_); refine with_tabW spec_AggOk.tab15 spec_AggOk.bits15 (fun HT_ HW_ => ?_)
              generalize wr.drew = w74 at BK166 BK173 HB hHeld ⊢
              refine pure_ (i := 1) (N := some 113) (v := ?_) (a' := ?_) #[false, true, false, false, false, false, false, false] rfl rfl (any_of HT_.out (by kernel_rfl)) (fun _ _ _ h => h) (Or.inl ⟨by rfl, ?_⟩) ?_ ?_
              rotate_left
              ·intro w'
               go_simp
               with_reducible rfl
              rotate_left
              ·simp only [Act.put, List.setIfInBounds_toArray, List.set_cons_zero, List.set_cons_succ, i64_w, i32_w]
               rfl
              refine pure_ (i := 2) (N := some 114) (v := ?_) (a' := ?_) #[false, true, true, false, false, false, false, false] rfl rfl (any_of HT_.out (by kernel_rfl)) (fun _ _ _ h => h) (Or.inl ⟨by rfl, ?_⟩) ?_ ?_
              rotate_left
              ·intro w'
               go_simp
               with_reducible rfl
              rotate_left
              ·simp only [Act.put, List.setIfInBounds_toArray, List.set_cons_zero, List.set_cons_succ, i64_w, i32_w]
               rfl
              refine inv_at [0, 3, 4, 5, 6, 7] (fun a0_ b a w' => ∃ (gb184 : Nat) (m6_ : Value), a = putSel a0_ b [(0, 112, .agg #[.int .i64 x174000_3, .int .u64 x174001_3]), (3, 115, .int .i64 a0_3), (4, 116, .agg #[.int .i64 t180, .int .u64 t181]), (5, 117, .agg #[.int .i64 t182, .int .u64 t183]), (6, 6, m6_)] ∧ (w'.heap[gb166]? = some (.cells #[.int .i64 a0_0, .int .i64 a0_1, .int .u64 a0_2, .int .i64 a0_3, .int .i64 a0_4, .slice A0_5 l0_5.length c0_5] 32 (0, 0))) ∧ (w'.heap[gb173]? = some (.cells #[.int .i64 x174000_3, .int .u64 x174001_3] 30 (0, 0))) ∧ (Below w.heap.size w w') ∧ (b 6 = true → b 7 = false → w'.heap[gb184]? = some (.cells #[.int .i64 0, .int .u64 0] 30 (0, 0))) ∧ (b 6 = true → w.heap.size ≤ gb184) ∧ (b 6 = true → w.heap.size ≤ gb184) ∧ (b 6 = true → gb166 ≠ gb184) ∧ (b 6 = true → gb184 ≠ gb166) ∧ (b 6 = true → gb173 ≠ gb184) ∧ (b 6 = true → gb184 ≠ gb173) ∧ (b 7 = true → w'.heap[gb184]? = some (.cells #[.int .i64 t182, .int .u64 t183] 30 (0, 0))) ∧ (b 6 = true → (m6_ : Value) = .pointer (some ⟨gb184, 0, none⟩))) HT_.out HW_.out (by kernel_rfl) (by kernel_rfl) ?_ ?_ ?_
              ·exact ⟨0, .bool false, by simp only [putSel, Bool.false_eq_true, if_false], BK166.out, BK173.out, HB.out, fun h_ => absurd h_ (by decide), fun h_ => absurd h_ (by decide), fun h_ => absurd h_ (by decide), fun h_ => absurd h_ (by decide), fun h_ => absurd h_ (by decide), fun h_ => absurd h_ (by decide), fun h_ => absurd h_ (by decide), fun h_ => absurd h_ (by decide), fun h_ => absurd h_ (by decide)⟩
              ·skip
               clear BK166 BK173 HB
               refine steps_cons ?_ ?_
               ·rintro b a w' ⟨gb184, m6_, ha, Q_BK166, Q_BK173, Q_HB, Q_BK184, Q_GW184, Q_GE184, Q_NB166_184, Q_NB184_166, Q_NB173_184, Q_NB184_173, Q_BK184_e7, Q_X6_⟩ hb_ hon hoff
                refine ⟨_, rfl, fun K hK => ?_⟩
                have e3 : a.tmps[3]? = some (.pointer (some ⟨gb173, 0, none⟩)) := by rw [ha]; exact (putSel_off rfl).trans rfl
                replace ha := zp.mk ha
                have BK166 := zp.mk Q_BK166
                have BK173 := zp.mk Q_BK173
                have HB := zp.mk Q_HB
                have hc0_ : w'.cell? ⟨gb173, 0, none⟩ = some (.int .i64 x174000_3) := (ze BK173.out 0).trans rfl
                have hc1_ : w'.cell? ⟨gb173, 1, none⟩ = some (.int .u64 x174001_3) := (ze BK173.out 1).trans rfl
                refine value_ (w1 := w') (v := .agg #[.int .i64 x174000_3, .int .u64 x174001_3]) (by rfl) rfl ?_ ?_
                ·go_simp
                 (try simp only [i64_w])
                 try rfl
                refine hK.out _ _ ⟨gb184, m6_, (by rw [ha.out]; exact putSel_upk 0 hb_ rfl rfl rfl), Q_BK166, Q_BK173, Q_HB, Q_BK184, Q_GW184, Q_GE184, Q_NB166_184, Q_NB184_166, Q_NB173_184, Q_NB184_173, fun h0_ => absurd ((hoff 7 (by kernel_rfl)).symm.trans h0_) (by decide), Q_X6_⟩
               refine steps_cons ?_ ?_
               ·rintro b a w' ⟨gb184, m6_, ha, Q_BK166, Q_BK173, Q_HB, Q_BK184, Q_GW184, Q_GE184, Q_NB166_184, Q_NB184_166, Q_NB173_184, Q_NB184_173, Q_BK184_e7, Q_X6_⟩ hb_ hon hoff
                refine ⟨_, rfl, fun K hK => ?_⟩
                have e114 : a.tmps[114]? = some (.pointer (some ⟨gb166, 3, none⟩)) := by rw [ha]; exact (putSel_off rfl).trans rfl
                replace ha := zp.mk ha
                have BK166 := zp.mk Q_BK166
                have BK173 := zp.mk Q_BK173
                have HB := zp.mk Q_HB
                have hc0_ : w'.cell? ⟨gb166, 0, none⟩ = some (.int .i64 a0_0) := (ze BK166.out 0).trans rfl
                have hc1_ : w'.cell? ⟨gb166, 1, none⟩ = some (.int .i64 a0_1) := (ze BK166.out 1).trans rfl
                have hc2_ : w'.cell? ⟨gb166, 2, none⟩ = some (.int .u64 a0_2) := (ze BK166.out 2).trans rfl
                have hc3_ : w'.cell? ⟨gb166, 3, none⟩ = some (.int .i64 a0_3) := (ze BK166.out 3).trans rfl
                have hc4_ : w'.cell? ⟨gb166, 4, none⟩ = some (.int .i64 a0_4) := (ze BK166.out 4).trans rfl
                have hc5_ : w'.cell? ⟨gb166, 5, none⟩ = some (.slice A0_5 l0_5.length c0_5) := (ze BK166.out 5).trans rfl
                refine value_ (w1 := w') (v := .int .i64 a0_3) (by rfl) rfl ?_ ?_
                ·go_simp
                 (try simp only [i64_w])
                 try rfl
                refine hK.out _ _ ⟨gb184, m6_, (by rw [ha.out]; exact putSel_upk 1 hb_ rfl rfl rfl), Q_BK166, Q_BK173, Q_HB, Q_BK184, Q_GW184, Q_GE184, Q_NB166_184, Q_NB184_166, Q_NB173_184, Q_NB184_173, fun h0_ => absurd ((hoff 7 (by kernel_rfl)).symm.trans h0_) (by decide), Q_X6_⟩
               refine steps_cons ?_ ?_
               ·rintro b a w' ⟨gb184, m6_, ha, Q_BK166, Q_BK173, Q_HB, Q_BK184, Q_GW184, Q_GE184, Q_NB166_184, Q_NB184_166, Q_NB173_184, Q_NB184_173, Q_BK184_e7, Q_X6_⟩ hb_ hon hoff
                refine ⟨_, rfl, fun K hK => ?_⟩
                have e113 : a.tmps[113]? = some (.int .i64 (wrap64 (a0_0 - (l0_5.length : Int)))) := by rw [ha]; exact (putSel_off rfl).trans rfl
                have e115 : a.tmps[115]? = some (.int .i64 a0_3) := by rw [ha]; exact putSel_on (e := (3, 115, .int .i64 a0_3)) 1 rfl rfl (hon 3 (by kernel_rfl)) rfl
                replace ha := zp.mk ha
                have BK166 := zp.mk Q_BK166
                have BK173 := zp.mk Q_BK173
                have HB := zp.mk Q_HB
                refine goes_ Try.func31 (by kernel_rfl) rfl #[.int .i64 (wrap64 (a0_0 - (l0_5.length : Int))), .int .i64 a0_3] (by rfl) rfl rfl (by first | (simp only [List.map_toArray, List.map_cons, List.map_nil, Act.eval, Array.getD_eq_getD_getElem?, Option.getD_some, e113, e115]; done) | (simp only [List.map_toArray, List.map_cons, List.map_nil, Act.eval, Array.getD_eq_getD_getElem?, Option.getD_some, e113, e115]; rfl)) ?_
                with_reducible refine (spec_l07Times.calls k3 (wrap64 (a0_0 - (l0_5.length : Int))) a0_3 t180 t181 _ A62.out).mono ?_
                rintro e w75 ⟨rfl, hb⟩
                refine ⟨_, rfl, ?_⟩
                have n0_ := zp.mk (zl (g := gb166) (o := .cells #[.int .i64 a0_0, .int .i64 a0_1, .int .u64 a0_2, .int .i64 a0_3, .int .i64 a0_4, .slice A0_5 l0_5.length c0_5] 32 (0, 0)) (by (with_reducible repeat (first | refine zf ?_ _ | refine zi ?_ | refine zg ?_ _)); exact BK166.out) hb)
                have n1_ := zp.mk (zl (g := gb173) (o := .cells #[.int .i64 x174000_3, .int .u64 x174001_3] 30 (0, 0)) (by (with_reducible repeat (first | refine zf ?_ _ | refine zi ?_ | refine zg ?_ _)); exact BK173.out) hb)
                have n2_ := zp.mk (zj (by repeat (first | (with_reducible first | exact HB.out | apply zc | apply za | apply zb | refine zh ?_ GE166.out | refine zh ?_ GE173.out) | exact HB.out)) hb)
                have z_BK184 := fun (h0_ : b 6 = true) (h1_ : b 7 = false) => (show w75.heap[gb184]? = some (.cells #[.int .i64 0, .int .u64 0] 30 (0, 0)) from by first | exact (zl (g := gb184) (o := .cells #[.int .i64 0, .int .u64 0] 30 (0, 0)) (by (with_reducible repeat (first | refine zf ?_ _ | refine zi ?_ | refine zg ?_ _)); exact (Q_BK184 h0_ h1_)) hb))
                clear BK166
                clear BK173
                clear HB
                have BK166 := n0_
                have BK173 := n1_
                have HB := n2_
                clear n0_ n1_ n2_
                (try clear hb)
                (try clear hb2)
                (try clear hk)
                (try clear hi)
                refine hK.out _ _ ⟨gb184, m6_, (by rw [ha.out]; exact putSel_upk 2 hb_ rfl rfl rfl), (by (with_reducible repeat (first | refine zf ?_ _ | refine zi ?_ | refine zg ?_ _)); exact BK166.out), (by (with_reducible repeat (first | refine zf ?_ _ | refine zi ?_ | refine zg ?_ _)); exact BK173.out), (by repeat (first | (with_reducible first | exact HB.out | apply zc | apply za | apply zb | refine zh ?_ GE166.out | refine zh ?_ GE173.out) | exact HB.out)), z_BK184, Q_GW184, Q_GE184, Q_NB166_184, Q_NB184_166, Q_NB173_184, Q_NB184_173, fun h0_ => absurd ((hoff 7 (by kernel_rfl)).symm.trans h0_) (by decide), Q_X6_⟩
               refine steps_cons ?_ ?_
               ·rintro b a w' ⟨gb184, m6_, ha, Q_BK166, Q_BK173, Q_HB, Q_BK184, Q_GW184, Q_GE184, Q_NB166_184, Q_NB184_166, Q_NB173_184, Q_NB184_173, Q_BK184_e7, Q_X6_⟩ hb_ hon hoff
                refine ⟨_, rfl, fun K hK => ?_⟩
                have e112 : a.tmps[112]? = some (.agg #[.int .i64 x174000_3, .int .u64 x174001_3]) := by rw [ha]; exact putSel_on (e := (0, 112, .agg #[.int .i64 x174000_3, .int .u64 x174001_3])) 0 rfl rfl (hon 0 (by kernel_rfl)) rfl
                have e116 : a.tmps[116]? = some (.agg #[.int .i64 t180, .int .u64 t181]) := by rw [ha]; exact putSel_on (e := (4, 116, .agg #[.int .i64 t180, .int .u64 t181])) 2 rfl rfl (hon 4 (by kernel_rfl)) rfl
                replace ha := zp.mk ha
                have BK166 := zp.mk Q_BK166
                have BK173 := zp.mk Q_BK173
                have HB := zp.mk Q_HB
                refine goes_ Try.func29 (by kernel_rfl) rfl #[.agg #[.int .i64 x174000_3, .int .u64 x174001_3], .agg #[.int .i64 t180, .int .u64 t181]] (by rfl) rfl rfl (by first | (simp only [List.map_toArray, List.map_cons, List.map_nil, Act.eval, Array.getD_eq_getD_getElem?, Option.getD_some, e112, e116]; done) | (simp only [List.map_toArray, List.map_cons, List.map_nil, Act.eval, Array.getD_eq_getD_getElem?, Option.getD_some, e112, e116]; rfl)) ?_
                with_reducible refine (spec_WideAdd.calls x174000_3 x174001_3 t180 t181 t182 t183 _ A63.out).mono ?_
                rintro e w77 ⟨rfl, hb⟩
                refine ⟨_, rfl, ?_⟩
                have n0_ := zp.mk (zl (g := gb166) (o := .cells #[.int .i64 a0_0, .int .i64 a0_1, .int .u64 a0_2, .int .i64 a0_3, .int .i64 a0_4, .slice A0_5 l0_5.length c0_5] 32 (0, 0)) (by (with_reducible repeat (first | refine zf ?_ _ | refine zi ?_ | refine zg ?_ _)); exact BK166.out) hb)
                have n1_ := zp.mk (zl (g := gb173) (o := .cells #[.int .i64 x174000_3, .int .u64 x174001_3] 30 (0, 0)) (by (with_reducible repeat (first | refine zf ?_ _ | refine zi ?_ | refine zg ?_ _)); exact BK173.out) hb)
                have n2_ := zp.mk (zj (by repeat (first | (with_reducible first | exact HB.out | apply zc | apply za | apply zb | refine zh ?_ GE166.out | refine zh ?_ GE173.out) | exact HB.out)) hb)
                have z_BK184 := fun (h0_ : b 6 = true) (h1_ : b 7 = false) => (show w77.heap[gb184]? = some (.cells #[.int .i64 0, .int .u64 0] 30 (0, 0)) from by first | exact (zl (g := gb184) (o := .cells #[.int .i64 0, .int .u64 0] 30 (0, 0)) (by (with_reducible repeat (first | refine zf ?_ _ | refine zi ?_ | refine zg ?_ _)); exact (Q_BK184 h0_ h1_)) hb))
                clear BK166
                clear BK173
                clear HB
                have BK166 := n0_
                have BK173 := n1_
                have HB := n2_
                clear n0_ n1_ n2_
                (try clear hb)
                (try clear hb2)
                (try clear hk)
                (try clear hi)
                refine hK.out _ _ ⟨gb184, m6_, (by rw [ha.out]; exact putSel_upk 3 hb_ rfl rfl rfl), (by (with_reducible repeat (first | refine zf ?_ _ | refine zi ?_ | refine zg ?_ _)); exact BK166.out), (by (with_reducible repeat (first | refine zf ?_ _ | refine zi ?_ | refine zg ?_ _)); exact BK173.out), (by repeat (first | (with_reducible first | exact HB.out | apply zc | apply za | apply zb | refine zh ?_ GE166.out | refine zh ?_ GE173.out) | exact HB.out)), z_BK184, Q_GW184, Q_GE184, Q_NB166_184, Q_NB184_166, Q_NB173_184, Q_NB184_173, fun h0_ => absurd ((hoff 7 (by kernel_rfl)).symm.trans h0_) (by decide), Q_X6_⟩
               refine steps_cons ?_ ?_
               ·rintro b a w' ⟨gb184, m6_, ha, Q_BK166, Q_BK173, Q_HB, Q_BK184, Q_GW184, Q_GE184, Q_NB166_184, Q_NB184_166, Q_NB173_184, Q_NB184_173, Q_BK184_e7, Q_X6_⟩ hb_ hon hoff
                refine ⟨_, rfl, fun K hK => ?_⟩
                replace ha := zp.mk ha
                have BK166 := zp.mk Q_BK166
                have BK173 := zp.mk Q_BK173
                have HB := zp.mk Q_HB
                refine box_step ?hg (N := 6) ?hd (cs := #[.int .i64 0, .int .u64 0]) (t := 30) ?hr ?_; (case hd => rfl); (case hg => rfl); (case hr => first | (go_simp; done) | (go_simp; rfl))
                intro gb184 hg w75 hbox hb
                have n0_ := zp.mk (zl (g := gb166) (o := .cells #[.int .i64 a0_0, .int .i64 a0_1, .int .u64 a0_2, .int .i64 a0_3, .int .i64 a0_4, .slice A0_5 l0_5.length c0_5] 32 (0, 0)) (by (with_reducible repeat (first | refine zf ?_ _ | refine zi ?_ | refine zg ?_ _)); exact BK166.out) hb)
                have n1_ := zp.mk (zl (g := gb173) (o := .cells #[.int .i64 x174000_3, .int .u64 x174001_3] 30 (0, 0)) (by (with_reducible repeat (first | refine zf ?_ _ | refine zi ?_ | refine zg ?_ _)); exact BK173.out) hb)
                have n2_ := zp.mk (zj (by repeat (first | (with_reducible first | exact HB.out | apply zc | apply za | apply zb | refine zh ?_ GE166.out | refine zh ?_ GE173.out) | exact HB.out)) hb)
                have n3_ := zp.mk (hbox)
                have n4_ := zp.mk ((by rw [hg]; exact (zk (by repeat (first | (with_reducible first | exact HB.out | apply zc | apply za | apply zb | refine zh ?_ GE166.out | refine zh ?_ GE173.out) | exact HB.out))) : w.heap.size ≤ gb184))
                have n5_ := zp.mk ((by rw [hg]; exact (zk (by repeat (first | (with_reducible first | exact HB.out | apply zc | apply za | apply zb | refine zh ?_ GE166.out | refine zh ?_ GE173.out) | exact HB.out))) : w.heap.size ≤ gb184))
                have n6_ := zp.mk ((by rw [hg]; exact Nat.ne_of_lt (blk_lt (g := gb166) (o := .cells #[.int .i64 a0_0, .int .i64 a0_1, .int .u64 a0_2, .int .i64 a0_3, .int .i64 a0_4, .slice A0_5 l0_5.length c0_5] 32 (0, 0)) (by (with_reducible repeat (first | refine zf ?_ _ | refine zi ?_ | refine zg ?_ _)); exact BK166.out)) : gb166 ≠ gb184))
                have n7_ := zp.mk ((by rw [hg]; exact Nat.ne_of_gt (blk_lt (g := gb166) (o := .cells #[.int .i64 a0_0, .int .i64 a0_1, .int .u64 a0_2, .int .i64 a0_3, .int .i64 a0_4, .slice A0_5 l0_5.length c0_5] 32 (0, 0)) (by (with_reducible repeat (first | refine zf ?_ _ | refine zi ?_ | refine zg ?_ _)); exact BK166.out)) : gb184 ≠ gb166))
                have n8_ := zp.mk ((by rw [hg]; exact Nat.ne_of_lt (blk_lt (g := gb173) (o := .cells #[.int .i64 x174000_3, .int .u64 x174001_3] 30 (0, 0)) (by (with_reducible repeat (first | refine zf ?_ _ | refine zi ?_ | refine zg ?_ _)); exact BK173.out)) : gb173 ≠ gb184))
                have n9_ := zp.mk ((by rw [hg]; exact Nat.ne_of_gt (blk_lt (g := gb173) (o := .cells #[.int .i64 x174000_3, .int .u64 x174001_3] 30 (0, 0)) (by (with_reducible repeat (first | refine zf ?_ _ | refine zi ?_ | refine zg ?_ _)); exact BK173.out)) : gb184 ≠ gb173))
                clear BK166
                clear BK173
                clear HB
                have BK166 := n0_
                have BK173 := n1_
                have HB := n2_
                have BK184 := n3_
                have GW184 := n4_
                have GE184 := n5_
                have NB166_184 := n6_
                have NB184_166 := n7_
                have NB173_184 := n8_
                have NB184_173 := n9_
                clear n0_ n1_ n2_ n3_ n4_ n5_ n6_ n7_ n8_ n9_
                clear hb hbox hg
                refine hK.out _ _ ⟨gb184, (.pointer (some ⟨gb184, 0, none⟩)), (by rw [ha.out]; exact putSel_upk 4 hb_ rfl rfl rfl), (by (with_reducible repeat (first | refine zf ?_ _ | refine zi ?_ | refine zg ?_ _)); exact BK166.out), (by (with_reducible repeat (first | refine zf ?_ _ | refine zi ?_ | refine zg ?_ _)); exact BK173.out), (by repeat (first | (with_reducible first | exact HB.out | apply zc | apply za | apply zb | refine zh ?_ GE166.out | refine zh ?_ GE173.out | refine zh ?_ GE184.out) | exact HB.out)), fun _ _ => (by (with_reducible repeat (first | refine zf ?_ _ | refine zi ?_ | refine zg ?_ _)); exact BK184.out), fun _ => GW184.out, fun _ => GE184.out, fun _ => NB166_184.out, fun _ => NB184_166.out, fun _ => NB173_184.out, fun _ => NB184_173.out, fun h0_ => absurd ((hoff 7 (by kernel_rfl)).symm.trans h0_) (by decide), fun _ => rfl⟩
               refine steps_cons ?_ ?_
               ·rintro b a w' ⟨gb184, m6_, ha, Q_BK166, Q_BK173, Q_HB, Q_BK184, Q_GW184, Q_GE184, Q_NB166_184, Q_NB184_166, Q_NB173_184, Q_NB184_173, Q_BK184_e7, Q_X6_⟩ hb_ hon hoff
                refine ⟨_, rfl, fun K hK => ?_⟩
                have e6 : a.tmps[6]? = some (m6_) := by rw [ha]; exact putSel_on (e := (6, 6, m6_)) 4 rfl rfl (hon 6 (by kernel_rfl)) rfl
                rw [Q_X6_ (hon 6 (by kernel_rfl))] at e6
                have e117 : a.tmps[117]? = some (.agg #[.int .i64 t182, .int .u64 t183]) := by rw [ha]; exact putSel_on (e := (5, 117, .agg #[.int .i64 t182, .int .u64 t183])) 3 rfl rfl (hon 5 (by kernel_rfl)) rfl
                replace ha := zp.mk ha
                have BK166 := zp.mk Q_BK166
                have BK173 := zp.mk Q_BK173
                have HB := zp.mk Q_HB
                have BK184 := zp.mk (Q_BK184 (hon 6 (by kernel_rfl)) hb_)
                have GW184 := zp.mk (Q_GW184 (hon 6 (by kernel_rfl)))
                have GE184 := zp.mk (Q_GE184 (hon 6 (by kernel_rfl)))
                have NB166_184 := zp.mk (Q_NB166_184 (hon 6 (by kernel_rfl)))
                have NB184_166 := zp.mk (Q_NB184_166 (hon 6 (by kernel_rfl)))
                have NB173_184 := zp.mk (Q_NB173_184 (hon 6 (by kernel_rfl)))
                have NB184_173 := zp.mk (Q_NB184_173 (hon 6 (by kernel_rfl)))
                have hs79 : w'.cell? ⟨gb184, 0, none⟩ = some (.int .i64 0) := (ze BK184.out 0).trans rfl
                have hfs79 := zd BK184.out 0
                have hns79_0 := NB166_184.out
                have hns79_1 := NB173_184.out
                have hms79_0 := NB184_166.out
                have hms79_1 := NB184_173.out
                have hs80 : w'.cell? ⟨gb184, 1, none⟩ = some (.int .u64 0) := (ze BK184.out 1).trans rfl
                have hfs80 := zd BK184.out 1
                have hns80_0 := NB166_184.out
                have hns80_1 := NB173_184.out
                have hms80_0 := NB184_166.out
                have hms80_1 := NB184_173.out
                refine skip_ (w1 := ?_) (by rfl) rfl ?_ ?_
                rotate_left
                ·go_simp
                 rfl
                refine hK.out _ _ ⟨gb184, m6_, (by rw [ha.out]; exact putSel_none (v := undef) rfl), (by (with_reducible repeat (first | refine zf ?_ _ | refine zi ?_ | refine zg ?_ _)); refine blk_far ?_ NB166_184.out _; (with_reducible repeat (first | refine zf ?_ _ | refine zi ?_ | refine zg ?_ _)); refine blk_far ?_ NB166_184.out _; (with_reducible repeat (first | refine zf ?_ _ | refine zi ?_ | refine zg ?_ _)); exact BK166.out), (by (with_reducible repeat (first | refine zf ?_ _ | refine zi ?_ | refine zg ?_ _)); refine blk_far ?_ NB173_184.out _; (with_reducible repeat (first | refine zf ?_ _ | refine zi ?_ | refine zg ?_ _)); refine blk_far ?_ NB173_184.out _; (with_reducible repeat (first | refine zf ?_ _ | refine zi ?_ | refine zg ?_ _)); exact BK173.out), (by repeat (first | (with_reducible first | exact HB.out | apply zc | apply za | apply zb | refine zh ?_ GE166.out | refine zh ?_ GE173.out | refine zh ?_ GE184.out) | exact HB.out)), fun _ h1_ => absurd ((up_self b 7).symm.trans h1_) (by decide), fun _ => GW184.out, fun _ => GE184.out, fun _ => NB166_184.out, fun _ => NB184_166.out, fun _ => NB173_184.out, fun _ => NB184_173.out, fun _ => (by (with_reducible repeat (first | refine zf ?_ _ | refine zi ?_ | refine zg ?_ _)); refine blk_put (cs := #[.int .i64 t182, .int .u64 0]) ?_ 1 _ rfl; (with_reducible repeat (first | refine zf ?_ _ | refine zi ?_ | refine zg ?_ _)); refine blk_put (cs := #[.int .i64 0, .int .u64 0]) ?_ 0 _ rfl; (with_reducible repeat (first | refine zf ?_ _ | refine zi ?_ | refine zg ?_ _)); exact BK184.out), Q_X6_⟩
               exact steps_nil
              rintro b a w80 hall ⟨gb184, m6_, ha, Q_BK166, Q_BK173, Q_HB, Q_BK184, Q_GW184, Q_GE184, Q_NB166_184, Q_NB184_166, Q_NB173_184, Q_NB184_173, Q_BK184_e7, Q_X6_⟩
              clear BK166 BK173 HB
              have hb0_ := hall 0 (by kernel_rfl)
              have hb3_ := hall 3 (by kernel_rfl)
              have hb4_ := hall 4 (by kernel_rfl)
              have hb5_ := hall 5 (by kernel_rfl)
              have hb6_ := hall 6 (by kernel_rfl)
              have hb7_ := hall 7 (by kernel_rfl)
              subst ha
              obtain rfl := Q_X6_ hb6_
              simp only [putSel, hb0_, hb3_, hb4_, hb5_, hb6_, hb7_, if_true, Act.put, List.setIfInBounds_toArray, List.set_cons_zero, List.set_cons_succ]
              have BK166 := zp.mk Q_BK166
              clear Q_BK166
              have BK173 := zp.mk Q_BK173
              clear Q_BK173
              have HB := zp.mk Q_HB
              clear Q_HB
              clear Q_BK184
              have GW184 := zp.mk (Q_GW184 hb6_)
              clear Q_GW184
              have GE184 := zp.mk (Q_GE184 hb6_)
              clear Q_GE184
              have NB166_184 := zp.mk (Q_NB166_184 hb6_)
              clear Q_NB166_184
              have NB184_166 := zp.mk (Q_NB184_166 hb6_)
              clear Q_NB184_166
              have NB173_184 := zp.mk (Q_NB173_184 hb6_)
              clear Q_NB173_184
              have NB184_173 := zp.mk (Q_NB184_173 hb6_)
              clear Q_NB184_173
              have BK184 := zp.mk (Q_BK184_e7 hb7_)
              clear Q_BK184_e7
              clear hall hb0_ hb3_ hb4_ hb5_ hb6_ hb7_
              try go_wp2
              have n0_ := zp.mk (zi BK166.out)
              have n1_ := zp.mk (zi BK173.out)
              have n2_ := zp.mk (zi BK184.out)
              have n3_ := zp.mk (zb HB.out)
              clear BK166
              clear BK173
              clear BK184
              clear HB
              have BK166 := n0_
              have BK173 := n1_
              have BK184 := n2_
              have HB := n3_
              clear n0_ n1_ n2_ n3_
              have p189 : 0 ≤ (3 : Int) := (by omega)
              have q189 : 3 < (l0_5.length : Int) := of_decide_eq_true (by first | (with_reducible assumption) | assumption)
              obtain ⟨ad189, e189, hx189_0⟩ := Kd.at_int HR0_5.out 3 p189 q189
              have hw189_0 := hx189_0
              (try rw [show ((3 : Int)).toNat = 3 from rfl] at hw189_0)
              (try rw [show 3 * 1 = 3 from rfl] at hw189_0)
              (try simp only [Nat.reduceMul, Nat.reduceEqDiff, Go.Addr.add, ↓reduceIte] at hw189_0)
              cases e189
              (try simp only [show (3 : Int).toNat = 3 from rfl, Nat.reduceMul, Nat.reduceEqDiff, Go.Addr.add, ↓reduceIte] at hx189_0)
              have qi189 : (3 < l0_5.length) = True := eq_true (by omega)
              (try rw [show ((3 : Int)).toNat = 3 from rfl] at hx189_0)
              replace hx189_0 := (HB.out.cell (World.block_lt_of_cell? w _ hx189_0)).trans hx189_0
              replace p189 := eq_true p189
              replace q189 := eq_true q189
              refine start_ (n := 15) (S := fun w' => True) (ds := []) #[false, false, false, false, false, false, false, false, false, false, false, false, false, false, false] (by kernel_rfl) rfl rfl trivial (fun hHeld => ?_); refine with_tabW spec_AggOk.tab16 spec_AggOk.bits16 (fun HT_ HW_ => ?_)
              generalize w80.drew = w81 at BK166 BK173 BK184 HB hx189_0 hHeld ⊢
              refine pure_ (i := 1) (N := some 119) (v := ?_) (a' := ?_) #[false, true, false, false, false, false, false, false, false, false, false, false, false, false, false] rfl rfl (any_of HT_.out (by kernel_rfl)) (fun _ _ _ h => h) (Or.inl ⟨by rfl, ?_⟩) ?_ ?_
              rotate_left
              ·intro w'
               go_simp
               with_reducible rfl
              rotate_left
              ·simp only [Act.put, List.setIfInBounds_toArray, List.set_cons_zero, List.set_cons_succ, i64_w, i32_w]
               rfl
              refine pure_ (i := 5) (N := some 123) (v := ?_) (a' := ?_) #[false, true, false, false, false, true, false, false, false, false, false, false, false, false, false] rfl rfl (any_of HT_.out (by kernel_rfl)) (fun _ _ _ h => h) (Or.inl ⟨by rfl, ?_⟩) ?_ ?_
              rotate_left
              ·intro w'
               go_simp
               with_reducible rfl
              rotate_left
              ·simp only [Act.put, List.setIfInBounds_toArray, List.set_cons_zero, List.set_cons_succ, i64_w, i32_w]
               rfl
              refine pure_ (i := 7) (N := some 125) (v := ?_) (a' := ?_) #[false, true, false, false, false, true, false, true, false, false, false, false, false, false, false] rfl rfl (any_of HT_.out (by kernel_rfl)) (fun _ _ _ h => h) (Or.inl ⟨by rfl, ?_⟩) ?_ ?_
              rotate_left
              ·intro w'
               go_simp
               with_reducible rfl
              rotate_left
              ·simp only [Act.put, List.setIfInBounds_toArray, List.set_cons_zero, List.set_cons_succ, i64_w, i32_w]
               rfl
              refine inv_at [0, 2, 3, 4, 6, 8, 9, 10, 11, 12, 13, 14] (fun a0_ b a w' => ∃ (gb194 : Nat) (m13_ : Value), a = putSel a0_ b [(0, 118, .agg #[.int .i64 x174000_3, .int .u64 x174001_3]), (2, 120, .int .i64 a0_3), (3, 121, .agg #[.int .i64 t185, .int .u64 t186]), (4, 122, .agg #[.int .i64 t187, .int .u64 t188]), (6, 124, .int .i64 (wrap64 ((wrap64 (a0_0 - (l0_5.length : Int))) - 1))), (8, 126, .slice (some ad189) l0_5.length c0_5), (9, 127, .pointer (some (ad189.add 3))), (10, 128, .int .i64 (rd l0_5 3)), (11, 129, .agg #[.int .i64 t190, .int .u64 t191]), (12, 130, .agg #[.int .i64 t192, .int .u64 t193]), (13, 7, m13_)] ∧ (w'.heap[gb166]? = some (.cells #[.int .i64 a0_0, .int .i64 a0_1, .int .u64 a0_2, .int .i64 a0_3, .int .i64 a0_4, .slice (some ad189) l0_5.length c0_5] 32 (0, 0))) ∧ (w'.heap[gb173]? = some (.cells #[.int .i64 x174000_3, .int .u64 x174001_3] 30 (0, 0))) ∧ (w'.heap[gb184]? = some (.cells #[.int .i64 t182, .int .u64 t183] 30 (0, 0))) ∧ (Below w.heap.size w w') ∧ (b 13 = true → b 14 = false → w'.heap[gb194]? = some (.cells #[.int .i64 0, .int .u64 0] 30 (0, 0))) ∧ (b 13 = true → w.heap.size ≤ gb194) ∧ (b 13 = true → w.heap.size ≤ gb194) ∧ (b 13 = true → gb166 ≠ gb194) ∧ (b 13 = true → gb194 ≠ gb166) ∧ (b 13 = true → gb173 ≠ gb194) ∧ (b 13 = true → gb194 ≠ gb173) ∧ (b 13 = true → gb184 ≠ gb194) ∧ (b 13 = true → gb194 ≠ gb184) ∧ (b 14 = true → w'.heap[gb194]? = some (.cells #[.int .i64 t192, .int .u64 t193] 30 (0, 0))) ∧ (b 13 = true → (m13_ : Value) = .pointer (some ⟨gb194, 0, none⟩))) HT_.out HW_.out (by kernel_rfl) (by kernel_rfl) ?_ ?_ ?_
              ·exact ⟨0, .bool false, by simp only [putSel, Bool.false_eq_true, if_false], BK166.out, BK173.out, BK184.out, HB.out, fun h_ => absurd h_ (by decide), fun h_ => absurd h_ (by decide), fun h_ => absurd h_ (by decide), fun h_ => absurd h_ (by decide), fun h_ => absurd h_ (by decide), fun h_ => absurd h_ (by decide), fun h_ => absurd h_ (by decide), fun h_ => absurd h_ (by decide), fun h_ => absurd h_ (by decide), fun h_ => absurd h_ (by decide), fun h_ => absurd h_ (by decide)⟩
              ·skip
               clear BK166 BK173 BK184 HB
               refine steps_cons ?_ ?_
               ·rintro b a w' ⟨gb194, m13_, ha, Q_BK166, Q_BK173, Q_BK184, Q_HB, Q_BK194, Q_GW194, Q_GE194, Q_NB166_194, Q_NB194_166, Q_NB173_194, Q_NB194_173, Q_NB184_194, Q_NB194_184, Q_BK194_e14, Q_X13_⟩ hb_ hon hoff
                refine ⟨_, rfl, fun K hK => ?_⟩
                have e3 : a.tmps[3]? = some (.pointer (some ⟨gb173, 0, none⟩)) := by rw [ha]; exact (putSel_off rfl).trans rfl
                replace ha := zp.mk ha
                have BK166 := zp.mk Q_BK166
                have BK173 := zp.mk Q_BK173
                have BK184 := zp.mk Q_BK184
                have HB := zp.mk Q_HB
                have hc0_ : w'.cell? ⟨gb173, 0, none⟩ = some (.int .i64 x174000_3) := (ze BK173.out 0).trans rfl
                have hc1_ : w'.cell? ⟨gb173, 1, none⟩ = some (.int .u64 x174001_3) := (ze BK173.out 1).trans rfl
                refine value_ (w1 := w') (v := .agg #[.int .i64 x174000_3, .int .u64 x174001_3]) (by rfl) rfl ?_ ?_
                ·go_simp
                 (try simp only [i64_w])
                 try rfl
                refine hK.out _ _ ⟨gb194, m13_, (by rw [ha.out]; exact putSel_upk 0 hb_ rfl rfl rfl), Q_BK166, Q_BK173, Q_BK184, Q_HB, Q_BK194, Q_GW194, Q_GE194, Q_NB166_194, Q_NB194_166, Q_NB173_194, Q_NB194_173, Q_NB184_194, Q_NB194_184, fun h0_ => absurd ((hoff 14 (by kernel_rfl)).symm.trans h0_) (by decide), Q_X13_⟩
               refine steps_cons ?_ ?_
               ·rintro b a w' ⟨gb194, m13_, ha, Q_BK166, Q_BK173, Q_BK184, Q_HB, Q_BK194, Q_GW194, Q_GE194, Q_NB166_194, Q_NB194_166, Q_NB173_194, Q_NB194_173, Q_NB184_194, Q_NB194_184, Q_BK194_e14, Q_X13_⟩ hb_ hon hoff
                refine ⟨_, rfl, fun K hK => ?_⟩
                have e119 : a.tmps[119]? = some (.pointer (some ⟨gb166, 3, none⟩)) := by rw [ha]; exact (putSel_off rfl).trans rfl
                replace ha := zp.mk ha
                have BK166 := zp.mk Q_BK166
                have BK173 := zp.mk Q_BK173
                have BK184 := zp.mk Q_BK184
                have HB := zp.mk Q_HB
                have hc0_ : w'.cell? ⟨gb166, 0, none⟩ = some (.int .i64 a0_0) := (ze BK166.out 0).trans rfl
                have hc1_ : w'.cell? ⟨gb166, 1, none⟩ = some (.int .i64 a0_1) := (ze BK166.out 1).trans rfl
                have hc2_ : w'.cell? ⟨gb166, 2, none⟩ = some (.int .u64 a0_2) := (ze BK166.out 2).trans rfl
                have hc3_ : w'.cell? ⟨gb166, 3, none⟩ = some (.int .i64 a0_3) := (ze BK166.out 3).trans rfl
                have hc4_ : w'.cell? ⟨gb166, 4, none⟩ = some (.int .i64 a0_4) := (ze BK166.out 4).trans rfl
                have hc5_ : w'.cell? ⟨gb166, 5, none⟩ = some (.slice (some ad189) l0_5.length c0_5) := (ze BK166.out 5).trans rfl
                refine value_ (w1 := w') (v := .int .i64 a0_3) (by rfl) rfl ?_ ?_
                ·go_simp
                 (try simp only [i64_w])
                 try rfl
                refine hK.out _ _ ⟨gb194, m13_, (by rw [ha.out]; exact putSel_upk 1 hb_ rfl rfl rfl), Q_BK166, Q_BK173, Q_BK184, Q_HB, Q_BK194, Q_GW194, Q_GE194, Q_NB166_194, Q_NB194_166, Q_NB173_194, Q_NB194_173, Q_NB184_194, Q_NB194_184, fun h0_ => absurd ((hoff 14 (by kernel_rfl)).symm.trans h0_) (by decide), Q_X13_⟩
               refine steps_cons ?_ ?_
               ·rintro b a w' ⟨gb194, m13_, ha, Q_BK166, Q_BK173, Q_BK184, Q_HB, Q_BK194, Q_GW194, Q_GE194, Q_NB166_194, Q_NB194_166, Q_NB173_194, Q_NB194_173, Q_NB184_194, Q_NB194_184, Q_BK194_e14, Q_X13_⟩ hb_ hon hoff
                refine ⟨_, rfl, fun K hK => ?_⟩
                have e120 : a.tmps[120]? = some (.int .i64 a0_3) := by rw [ha]; exact putSel_on (e := (2, 120, .int .i64 a0_3)) 1 rfl rfl (hon 2 (by kernel_rfl)) rfl
                replace ha := zp.mk ha
                have BK166 := zp.mk Q_BK166
                have BK173 := zp.mk Q_BK173
                have BK184 := zp.mk Q_BK184
                have HB := zp.mk Q_HB
                refine goes_ Try.func30 (by kernel_rfl) rfl #[.int .i64 a0_3] (by rfl) rfl rfl (by first | (simp only [List.map_toArray, List.map_cons, List.map_nil, Act.eval, Array.getD_eq_getD_getElem?, Option.getD_some, e120]; done) | (simp only [List.map_toArray, List.map_cons, List.map_nil, Act.eval, Array.getD_eq_getD_getElem?, Option.getD_some, e120]; rfl)) ?_
                with_reducible refine (spec_WideOf.calls a0_3 t185 t186 _ A64.out).mono ?_
                rintro e w82 ⟨rfl, hb⟩
                refine ⟨_, rfl, ?_⟩
                have n0_ := zp.mk (zl (g := gb166) (o := .cells #[.int .i64 a0_0, .int .i64 a0_1, .int .u64 a0_2, .int .i64 a0_3, .int .i64 a0_4, .slice (some ad189) l0_5.length c0_5] 32 (0, 0)) (by (with_reducible repeat (first | refine zf ?_ _ | refine zi ?_ | refine zg ?_ _)); exact BK166.out) hb)
                have n1_ := zp.mk (zl (g := gb173) (o := .cells #[.int .i64 x174000_3, .int .u64 x174001_3] 30 (0, 0)) (by (with_reducible repeat (first | refine zf ?_ _ | refine zi ?_ | refine zg ?_ _)); exact BK173.out) hb)
                have n2_ := zp.mk (zl (g := gb184) (o := .cells #[.int .i64 t182, .int .u64 t183] 30 (0, 0)) (by (with_reducible repeat (first | refine zf ?_ _ | refine zi ?_ | refine zg ?_ _)); exact BK184.out) hb)
                have n3_ := zp.mk (zj (by repeat (first | (with_reducible first | exact HB.out | apply zc | apply za | apply zb | refine zh ?_ GE166.out | refine zh ?_ GE173.out | refine zh ?_ GE184.out) | exact HB.out)) hb)
                have z_BK194 := fun (h0_ : b 13 = true) (h1_ : b 14 = false) => (show w82.heap[gb194]? = some (.cells #[.int .i64 0, .int .u64 0] 30 (0, 0)) from by first | exact (zl (g := gb194) (o := .cells #[.int .i64 0, .int .u64 0] 30 (0, 0)) (by (with_reducible repeat (first | refine zf ?_ _ | refine zi ?_ | refine zg ?_ _)); exact (Q_BK194 h0_ h1_)) hb))
                clear BK166
                clear BK173
                clear BK184
                clear HB
                have BK166 := n0_
                have BK173 := n1_
                have BK184 := n2_
                have HB := n3_
                clear n0_ n1_ n2_ n3_
                (try clear hb)
                (try clear hb2)
                (try clear hk)
                (try clear hi)
                refine hK.out _ _ ⟨gb194, m13_, (by rw [ha.out]; exact putSel_upk 2 hb_ rfl rfl rfl), (by (with_reducible repeat (first | refine zf ?_ _ | refine zi ?_ | refine zg ?_ _)); exact BK166.out), (by (with_reducible repeat (first | refine zf ?_ _ | refine zi ?_ | refine zg ?_ _)); exact BK173.out), (by (with_reducible repeat (first | refine zf ?_ _ | refine zi ?_ | refine zg ?_ _)); exact BK184.out), (by repeat (first | (with_reducible first | exact HB.out | apply zc | apply za | apply zb | refine zh ?_ GE166.out | refine zh ?_ GE173.out | refine zh ?_ GE184.out) | exact HB.out)), z_BK194, Q_GW194, Q_GE194, Q_NB166_194, Q_NB194_166, Q_NB173_194, Q_NB194_173, Q_NB184_194, Q_NB194_184, fun h0_ => absurd ((hoff 14 (by kernel_rfl)).symm.trans h0_) (by decide), Q_X13_⟩
               refine steps_cons ?_ ?_
               ·rintro b a w' ⟨gb194, m13_, ha, Q_BK166, Q_BK173, Q_BK184, Q_HB, Q_BK194, Q_GW194, Q_GE194, Q_NB166_194, Q_NB194_166, Q_NB173_194, Q_NB194_173, Q_NB184_194, Q_NB194_184, Q_BK194_e14, Q_X13_⟩ hb_ hon hoff
                refine ⟨_, rfl, fun K hK => ?_⟩
                have e118 : a.tmps[118]? = some (.agg #[.int .i64 x174000_3, .int .u64 x174001_3]) := by rw [ha]; exact putSel_on (e := (0, 118, .agg #[.int .i64 x174000_3, .int .u64 x174001_3])) 0 rfl rfl (hon 0 (by kernel_rfl)) rfl
                have e121 : a.tmps[121]? = some (.agg #[.int .i64 t185, .int .u64 t186]) := by rw [ha]; exact putSel_on (e := (3, 121, .agg #[.int .i64 t185, .int .u64 t186])) 2 rfl rfl (hon 3 (by kernel_rfl)) rfl
                replace ha := zp.mk ha
                have BK166 := zp.mk Q_BK166
                have BK173 := zp.mk Q_BK173
                have BK184 := zp.mk Q_BK184
                have HB := zp.mk Q_HB
                refine goes_ Try.func29 (by kernel_rfl) rfl #[.agg #[.int .i64 x174000_3, .int .u64 x174001_3], .agg #[.int .i64 t185, .int .u64 t186]] (by rfl) rfl rfl (by first | (simp only [List.map_toArray, List.map_cons, List.map_nil, Act.eval, Array.getD_eq_getD_getElem?, Option.getD_some, e118, e121]; done) | (simp only [List.map_toArray, List.map_cons, List.map_nil, Act.eval, Array.getD_eq_getD_getElem?, Option.getD_some, e118, e121]; rfl)) ?_
                with_reducible refine (spec_WideAdd.calls x174000_3 x174001_3 t185 t186 t187 t188 _ A65.out).mono ?_
                rintro e w84 ⟨rfl, hb⟩
                refine ⟨_, rfl, ?_⟩
                have n0_ := zp.mk (zl (g := gb166) (o := .cells #[.int .i64 a0_0, .int .i64 a0_1, .int .u64 a0_2, .int .i64 a0_3, .int .i64 a0_4, .slice (some ad189) l0_5.length c0_5] 32 (0, 0)) (by (with_reducible repeat (first | refine zf ?_ _ | refine zi ?_ | refine zg ?_ _)); exact BK166.out) hb)
                have n1_ := zp.mk (zl (g := gb173) (o := .cells #[.int .i64 x174000_3, .int .u64 x174001_3] 30 (0, 0)) (by (with_reducible repeat (first | refine zf ?_ _ | refine zi ?_ | refine zg ?_ _)); exact BK173.out) hb)
                have n2_ := zp.mk (zl (g := gb184) (o := .cells #[.int .i64 t182, .int .u64 t183] 30 (0, 0)) (by (with_reducible repeat (first | refine zf ?_ _ | refine zi ?_ | refine zg ?_ _)); exact BK184.out) hb)
                have n3_ := zp.mk (zj (by repeat (first | (with_reducible first | exact HB.out | apply zc | apply za | apply zb | refine zh ?_ GE166.out | refine zh ?_ GE173.out | refine zh ?_ GE184.out) | exact HB.out)) hb)
                have z_BK194 := fun (h0_ : b 13 = true) (h1_ : b 14 = false) => (show w84.heap[gb194]? = some (.cells #[.int .i64 0, .int .u64 0] 30 (0, 0)) from by first | exact (zl (g := gb194) (o := .cells #[.int .i64 0, .int .u64 0] 30 (0, 0)) (by (with_reducible repeat (first | refine zf ?_ _ | refine zi ?_ | refine zg ?_ _)); exact (Q_BK194 h0_ h1_)) hb))
                clear BK166
                clear BK173
                clear BK184
                clear HB
                have BK166 := n0_
                have BK173 := n1_
                have BK184 := n2_
                have HB := n3_
                clear n0_ n1_ n2_ n3_
                (try clear hb)
                (try clear hb2)
                (try clear hk)
                (try clear hi)
                refine hK.out _ _ ⟨gb194, m13_, (by rw [ha.out]; exact putSel_upk 3 hb_ rfl rfl rfl), (by (with_reducible repeat (first | refine zf ?_ _ | refine zi ?_ | refine zg ?_ _)); exact BK166.out), (by (with_reducible repeat (first | refine zf ?_ _ | refine zi ?_ | refine zg ?_ _)); exact BK173.out), (by (with_reducible repeat (first | refine zf ?_ _ | refine zi ?_ | refine zg ?_ _)); exact BK184.out), (by repeat (first | (with_reducible first | exact HB.out | apply zc | apply za | apply zb | refine zh ?_ GE166.out | refine zh ?_ GE173.out | refine zh ?_ GE184.out) | exact HB.out)), z_BK194, Q_GW194, Q_GE194, Q_NB166_194, Q_NB194_166, Q_NB173_194, Q_NB194_173, Q_NB184_194, Q_NB194_184, fun h0_ => absurd ((hoff 14 (by kernel_rfl)).symm.trans h0_) (by decide), Q_X13_⟩
               refine steps_cons ?_ ?_
               ·rintro b a w' ⟨gb194, m13_, ha, Q_BK166, Q_BK173, Q_BK184, Q_HB, Q_BK194, Q_GW194, Q_GE194, Q_NB166_194, Q_NB194_166, Q_NB173_194, Q_NB194_173, Q_NB184_194, Q_NB194_184, Q_BK194_e14, Q_X13_⟩ hb_ hon hoff
                refine ⟨_, rfl, fun K hK => ?_⟩
                have e123 : a.tmps[123]? = some (.int .i64 (wrap64 (a0_0 - (l0_5.length : Int)))) := by rw [ha]; exact (putSel_off rfl).trans rfl
                replace ha := zp.mk ha
                have BK166 := zp.mk Q_BK166
                have BK173 := zp.mk Q_BK173
                have BK184 := zp.mk Q_BK184
                have HB := zp.mk Q_HB
                refine value_ (w1 := w') (v := .int .i64 (wrap64 ((wrap64 (a0_0 - (l0_5.length : Int))) - 1))) (by rfl) rfl ?_ ?_
                ·go_simp
                 (try simp only [i64_w])
                 try rfl
                refine hK.out _ _ ⟨gb194, m13_, (by rw [ha.out]; exact putSel_upk 4 hb_ rfl rfl rfl), Q_BK166, Q_BK173, Q_BK184, Q_HB, Q_BK194, Q_GW194, Q_GE194, Q_NB166_194, Q_NB194_166, Q_NB173_194, Q_NB194_173, Q_NB184_194, Q_NB194_184, fun h0_ => absurd ((hoff 14 (by kernel_rfl)).symm.trans h0_) (by decide), Q_X13_⟩
               refine steps_cons ?_ ?_
               ·rintro b a w' ⟨gb194, m13_, ha, Q_BK166, Q_BK173, Q_BK184, Q_HB, Q_BK194, Q_GW194, Q_GE194, Q_NB166_194, Q_NB194_166, Q_NB173_194, Q_NB194_173, Q_NB184_194, Q_NB194_184, Q_BK194_e14, Q_X13_⟩ hb_ hon hoff
                refine ⟨_, rfl, fun K hK => ?_⟩
                have e125 : a.tmps[125]? = some (.pointer (some ⟨gb166, 5, none⟩)) := by rw [ha]; exact (putSel_off rfl).trans rfl
                replace ha := zp.mk ha
                have BK166 := zp.mk Q_BK166
                have BK173 := zp.mk Q_BK173
                have BK184 := zp.mk Q_BK184
                have HB := zp.mk Q_HB
                have hc0_ : w'.cell? ⟨gb166, 0, none⟩ = some (.int .i64 a0_0) := (ze BK166.out 0).trans rfl
                have hc1_ : w'.cell? ⟨gb166, 1, none⟩ = some (.int .i64 a0_1) := (ze BK166.out 1).trans rfl
                have hc2_ : w'.cell? ⟨gb166, 2, none⟩ = some (.int .u64 a0_2) := (ze BK166.out 2).trans rfl
                have hc3_ : w'.cell? ⟨gb166, 3, none⟩ = some (.int .i64 a0_3) := (ze BK166.out 3).trans rfl
                have hc4_ : w'.cell? ⟨gb166, 4, none⟩ = some (.int .i64 a0_4) := (ze BK166.out 4).trans rfl
                have hc5_ : w'.cell? ⟨gb166, 5, none⟩ = some (.slice (some ad189) l0_5.length c0_5) := (ze BK166.out 5).trans rfl
                refine value_ (w1 := w') (v := .slice (some ad189) l0_5.length c0_5) (by rfl) rfl ?_ ?_
                ·go_simp
                 (try simp only [i64_w])
                 try rfl
                refine hK.out _ _ ⟨gb194, m13_, (by rw [ha.out]; exact putSel_upk 5 hb_ rfl rfl rfl), Q_BK166, Q_BK173, Q_BK184, Q_HB, Q_BK194, Q_GW194, Q_GE194, Q_NB166_194, Q_NB194_166, Q_NB173_194, Q_NB194_173, Q_NB184_194, Q_NB194_184, fun h0_ => absurd ((hoff 14 (by kernel_rfl)).symm.trans h0_) (by decide), Q_X13_⟩
               refine steps_cons ?_ ?_
               ·rintro b a w' ⟨gb194, m13_, ha, Q_BK166, Q_BK173, Q_BK184, Q_HB, Q_BK194, Q_GW194, Q_GE194, Q_NB166_194, Q_NB194_166, Q_NB173_194, Q_NB194_173, Q_NB184_194, Q_NB194_184, Q_BK194_e14, Q_X13_⟩ hb_ hon hoff
                refine ⟨_, rfl, fun K hK => ?_⟩
                have e126 : a.tmps[126]? = some (.slice (some ad189) l0_5.length c0_5) := by rw [ha]; exact putSel_on (e := (8, 126, .slice (some ad189) l0_5.length c0_5)) 5 rfl rfl (hon 8 (by kernel_rfl)) rfl
                replace ha := zp.mk ha
                have BK166 := zp.mk Q_BK166
                have BK173 := zp.mk Q_BK173
                have BK184 := zp.mk Q_BK184
                have HB := zp.mk Q_HB
                have hs0_ : w'.cell? ⟨ad189.block, ad189.off + 3, none⟩ = some (.int .i64 (rd l0_5 3)) := ((HB.out.cell (World.block_lt_of_cell? w _ hw189_0)).trans hw189_0)
                refine value_ (w1 := w') (v := .pointer (some (ad189.add 3))) (by rfl) rfl ?_ ?_
                ·go_simp
                 (try simp only [i64_w])
                 try rfl
                refine hK.out _ _ ⟨gb194, m13_, (by rw [ha.out]; exact putSel_upk 6 hb_ rfl rfl rfl), Q_BK166, Q_BK173, Q_BK184, Q_HB, Q_BK194, Q_GW194, Q_GE194, Q_NB166_194, Q_NB194_166, Q_NB173_194, Q_NB194_173, Q_NB184_194, Q_NB194_184, fun h0_ => absurd ((hoff 14 (by kernel_rfl)).symm.trans h0_) (by decide), Q_X13_⟩
               refine steps_cons ?_ ?_
               ·rintro b a w' ⟨gb194, m13_, ha, Q_BK166, Q_BK173, Q_BK184, Q_HB, Q_BK194, Q_GW194, Q_GE194, Q_NB166_194, Q_NB194_166, Q_NB173_194, Q_NB194_173, Q_NB184_194, Q_NB194_184, Q_BK194_e14, Q_X13_⟩ hb_ hon hoff
                refine ⟨_, rfl, fun K hK => ?_⟩
                have e127 : a.tmps[127]? = some (.pointer (some (ad189.add 3))) := by rw [ha]; exact putSel_on (e := (9, 127, .pointer (some (ad189.add 3)))) 6 rfl rfl (hon 9 (by kernel_rfl)) rfl
                replace ha := zp.mk ha
                have BK166 := zp.mk Q_BK166
                have BK173 := zp.mk Q_BK173
                have BK184 := zp.mk Q_BK184
                have HB := zp.mk Q_HB
                have hs0_ : w'.cell? ⟨ad189.block, ad189.off + 3, none⟩ = some (.int .i64 (rd l0_5 3)) := ((HB.out.cell (World.block_lt_of_cell? w _ hw189_0)).trans hw189_0)
                refine value_ (w1 := w') (v := .int .i64 (rd l0_5 3)) (by rfl) rfl ?_ ?_
                ·go_simp
                 (try simp only [i64_w])
                 try rfl
                refine hK.out _ _ ⟨gb194, m13_, (by rw [ha.out]; exact putSel_upk 7 hb_ rfl rfl rfl), Q_BK166, Q_BK173, Q_BK184, Q_HB, Q_BK194, Q_GW194, Q_GE194, Q_NB166_194, Q_NB194_166, Q_NB173_194, Q_NB194_173, Q_NB184_194, Q_NB194_184, fun h0_ => absurd ((hoff 14 (by kernel_rfl)).symm.trans h0_) (by decide), Q_X13_⟩
               refine steps_cons ?_ ?_
               ·rintro b a w' ⟨gb194, m13_, ha, Q_BK166, Q_BK173, Q_BK184, Q_HB, Q_BK194, Q_GW194, Q_GE194, Q_NB166_194, Q_NB194_166, Q_NB173_194, Q_NB194_173, Q_NB184_194, Q_NB194_184, Q_BK194_e14, Q_X13_⟩ hb_ hon hoff
                refine ⟨_, rfl, fun K hK => ?_⟩
                have e124 : a.tmps[124]? = some (.int .i64 (wrap64 ((wrap64 (a0_0 - (l0_5.length : Int))) - 1))) := by rw [ha]; exact putSel_on (e := (6, 124, .int .i64 (wrap64 ((wrap64 (a0_0 - (l0_5.length : Int))) - 1)))) 4 rfl rfl (hon 6 (by kernel_rfl)) rfl
                have e128 : a.tmps[128]? = some (.int .i64 (rd l0_5 3)) := by rw [ha]; exact putSel_on (e := (10, 128, .int .i64 (rd l0_5 3))) 7 rfl rfl (hon 10 (by kernel_rfl)) rfl
                replace ha := zp.mk ha
                have BK166 := zp.mk Q_BK166
                have BK173 := zp.mk Q_BK173
                have BK184 := zp.mk Q_BK184
                have HB := zp.mk Q_HB
                refine goes_ Try.func31 (by kernel_rfl) rfl #[.int .i64 (wrap64 ((wrap64 (a0_0 - (l0_5.length : Int))) - 1)), .int .i64 (rd l0_5 3)] (by rfl) rfl rfl (by first | (simp only [List.map_toArray, List.map_cons, List.map_nil, Act.eval, Array.getD_eq_getD_getElem?, Option.getD_some, e124, e128]; done) | (simp only [List.map_toArray, List.map_cons, List.map_nil, Act.eval, Array.getD_eq_getD_getElem?, Option.getD_some, e124, e128]; rfl)) ?_
                with_reducible refine (spec_l07Times.calls k3 (wrap64 ((wrap64 (a0_0 - (l0_5.length : Int))) - 1)) (rd l0_5 3) t190 t191 _ A67.out).mono ?_
                rintro e w85 ⟨rfl, hb⟩
                refine ⟨_, rfl, ?_⟩
                have n0_ := zp.mk (zl (g := gb166) (o := .cells #[.int .i64 a0_0, .int .i64 a0_1, .int .u64 a0_2, .int .i64 a0_3, .int .i64 a0_4, .slice (some ad189) l0_5.length c0_5] 32 (0, 0)) (by (with_reducible repeat (first | refine zf ?_ _ | refine zi ?_ | refine zg ?_ _)); exact BK166.out) hb)
                have n1_ := zp.mk (zl (g := gb173) (o := .cells #[.int .i64 x174000_3, .int .u64 x174001_3] 30 (0, 0)) (by (with_reducible repeat (first | refine zf ?_ _ | refine zi ?_ | refine zg ?_ _)); exact BK173.out) hb)
                have n2_ := zp.mk (zl (g := gb184) (o := .cells #[.int .i64 t182, .int .u64 t183] 30 (0, 0)) (by (with_reducible repeat (first | refine zf ?_ _ | refine zi ?_ | refine zg ?_ _)); exact BK184.out) hb)
                have n3_ := zp.mk (zj (by repeat (first | (with_reducible first | exact HB.out | apply zc | apply za | apply zb | refine zh ?_ GE166.out | refine zh ?_ GE173.out | refine zh ?_ GE184.out) | exact HB.out)) hb)
                have z_BK194 := fun (h0_ : b 13 = true) (h1_ : b 14 = false) => (show w85.heap[gb194]? = some (.cells #[.int .i64 0, .int .u64 0] 30 (0, 0)) from by first | exact (zl (g := gb194) (o := .cells #[.int .i64 0, .int .u64 0] 30 (0, 0)) (by (with_reducible repeat (first | refine zf ?_ _ | refine zi ?_ | refine zg ?_ _)); exact (Q_BK194 h0_ h1_)) hb))
                clear BK166
                clear BK173
                clear BK184
                clear HB
                have BK166 := n0_
                have BK173 := n1_
                have BK184 := n2_
                have HB := n3_
                clear n0_ n1_ n2_ n3_
                (try clear hb)
                (try clear hb2)
                (try clear hk)
                (try clear hi)
                refine hK.out _ _ ⟨gb194, m13_, (by rw [ha.out]; exact putSel_upk 8 hb_ rfl rfl rfl), (by (with_reducible repeat (first | refine zf ?_ _ | refine zi ?_ | refine zg ?_ _)); exact BK166.out), (by (with_reducible repeat (first | refine zf ?_ _ | refine zi ?_ | refine zg ?_ _)); exact BK173.out), (by (with_reducible repeat (first | refine zf ?_ _ | refine zi ?_ | refine zg ?_ _)); exact BK184.out), (by repeat (first | (with_reducible first | exact HB.out | apply zc | apply za | apply zb | refine zh ?_ GE166.out | refine zh ?_ GE173.out | refine zh ?_ GE184.out) | exact HB.out)), z_BK194, Q_GW194, Q_GE194, Q_NB166_194, Q_NB194_166, Q_NB173_194, Q_NB194_173, Q_NB184_194, Q_NB194_184, fun h0_ => absurd ((hoff 14 (by kernel_rfl)).symm.trans h0_) (by decide), Q_X13_⟩
               refine steps_cons ?_ ?_
               ·rintro b a w' ⟨gb194, m13_, ha, Q_BK166, Q_BK173, Q_BK184, Q_HB, Q_BK194, Q_GW194, Q_GE194, Q_NB166_194, Q_NB194_166, Q_NB173_194, Q_NB194_173, Q_NB184_194, Q_NB194_184, Q_BK194_e14, Q_X13_⟩ hb_ hon hoff
                refine ⟨_, rfl, fun K hK => ?_⟩
                have e122 : a.tmps[122]? = some (.agg #[.int .i64 t187, .int .u64 t188]) := by rw [ha]; exact putSel_on (e := (4, 122, .agg #[.int .i64 t187, .int .u64 t188])) 3 rfl rfl (hon 4 (by kernel_rfl)) rfl
                have e129 : a.tmps[129]? = some (.agg #[.int .i64 t190, .int .u64 t191]) := by rw [ha]; exact putSel_on (e := (11, 129, .agg #[.int .i64 t190, .int .u64 t191])) 8 rfl rfl (hon 11 (by kernel_rfl)) rfl
                replace ha := zp.mk ha
                have BK166 := zp.mk Q_BK166
                have BK173 := zp.mk Q_BK173
                have BK184 := zp.mk Q_BK184
                have HB := zp.mk Q_HB
                refine goes_ Try.func29 (by kernel_rfl) rfl #[.agg #[.int .i64 t187, .int .u64 t188], .agg #[.int .i64 t190, .int .u64 t191]] (by rfl) rfl rfl (by first | (simp only [List.map_toArray, List.map_cons, List.map_nil, Act.eval, Array.getD_eq_getD_getElem?, Option.getD_some, e122, e129]; done) | (simp only [List.map_toArray, List.map_cons, List.map_nil, Act.eval, Array.getD_eq_getD_getElem?, Option.getD_some, e122, e129]; rfl)) ?_
                with_reducible refine (spec_WideAdd.calls t187 t188 t190 t191 t192 t193 _ A68.out).mono ?_
                rintro e w86 ⟨rfl, hb⟩
                refine ⟨_, rfl, ?_⟩
                have n0_ := zp.mk (zl (g := gb166) (o := .cells #[.int .i64 a0_0, .int .i64 a0_1, .int .u64 a0_2, .int .i64 a0_3, .int .i64 a0_4, .slice (some ad189) l0_5.length c0_5] 32 (0, 0)) (by (with_reducible repeat (first | refine zf ?_ _ | refine zi ?_ | refine zg ?_ _)); exact BK166.out) hb)
                have n1_ := zp.mk (zl (g := gb173) (o := .cells #[.int .i64 x174000_3, .int .u64 x174001_3] 30 (0, 0)) (by (with_reducible repeat (first | refine zf ?_ _ | refine zi ?_ | refine zg ?_ _)); exact BK173.out) hb)
                have n2_ := zp.mk (zl (g := gb184) (o := .cells #[.int .i64 t182, .int .u64 t183] 30 (0, 0)) (by (with_reducible repeat (first | refine zf ?_ _ | refine zi ?_ | refine zg ?_ _)); exact BK184.out) hb)
                have n3_ := zp.mk (zj (by repeat (first | (with_reducible first | exact HB.out | apply zc | apply za | apply zb | refine zh ?_ GE166.out | refine zh ?_ GE173.out | refine zh ?_ GE184.out) | exact HB.out)) hb)
                have z_BK194 := fun (h0_ : b 13 = true) (h1_ : b 14 = false) => (show w86.heap[gb194]? = some (.cells #[.int .i64 0, .int .u64 0] 30 (0, 0)) from by first | exact (zl (g := gb194) (o := .cells #[.int .i64 0, .int .u64 0] 30 (0, 0)) (by (with_reducible repeat (first | refine zf ?_ _ | refine zi ?_ | refine zg ?_ _)); exact (Q_BK194 h0_ h1_)) hb))
                clear BK166
                clear BK173
                clear BK184
                clear HB
                have BK166 := n0_
                have BK173 := n1_
                have BK184 := n2_
                have HB := n3_
                clear n0_ n1_ n2_ n3_
                (try clear hb)
                (try clear hb2)
                (try clear hk)
                (try clear hi)
                refine hK.out _ _ ⟨gb194, m13_, (by rw [ha.out]; exact putSel_upk 9 hb_ rfl rfl rfl), (by (with_reducible repeat (first | refine zf ?_ _ | refine zi ?_ | refine zg ?_ _)); exact BK166.out), (by (with_reducible repeat (first | refine zf ?_ _ | refine zi ?_ | refine zg ?_ _)); exact BK173.out), (by (with_reducible repeat (first | refine zf ?_ _ | refine zi ?_ | refine zg ?_ _)); exact BK184.out), (by repeat (first | (with_reducible first | exact HB.out | apply zc | apply za | apply zb | refine zh ?_ GE166.out | refine zh ?_ GE173.out | refine zh ?_ GE184.out) | exact HB.out)), z_BK194, Q_GW194, Q_GE194, Q_NB166_194, Q_NB194_166, Q_NB173_194, Q_NB194_173, Q_NB184_194, Q_NB194_184, fun h0_ => absurd ((hoff 14 (by kernel_rfl)).symm.trans h0_) (by decide), Q_X13_⟩
               refine steps_cons ?_ ?_
               ·rintro b a w' ⟨gb194, m13_, ha, Q_BK166, Q_BK173, Q_BK184, Q_HB, Q_BK194, Q_GW194, Q_GE194, Q_NB166_194, Q_NB194_166, Q_NB173_194, Q_NB194_173, Q_NB184_194, Q_NB194_184, Q_BK194_e14, Q_X13_⟩ hb_ hon hoff
                refine ⟨_, rfl, fun K hK => ?_⟩
                replace ha := zp.mk ha
                have BK166 := zp.mk Q_BK166
                have BK173 := zp.mk Q_BK173
                have BK184 := zp.mk Q_BK184
                have HB := zp.mk Q_HB
                refine box_step ?hg (N := 7) ?hd (cs := #[.int .i64 0, .int .u64 0]) (t := 30) ?hr ?_; (case hd => rfl); (case hg => rfl); (case hr => first | (go_simp; done) | (go_simp; rfl))
                intro gb194 hg w82 hbox hb
                have n0_ := zp.mk (zl (g := gb166) (o := .cells #[.int .i64 a0_0, .int .i64 a0_1, .int .u64 a0_2, .int .i64 a0_3, .int .i64 a0_4, .slice (some ad189) l0_5.length c0_5] 32 (0, 0)) (by (with_reducible repeat (first | refine zf ?_ _ | refine zi ?_ | refine zg ?_ _)); exact BK166.out) hb)
                have n1_ := zp.mk (zl (g := gb173) (o := .cells #[.int .i64 x174000_3, .int .u64 x174001_3] 30 (0, 0)) (by (with_reducible repeat (first | refine zf ?_ _ | refine zi ?_ | refine zg ?_ _)); exact BK173.out) hb)
                have n2_ := zp.mk (zl (g := gb184) (o := .cells #[.int .i64 t182, .int .u64 t183] 30 (0, 0)) (by (with_reducible repeat (first | refine zf ?_ _ | refine zi ?_ | refine zg ?_ _)); exact BK184.out) hb)
                have n3_ := zp.mk (zj (by repeat (first | (with_reducible first | exact HB.out | apply zc | apply za | apply zb | refine zh ?_ GE166.out | refine zh ?_ GE173.out | refine zh ?_ GE184.out) | exact HB.out)) hb)
                have n4_ := zp.mk (hbox)
                have n5_ := zp.mk ((by rw [hg]; exact (zk (by repeat (first | (with_reducible first | exact HB.out | apply zc | apply za | apply zb | refine zh ?_ GE166.out | refine zh ?_ GE173.out | refine zh ?_ GE184.out) | exact HB.out))) : w.heap.size ≤ gb194))
                have n6_ := zp.mk ((by rw [hg]; exact (zk (by repeat (first | (with_reducible first | exact HB.out | apply zc | apply za | apply zb | refine zh ?_ GE166.out | refine zh ?_ GE173.out | refine zh ?_ GE184.out) | exact HB.out))) : w.heap.size ≤ gb194))
                have n7_ := zp.mk ((by rw [hg]; exact Nat.ne_of_lt (blk_lt (g := gb166) (o := .cells #[.int .i64 a0_0, .int .i64 a0_1, .int .u64 a0_2, .int .i64 a0_3, .int .i64 a0_4, .slice (some ad189) l0_5.length c0_5] 32 (0, 0)) (by (with_reducible repeat (first | refine zf ?_ _ | refine zi ?_ | refine zg ?_ _)); exact BK166.out)) : gb166 ≠ gb194))
                have n8_ := zp.mk ((by rw [hg]; exact Nat.ne_of_gt (blk_lt (g := gb166) (o := .cells #[.int .i64 a0_0, .int .i64 a0_1, .int .u64 a0_2, .int .i64 a0_3, .int .i64 a0_4, .slice (some ad189) l0_5.length c0_5] 32 (0, 0)) (by (with_reducible repeat (first | refine zf ?_ _ | refine zi ?_ | refine zg ?_ _)); exact BK166.out)) : gb194 ≠ gb166))
                have n9_ := zp.mk ((by rw [hg]; exact Nat.ne_of_lt (blk_lt (g := gb173) (o := .cells #[.int .i64 x174000_3, .int .u64 x174001_3] 30 (0, 0)) (by (with_reducible repeat (first | refine zf ?_ _ | refine zi ?_ | refine zg ?_ _)); exact BK173.out)) : gb173 ≠ gb194))
                have n10_ := zp.mk ((by rw [hg]; exact Nat.ne_of_gt (blk_lt (g := gb173) (o := .cells #[.int .i64 x174000_3, .int .u64 x174001_3] 30 (0, 0)) (by (with_reducible repeat (first | refine zf ?_ _ | refine zi ?_ | refine zg ?_ _)); exact BK173.out)) : gb194 ≠ gb173))
                have n11_ := zp.mk ((by rw [hg]; exact Nat.ne_of_lt (blk_lt (g := gb184) (o := .cells #[.int .i64 t182, .int .u64 t183] 30 (0, 0)) (by (with_reducible repeat (first | refine zf ?_ _ | refine zi ?_ | refine zg ?_ _)); exact BK184.out)) : gb184 ≠ gb194))
                have n12_ := zp.mk ((by rw [hg]; exact Nat.ne_of_gt (blk_lt (g := gb184) (o := .cells #[.int .i64 t182, .int .u64 t183] 30 (0, 0)) (by (with_reducible repeat (first | refine zf ?_ _ | refine zi ?_ | refine zg ?_ _)); exact BK184.out)) : gb194 ≠ gb184))
                clear BK166
                clear BK173
                clear BK184
                clear HB
                have BK166 := n0_
                have BK173 := n1_
                have BK184 := n2_
                have HB := n3_
                have BK194 := n4_
                have GW194 := n5_
                have GE194 := n6_
                have NB166_194 := n7_
                have NB194_166 := n8_
                have NB173_194 := n9_
                have NB194_173 := n10_
                have NB184_194 := n11_
                have NB194_184 := n12_
                clear n0_ n1_ n2_ n3_ n4_ n5_ n6_ n7_ n8_ n9_ n10_ n11_ n12_
                clear hb hbox hg
                refine hK.out _ _ ⟨gb194, (.pointer (some ⟨gb194, 0, none⟩)), (by rw [ha.out]; exact putSel_upk 10 hb_ rfl rfl rfl), (by (with_reducible repeat (first | refine zf ?_ _ | refine zi ?_ | refine zg ?_ _)); exact BK166.out), (by (with_reducible repeat (first | refine zf ?_ _ | refine zi ?_ | refine zg ?_ _)); exact BK173.out), (by (with_reducible repeat (first | refine zf ?_ _ | refine zi ?_ | refine zg ?_ _)); exact BK184.out), (by repeat (first | (with_reducible first | exact HB.out | apply zc | apply za | apply zb | refine zh ?_ GE166.out | refine zh ?_ GE173.out | refine zh ?_ GE184.out | refine zh ?_ GE194.out) | exact HB.out)), fun _ _ => (by (with_reducible repeat (first | refine zf ?_ _ | refine zi ?_ | refine zg ?_ _)); exact BK194.out), fun _ => GW194.out, fun _ => GE194.out, fun _ => NB166_194.out, fun _ => NB194_166.out, fun _ => NB173_194.out, fun _ => NB194_173.out, fun _ => NB184_194.out, fun _ => NB194_184.out, fun h0_ => absurd ((hoff 14 (by kernel_rfl)).symm.trans h0_) (by decide), fun _ => rfl⟩
               refine steps_cons ?_ ?_
               ·rintro b a w' ⟨gb194, m13_, ha, Q_BK166, Q_BK173, Q_BK184, Q_HB, Q_BK194, Q_GW194, Q_GE194, Q_NB166_194, Q_NB194_166, Q_NB173_194, Q_NB194_173, Q_NB184_194, Q_NB194_184, Q_BK194_e14, Q_X13_⟩ hb_ hon hoff
                refine ⟨_, rfl, fun K hK => ?_⟩
                have e7 : a.tmps[7]? = some (m13_) := by rw [ha]; exact putSel_on (e := (13, 7, m13_)) 10 rfl rfl (hon 13 (by kernel_rfl)) rfl
                rw [Q_X13_ (hon 13 (by kernel_rfl))] at e7
                have e130 : a.tmps[130]? = some (.agg #[.int .i64 t192, .int .u64 t193]) := by rw [ha]; exact putSel_on (e := (12, 130, .agg #[.int .i64 t192, .int .u64 t193])) 9 rfl rfl (hon 12 (by kernel_rfl)) rfl
                replace ha := zp.mk ha
                have BK166 := zp.mk Q_BK166
                have BK173 := zp.mk Q_BK173
                have BK184 := zp.mk Q_BK184
                have HB := zp.mk Q_HB
                have BK194 := zp.mk (Q_BK194 (hon 13 (by kernel_rfl)) hb_)
                have GW194 := zp.mk (Q_GW194 (hon 13 (by kernel_rfl)))
                have GE194 := zp.mk (Q_GE194 (hon 13 (by kernel_rfl)))
                have NB166_194 := zp.mk (Q_NB166_194 (hon 13 (by kernel_rfl)))
                have NB194_166 := zp.mk (Q_NB194_166 (hon 13 (by kernel_rfl)))
                have NB173_194 := zp.mk (Q_NB173_194 (hon 13 (by kernel_rfl)))
                have NB194_173 := zp.mk (Q_NB194_173 (hon 13 (by kernel_rfl)))
                have NB184_194 := zp.mk (Q_NB184_194 (hon 13 (by kernel_rfl)))
                have NB194_184 := zp.mk (Q_NB194_184 (hon 13 (by kernel_rfl)))
                have hs88 : w'.cell? ⟨gb194, 0, none⟩ = some (.int .i64 0) := (ze BK194.out 0).trans rfl
                have hfs88 := zd BK194.out 0
                have hns88_0 := NB166_194.out
                have hns88_1 := NB173_194.out
                have hns88_2 := NB184_194.out
                have hms88_0 := NB194_166.out
                have hms88_1 := NB194_173.out
                have hms88_2 := NB194_184.out
                have hs89 : w'.cell? ⟨gb194, 1, none⟩ = some (.int .u64 0) := (ze BK194.out 1).trans rfl
                have hfs89 := zd BK194.out 1
                have hns89_0 := NB166_194.out
                have hns89_1 := NB173_194.out
                have hns89_2 := NB184_194.out
                have hms89_0 := NB194_166.out
                have hms89_1 := NB194_173.out
                have hms89_2 := NB194_184.out
                refine skip_ (w1 := ?_) (by rfl) rfl ?_ ?_
                rotate_left
                ·go_simp
                 rfl
                refine hK.out _ _ ⟨gb194, m13_, (by rw [ha.out]; exact putSel_none (v := undef) rfl), (by (with_reducible repeat (first | refine zf ?_ _ | refine zi ?_ | refine zg ?_ _)); refine blk_far ?_ NB166_194.out _; (with_reducible repeat (first | refine zf ?_ _ | refine zi ?_ | refine zg ?_ _)); refine blk_far ?_ NB166_194.out _; (with_reducible repeat (first | refine zf ?_ _ | refine zi ?_ | refine zg ?_ _)); exact BK166.out), (by (with_reducible repeat (first | refine zf ?_ _ | refine zi ?_ | refine zg ?_ _)); refine blk_far ?_ NB173_194.out _; (with_reducible repeat (first | refine zf ?_ _ | refine zi ?_ | refine zg ?_ _)); refine blk_far ?_ NB173_194.out _; (with_reducible repeat (first | refine zf ?_ _ | refine zi ?_ | refine zg ?_ _)); exact BK173.out), (by (with_reducible repeat (first | refine zf ?_ _ | refine zi ?_ | refine zg ?_ _)); refine blk_far ?_ NB184_194.out _; (with_reducible repeat (first | refine zf ?_ _ | refine zi ?_ | refine zg ?_ _)); refine blk_far ?_ NB184_194.out _; (with_reducible repeat (first | refine zf ?_ _ | refine zi ?_ | refine zg ?_ _)); exact BK184.out), (by repeat (first | (with_reducible first | exact HB.out | apply zc | apply za | apply zb | refine zh ?_ GE166.out | refine zh ?_ GE173.out | refine zh ?_ GE184.out | refine zh ?_ GE194.out) | exact HB.out)), fun _ h1_ => absurd ((up_self b 14).symm.trans h1_) (by decide), fun _ => GW194.out, fun _ => GE194.out, fun _ => NB166_194.out, fun _ => NB194_166.out, fun _ => NB173_194.out, fun _ => NB194_173.out, fun _ => NB184_194.out, fun _ => NB194_184.out, fun _ => (by (with_reducible repeat (first | refine zf ?_ _ | refine zi ?_ | refine zg ?_ _)); refine blk_put (cs := #[.int .i64 t192, .int .u64 0]) ?_ 1 _ rfl; (with_reducible repeat (first | refine zf ?_ _ | refine zi ?_ | refine zg ?_ _)); refine blk_put (cs := #[.int .i64 0, .int .u64 0]) ?_ 0 _ rfl; (with_reducible repeat (first | refine zf ?_ _ | refine zi ?_ | refine zg ?_ _)); exact BK194.out), Q_X13_⟩
               exact steps_nil
              rintro b a w89 hall ⟨gb194, m13_, ha, Q_BK166, Q_BK173, Q_BK184, Q_HB, Q_BK194, Q_GW194, Q_GE194, Q_NB166_194, Q_NB194_166, Q_NB173_194, Q_NB194_173, Q_NB184_194, Q_NB194_184, Q_BK194_e14, Q_X13_⟩
              clear BK166 BK173 BK184 HB
              have hb0_ := hall 0 (by kernel_rfl)
              have hb2_ := hall 2 (by kernel_rfl)
              have hb3_ := hall 3 (by kernel_rfl)
              have hb4_ := hall 4 (by kernel_rfl)
              have hb6_ := hall 6 (by kernel_rfl)
              have hb8_ := hall 8 (by kernel_rfl)
              have hb9_ := hall 9 (by kernel_rfl)
              have hb10_ := hall 10 (by kernel_rfl)
              have hb11_ := hall 11 (by kernel_rfl)
              have hb12_ := hall 12 (by kernel_rfl)
              have hb13_ := hall 13 (by kernel_rfl)
              have hb14_ := hall 14 (by kernel_rfl)
              subst ha
              obtain rfl := Q_X13_ hb13_
              simp only [putSel, hb0_, hb2_, hb3_, hb4_, hb6_, hb8_, hb9_, hb10_, hb11_, hb12_, hb13_, hb14_, if_true, Act.put, List.setIfInBounds_toArray, List.set_cons_zero, List.set_cons_succ]
              have BK166 := zp.mk Q_BK166
              clear Q_BK166
              have BK173 := zp.mk Q_BK173
              clear Q_BK173
              have BK184 := zp.mk Q_BK184
              clear Q_BK184
              have HB := zp.mk Q_HB
              clear Q_HB
              clear Q_BK194
              have GW194 := zp.mk (Q_GW194 hb13_)
              clear Q_GW194
              have GE194 := zp.mk (Q_GE194 hb13_)
              clear Q_GE194
              have NB166_194 := zp.mk (Q_NB166_194 hb13_)
              clear Q_NB166_194
              have NB194_166 := zp.mk (Q_NB194_166 hb13_)
              clear Q_NB194_166
              have NB173_194 := zp.mk (Q_NB173_194 hb13_)
              clear Q_NB173_194
              have NB194_173 := zp.mk (Q_NB194_173 hb13_)
              clear Q_NB194_173
              have NB184_194 := zp.mk (Q_NB184_194 hb13_)
              clear Q_NB184_194
              have NB194_184 := zp.mk (Q_NB194_184 hb13_)
              clear Q_NB194_184
              have BK194 := zp.mk (Q_BK194_e14 hb14_)
              clear Q_BK194_e14
              clear hall hb0_ hb2_ hb3_ hb4_ hb6_ hb8_ hb9_ hb10_ hb11_ hb12_ hb13_ hb14_
              have hnb90 := NB166_184.out
              have hnc90 := NB184_166.out
              have hnb91 := NB166_194.out
              have hnc91 := NB194_166.out
              have hcz92_0 : w89.cell? ⟨gb166, 0, none⟩ = some (.int .i64 a0_0) := (ze BK166.out 0).trans rfl
              have hcz92_1 : w89.cell? ⟨gb166, 1, none⟩ = some (.int .i64 a0_1) := (ze BK166.out 1).trans rfl
              have hcz92_2 : w89.cell? ⟨gb166, 2, none⟩ = some (.int .u64 a0_2) := (ze BK166.out 2).trans rfl
              have hcz92_3 : w89.cell? ⟨gb166, 3, none⟩ = some (.int .i64 a0_3) := (ze BK166.out 3).trans rfl
              have hcz92_4 : w89.cell? ⟨gb166, 4, none⟩ = some (.int .i64 a0_4) := (ze BK166.out 4).trans rfl
              have hcz92_5 : w89.cell? ⟨gb166, 5, none⟩ = some (.slice (some ad189) l0_5.length c0_5) := (ze BK166.out 5).trans rfl
              have hfz92_0 := zd BK166.out 0
              have hfz92_1 := zd BK166.out 1
              have hfz92_2 := zd BK166.out 2
              have hfz92_3 := zd BK166.out 3
              have hfz92_4 := zd BK166.out 4
              have hfz92_5 := zd BK166.out 5
              have hnb93 := NB184_173.out
              have hnc93 := NB173_184.out
              have hnb94 := NB184_194.out
              have hnc94 := NB194_184.out
              have hcz95_0 : w89.cell? ⟨gb184, 0, none⟩ = some (.int .i64 t182) := (ze BK184.out 0).trans rfl
              have hcz95_1 : w89.cell? ⟨gb184, 1, none⟩ = some (.int .u64 t183) := (ze BK184.out 1).trans rfl
              have hfz95_0 := zd BK184.out 0
              have hfz95_1 := zd BK184.out 1
              try go_wp2_with (first | ((with_reducible refine zn (f := 32) rfl ?_); refine goesL_ (some 134) rfl rfl Try.func32 (by kernel_rfl) rfl #[.agg #[.int .i64 a0_1, .int .u64 a0_2], .agg #[.int .i64 t182, .int .u64 t183]] rfl (by (try simp only [List.map_toArray, List.map_cons, List.map_nil]); first | done | rfl | (simp only [List.length_drop, List.length_take]; rfl)) ?_; (with_reducible refine (spec_WideCmp.calls a0_1 a0_2 t182 t183 t195 _ A69.out).mono ?_); rintro e w96 ⟨rfl, hb⟩; refine ⟨_, rfl, ?_⟩; have n0_ := zp.mk (zl (g := gb166) (o := .cells #[.int .i64 a0_0, .int .i64 a0_1, .int .u64 a0_2, .int .i64 a0_3, .int .i64 a0_4, .slice (some ad189) l0_5.length c0_5] 32 (0, 0)) (by (with_reducible repeat (first | refine zf ?_ _ | refine zi ?_ | refine zg ?_ _)); exact BK166.out) hb); have n1_ := zp.mk (zl (g := gb173) (o := .cells #[.int .i64 x174000_3, .int .u64 x174001_3] 30 (0, 0)) (by (with_reducible repeat (first | refine zf ?_ _ | refine zi ?_ | refine zg ?_ _)); exact BK173.out) hb); have n2_ := zp.mk (zl (g := gb184) (o := .cells #[.int .i64 t182, .int .u64 t183] 30 (0, 0)) (by (with_reducible repeat (first | refine zf ?_ _ | refine zi ?_ | refine zg ?_ _)); exact BK184.out) hb); have n3_ := zp.mk (zl (g := gb194) (o := .cells #[.int .i64 t192, .int .u64 t193] 30 (0, 0)) (by (with_reducible repeat (first | refine zf ?_ _ | refine zi ?_ | refine zg ?_ _)); exact BK194.out) hb); have n4_ := zp.mk (zj (by repeat (first | (with_reducible first | exact HB.out | apply zc | apply za | apply zb | refine zh ?_ GE166.out | refine zh ?_ GE173.out | refine zh ?_ GE184.out | refine zh ?_ GE194.out) | exact HB.out)) hb); clear BK166; clear BK173; clear BK184; clear BK194; clear HB; have BK166 := n0_; have BK173 := n1_; have BK184 := n2_; have BK194 := n3_; have HB := n4_; clear n0_ n1_ n2_ n3_ n4_; (try clear hb); (try clear hb2); (try clear hk); (try clear hi); have hcz97_0 : w96.cell? ⟨gb166, 0, none⟩ = some (.int .i64 a0_0) := (ze BK166.out 0).trans rfl; have hcz97_1 : w96.cell? ⟨gb166, 1, none⟩ = some (.int .i64 a0_1) := (ze BK166.out 1).trans rfl; have hcz97_2 : w96.cell? ⟨gb166, 2, none⟩ = some (.int .u64 a0_2) := (ze BK166.out 2).trans rfl; have hcz97_3 : w96.cell? ⟨gb166, 3, none⟩ = some (.int .i64 a0_3) := (ze BK166.out 3).trans rfl; have hcz97_4 : w96.cell? ⟨gb166, 4, none⟩ = some (.int .i64 a0_4) := (ze BK166.out 4).trans rfl; have hcz97_5 : w96.cell? ⟨gb166, 5, none⟩ = some (.slice (some ad189) l0_5.length c0_5) := (ze BK166.out 5).trans rfl; have hfz97_0 := zd BK166.out 0; have hfz97_1 := zd BK166.out 1; have hfz97_2 := zd BK166.out 2; have hfz97_3 := zd BK166.out 3; have hfz97_4 := zd BK166.out 4; have hfz97_5 := zd BK166.out 5; have hnb98 := NB194_173.out; have hnc98 := NB173_194.out; have hcz99_0 : w96.cell? ⟨gb194, 0, none⟩ = some (.int .i64 t192) := (ze BK194.out 0).trans rfl; have hcz99_1 : w96.cell? ⟨gb194, 1, none⟩ = some (.int .u64 t193) := (ze BK194.out 1).trans rfl; have hfz99_0 := zd BK194.out 0; have hfz99_1 := zd BK194.out 1) | (go_at_call 32; (with_reducible refine (spec_WideCmp.calls a0_1 a0_2 t192 t193 t196 _ A71.out).mono ?_); rintro e w100 ⟨rfl, hb⟩; have n0_ := zp.mk (zl (g := gb166) (o := .cells #[.int .i64 a0_0, .int .i64 a0_1, .int .u64 a0_2, .int .i64 a0_3, .int .i64 a0_4, .slice (some ad189) l0_5.length c0_5] 32 (0, 0)) (by (with_reducible repeat (first | refine zf ?_ _ | refine zi ?_ | refine zg ?_ _)); exact BK166.out) hb); have n1_ := zp.mk (zl (g := gb173) (o := .cells #[.int .i64 x174000_3, .int .u64 x174001_3] 30 (0, 0)) (by (with_reducible repeat (first | refine zf ?_ _ | refine zi ?_ | refine zg ?_ _)); exact BK173.out) hb); have n2_ := zp.mk (zl (g := gb184) (o := .cells #[.int .i64 t182, .int .u64 t183] 30 (0, 0)) (by (with_reducible repeat (first | refine zf ?_ _ | refine zi ?_ | refine zg ?_ _)); exact BK184.out) hb); have n3_ := zp.mk (zl (g := gb194) (o := .cells #[.int .i64 t192, .int .u64 t193] 30 (0, 0)) (by (with_reducible repeat (first | refine zf ?_ _ | refine zi ?_ | refine zg ?_ _)); exact BK194.out) hb); have n4_ := zp.mk (zj (by repeat (first | (with_reducible first | exact HB.out | apply zc | apply za | apply zb | refine zh ?_ GE166.out | refine zh ?_ GE173.out | refine zh ?_ GE184.out | refine zh ?_ GE194.out) | exact HB.out)) hb); clear BK166; clear BK173; clear BK184; clear BK194; clear HB; have BK166 := n0_; have BK173 := n1_; have BK184 := n2_; have BK194 := n3_; have HB := n4_; clear n0_ n1_ n2_ n3_ n4_; (try clear hb); (try clear hb2); (try clear hk); (try clear hi)))
              go_ret
              exact ⟨by first | rfl | (simp [errW_none, errW_some] <;> rfl) | (simp [*, errW_none, errW_some] <;> rfl), by repeat (first | (with_reducible first | exact HB.out | apply zc | apply za | apply zb | refine zh ?_ GE166.out | refine zh ?_ GE173.out | refine zh ?_ GE184.out | refine zh ?_ GE194.out) | exact HB.out)⟩
             ·rw [if_neg c70] at H
              have c70b0 : decide (0 ≤ t195) = false := decide_eq_false c70
              clear c70
              obtain rfl := Option.some.inj H
              have hnb101 := NB166_173.out
              have hnc101 := NB173_166.out
              have hcz102_0 : wr.cell? ⟨gb166, 0, none⟩ = some (.int .i64 a0_0) := (ze BK166.out 0).trans rfl
              have hcz102_1 : wr.cell? ⟨gb166, 1, none⟩ = some (.int .i64 a0_1) := (ze BK166.out 1).trans rfl
              have hcz102_2 : wr.cell? ⟨gb166, 2, none⟩ = some (.int .u64 a0_2) := (ze BK166.out 2).trans rfl
              have hcz102_3 : wr.cell? ⟨gb166, 3, none⟩ = some (.int .i64 a0_3) := (ze BK166.out 3).trans rfl
              have hcz102_4 : wr.cell? ⟨gb166, 4, none⟩ = some (.int .i64 a0_4) := (ze BK166.out 4).trans rfl
              have hcz102_5 : wr.cell? ⟨gb166, 5, none⟩ = some (.slice A0_5 l0_5.length c0_5) := (ze BK166.out 5).trans rfl
              have hfz102_0 := zd BK166.out 0
              have hfz102_1 := zd BK166.out 1
              have hfz102_2 := zd BK166.out 2
              have hfz102_3 := zd BK166.out 3
              have hfz102_4 := zd BK166.out 4
              have hfz102_5 := zd BK166.out 5
              try go_wp2
              have n0_ := zp.mk (zi BK166.out)
              have n1_ := zp.mk (zi BK173.out)
              have n2_ := zp.mk (zb HB.out)
              clear BK166
              clear BK173
              clear HB
              have BK166 := n0_
              have BK173 := n1_
              have HB := n2_
              clear n0_ n1_ n2_
              refine start_ (n := 8) (S := fun w' => True) (ds := []) #[false, false, false, false, false, false, false, false] (by kernel_rfl) rfl rfl trivial (fun hHeld => ?_); refine with_tabW spec_AggOk.tab15 spec_AggOk.bits15 (fun HT_ HW_ => ?_)
              generalize wr.drew = w103 at BK166 BK173 HB hHeld ⊢
              refine pure_ (i := 1) (N := some 113) (v := ?_) (a' := ?_) #[false, true, false, false, false, false, false, false] rfl rfl (any_of HT_.out (by kernel_rfl)) (fun _ _ _ h => h) (Or.inl ⟨by rfl, ?_⟩) ?_ ?_
              rotate_left
              ·intro w'
               go_simp
               with_reducible rfl
              rotate_left
              ·simp only [Act.put, List.setIfInBounds_toArray, List.set_cons_zero, List.set_cons_succ, i64_w, i32_w]
               rfl
              refine pure_ (i := 2) (N := some 114) (v := ?_) (a' := ?_) #[false, true, true, false, false, false, false, false] rfl rfl (any_of HT_.out (by kernel_rfl)) (fun _ _ _ h => h) (Or.inl ⟨by rfl, ?_⟩) ?_ ?_
              rotate_left
              ·intro w'
               go_simp
               with_reducible rfl
              rotate_left
              ·simp only [Act.put, List.setIfInBounds_toArray, List.set_cons_zero, List.set_cons_succ, i64_w, i32_w]
               rfl
              refine inv_at [0, 3, 4, 5, 6, 7] (fun a0_ b a w' => ∃ (gb184 : Nat) (m6_ : Value), a = putSel a0_ b [(0, 112, .agg #[.int .i64 x174000_3, .int .u64 x174001_3]), (3, 115, .int .i64 a0_3), (4, 116, .agg #[.int .i64 t180, .int .u64 t181]), (5, 117, .agg #[.int .i64 t182, .int .u64 t183]), (6, 6, m6_)] ∧ (w'.heap[gb166]? = some (.cells #[.int .i64 a0_0, .int .i64 a0_1, .int .u64 a0_2, .int .i64 a0_3, .int .i64 a0_4, .slice A0_5 l0_5.length c0_5] 32 (0, 0))) ∧ (w'.heap[gb173]? = some (.cells #[.int .i64 x174000_3, .int .u64 x174001_3] 30 (0, 0))) ∧ (Below w.heap.size w w') ∧ (b 6 = true → b 7 = false → w'.heap[gb184]? = some (.cells #[.int .i64 0, .int .u64 0] 30 (0, 0))) ∧ (b 6 = true → w.heap.size ≤ gb184) ∧ (b 6 = true → w.heap.size ≤ gb184) ∧ (b 6 = true → gb166 ≠ gb184) ∧ (b 6 = true → gb184 ≠ gb166) ∧ (b 6 = true → gb173 ≠ gb184) ∧ (b 6 = true → gb184 ≠ gb173) ∧ (b 7 = true → w'.heap[gb184]? = some (.cells #[.int .i64 t182, .int .u64 t183] 30 (0, 0))) ∧ (b 6 = true → (m6_ : Value) = .pointer (some ⟨gb184, 0, none⟩))) HT_.out HW_.out (by kernel_rfl) (by kernel_rfl) ?_ ?_ ?_
              ·exact ⟨0, .bool false, by simp only [putSel, Bool.false_eq_true, if_false], BK166.out, BK173.out, HB.out, fun h_ => absurd h_ (by decide), fun h_ => absurd h_ (by decide), fun h_ => absurd h_ (by decide), fun h_ => absurd h_ (by decide), fun h_ => absurd h_ (by decide), fun h_ => absurd h_ (by decide), fun h_ => absurd h_ (by decide), fun h_ => absurd h_ (by decide), fun h_ => absurd h_ (by decide)⟩
              ·skip
               clear BK166 BK173 HB
               refine steps_cons ?_ ?_
               ·rintro b a w' ⟨gb184, m6_, ha, Q_BK166, Q_BK173, Q_HB, Q_BK184, Q_GW184, Q_GE184, Q_NB166_184, Q_NB184_166, Q_NB173_184, Q_NB184_173, Q_BK184_e7, Q_X6_⟩ hb_ hon hoff
                refine ⟨_, rfl, fun K hK => ?_⟩
                have e3 : a.tmps[3]? = some (.pointer (some ⟨gb173, 0, none⟩)) := by rw [ha]; exact (putSel_off rfl).trans rfl
                replace ha := zp.mk ha
                have BK166 := zp.mk Q_BK166
                have BK173 := zp.mk Q_BK173
                have HB := zp.mk Q_HB
                have hc0_ : w'.cell? ⟨gb173, 0, none⟩ = some (.int .i64 x174000_3) := (ze BK173.out 0).trans rfl
                have hc1_ : w'.cell? ⟨gb173, 1, none⟩ = some (.int .u64 x174001_3) := (ze BK173.out 1).trans rfl
                refine value_ (w1 := w') (v := .agg #[.int .i64 x174000_3, .int .u64 x174001_3]) (by rfl) rfl ?_ ?_
                ·go_simp
                 (try simp only [i64_w])
                 try rfl
                refine hK.out _ _ ⟨gb184, m6_, (by rw [ha.out]; exact putSel_upk 0 hb_ rfl rfl rfl), Q_BK166, Q_BK173, Q_HB, Q_BK184, Q_GW184, Q_GE184, Q_NB166_184, Q_NB184_166, Q_NB173_184, Q_NB184_173, fun h0_ => absurd ((hoff 7 (by kernel_rfl)).symm.trans h0_) (by decide), Q_X6_⟩
               refine steps_cons ?_ ?_
               ·rintro b a w' ⟨gb184, m6_, ha, Q_BK166, Q_BK173, Q_HB, Q_BK184, Q_GW184, Q_GE184, Q_NB166_184, Q_NB184_166, Q_NB173_184, Q_NB184_173, Q_BK184_e7, Q_X6_⟩ hb_ hon hoff
                refine ⟨_, rfl, fun K hK => ?_⟩
                have e114 : a.tmps[114]? = some (.pointer (some ⟨gb166, 3, none⟩)) := by rw [ha]; exact (putSel_off rfl).trans rfl
                replace ha := zp.mk ha
                have BK166 := zp.mk Q_BK166
                have BK173 := zp.mk Q_BK173
                have HB := zp.mk Q_HB
                have hc0_ : w'.cell? ⟨gb166, 0, none⟩ = some (.int .i64 a0_0) := (ze BK166.out 0).trans rfl
                have hc1_ : w'.cell? ⟨gb166, 1, none⟩ = some (.int .i64 a0_1) := (ze BK166.out 1).trans rfl
                have hc2_ : w'.cell? ⟨gb166, 2, none⟩ = some (.int .u64 a0_2) := (ze BK166.out 2).trans rfl
                have hc3_ : w'.cell? ⟨gb166, 3, none⟩ = some (.int .i64 a0_3) := (ze BK166.out 3).trans rfl
                have hc4_ : w'.cell? ⟨gb166, 4, none⟩ = some (.int .i64 a0_4) := (ze BK166.out 4).trans rfl
                have hc5_ : w'.cell? ⟨gb166, 5, none⟩ = some (.slice A0_5 l0_5.length c0_5) := (ze BK166.out 5).trans rfl
                refine value_ (w1 := w') (v := .int .i64 a0_3) (by rfl) rfl ?_ ?_
                ·go_simp
                 (try simp only [i64_w])
                 try rfl
                refine hK.out _ _ ⟨gb184, m6_, (by rw [ha.out]; exact putSel_upk 1 hb_ rfl rfl rfl), Q_BK166, Q_BK173, Q_HB, Q_BK184, Q_GW184, Q_GE184, Q_NB166_184, Q_NB184_166, Q_NB173_184, Q_NB184_173, fun h0_ => absurd ((hoff 7 (by kernel_rfl)).symm.trans h0_) (by decide), Q_X6_⟩
               refine steps_cons ?_ ?_
               ·rintro b a w' ⟨gb184, m6_, ha, Q_BK166, Q_BK173, Q_HB, Q_BK184, Q_GW184, Q_GE184, Q_NB166_184, Q_NB184_166, Q_NB173_184, Q_NB184_173, Q_BK184_e7, Q_X6_⟩ hb_ hon hoff
                refine ⟨_, rfl, fun K hK => ?_⟩
                have e113 : a.tmps[113]? = some (.int .i64 (wrap64 (a0_0 - (l0_5.length : Int)))) := by rw [ha]; exact (putSel_off rfl).trans rfl
                have e115 : a.tmps[115]? = some (.int .i64 a0_3) := by rw [ha]; exact putSel_on (e := (3, 115, .int .i64 a0_3)) 1 rfl rfl (hon 3 (by kernel_rfl)) rfl
                replace ha := zp.mk ha
                have BK166 := zp.mk Q_BK166
                have BK173 := zp.mk Q_BK173
                have HB := zp.mk Q_HB
                refine goes_ Try.func31 (by kernel_rfl) rfl #[.int .i64 (wrap64 (a0_0 - (l0_5.length : Int))), .int .i64 a0_3] (by rfl) rfl rfl (by first | (simp only [List.map_toArray, List.map_cons, List.map_nil, Act.eval, Array.getD_eq_getD_getElem?, Option.getD_some, e113, e115]; done) | (simp only [List.map_toArray, List.map_cons, List.map_nil, Act.eval, Array.getD_eq_getD_getElem?, Option.getD_some, e113, e115]; rfl)) ?_
                with_reducible refine (spec_l07Times.calls k3 (wrap64 (a0_0 - (l0_5.length : Int))) a0_3 t180 t181 _ A62.out).mono ?_
                rintro e w104 ⟨rfl, hb⟩
                refine ⟨_, rfl, ?_⟩
                have n0_ := zp.mk (zl (g := gb166) (o := .cells #[.int .i64 a0_0, .int .i64 a0_1, .int .u64 a0_2, .int .i64 a0_3, .int .i64 a0_4, .slice A0_5 l0_5.length c0_5] 32 (0, 0)) (by (with_reducible repeat (first | refine zf ?_ _ | refine zi ?_ | refine zg ?_ _)); exact BK166.out) hb)
                have n1_ := zp.mk (zl (g := gb173) (o := .cells #[.int .i64 x174000_3, .int .u64 x174001_3] 30 (0, 0)) (by (with_reducible repeat (first | refine zf ?_ _ | refine zi ?_ | refine zg ?_ _)); exact BK173.out) hb)
                have n2_ := zp.mk (zj (by repeat (first | (with_reducible first | exact HB.out | apply zc | apply za | apply zb | refine zh ?_ GE166.out | refine zh ?_ GE173.out) | exact HB.out)) hb)
                have z_BK184 := fun (h0_ : b 6 = true) (h1_ : b 7 = false) => (show w104.heap[gb184]? = some (.cells #[.int .i64 0, .int .u64 0] 30 (0, 0)) from by first | exact (zl (g := gb184) (o := .cells #[.int .i64 0, .int .u64 0] 30 (0, 0)) (by (with_reducible repeat (first | refine zf ?_ _ | refine zi ?_ | refine zg ?_ _)); exact (Q_BK184 h0_ h1_)) hb))
                clear BK166
                clear BK173
                clear HB
                have BK166 := n0_
                have BK173 := n1_
                have HB := n2_
                clear n0_ n1_ n2_
                (try clear hb)
                (try clear hb2)
                (try clear hk)
                (try clear hi)
                refine hK.out _ _ ⟨gb184, m6_, (by rw [ha.out]; exact putSel_upk 2 hb_ rfl rfl rfl), (by (with_reducible repeat (first | refine zf ?_ _ | refine zi ?_ | refine zg ?_ _)); exact BK166.out), (by (with_reducible repeat (first | refine zf ?_ _ | refine zi ?_ | refine zg ?_ _)); exact BK173.out), (by repeat (first | (with_reducible first | exact HB.out | apply zc | apply za | apply zb | refine zh ?_ GE166.out | refine zh ?_ GE173.out) | exact HB.out)), z_BK184, Q_GW184, Q_GE184, Q_NB166_184, Q_NB184_166, Q_NB173_184, Q_NB184_173, fun h0_ => absurd ((hoff 7 (by kernel_rfl)).symm.trans h0_) (by decide), Q_X6_⟩
               refine steps_cons ?_ ?_
               ·rintro b a w' ⟨gb184, m6_, ha, Q_BK166, Q_BK173, Q_HB, Q_BK184, Q_GW184, Q_GE184, Q_NB166_184, Q_NB184_166, Q_NB173_184, Q_NB184_173, Q_BK184_e7, Q_X6_⟩ hb_ hon hoff
                refine ⟨_, rfl, fun K hK => ?_⟩
                have e112 : a.tmps[112]? = some (.agg #[.int .i64 x174000_3, .int .u64 x174001_3]) := by rw [ha]; exact putSel_on (e := (0, 112, .agg #[.int .i64 x174000_3, .int .u64 x174001_3])) 0 rfl rfl (hon 0 (by kernel_rfl)) rfl
                have e116 : a.tmps[116]? = some (.agg #[.int .i64 t180, .int .u64 t181]) := by rw [ha]; exact putSel_on (e := (4, 116, .agg #[.int .i64 t180, .int .u64 t181])) 2 rfl rfl (hon 4 (by kernel_rfl)) rfl
                replace ha := zp.mk ha
                have BK166 := zp.mk Q_BK166
                have BK173 := zp.mk Q_BK173
                have HB := zp.mk Q_HB
                refine goes_ Try.func29 (by kernel_rfl) rfl #[.agg #[.int .i64 x174000_3, .int .u64 x174001_3], .agg #[.int .i64 t180, .int .u64 t181]] (by rfl) rfl rfl (by first | (simp only [List.map_toArray, List.map_cons, List.map_nil, Act.eval, Array.getD_eq_getD_getElem?, Option.getD_some, e112, e116]; done) | (simp only [List.map_toArray, List.map_cons, List.map_nil, Act.eval, Array.getD_eq_getD_getElem?, Option.getD_some, e112, e116]; rfl)) ?_
                with_reducible refine (spec_WideAdd.calls x174000_3 x174001_3 t180 t181 t182 t183 _ A63.out).mono ?_
                rintro e w106 ⟨rfl, hb⟩
                refine ⟨_, rfl, ?_⟩
                have n0_ := zp.mk (zl (g := gb166) (o := .cells #[.int .i64 a0_0, .int .i64 a0_1, .int .u64 a0_2, .int .i64 a0_3, .int .i64 a0_4, .slice A0_5 l0_5.length c0_5] 32 (0, 0)) (by (with_reducible repeat (first | refine zf ?_ _ | refine zi ?_ | refine zg ?_ _)); exact BK166.out) hb)
                have n1_ := zp.mk (zl (g := gb173) (o := .cells #[.int .i64 x174000_3, .int .u64 x174001_3] 30 (0, 0)) (by (with_reducible repeat (first | refine zf ?_ _ | refine zi ?_ | refine zg ?_ _)); exact BK173.out) hb)
                have n2_ := zp.mk (zj (by repeat (first | (with_reducible first | exact HB.out | apply zc | apply za | apply zb | refine zh ?_ GE166.out | refine zh ?_ GE173.out) | exact HB.out)) hb)
                have z_BK184 := fun (h0_ : b 6 = true) (h1_ : b 7 = false) => (show w106.heap[gb184]? = some (.cells #[.int .i64 0, .int .u64 0] 30 (0, 0)) from by first | exact (zl (g := gb184) (o := .cells #[.int .i64 0, .int .u64 0] 30 (0, 0)) (by (with_reducible repeat (first | refine zf ?_ _ | refine zi ?_ | refine zg ?_ _)); exact (Q_BK184 h0_ h1_)) hb))
                clear BK166
                clear BK173
                clear HB
                have BK166 := n0_
                have BK173 := n1_
                have HB := n2_
                clear n0_ n1_ n2_
                (try clear hb)
                (try clear hb2)
                (try clear hk)
                (try clear hi)
                refine hK.out _ _ ⟨gb184, m6_, (by rw [ha.out]; exact putSel_upk 3 hb_ rfl rfl rfl), (by (with_reducible repeat (first | refine zf ?_ _ | refine zi ?_ | refine zg ?_ _)); exact BK166.out), (by (with_reducible repeat (first | refine zf ?_ _ | refine zi ?_ | refine zg ?_ _)); exact BK173.out), (by repeat (first | (with_reducible first | exact HB.out | apply zc | apply za | apply zb | refine zh ?_ GE166.out | refine zh ?_ GE173.out) | exact HB.out)), z_BK184, Q_GW184, Q_GE184, Q_NB166_184, Q_NB184_166, Q_NB173_184, Q_NB184_173, fun h0_ => absurd ((hoff 7 (by kernel_rfl)).symm.trans h0_) (by decide), Q_X6_⟩
               refine steps_cons ?_ ?_
               ·rintro b a w' ⟨gb184, m6_, ha, Q_BK166, Q_BK173, Q_HB, Q_BK184, Q_GW184, Q_GE184, Q_NB166_184, Q_NB184_166, Q_NB173_184, Q_NB184_173, Q_BK184_e7, Q_X6_⟩ hb_ hon hoff
                refine ⟨_, rfl, fun K hK => ?_⟩
                replace ha := zp.mk ha
                have BK166 := zp.mk Q_BK166
                have BK173 := zp.mk Q_BK173
                have HB := zp.mk Q_HB
                refine box_step ?hg (N := 6) ?hd (cs := #[.int .i64 0, .int .u64 0]) (t := 30) ?hr ?_; (case hd => rfl); (case hg => rfl); (case hr => first | (go_simp; done) | (go_simp; rfl))
                intro gb184 hg w104 hbox hb
                have n0_ := zp.mk (zl (g := gb166) (o := .cells #[.int .i64 a0_0, .int .i64 a0_1, .int .u64 a0_2, .int .i64 a0_3, .int .i64 a0_4, .slice A0_5 l0_5.length c0_5] 32 (0, 0)) (by (with_reducible repeat (first | refine zf ?_ _ | refine zi ?_ | refine zg ?_ _)); exact BK166.out) hb)
                have n1_ := zp.mk (zl (g := gb173) (o := .cells #[.int .i64 x174000_3, .int .u64 x174001_3] 30 (0, 0)) (by (with_reducible repeat (first | refine zf ?_ _ | refine zi ?_ | refine zg ?_ _)); exact BK173.out) hb)
                have n2_ := zp.mk (zj (by repeat (first | (with_reducible first | exact HB.out | apply zc | apply za | apply zb | refine zh ?_ GE166.out | refine zh ?_ GE173.out) | exact HB.out)) hb)
                have n3_ := zp.mk (hbox)
                have n4_ := zp.mk ((by rw [hg]; exact (zk (by repeat (first | (with_reducible first | exact HB.out | apply zc | apply za | apply zb | refine zh ?_ GE166.out | refine zh ?_ GE173.out) | exact HB.out))) : w.heap.size ≤ gb184))
                have n5_ := zp.mk ((by rw [hg]; exact (zk (by repeat (first | (with_reducible first | exact HB.out | apply zc | apply za | apply zb | refine zh ?_ GE166.out | refine zh ?_ GE173.out) | exact HB.out))) : w.heap.size ≤ gb184))
                have n6_ := zp.mk ((by rw [hg]; exact Nat.ne_of_lt (blk_lt (g := gb166) (o := .cells #[.int .i64 a0_0, .int .i64 a0_1, .int .u64 a0_2, .int .i64 a0_3, .int .i64 a0_4, .slice A0_5 l0_5.length c0_5] 32 (0, 0)) (by (with_reducible repeat (first | refine zf ?_ _ | refine zi ?_ | refine zg ?_ _)); exact BK166.out)) : gb166 ≠ gb184))
                have n7_ := zp.mk ((by rw [hg]; exact Nat.ne_of_gt (blk_lt (g := gb166) (o := .cells #[.int .i64 a0_0, .int .i64 a0_1, .int .u64 a0_2, .int .i64 a0_3, .int .i64 a0_4, .slice A0_5 l0_5.length c0_5] 32 (0, 0)) (by (with_reducible repeat (first | refine zf ?_ _ | refine zi ?_ | refine zg ?_ _)); exact BK166.out)) : gb184 ≠ gb166))
                have n8_ := zp.mk ((by rw [hg]; exact Nat.ne_of_lt (blk_lt (g := gb173) (o := .cells #[.int .i64 x174000_3, .int .u64 x174001_3] 30 (0, 0)) (by (with_reducible repeat (first | refine zf ?_ _ | refine zi ?_ | refine zg ?_ _)); exact BK173.out)) : gb173 ≠ gb184))
                have n9_ := zp.mk ((by rw [hg]; exact Nat.ne_of_gt (blk_lt (g := gb173) (o := .cells #[.int .i64 x174000_3, .int .u64 x174001_3] 30 (0, 0)) (by (with_reducible repeat (first | refine zf ?_ _ | refine zi ?_ | refine zg ?_ _)); exact BK173.out)) : gb184 ≠ gb173))
                clear BK166
                clear BK173
                clear HB
                have BK166 := n0_
                have BK173 := n1_
                have HB := n2_
                have BK184 := n3_
                have GW184 := n4_
                have GE184 := n5_
                have NB166_184 := n6_
                have NB184_166 := n7_
                have NB173_184 := n8_
                have NB184_173 := n9_
                clear n0_ n1_ n2_ n3_ n4_ n5_ n6_ n7_ n8_ n9_
                clear hb hbox hg
                refine hK.out _ _ ⟨gb184, (.pointer (some ⟨gb184, 0, none⟩)), (by rw [ha.out]; exact putSel_upk 4 hb_ rfl rfl rfl), (by (with_reducible repeat (first | refine zf ?_ _ | refine zi ?_ | refine zg ?_ _)); exact BK166.out), (by (with_reducible repeat (first | refine zf ?_ _ | refine zi ?_ | refine zg ?_ _)); exact BK173.out), (by repeat (first | (with_reducible first | exact HB.out | apply zc | apply za | apply zb | refine zh ?_ GE166.out | refine zh ?_ GE173.out | refine zh ?_ GE184.out) | exact HB.out)), fun _ _ => (by (with_reducible repeat (first | refine zf ?_ _ | refine zi ?_ | refine zg ?_ _)); exact BK184.out), fun _ => GW184.out, fun _ => GE184.out, fun _ => NB166_184.out, fun _ => NB184_166.out, fun _ => NB173_184.out, fun _ => NB184_173.out, fun h0_ => absurd ((hoff 7 (by kernel_rfl)).symm.trans h0_) (by decide), fun _ => rfl⟩
               refine steps_cons ?_ ?_
               ·rintro b a w' ⟨gb184, m6_, ha, Q_BK166, Q_BK173, Q_HB, Q_BK184, Q_GW184, Q_GE184, Q_NB166_184, Q_NB184_166, Q_NB173_184, Q_NB184_173, Q_BK184_e7, Q_X6_⟩ hb_ hon hoff
                refine ⟨_, rfl, fun K hK => ?_⟩
                have e6 : a.tmps[6]? = some (m6_) := by rw [ha]; exact putSel_on (e := (6, 6, m6_)) 4 rfl rfl (hon 6 (by kernel_rfl)) rfl
                rw [Q_X6_ (hon 6 (by kernel_rfl))] at e6
                have e117 : a.tmps[117]? = some (.agg #[.int .i64 t182, .int .u64 t183]) := by rw [ha]; exact putSel_on (e := (5, 117, .agg #[.int .i64 t182, .int .u64 t183])) 3 rfl rfl (hon 5 (by kernel_rfl)) rfl
                replace ha := zp.mk ha
                have BK166 := zp.mk Q_BK166
                have BK173 := zp.mk Q_BK173
                have HB := zp.mk Q_HB
                have BK184 := zp.mk (Q_BK184 (hon 6 (by kernel_rfl)) hb_)
                have GW184 := zp.mk (Q_GW184 (hon 6 (by kernel_rfl)))
                have GE184 := zp.mk (Q_GE184 (hon 6 (by kernel_rfl)))
                have NB166_184 := zp.mk (Q_NB166_184 (hon 6 (by kernel_rfl)))
                have NB184_166 := zp.mk (Q_NB184_166 (hon 6 (by kernel_rfl)))
                have NB173_184 := zp.mk (Q_NB173_184 (hon 6 (by kernel_rfl)))
                have NB184_173 := zp.mk (Q_NB184_173 (hon 6 (by kernel_rfl)))
                have hs108 : w'.cell? ⟨gb184, 0, none⟩ = some (.int .i64 0) := (ze BK184.out 0).trans rfl
                have hfs108 := zd BK184.out 0
                have hns108_0 := NB166_184.out
                have hns108_1 := NB173_184.out
                have hms108_0 := NB184_166.out
                have hms108_1 := NB184_173.out
                have hs109 : w'.cell? ⟨gb184, 1, none⟩ = some (.int .u64 0) := (ze BK184.out 1).trans rfl
                have hfs109 := zd BK184.out 1
                have hns109_0 := NB166_184.out
                have hns109_1 := NB173_184.out
                have hms109_0 := NB184_166.out
                have hms109_1 := NB184_173.out
                refine skip_ (w1 := ?_) (by rfl) rfl ?_ ?_
                rotate_left
                ·go_simp
                 rfl
                refine hK.out _ _ ⟨gb184, m6_, (by rw [ha.out]; exact putSel_none (v := undef) rfl), (by (with_reducible repeat (first | refine zf ?_ _ | refine zi ?_ | refine zg ?_ _)); refine blk_far ?_ NB166_184.out _; (with_reducible repeat (first | refine zf ?_ _ | refine zi ?_ | refine zg ?_ _)); refine blk_far ?_ NB166_184.out _; (with_reducible repeat (first | refine zf ?_ _ | refine zi ?_ | refine zg ?_ _)); exact BK166.out), (by (with_reducible repeat (first | refine zf ?_ _ | refine zi ?_ | refine zg ?_ _)); refine blk_far ?_ NB173_184.out _; (with_reducible repeat (first | refine zf ?_ _ | refine zi ?_ | refine zg ?_ _)); refine blk_far ?_ NB173_184.out _; (with_reducible repeat (first | refine zf ?_ _ | refine zi ?_ | refine zg ?_ _)); exact BK173.out), (by repeat (first | (with_reducible first | exact HB.out | apply zc | apply za | apply zb | refine zh ?_ GE166.out | refine zh ?_ GE173.out | refine zh ?_ GE184.out) | exact HB.out)), fun _ h1_ => absurd ((up_self b 7).symm.trans h1_) (by decide), fun _ => GW184.out, fun _ => GE184.out, fun _ => NB166_184.out, fun _ => NB184_166.out, fun _ => NB173_184.out, fun _ => NB184_173.out, fun _ => (by (with_reducible repeat (first | refine zf ?_ _ | refine zi ?_ | refine zg ?_ _)); refine blk_put (cs := #[.int .i64 t182, .int .u64 0]) ?_ 1 _ rfl; (with_reducible repeat (first | refine zf ?_ _ | refine zi ?_ | refine zg ?_ _)); refine blk_put (cs := #[.int .i64 0, .int .u64 0]) ?_ 0 _ rfl; (with_reducible repeat (first | refine zf ?_ _ | refine zi ?_ | refine zg ?_ _)); exact BK184.out), Q_X6_⟩
               exact steps_nil
              rintro b a w109 hall ⟨gb184, m6_, ha, Q_BK166, Q_BK173, Q_HB, Q_BK184, Q_GW184, Q_GE184, Q_NB166_184, Q_NB184_166, Q_NB173_184, Q_NB184_173, Q_BK184_e7, Q_X6_⟩
              clear BK166 BK173 HB
              have hb0_ := hall 0 (by kernel_rfl)
              have hb3_ := hall 3 (by kernel_rfl)
              have hb4_ := hall 4 (by kernel_rfl)
              have hb5_ := hall 5 (by kernel_rfl)
              have hb6_ := hall 6 (by kernel_rfl)
              have hb7_ := hall 7 (by kernel_rfl)
              subst ha
              obtain rfl := Q_X6_ hb6_
              simp only [putSel, hb0_, hb3_, hb4_, hb5_, hb6_, hb7_, if_true, Act.put, List.setIfInBounds_toArray, List.set_cons_zero, List.set_cons_succ]
              have BK166 := zp.mk Q_BK166
              clear Q_BK166
              have BK173 := zp.mk Q_BK173
              clear Q_BK173
              have HB := zp.mk Q_HB
              clear Q_HB
              clear Q_BK184
              have GW184 := zp.mk (Q_GW184 hb6_)
              clear Q_GW184
              have GE184 := zp.mk (Q_GE184 hb6_)
              clear Q_GE184
              have NB166_184 := zp.mk (Q_NB166_184 hb6_)
              clear Q_NB166_184
              have NB184_166 := zp.mk (Q_NB184_166 hb6_)
              clear Q_NB184_166
              have NB173_184 := zp.mk (Q_NB173_184 hb6_)
              clear Q_NB173_184
              have NB184_173 := zp.mk (Q_NB184_173 hb6_)
              clear Q_NB184_173
              have BK184 := zp.mk (Q_BK184_e7 hb7_)
              clear Q_BK184_e7
              clear hall hb0_ hb3_ hb4_ hb5_ hb6_ hb7_
              try go_wp2
              have n0_ := zp.mk (zi BK166.out)
              have n1_ := zp.mk (zi BK173.out)
              have n2_ := zp.mk (zi BK184.out)
              have n3_ := zp.mk (zb HB.out)
              clear BK166
              clear BK173
              clear BK184
              clear HB
              have BK166 := n0_
              have BK173 := n1_
              have BK184 := n2_
              have HB := n3_
              clear n0_ n1_ n2_ n3_
              have p189 : 0 ≤ (3 : Int) := (by omega)
              have q189 : 3 < (l0_5.length : Int) := of_decide_eq_true (by first | (with_reducible assumption) | assumption)
              obtain ⟨ad189, e189, hx189_0⟩ := Kd.at_int HR0_5.out 3 p189 q189
              have hw189_0 := hx189_0
              (try rw [show ((3 : Int)).toNat = 3 from rfl] at hw189_0)
              (try rw [show 3 * 1 = 3 from rfl] at hw189_0)
              (try simp only [Nat.reduceMul, Nat.reduceEqDiff, Go.Addr.add, ↓reduceIte] at hw189_0)
              cases e189
              (try simp only [show (3 : Int).toNat = 3 from rfl, Nat.reduceMul, Nat.reduceEqDiff, Go.Addr.add, ↓reduceIte] at hx189_0)
              have qi189 : (3 < l0_5.length) = True := eq_true (by omega)
              (try rw [show ((3 : Int)).toNat = 3 from rfl] at hx189_0)
              replace hx189_0 := (HB.out.cell (World.block_lt_of_cell? w _ hx189_0)).trans hx189_0
              replace p189 := eq_true p189
              replace q189 := eq_true q189
              refine start_ (n := 15) (S := fun w' => True) (ds := []) #[false, false, false, false, false, false, false, false, false, false, false, false, false, false, false] (by kernel_rfl) rfl rfl trivial (fun hHeld => ?_); refine with_tabW spec_AggOk.tab16 spec_AggOk.bits16 (fun HT_ HW_ => ?_)
              generalize w109.drew = w110 at BK166 BK173 BK184 HB hx189_0 hHeld ⊢
              refine pure_ (i := 1) (N := some 119) (v := ?_) (a' := ?_) #[false, true, false, false, false, false, false, false, false, false, false, false, false, false, false] rfl rfl (any_of HT_.out (by kernel_rfl)) (fun _ _ _ h => h) (Or.inl ⟨by rfl, ?_⟩) ?_ ?_
              rotate_left
              ·intro w'
               go_simp
               with_reducible rfl
              rotate_left
              ·simp only [Act.put, List.setIfInBounds_toArray, List.set_cons_zero, List.set_cons_succ, i64_w, i32_w]
               rfl
              refine pure_ (i := 5) (N := some 123) (v := ?_) (a' := ?_) #[false, true, false, false, false, true, false, false, false, false, false, false, false, false, false] rfl rfl (any_of HT_.out (by kernel_rfl)) (fun _ _ _ h => h) (Or.inl ⟨by rfl, ?_⟩) ?_ ?_
              rotate_left
              ·intro w'
               go_simp
               with_reducible rfl
              rotate_left
              ·simp only [Act.put, List.setIfInBounds_toArray, List.set_cons_zero, List.set_cons_succ, i64_w, i32_w]
               rfl
              refine pure_ (i := 7) (N := some 125) (v := ?_) (a' := ?_) #[false, true, false, false, false, true, false, true, false, false, false, false, false, false, false] rfl rfl (any_of HT_.out (by kernel_rfl)) (fun _ _ _ h => h) (Or.inl ⟨by rfl, ?_⟩) ?_ ?_
              rotate_left
              ·intro w'
               go_simp
               with_reducible rfl
              rotate_left
              ·simp only [Act.put, List.setIfInBounds_toArray, List.set_cons_zero, List.set_cons_succ, i64_w, i32_w]
               rfl
              refine inv_at [0, 2, 3, 4, 6, 8, 9, 10, 11, 12, 13, 14] (fun a0_ b a w' => ∃ (gb194 : Nat) (m13_ : Value), a = putSel a0_ b [(0, 118, .agg #[.int .i64 x174000_3, .int .u64 x174001_3]), (2, 120, .int .i64 a0_3), (3, 121, .agg #[.int .i64 t185, .int .u64 t186]), (4, 122, .agg #[.int .i64 t187, .int .u64 t188]), (6, 124, .int .i64 (wrap64 ((wrap64 (a0_0 - (l0_5.length : Int))) - 1))), (8, 126, .slice (some ad189) l0_5.length c0_5), (9, 127, .pointer (some (ad189.add 3))), (10, 128, .int .i64 (rd l0_5 3)), (11, 129, .agg #[.int .i64 t190, .int .u64 t191]), (12, 130, .agg #[.int .i64 t192, .int .u64 t193]), (13, 7, m13_)] ∧ (w'.heap[gb166]? = some (.cells #[.int .i64 a0_0, .int .i64 a0_1, .int .u64 a0_2, .int .i64 a0_3, .int .i64 a0_4, .slice (some ad189) l0_5.length c0_5] 32 (0, 0))) ∧ (w'.heap[gb173]? = some (.cells #[.int .i64 x174000_3, .int .u64 x174001_3] 30 (0, 0))) ∧ (w'.heap[gb184]? = some (.cells #[.int .i64 t182, .int .u64 t183] 30 (0, 0))) ∧ (Below w.heap.size w w') ∧ (b 13 = true → b 14 = false → w'.heap[gb194]? = some (.cells #[.int .i64 0, .int .u64 0] 30 (0, 0))) ∧ (b 13 = true → w.heap.size ≤ gb194) ∧ (b 13 = true → w.heap.size ≤ gb194) ∧ (b 13 = true → gb166 ≠ gb194) ∧ (b 13 = true → gb194 ≠ gb166) ∧ (b 13 = true → gb173 ≠ gb194) ∧ (b 13 = true → gb194 ≠ gb173) ∧ (b 13 = true → gb184 ≠ gb194) ∧ (b 13 = true → gb194 ≠ gb184) ∧ (b 14 = true → w'.heap[gb194]? = some (.cells #[.int .i64 t192, .int .u64 t193] 30 (0, 0))) ∧ (b 13 = true → (m13_ : Value) = .pointer (some ⟨gb194, 0, none⟩))) HT_.out HW_.out (by kernel_rfl) (by kernel_rfl) ?_ ?_ ?_
              ·exact ⟨0, .bool false, by simp only [putSel, Bool.false_eq_true, if_false], BK166.out, BK173.out, BK184.out, HB.out, fun h_ => absurd h_ (by decide), fun h_ => absurd h_ (by decide), fun h_ => absurd h_ (by decide), fun h_ => absurd h_ (by decide), fun h_ => absurd h_ (by decide), fun h_ => absurd h_ (by decide), fun h_ => absurd h_ (by decide), fun h_ => absurd h_ (by decide), fun h_ => absurd h_ (by decide), fun h_ => absurd h_ (by decide), fun h_ => absurd h_ (by decide)⟩
              ·skip
               clear BK166 BK173 BK184 HB
               refine steps_cons ?_ ?_
               ·rintro b a w' ⟨gb194, m13_, ha, Q_BK166, Q_BK173, Q_BK184, Q_HB, Q_BK194, Q_GW194, Q_GE194, Q_NB166_194, Q_NB194_166, Q_NB173_194, Q_NB194_173, Q_NB184_194, Q_NB194_184, Q_BK194_e14, Q_X13_⟩ hb_ hon hoff
                refine ⟨_, rfl, fun K hK => ?_⟩
                have e3 : a.tmps[3]? = some (.pointer (some ⟨gb173, 0, none⟩)) := by rw [ha]; exact (putSel_off rfl).trans rfl
                replace ha := zp.mk ha
                have BK166 := zp.mk Q_BK166
                have BK173 := zp.mk Q_BK173
                have BK184 := zp.mk Q_BK184
                have HB := zp.mk Q_HB
                have hc0_ : w'.cell? ⟨gb173, 0, none⟩ = some (.int .i64 x174000_3) := (ze BK173.out 0).trans rfl
                have hc1_ : w'.cell? ⟨gb173, 1, none⟩ = some (.int .u64 x174001_3) := (ze BK173.out 1).trans rfl
                refine value_ (w1 := w') (v := .agg #[.int .i64 x174000_3, .int .u64 x174001_3]) (by rfl) rfl ?_ ?_
                ·go_simp
                 (try simp only [i64_w])
                 try rfl
                refine hK.out _ _ ⟨gb194, m13_, (by rw [ha.out]; exact putSel_upk 0 hb_ rfl rfl rfl), Q_BK166, Q_BK173, Q_BK184, Q_HB, Q_BK194, Q_GW194, Q_GE194, Q_NB166_194, Q_NB194_166, Q_NB173_194, Q_NB194_173, Q_NB184_194, Q_NB194_184, fun h0_ => absurd ((hoff 14 (by kernel_rfl)).symm.trans h0_) (by decide), Q_X13_⟩
               refine steps_cons ?_ ?_
               ·rintro b a w' ⟨gb194, m13_, ha, Q_BK166, Q_BK173, Q_BK184, Q_HB, Q_BK194, Q_GW194, Q_GE194, Q_NB166_194, Q_NB194_166, Q_NB173_194, Q_NB194_173, Q_NB184_194, Q_NB194_184, Q_BK194_e14, Q_X13_⟩ hb_ hon hoff
                refine ⟨_, rfl, fun K hK => ?_⟩
                have e119 : a.tmps[119]? = some (.pointer (some ⟨gb166, 3, none⟩)) := by rw [ha]; exact (putSel_off rfl).trans rfl
                replace ha := zp.mk ha
                have BK166 := zp.mk Q_BK166
                have BK173 := zp.mk Q_BK173
                have BK184 := zp.mk Q_BK184
                have HB := zp.mk Q_HB
                have hc0_ : w'.cell? ⟨gb166, 0, none⟩ = some (.int .i64 a0_0) := (ze BK166.out 0).trans rfl
                have hc1_ : w'.cell? ⟨gb166, 1, none⟩ = some (.int .i64 a0_1) := (ze BK166.out 1).trans rfl
                have hc2_ : w'.cell? ⟨gb166, 2, none⟩ = some (.int .u64 a0_2) := (ze BK166.out 2).trans rfl
                have hc3_ : w'.cell? ⟨gb166, 3, none⟩ = some (.int .i64 a0_3) := (ze BK166.out 3).trans rfl
                have hc4_ : w'.cell? ⟨gb166, 4, none⟩ = some (.int .i64 a0_4) := (ze BK166.out 4).trans rfl
                have hc5_ : w'.cell? ⟨gb166, 5, none⟩ = some (.slice (some ad189) l0_5.length c0_5) := (ze BK166.out 5).trans rfl
                refine value_ (w1 := w') (v := .int .i64 a0_3) (by rfl) rfl ?_ ?_
                ·go_simp
                 (try simp only [i64_w])
                 try rfl
                refine hK.out _ _ ⟨gb194, m13_, (by rw [ha.out]; exact putSel_upk 1 hb_ rfl rfl rfl), Q_BK166, Q_BK173, Q_BK184, Q_HB, Q_BK194, Q_GW194, Q_GE194, Q_NB166_194, Q_NB194_166, Q_NB173_194, Q_NB194_173, Q_NB184_194, Q_NB194_184, fun h0_ => absurd ((hoff 14 (by kernel_rfl)).symm.trans h0_) (by decide), Q_X13_⟩
               refine steps_cons ?_ ?_
               ·rintro b a w' ⟨gb194, m13_, ha, Q_BK166, Q_BK173, Q_BK184, Q_HB, Q_BK194, Q_GW194, Q_GE194, Q_NB166_194, Q_NB194_166, Q_NB173_194, Q_NB194_173, Q_NB184_194, Q_NB194_184, Q_BK194_e14, Q_X13_⟩ hb_ hon hoff
                refine ⟨_, rfl, fun K hK => ?_⟩
                have e120 : a.tmps[120]? = some (.int .i64 a0_3) := by rw [ha]; exact putSel_on (e := (2, 120, .int .i64 a0_3)) 1 rfl rfl (hon 2 (by kernel_rfl)) rfl
                replace ha := zp.mk ha
                have BK166 := zp.mk Q_BK166
                have BK173 := zp.mk Q_BK173
                have BK184 := zp.mk Q_BK184
                have HB := zp.mk Q_HB
                refine goes_ Try.func30 (by kernel_rfl) rfl #[.int .i64 a0_3] (by rfl) rfl rfl (by first | (simp only [List.map_toArray, List.map_cons, List.map_nil, Act.eval, Array.getD_eq_getD_getElem?, Option.getD_some, e120]; done) | (simp only [List.map_toArray, List.map_cons, List.map_nil, Act.eval, Array.getD_eq_getD_getElem?, Option.getD_some, e120]; rfl)) ?_
                with_reducible refine (spec_WideOf.calls a0_3 t185 t186 _ A64.out).mono ?_
                rintro e w111 ⟨rfl, hb⟩
                refine ⟨_, rfl, ?_⟩
                have n0_ := zp.mk (zl (g := gb166) (o := .cells #[.int .i64 a0_0, .int .i64 a0_1, .int .u64 a0_2, .int .i64 a0_3, .int .i64 a0_4, .slice (some ad189) l0_5.length c0_5] 32 (0, 0)) (by (with_reducible repeat (first | refine zf ?_ _ | refine zi ?_ | refine zg ?_ _)); exact BK166.out) hb)
                have n1_ := zp.mk (zl (g := gb173) (o := .cells #[.int .i64 x174000_3, .int .u64 x174001_3] 30 (0, 0)) (by (with_reducible repeat (first | refine zf ?_ _ | refine zi ?_ | refine zg ?_ _)); exact BK173.out) hb)
                have n2_ := zp.mk (zl (g := gb184) (o := .cells #[.int .i64 t182, .int .u64 t183] 30 (0, 0)) (by (with_reducible repeat (first | refine zf ?_ _ | refine zi ?_ | refine zg ?_ _)); exact BK184.out) hb)
                have n3_ := zp.mk (zj (by repeat (first | (with_reducible first | exact HB.out | apply zc | apply za | apply zb | refine zh ?_ GE166.out | refine zh ?_ GE173.out | refine zh ?_ GE184.out) | exact HB.out)) hb)
                have z_BK194 := fun (h0_ : b 13 = true) (h1_ : b 14 = false) => (show w111.heap[gb194]? = some (.cells #[.int .i64 0, .int .u64 0] 30 (0, 0)) from by first | exact (zl (g := gb194) (o := .cells #[.int .i64 0, .int .u64 0] 30 (0, 0)) (by (with_reducible repeat (first | refine zf ?_ _ | refine zi ?_ | refine zg ?_ _)); exact (Q_BK194 h0_ h1_)) hb))
                clear BK166
                clear BK173
                clear BK184
                clear HB
                have BK166 := n0_
                have BK173 := n1_
                have BK184 := n2_
                have HB := n3_
                clear n0_ n1_ n2_ n3_
                (try clear hb)
                (try clear hb2)
                (try clear hk)
                (try clear hi)
                refine hK.out _ _ ⟨gb194, m13_, (by rw [ha.out]; exact putSel_upk 2 hb_ rfl rfl rfl), (by (with_reducible repeat (first | refine zf ?_ _ | refine zi ?_ | refine zg ?_ _)); exact BK166.out), (by (with_reducible repeat (first | refine zf ?_ _ | refine zi ?_ | refine zg ?_ _)); exact BK173.out), (by (with_reducible repeat (first | refine zf ?_ _ | refine zi ?_ | refine zg ?_ _)); exact BK184.out), (by repeat (first | (with_reducible first | exact HB.out | apply zc | apply za | apply zb | refine zh ?_ GE166.out | refine zh ?_ GE173.out | refine zh ?_ GE184.out) | exact HB.out)), z_BK194, Q_GW194, Q_GE194, Q_NB166_194, Q_NB194_166, Q_NB173_194, Q_NB194_173, Q_NB184_194, Q_NB194_184, fun h0_ => absurd ((hoff 14 (by kernel_rfl)).symm.trans h0_) (by decide), Q_X13_⟩
               refine steps_cons ?_ ?_
               ·rintro b a w' ⟨gb194, m13_, ha, Q_BK166, Q_BK173, Q_BK184, Q_HB, Q_BK194, Q_GW194, Q_GE194, Q_NB166_194, Q_NB194_166, Q_NB173_194, Q_NB194_173, Q_NB184_194, Q_NB194_184, Q_BK194_e14, Q_X13_⟩ hb_ hon hoff
                refine ⟨_, rfl, fun K hK => ?_⟩
                have e118 : a.tmps[118]? = some (.agg #[.int .i64 x174000_3, .int .u64 x174001_3]) := by rw [ha]; exact putSel_on (e := (0, 118, .agg #[.int .i64 x174000_3, .int .u64 x174001_3])) 0 rfl rfl (hon 0 (by kernel_rfl)) rfl
                have e121 : a.tmps[121]? = some (.agg #[.int .i64 t185, .int .u64 t186]) := by rw [ha]; exact putSel_on (e := (3, 121, .agg #[.int .i64 t185, .int .u64 t186])) 2 rfl rfl (hon 3 (by kernel_rfl)) rfl
                replace ha := zp.mk ha
                have BK166 := zp.mk Q_BK166
                have BK173 := zp.mk Q_BK173
                have BK184 := zp.mk Q_BK184
                have HB := zp.mk Q_HB
                refine goes_ Try.func29 (by kernel_rfl) rfl #[.agg #[.int .i64 x174000_3, .int .u64 x174001_3], .agg #[.int .i64 t185, .int .u64 t186]] (by rfl) rfl rfl (by first | (simp only [List.map_toArray, List.map_cons, List.map_nil, Act.eval, Array.getD_eq_getD_getElem?, Option.getD_some, e118, e121]; done) | (simp only [List.map_toArray, List.map_cons, List.map_nil, Act.eval, Array.getD_eq_getD_getElem?, Option.getD_some, e118, e121]; rfl)) ?_
                with_reducible refine (spec_WideAdd.calls x174000_3 x174001_3 t185 t186 t187 t188 _ A65.out).mono ?_
                rintro e w113 ⟨rfl, hb⟩
                refine ⟨_, rfl, ?_⟩
                have n0_ := zp.mk (zl (g := gb166) (o := .cells #[.int .i64 a0_0, .int .i64 a0_1, .int .u64 a0_2, .int .i64 a0_3, .int .i64 a0_4, .slice (some ad189) l0_5.length c0_5] 32 (0, 0)) (by (with_reducible repeat (first | refine zf ?_ _ | refine zi ?_ | refine zg ?_ _)); exact BK166.out) hb)
                have n1_ := zp.mk (zl (g := gb173) (o := .cells #[.int .i64 x174000_3, .int .u64 x174001_3] 30 (0, 0)) (by (with_reducible repeat (first | refine zf ?_ _ | refine zi ?_ | refine zg ?_ _)); exact BK173.out) hb)
                have n2_ := zp.mk (zl (g := gb184) (o := .cells #[.int .i64 t182, .int .u64 t183] 30 (0, 0)) (by (with_reducible repeat (first | refine zf ?_ _ | refine zi ?_ | refine zg ?_ _)); exact BK184.out) hb)
                have n3_ := zp.mk (zj (by repeat (first | (with_reducible first | exact HB.out | apply zc | apply za | apply zb | refine zh ?_ GE166.out | refine zh ?_ GE173.out | refine zh ?_ GE184.out) | exact HB.out)) hb)
                have z_BK194 := fun (h0_ : b 13 = true) (h1_ : b 14 = false) => (show w113.heap[gb194]? = some (.cells #[.int .i64 0, .int .u64 0] 30 (0, 0)) from by first | exact (zl (g := gb194) (o := .cells #[.int .i64 0, .int .u64 0] 30 (0, 0)) (by (with_reducible repeat (first | refine zf ?_ _ | refine zi ?_ | refine zg ?_ _)); exact (Q_BK194 h0_ h1_)) hb))
                clear BK166
                clear BK173
                clear BK184
                clear HB
                have BK166 := n0_
                have BK173 := n1_
                have BK184 := n2_
                have HB := n3_
                clear n0_ n1_ n2_ n3_
                (try clear hb)
                (try clear hb2)
                (try clear hk)
                (try clear hi)
                refine hK.out _ _ ⟨gb194, m13_, (by rw [ha.out]; exact putSel_upk 3 hb_ rfl rfl rfl), (by (with_reducible repeat (first | refine zf ?_ _ | refine zi ?_ | refine zg ?_ _)); exact BK166.out), (by (with_reducible repeat (first | refine zf ?_ _ | refine zi ?_ | refine zg ?_ _)); exact BK173.out), (by (with_reducible repeat (first | refine zf ?_ _ | refine zi ?_ | refine zg ?_ _)); exact BK184.out), (by repeat (first | (with_reducible first | exact HB.out | apply zc | apply za | apply zb | refine zh ?_ GE166.out | refine zh ?_ GE173.out | refine zh ?_ GE184.out) | exact HB.out)), z_BK194, Q_GW194, Q_GE194, Q_NB166_194, Q_NB194_166, Q_NB173_194, Q_NB194_173, Q_NB184_194, Q_NB194_184, fun h0_ => absurd ((hoff 14 (by kernel_rfl)).symm.trans h0_) (by decide), Q_X13_⟩
               refine steps_cons ?_ ?_
               ·rintro b a w' ⟨gb194, m13_, ha, Q_BK166, Q_BK173, Q_BK184, Q_HB, Q_BK194, Q_GW194, Q_GE194, Q_NB166_194, Q_NB194_166, Q_NB173_194, Q_NB194_173, Q_NB184_194, Q_NB194_184, Q_BK194_e14, Q_X13_⟩ hb_ hon hoff
                refine ⟨_, rfl, fun K hK => ?_⟩
                have e123 : a.tmps[123]? = some (.int .i64 (wrap64 (a0_0 - (l0_5.length : Int)))) := by rw [ha]; exact (putSel_off rfl).trans rfl
                replace ha := zp.mk ha
                have BK166 := zp.mk Q_BK166
                have BK173 := zp.mk Q_BK173
                have BK184 := zp.mk Q_BK184
                have HB := zp.mk Q_HB
                refine value_ (w1 := w') (v := .int .i64 (wrap64 ((wrap64 (a0_0 - (l0_5.length : Int))) - 1))) (by rfl) rfl ?_ ?_
                ·go_simp
                 (try simp only [i64_w])
                 try rfl
                refine hK.out _ _ ⟨gb194, m13_, (by rw [ha.out]; exact putSel_upk 4 hb_ rfl rfl rfl), Q_BK166, Q_BK173, Q_BK184, Q_HB, Q_BK194, Q_GW194, Q_GE194, Q_NB166_194, Q_NB194_166, Q_NB173_194, Q_NB194_173, Q_NB184_194, Q_NB194_184, fun h0_ => absurd ((hoff 14 (by kernel_rfl)).symm.trans h0_) (by decide), Q_X13_⟩
               refine steps_cons ?_ ?_
               ·rintro b a w' ⟨gb194, m13_, ha, Q_BK166, Q_BK173, Q_BK184, Q_HB, Q_BK194, Q_GW194, Q_GE194, Q_NB166_194, Q_NB194_166, Q_NB173_194, Q_NB194_173, Q_NB184_194, Q_NB194_184, Q_BK194_e14, Q_X13_⟩ hb_ hon hoff
                refine ⟨_, rfl, fun K hK => ?_⟩
                have e125 : a.tmps[125]? = some (.pointer (some ⟨gb166, 5, none⟩)) := by rw [ha]; exact (putSel_off rfl).trans rfl
                replace ha := zp.mk ha
                have BK166 := zp.mk Q_BK166
                have BK173 := zp.mk Q_BK173
                have BK184 := zp.mk Q_BK184
                have HB := zp.mk Q_HB
                have hc0_ : w'.cell? ⟨gb166, 0, none⟩ = some (.int .i64 a0_0) := (ze BK166.out 0).trans rfl
                have hc1_ : w'.cell? ⟨gb166, 1, none⟩ = some (.int .i64 a0_1) := (ze BK166.out 1).trans rfl
                have hc2_ : w'.cell? ⟨gb166, 2, none⟩ = some (.int .u64 a0_2) := (ze BK166.out 2).trans rfl
                have hc3_ : w'.cell? ⟨gb166, 3, none⟩ = some (.int .i64 a0_3) := (ze BK166.out 3).trans rfl
                have hc4_ : w'.cell? ⟨gb166, 4, none⟩ = some (.int .i64 a0_4) := (ze BK166.out 4).trans rfl
                have hc5_ : w'.cell? ⟨gb166, 5, none⟩ = some (.slice (some ad189) l0_5.length c0_5) := (ze BK166.out 5).trans rfl
                refine value_ (w1 := w') (v := .slice (some ad189) l0_5.length c0_5) (by rfl) rfl ?_ ?_
                ·go_simp
                 (try simp only [i64_w])
                 try rfl
                refine hK.out _ _ ⟨gb194, m13_, (by rw [ha.out]; exact putSel_upk 5 hb_ rfl rfl rfl), Q_BK166, Q_BK173, Q_BK184, Q_HB, Q_BK194, Q_GW194, Q_GE194, Q_NB166_194, Q_NB194_166, Q_NB173_194, Q_NB194_173, Q_NB184_194, Q_NB194_184, fun h0_ => absurd ((hoff 14 (by kernel_rfl)).symm.trans h0_) (by decide), Q_X13_⟩
               refine steps_cons ?_ ?_
               ·rintro b a w' ⟨gb194, m13_, ha, Q_BK166, Q_BK173, Q_BK184, Q_HB, Q_BK194, Q_GW194, Q_GE194, Q_NB166_194, Q_NB194_166, Q_NB173_194, Q_NB194_173, Q_NB184_194, Q_NB194_184, Q_BK194_e14, Q_X13_⟩ hb_ hon hoff
                refine ⟨_, rfl, fun K hK => ?_⟩
                have e126 : a.tmps[126]? = some (.slice (some ad189) l0_5.length c0_5) := by rw [ha]; exact putSel_on (e := (8, 126, .slice (some ad189) l0_5.length c0_5)) 5 rfl rfl (hon 8 (by kernel_rfl)) rfl
                replace ha := zp.mk ha
                have BK166 := zp.mk Q_BK166
                have BK173 := zp.mk Q_BK173
                have BK184 := zp.mk Q_BK184
                have HB := zp.mk Q_HB
                have hs0_ : w'.cell? ⟨ad189.block, ad189.off + 3, none⟩ = some (.int .i64 (rd l0_5 3)) := ((HB.out.cell (World.block_lt_of_cell? w _ hw189_0)).trans hw189_0)
                refine value_ (w1 := w') (v := .pointer (some (ad189.add 3))) (by rfl) rfl ?_ ?_
                ·go_simp
                 (try simp only [i64_w])
                 try rfl
                refine hK.out _ _ ⟨gb194, m13_, (by rw [ha.out]; exact putSel_upk 6 hb_ rfl rfl rfl), Q_BK166, Q_BK173, Q_BK184, Q_HB, Q_BK194, Q_GW194, Q_GE194, Q_NB166_194, Q_NB194_166, Q_NB173_194, Q_NB194_173, Q_NB184_194, Q_NB194_184, fun h0_ => absurd ((hoff 14 (by kernel_rfl)).symm.trans h0_) (by decide), Q_X13_⟩
               refine steps_cons ?_ ?_
               ·rintro b a w' ⟨gb194, m13_, ha, Q_BK166, Q_BK173, Q_BK184, Q_HB, Q_BK194, Q_GW194, Q_GE194, Q_NB166_194, Q_NB194_166, Q_NB173_194, Q_NB194_173, Q_NB184_194, Q_NB194_184, Q_BK194_e14, Q_X13_⟩ hb_ hon hoff
                refine ⟨_, rfl, fun K hK => ?_⟩
                have e127 : a.tmps[127]? = some (.pointer (some (ad189.add 3))) := by rw [ha]; exact putSel_on (e := (9, 127, .pointer (some (ad189.add 3)))) 6 rfl rfl (hon 9 (by kernel_rfl)) rfl
                replace ha := zp.mk ha
                have BK166 := zp.mk Q_BK166
                have BK173 := zp.mk Q_BK173
                have BK184 := zp.mk Q_BK184
                have HB := zp.mk Q_HB
                have hs0_ : w'.cell? ⟨ad189.block, ad189.off + 3, none⟩ = some (.int .i64 (rd l0_5 3)) := ((HB.out.cell (World.block_lt_of_cell? w _ hw189_0)).trans hw189_0)
                refine value_ (w1 := w') (v := .int .i64 (rd l0_5 3)) (by rfl) rfl ?_ ?_
                ·go_simp
                 (try simp only [i64_w])
                 try rfl
                refine hK.out _ _ ⟨gb194, m13_, (by rw [ha.out]; exact putSel_upk 7 hb_ rfl rfl rfl), Q_BK166, Q_BK173, Q_BK184, Q_HB, Q_BK194, Q_GW194, Q_GE194, Q_NB166_194, Q_NB194_166, Q_NB173_194, Q_NB194_173, Q_NB184_194, Q_NB194_184, fun h0_ => absurd ((hoff 14 (by kernel_rfl)).symm.trans h0_) (by decide), Q_X13_⟩
               refine steps_cons ?_ ?_
               ·rintro b a w' ⟨gb194, m13_, ha, Q_BK166, Q_BK173, Q_BK184, Q_HB, Q_BK194, Q_GW194, Q_GE194, Q_NB166_194, Q_NB194_166, Q_NB173_194, Q_NB194_173, Q_NB184_194, Q_NB194_184, Q_BK194_e14, Q_X13_⟩ hb_ hon hoff
                refine ⟨_, rfl, fun K hK => ?_⟩
                have e124 : a.tmps[124]? = some (.int .i64 (wrap64 ((wrap64 (a0_0 - (l0_5.length : Int))) - 1))) := by rw [ha]; exact putSel_on (e := (6, 124, .int .i64 (wrap64 ((wrap64 (a0_0 - (l0_5.length : Int))) - 1)))) 4 rfl rfl (hon 6 (by kernel_rfl)) rfl
                have e128 : a.tmps[128]? = some (.int .i64 (rd l0_5 3)) := by rw [ha]; exact putSel_on (e := (10, 128, .int .i64 (rd l0_5 3))) 7 rfl rfl (hon 10 (by kernel_rfl)) rfl
                replace ha := zp.mk ha
                have BK166 := zp.mk Q_BK166
                have BK173 := zp.mk Q_BK173
                have BK184 := zp.mk Q_BK184
                have HB := zp.mk Q_HB
                refine goes_ Try.func31 (by kernel_rfl) rfl #[.int .i64 (wrap64 ((wrap64 (a0_0 - (l0_5.length : Int))) - 1)), .int .i64 (rd l0_5 3)] (by rfl) rfl rfl (by first | (simp only [List.map_toArray, List.map_cons, List.map_nil, Act.eval, Array.getD_eq_getD_getElem?, Option.getD_some, e124, e128]; done) | (simp only [List.map_toArray, List.map_cons, List.map_nil, Act.eval, Array.getD_eq_getD_getElem?, Option.getD_some, e124, e128]; rfl)) ?_
                with_reducible refine (spec_l07Times.calls k3 (wrap64 ((wrap64 (a0_0 - (l0_5.length : Int))) - 1)) (rd l0_5 3) t190 t191 _ A67.out).mono ?_
                rintro e w114 ⟨rfl, hb⟩
                refine ⟨_, rfl, ?_⟩
                have n0_ := zp.mk (zl (g := gb166) (o := .cells #[.int .i64 a0_0, .int .i64 a0_1, .int .u64 a0_2, .int .i64 a0_3, .int .i64 a0_4, .slice (some ad189) l0_5.length c0_5] 32 (0, 0)) (by (with_reducible repeat (first | refine zf ?_ _ | refine zi ?_ | refine zg ?_ _)); exact BK166.out) hb)
                have n1_ := zp.mk (zl (g := gb173) (o := .cells #[.int .i64 x174000_3, .int .u64 x174001_3] 30 (0, 0)) (by (with_reducible repeat (first | refine zf ?_ _ | refine zi ?_ | refine zg ?_ _)); exact BK173.out) hb)
                have n2_ := zp.mk (zl (g := gb184) (o := .cells #[.int .i64 t182, .int .u64 t183] 30 (0, 0)) (by (with_reducible repeat (first | refine zf ?_ _ | refine zi ?_ | refine zg ?_ _)); exact BK184.out) hb)
                have n3_ := zp.mk (zj (by repeat (first | (with_reducible first | exact HB.out | apply zc | apply za | apply zb | refine zh ?_ GE166.out | refine zh ?_ GE173.out | refine zh ?_ GE184.out) | exact HB.out)) hb)
                have z_BK194 := fun (h0_ : b 13 = true) (h1_ : b 14 = false) => (show w114.heap[gb194]? = some (.cells #[.int .i64 0, .int .u64 0] 30 (0, 0)) from by first | exact (zl (g := gb194) (o := .cells #[.int .i64 0, .int .u64 0] 30 (0, 0)) (by (with_reducible repeat (first | refine zf ?_ _ | refine zi ?_ | refine zg ?_ _)); exact (Q_BK194 h0_ h1_)) hb))
                clear BK166
                clear BK173
                clear BK184
                clear HB
                have BK166 := n0_
                have BK173 := n1_
                have BK184 := n2_
                have HB := n3_
                clear n0_ n1_ n2_ n3_
                (try clear hb)
                (try clear hb2)
                (try clear hk)
                (try clear hi)
                refine hK.out _ _ ⟨gb194, m13_, (by rw [ha.out]; exact putSel_upk 8 hb_ rfl rfl rfl), (by (with_reducible repeat (first | refine zf ?_ _ | refine zi ?_ | refine zg ?_ _)); exact BK166.out), (by (with_reducible repeat (first | refine zf ?_ _ | refine zi ?_ | refine zg ?_ _)); exact BK173.out), (by (with_reducible repeat (first | refine zf ?_ _ | refine zi ?_ | refine zg ?_ _)); exact BK184.out), (by repeat (first | (with_reducible first | exact HB.out | apply zc | apply za | apply zb | refine zh ?_ GE166.out | refine zh ?_ GE173.out | refine zh ?_ GE184.out) | exact HB.out)), z_BK194, Q_GW194, Q_GE194, Q_NB166_194, Q_NB194_166, Q_NB173_194, Q_NB194_173, Q_NB184_194, Q_NB194_184, fun h0_ => absurd ((hoff 14 (by kernel_rfl)).symm.trans h0_) (by decide), Q_X13_⟩
               refine steps_cons ?_ ?_
               ·rintro b a w' ⟨gb194, m13_, ha, Q_BK166, Q_BK173, Q_BK184, Q_HB, Q_BK194, Q_GW194, Q_GE194, Q_NB166_194, Q_NB194_166, Q_NB173_194, Q_NB194_173, Q_NB184_194, Q_NB194_184, Q_BK194_e14, Q_X13_⟩ hb_ hon hoff
                refine ⟨_, rfl, fun K hK => ?_⟩
                have e122 : a.tmps[122]? = some (.agg #[.int .i64 t187, .int .u64 t188]) := by rw [ha]; exact putSel_on (e := (4, 122, .agg #[.int .i64 t187, .int .u64 t188])) 3 rfl rfl (hon 4 (by kernel_rfl)) rfl
                have e129 : a.tmps[129]? = some (.agg #[.int .i64 t190, .int .u64 t191]) := by rw [ha]; exact putSel_on (e := (11, 129, .agg #[.int .i64 t190, .int .u64 t191])) 8 rfl rfl (hon 11 (by kernel_rfl)) rfl
                replace ha := zp.mk ha
                have BK166 := zp.mk Q_BK166
                have BK173 := zp.mk Q_BK173
                have BK184 := zp.mk Q_BK184
                have HB := zp.mk Q_HB
                refine goes_ Try.func29 (by kernel_rfl) rfl #[.agg #[.int .i64 t187, .int .u64 t188], .agg #[.int .i64 t190, .int .u64 t191]] (by rfl) rfl rfl (by first | (simp only [List.map_toArray, List.map_cons, List.map_nil, Act.eval, Array.getD_eq_getD_getElem?, Option.getD_some, e122, e129]; done) | (simp only [List.map_toArray, List.map_cons, List.map_nil, Act.eval, Array.getD_eq_getD_getElem?, Option.getD_some, e122, e129]; rfl)) ?_
                with_reducible refine (spec_WideAdd.calls t187 t188 t190 t191 t192 t193 _ A68.out).mono ?_
                rintro e w115 ⟨rfl, hb⟩
                refine ⟨_, rfl, ?_⟩
                have n0_ := zp.mk (zl (g := gb166) (o := .cells #[.int .i64 a0_0, .int .i64 a0_1, .int .u64 a0_2, .int .i64 a0_3, .int .i64 a0_4, .slice (some ad189) l0_5.length c0_5] 32 (0, 0)) (by (with_reducible repeat (first | refine zf ?_ _ | refine zi ?_ | refine zg ?_ _)); exact BK166.out) hb)
                have n1_ := zp.mk (zl (g := gb173) (o := .cells #[.int .i64 x174000_3, .int .u64 x174001_3] 30 (0, 0)) (by (with_reducible repeat (first | refine zf ?_ _ | refine zi ?_ | refine zg ?_ _)); exact BK173.out) hb)
                have n2_ := zp.mk (zl (g := gb184) (o := .cells #[.int .i64 t182, .int .u64 t183] 30 (0, 0)) (by (with_reducible repeat (first | refine zf ?_ _ | refine zi ?_ | refine zg ?_ _)); exact BK184.out) hb)
                have n3_ := zp.mk (zj (by repeat (first | (with_reducible first | exact HB.out | apply zc | apply za | apply zb | refine zh ?_ GE166.out | refine zh ?_ GE173.out | refine zh ?_ GE184.out) | exact HB.out)) hb)
                have z_BK194 := fun (h0_ : b 13 = true) (h1_ : b 14 = false) => (show w115.heap[gb194]? = some (.cells #[.int .i64 0, .int .u64 0] 30 (0, 0)) from by first | exact (zl (g := gb194) (o := .cells #[.int .i64 0, .int .u64 0] 30 (0, 0)) (by (with_reducible repeat (first | refine zf ?_ _ | refine zi ?_ | refine zg ?_ _)); exact (Q_BK194 h0_ h1_)) hb))
                clear BK166
                clear BK173
                clear BK184
                clear HB
                have BK166 := n0_
                have BK173 := n1_
                have BK184 := n2_
                have HB := n3_
                clear n0_ n1_ n2_ n3_
                (try clear hb)
                (try clear hb2)
                (try clear hk)
                (try clear hi)
                refine hK.out _ _ ⟨gb194, m13_, (by rw [ha.out]; exact putSel_upk 9 hb_ rfl rfl rfl), (by (with_reducible repeat (first | refine zf ?_ _ | refine zi ?_ | refine zg ?_ _)); exact BK166.out), (by (with_reducible repeat (first | refine zf ?_ _ | refine zi ?_ | refine zg ?_ _)); exact BK173.out), (by (with_reducible repeat (first | refine zf ?_ _ | refine zi ?_ | refine zg ?_ _)); exact BK184.out), (by repeat (first | (with_reducible first | exact HB.out | apply zc | apply za | apply zb | refine zh ?_ GE166.out | refine zh ?_ GE173.out | refine zh ?_ GE184.out) | exact HB.out)), z_BK194, Q_GW194, Q_GE194, Q_NB166_194, Q_NB194_166, Q_NB173_194, Q_NB194_173, Q_NB184_194, Q_NB194_184, fun h0_ => absurd ((hoff 14 (by kernel_rfl)).symm.trans h0_) (by decide), Q_X13_⟩
               refine steps_cons ?_ ?_
               ·rintro b a w' ⟨gb194, m13_, ha, Q_BK166, Q_BK173, Q_BK184, Q_HB, Q_BK194, Q_GW194, Q_GE194, Q_NB166_194, Q_NB194_166, Q_NB173_194, Q_NB194_173, Q_NB184_194, Q_NB194_184, Q_BK194_e14, Q_X13_⟩ hb_ hon hoff
                refine ⟨_, rfl, fun K hK => ?_⟩
                replace ha := zp.mk ha
                have BK166 := zp.mk Q_BK166
                have BK173 := zp.mk Q_BK173
                have BK184 := zp.mk Q_BK184
                have HB := zp.mk Q_HB
                refine box_step ?hg (N := 7) ?hd (cs := #[.int .i64 0, .int .u64 0]) (t := 30) ?hr ?_; (case hd => rfl); (case hg => rfl); (case hr => first | (go_simp; done) | (go_simp; rfl))
                intro gb194 hg w111 hbox hb
                have n0_ := zp.mk (zl (g := gb166) (o := .cells #[.int .i64 a0_0, .int .i64 a0_1, .int .u64 a0_2, .int .i64 a0_3, .int .i64 a0_4, .slice (some ad189) l0_5.length c0_5] 32 (0, 0)) (by (with_reducible repeat (first | refine zf ?_ _ | refine zi ?_ | refine zg ?_ _)); exact BK166.out) hb)
                have n1_ := zp.mk (zl (g := gb173) (o := .cells #[.int .i64 x174000_3, .int .u64 x174001_3] 30 (0, 0)) (by (with_reducible repeat (first | refine zf ?_ _ | refine zi ?_ | refine zg ?_ _)); exact BK173.out) hb)
                have n2_ := zp.mk (zl (g := gb184) (o := .cells #[.int .i64 t182, .int .u64 t183] 30 (0, 0)) (by (with_reducible repeat (first | refine zf ?_ _ | refine zi ?_ | refine zg ?_ _)); exact BK184.out) hb)
                have n3_ := zp.mk (zj (by repeat (first | (with_reducible first | exact HB.out | apply zc | apply za | apply zb | refine zh ?_ GE166.out | refine zh ?_ GE173.out | refine zh ?_ GE184.out) | exact HB.out)) hb)
                have n4_ := zp.mk (hbox)
                have n5_ := zp.mk ((by rw [hg]; exact (zk (by repeat (first | (with_reducible first | exact HB.out | apply zc | apply za | apply zb | refine zh ?_ GE166.out | refine zh ?_ GE173.out | refine zh ?_ GE184.out) | exact HB.out))) : w.heap.size ≤ gb194))
                have n6_ := zp.mk ((by rw [hg]; exact (zk (by repeat (first | (with_reducible first | exact HB.out | apply zc | apply za | apply zb | refine zh ?_ GE166.out | refine zh ?_ GE173.out | refine zh ?_ GE184.out) | exact HB.out))) : w.heap.size ≤ gb194))
                have n7_ := zp.mk ((by rw [hg]; exact Nat.ne_of_lt (blk_lt (g := gb166) (o := .cells #[.int .i64 a0_0, .int .i64 a0_1, .int .u64 a0_2, .int .i64 a0_3, .int .i64 a0_4, .slice (some ad189) l0_5.length c0_5] 32 (0, 0)) (by (with_reducible repeat (first | refine zf ?_ _ | refine zi ?_ | refine zg ?_ _)); exact BK166.out)) : gb166 ≠ gb194))
                have n8_ := zp.mk ((by rw [hg]; exact Nat.ne_of_gt (blk_lt (g := gb166) (o := .cells #[.int .i64 a0_0, .int .i64 a0_1, .int .u64 a0_2, .int .i64 a0_3, .int .i64 a0_4, .slice (some ad189) l0_5.length c0_5] 32 (0, 0)) (by (with_reducible repeat (first | refine zf ?_ _ | refine zi ?_ | refine zg ?_ _)); exact BK166.out)) : gb194 ≠ gb166))
                have n9_ := zp.mk ((by rw [hg]; exact Nat.ne_of_lt (blk_lt (g := gb173) (o := .cells #[.int .i64 x174000_3, .int .u64 x174001_3] 30 (0, 0)) (by (with_reducible repeat (first | refine zf ?_ _ | refine zi ?_ | refine zg ?_ _)); exact BK173.out)) : gb173 ≠ gb194))
                have n10_ := zp.mk ((by rw [hg]; exact Nat.ne_of_gt (blk_lt (g := gb173) (o := .cells #[.int .i64 x174000_3, .int .u64 x174001_3] 30 (0, 0)) (by (with_reducible repeat (first | refine zf ?_ _ | refine zi ?_ | refine zg ?_ _)); exact BK173.out)) : gb194 ≠ gb173))
                have n11_ := zp.mk ((by rw [hg]; exact Nat.ne_of_lt (blk_lt (g := gb184) (o := .cells #[.int .i64 t182, .int .u64 t183] 30 (0, 0)) (by (with_reducible repeat (first | refine zf ?_ _ | refine zi ?_ | refine zg ?_ _)); exact BK184.out)) : gb184 ≠ gb194))
                have n12_ := zp.mk ((by rw [hg]; exact Nat.ne_of_gt (blk_lt (g := gb184) (o := .cells #[.int .i64 t182, .int .u64 t183] 30 (0, 0)) (by (with_reducible repeat (first | refine zf ?_ _ | refine zi ?_ | refine zg ?_ _)); exact BK184.out)) : gb194 ≠ gb184))
                clear BK166
                clear BK173
                clear BK184
                clear HB
                have BK166 := n0_
                have BK173 := n1_
                have BK184 := n2_
                have HB := n3_
                have BK194 := n4_
                have GW194 := n5_
                have GE194 := n6_
                have NB166_194 := n7_
                have NB194_166 := n8_
                have NB173_194 := n9_
                have NB194_173 := n10_
                have NB184_194 := n11_
                have NB194_184 := n12_
                clear n0_ n1_ n2_ n3_ n4_ n5_ n6_ n7_ n8_ n9_ n10_ n11_ n12_
                clear hb hbox hg
                refine hK.out _ _ ⟨gb194, (.pointer (some ⟨gb194, 0, none⟩)), (by rw [ha.out]; exact putSel_upk 10 hb_ rfl rfl rfl), (by (with_reducible repeat (first | refine zf ?_ _ | refine zi ?_ | refine zg ?_ _)); exact BK166.out), (by (with_reducible repeat (first | refine zf ?_ _ | refine zi ?_ | refine zg ?_ _)); exact BK173.out), (by (with_reducible repeat (first | refine zf ?_ _ | refine zi ?_ | refine zg ?_ _)); exact BK184.out), (by repeat (first | (with_reducible first | exact HB.out | apply zc | apply za | apply zb | refine zh ?_ GE166.out | refine zh ?_ GE173.out | refine zh ?_ GE184.out | refine zh ?_ GE194.out) | exact HB.out)), fun _ _ => (by (with_reducible repeat (first | refine zf ?_ _ | refine zi ?_ | refine zg ?_ _)); exact BK194.out), fun _ => GW194.out, fun _ => GE194.out, fun _ => NB166_194.out, fun _ => NB194_166.out, fun _ => NB173_194.out, fun _ => NB194_173.out, fun _ => NB184_194.out, fun _ => NB194_184.out, fun h0_ => absurd ((hoff 14 (by kernel_rfl)).symm.trans h0_) (by decide), fun _ => rfl⟩
               refine steps_cons ?_ ?_
               ·rintro b a w' ⟨gb194, m13_, ha, Q_BK166, Q_BK173, Q_BK184, Q_HB, Q_BK194, Q_GW194, Q_GE194, Q_NB166_194, Q_NB194_166, Q_NB173_194, Q_NB194_173, Q_NB184_194, Q_NB194_184, Q_BK194_e14, Q_X13_⟩ hb_ hon hoff
                refine ⟨_, rfl, fun K hK => ?_⟩
                have e7 : a.tmps[7]? = some (m13_) := by rw [ha]; exact putSel_on (e := (13, 7, m13_)) 10 rfl rfl (hon 13 (by kernel_rfl)) rfl
                rw [Q_X13_ (hon 13 (by kernel_rfl))] at e7
                have e130 : a.tmps[130]? = some (.agg #[.int .i64 t192, .int .u64 t193]) := by rw [ha]; exact putSel_on (e := (12, 130, .agg #[.int .i64 t192, .int .u64 t193])) 9 rfl rfl (hon 12 (by kernel_rfl)) rfl
                replace ha := zp.mk ha
                have BK166 := zp.mk Q_BK166
                have BK173 := zp.mk Q_BK173
                have BK184 := zp.mk Q_BK184
                have HB := zp.mk Q_HB
                have BK194 := zp.mk (Q_BK194 (hon 13 (by kernel_rfl)) hb_)
                have GW194 := zp.mk (Q_GW194 (hon 13 (by kernel_rfl)))
                have GE194 := zp.mk (Q_GE194 (hon 13 (by kernel_rfl)))
                have NB166_194 := zp.mk (Q_NB166_194 (hon 13 (by kernel_rfl)))
                have NB194_166 := zp.mk (Q_NB194_166 (hon 13 (by kernel_rfl)))
                have NB173_194 := zp.mk (Q_NB173_194 (hon 13 (by kernel_rfl)))
                have NB194_173 := zp.mk (Q_NB194_173 (hon 13 (by kernel_rfl)))
                have NB184_194 := zp.mk (Q_NB184_194 (hon 13 (by kernel_rfl)))
                have NB194_184 := zp.mk (Q_NB194_184 (hon 13 (by kernel_rfl)))
                have hs117 : w'.cell? ⟨gb194, 0, none⟩ = some (.int .i64 0) := (ze BK194.out 0).trans rfl
                have hfs117 := zd BK194.out 0
                have hns117_0 := NB166_194.out
                have hns117_1 := NB173_194.out
                have hns117_2 := NB184_194.out
                have hms117_0 := NB194_166.out
                have hms117_1 := NB194_173.out
                have hms117_2 := NB194_184.out
                have hs118 : w'.cell? ⟨gb194, 1, none⟩ = some (.int .u64 0) := (ze BK194.out 1).trans rfl
                have hfs118 := zd BK194.out 1
                have hns118_0 := NB166_194.out
                have hns118_1 := NB173_194.out
                have hns118_2 := NB184_194.out
                have hms118_0 := NB194_166.out
                have hms118_1 := NB194_173.out
                have hms118_2 := NB194_184.out
                refine skip_ (w1 := ?_) (by rfl) rfl ?_ ?_
                rotate_left
                ·go_simp
                 rfl
                refine hK.out _ _ ⟨gb194, m13_, (by rw [ha.out]; exact putSel_none (v := undef) rfl), (by (with_reducible repeat (first | refine zf ?_ _ | refine zi ?_ | refine zg ?_ _)); refine blk_far ?_ NB166_194.out _; (with_reducible repeat (first | refine zf ?_ _ | refine zi ?_ | refine zg ?_ _)); refine blk_far ?_ NB166_194.out _; (with_reducible repeat (first | refine zf ?_ _ | refine zi ?_ | refine zg ?_ _)); exact BK166.out), (by (with_reducible repeat (first | refine zf ?_ _ | refine zi ?_ | refine zg ?_ _)); refine blk_far ?_ NB173_194.out _; (with_reducible repeat (first | refine zf ?_ _ | refine zi ?_ | refine zg ?_ _)); refine blk_far ?_ NB173_194.out _; (with_reducible repeat (first | refine zf ?_ _ | refine zi ?_ | refine zg ?_ _)); exact BK173.out), (by (with_reducible repeat (first | refine zf ?_ _ | refine zi ?_ | refine zg ?_ _)); refine blk_far ?_ NB184_194.out _; (with_reducible repeat (first | refine zf ?_ _ | refine zi ?_ | refine zg ?_ _)); refine blk_far ?_ NB184_194.out _; (with_reducible repeat (first | refine zf ?_ _ | refine zi ?_ | refine zg ?_ _)); exact BK184.out), (by repeat (first | (with_reducible first | exact HB.out | apply zc | apply za | apply zb | refine zh ?_ GE166.out | refine zh ?_ GE173.out | refine zh ?_ GE184.out | refine zh ?_ GE194.out) | exact HB.out)), fun _ h1_ => absurd ((up_self b 14).symm.trans h1_) (by decide), fun _ => GW194.out, fun _ => GE194.out, fun _ => NB166_194.out, fun _ => NB194_166.out, fun _ => NB173_194.out, fun _ => NB194_173.out, fun _ => NB184_194.out, fun _ => NB194_184.out, fun _ => (by (with_reducible repeat (first | refine zf ?_ _ | refine zi ?_ | refine zg ?_ _)); refine blk_put (cs := #[.int .i64 t192, .int .u64 0]) ?_ 1 _ rfl; (with_reducible repeat (first | refine zf ?_ _ | refine zi ?_ | refine zg ?_ _)); refine blk_put (cs := #[.int .i64 0, .int .u64 0]) ?_ 0 _ rfl; (with_reducible repeat (first | refine zf ?_ _ | refine zi ?_ | refine zg ?_ _)); exact BK194.out), Q_X13_⟩
               exact steps_nil
              rintro b a w118 hall ⟨gb194, m13_, ha, Q_BK166, Q_BK173, Q_BK184, Q_HB, Q_BK194, Q_GW194, Q_GE194, Q_NB166_194, Q_NB194_166, Q_NB173_194, Q_NB194_173, Q_NB184_194, Q_NB194_184, Q_BK194_e14, Q_X13_⟩
              clear BK166 BK173 BK184 HB
              have hb0_ := hall 0 (by kernel_rfl)
              have hb2_ := hall 2 (by kernel_rfl)
              have hb3_ := hall 3 (by kernel_rfl)
              have hb4_ := hall 4 (by kernel_rfl)
              have hb6_ := hall 6 (by kernel_rfl)
              have hb8_ := hall 8 (by kernel_rfl)
              have hb9_ := hall 9 (by kernel_rfl)
              have hb10_ := hall 10 (by kernel_rfl)
              have hb11_ := hall 11 (by kernel_rfl)
              have hb12_ := hall 12 (by kernel_rfl)
              have hb13_ := hall 13 (by kernel_rfl)
              have hb14_ := hall 14 (by kernel_rfl)
              subst ha
              obtain rfl := Q_X13_ hb13_
              simp only [putSel, hb0_, hb2_, hb3_, hb4_, hb6_, hb8_, hb9_, hb10_, hb11_, hb12_, hb13_, hb14_, if_true, Act.put, List.setIfInBounds_toArray, List.set_cons_zero, List.set_cons_succ]
              have BK166 := zp.mk Q_BK166
              clear Q_BK166
              have BK173 := zp.mk Q_BK173
              clear Q_BK173
              have BK184 := zp.mk Q_BK184
              clear Q_BK184
              have HB := zp.mk Q_HB
              clear Q_HB
              clear Q_BK194
              have GW194 := zp.mk (Q_GW194 hb13_)
              clear Q_GW194
              have GE194 := zp.mk (Q_GE194 hb13_)
              clear Q_GE194
              have NB166_194 := zp.mk (Q_NB166_194 hb13_)
              clear Q_NB166_194
              have NB194_166 := zp.mk (Q_NB194_166 hb13_)
              clear Q_NB194_166
              have NB173_194 := zp.mk (Q_NB173_194 hb13_)
              clear Q_NB173_194
              have NB194_173 := zp.mk (Q_NB194_173 hb13_)
              clear Q_NB194_173
              have NB184_194 := zp.mk (Q_NB184_194 hb13_)
              clear Q_NB184_194
              have NB194_184 := zp.mk (Q_NB194_184 hb13_)
              clear Q_NB194_184
              have BK194 := zp.mk (Q_BK194_e14 hb14_)
              clear Q_BK194_e14
              clear hall hb0_ hb2_ hb3_ hb4_ hb6_ hb8_ hb9_ hb10_ hb11_ hb12_ hb13_ hb14_
              have hnb119 := NB166_184.out
              have hnc119 := NB184_166.out
              have hnb120 := NB166_194.out
              have hnc120 := NB194_166.out
              have hcz121_0 : w118.cell? ⟨gb166, 0, none⟩ = some (.int .i64 a0_0) := (ze BK166.out 0).trans rfl
              have hcz121_1 : w118.cell? ⟨gb166, 1, none⟩ = some (.int .i64 a0_1) := (ze BK166.out 1).trans rfl
              have hcz121_2 : w118.cell? ⟨gb166, 2, none⟩ = some (.int .u64 a0_2) := (ze BK166.out 2).trans rfl
              have hcz121_3 : w118.cell? ⟨gb166, 3, none⟩ = some (.int .i64 a0_3) := (ze BK166.out 3).trans rfl
              have hcz121_4 : w118.cell? ⟨gb166, 4, none⟩ = some (.int .i64 a0_4) := (ze BK166.out 4).trans rfl
              have hcz121_5 : w118.cell? ⟨gb166, 5, none⟩ = some (.slice (some ad189) l0_5.length c0_5) := (ze BK166.out 5).trans rfl
              have hfz121_0 := zd BK166.out 0
              have hfz121_1 := zd BK166.out 1
              have hfz121_2 := zd BK166.out 2
              have hfz121_3 := zd BK166.out 3
              have hfz121_4 := zd BK166.out 4
              have hfz121_5 := zd BK166.out 5
              have hnb122 := NB184_173.out
              have hnc122 := NB173_184.out
              have hnb123 := NB184_194.out
              have hnc123 := NB194_184.out
              have hcz124_0 : w118.cell? ⟨gb184, 0, none⟩ = some (.int .i64 t182) := (ze BK184.out 0).trans rfl
              have hcz124_1 : w118.cell? ⟨gb184, 1, none⟩ = some (.int .u64 t183) := (ze BK184.out 1).trans rfl
              have hfz124_0 := zd BK184.out 0
              have hfz124_1 := zd BK184.out 1
              try go_wp2_with (first | ((with_reducible refine zn (f := 32) rfl ?_); refine goesL_ (some 134) rfl rfl Try.func32 (by kernel_rfl) rfl #[.agg #[.int .i64 a0_1, .int .u64 a0_2], .agg #[.int .i64 t182, .int .u64 t183]] rfl (by (try simp only [List.map_toArray, List.map_cons, List.map_nil]); first | done | rfl | (simp only [List.length_drop, List.length_take]; rfl)) ?_; (with_reducible refine (spec_WideCmp.calls a0_1 a0_2 t182 t183 t195 _ A69.out).mono ?_); rintro e w125 ⟨rfl, hb⟩; refine ⟨_, rfl, ?_⟩; have n0_ := zp.mk (zl (g := gb166) (o := .cells #[.int .i64 a0_0, .int .i64 a0_1, .int .u64 a0_2, .int .i64 a0_3, .int .i64 a0_4, .slice (some ad189) l0_5.length c0_5] 32 (0, 0)) (by (with_reducible repeat (first | refine zf ?_ _ | refine zi ?_ | refine zg ?_ _)); exact BK166.out) hb); have n1_ := zp.mk (zl (g := gb173) (o := .cells #[.int .i64 x174000_3, .int .u64 x174001_3] 30 (0, 0)) (by (with_reducible repeat (first | refine zf ?_ _ | refine zi ?_ | refine zg ?_ _)); exact BK173.out) hb); have n2_ := zp.mk (zl (g := gb184) (o := .cells #[.int .i64 t182, .int .u64 t183] 30 (0, 0)) (by (with_reducible repeat (first | refine zf ?_ _ | refine zi ?_ | refine zg ?_ _)); exact BK184.out) hb); have n3_ := zp.mk (zl (g := gb194) (o := .cells #[.int .i64 t192, .int .u64 t193] 30 (0, 0)) (by (with_reducible repeat (first | refine zf ?_ _ | refine zi ?_ | refine zg ?_ _)); exact BK194.out) hb); have n4_ := zp.mk (zj (by repeat (first | (with_reducible first | exact HB.out | apply zc | apply za | apply zb | refine zh ?_ GE166.out | refine zh ?_ GE173.out | refine zh ?_ GE184.out | refine zh ?_ GE194.out) | exact HB.out)) hb); clear BK166; clear BK173; clear BK184; clear BK194; clear HB; have BK166 := n0_; have BK173 := n1_; have BK184 := n2_; have BK194 := n3_; have HB := n4_; clear n0_ n1_ n2_ n3_ n4_; (try clear hb); (try clear hb2); (try clear hk); (try clear hi)))
              go_ret
              exact ⟨by first | rfl | (simp [errW_none, errW_some] <;> rfl) | (simp [*, errW_none, errW_some] <;> rfl), by repeat (first | (with_reducible first | exact HB.out | apply zc | apply za | apply zb | refine zh ?_ GE166.out | refine zh ?_ GE173.out | refine zh ?_ GE184.out | refine zh ?_ GE194.out) | exact HB.out)⟩
            ·rw [if_neg c66] at H
             exact absurd H (by simp)

end Go.Proofs.Ytnnahpmnkpmopaa.QFnExactAggOk
