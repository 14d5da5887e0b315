/- Proved: calls of the program come to the answers of the plain Lean functions that stand beside them. Each contract names its conditions. (Written by a program of this session, over the printer of the kit.) -/
import Derived.Test.YtnnahpmnkpmopaaZAggDoneQFnExactAggDonex0
namespace Go.Proofs.Ytnnahpmnkpmopaa.QFnExactAggDone
open Go.RowKit Go.Proofs.YtnnahpmnkpmopaaW.PrintWords Go.Proofs.YtnnahpmnkpmopaaW.PrintLast Go.Proofs.YtnnahpmnkpmopaaW.PrintMore
attribute [local go_sem] max2_int min2_int max_two min_two max_three min_three max_four min_four   -- for this text's walks alone
set_option linter.unusedVariables false
set_option linter.unusedSimpArgs false

/-! ### spec_l07Same: function 28 -/
def spec_l07Same.l0 : Nat → List Int → List Int → Int → Option (Bool)
 | 0, _, _, _ => none
 | k + 1, x0, x1, x5 => if x5 < (x0.length : Int) then (if 0 ≤ x5 then (if x5 < (x1.length : Int) then (if (rd x0 x5) = (rd x1 x5) then (spec_l07Same.l0 k x0 x1 (wrap64 (x5 + 1))) else (some false)) else (none)) else (none)) else (some true)
def spec_l07Same.f (k : Nat) (l0 : List Int) (l1 : List Int) : Option (Bool) := if (l0.length : Int) = (l1.length : Int) then (spec_l07Same.l0 k l0 l1 0) else (some false)
set_option maxHeartbeats 8000000 in
set_option maxRecDepth 100000 in
theorem spec_l07Same.calls (k : Nat) (A0 : Option Addr) (c0 : Nat) (l0 : List Int) (A1 : Option Addr) (c1 : Nat) (l1 : List Int) (r : Bool) (w : World) (hr0 : Kd.C (Kd.int .i64) w A0 l0.length l0) (hc0 : l0.length ≤ c0) (hr1 : Kd.C (Kd.int .i64) w A1 l1.length l1) (hc1 : l1.length ≤ c1) (h : spec_l07Same.f k l0 l1 = some r) :
  Calls Try.prog 28 #[.slice A0 l0.length c0, .slice A1 l1.length c1] w fun e w' => e = .returned (.bool r) ∧ Drawn0 w w' := by
 have HR0 := zp.mk hr0
 have HC0 := zp.mk hc0
 clear hr0 hc0
 have HR1 := zp.mk hr1
 have HC1 := zp.mk hc1
 clear hr1 hc1
 have H : (if (l0.length : Int) = (l1.length : Int) then (spec_l07Same.l0 k l0 l1 0) else (some false)) = some r := h
 clear h
 by_cases c3 : (l0.length : Int) = (l1.length : Int)
 ·rw [if_pos c3] at H
  have c3b0 : ((l0.length : Int) == (l1.length : Int)) = true := beq_iff_eq.mpr c3
  have c3b1 : ((l0.length : Int) != (l1.length : Int)) = false := bne_eq_false_iff_eq.mpr c3
  have c3b2 : (l0.length == l1.length) = true := by first | simpa using c3 | (simp at c3 ⊢; omega)
  clear c3
  have H' := zp.mk H
  clear H
  go_enter Try.func28, Try.ntmps28
  go_wp2
  repeat (go_quiet (fail); try go_wp2)
  go_loopg [5] k (fun kq v5 w' => ∃ (x5_1 : Int), v5 = .int .i64 x5_1 ∧ zp (spec_l07Same.l0 kq l0 l1 x5_1 = some r) ∧ zp (kq ≤ k) ∧ Drawn0 w w')
  case atStart => exact ⟨(0), (by first | rfl | (simp; done) | (simp [*]; done)), H', ⟨Nat.le_refl _⟩, by repeat (first | exact Drawn0.refl _ | apply Drawn0.step)⟩
  case round =>
   clear H'
   try clear c1
   try clear c2
   try clear p2
   try clear c3
   try clear c3b0
   try clear c3b1
   try clear c3b2
   obtain ⟨x5_1, rfl, HA, HK1, ⟨m1, rfl⟩⟩ := hrel
   cases gk with
   | zero => exact absurd HA.out (by simp [spec_l07Same.l0])
   | succ k1 =>
    have H := HA.out
    clear HA
    simp only [spec_l07Same.l0] at H
    by_cases c4 : x5_1 < (l0.length : Int)
    ·rw [if_pos c4] at H
     have c4b0 : decide (x5_1 < (l0.length : Int)) = true := decide_eq_true c4
     clear c4
     by_cases c5 : 0 ≤ x5_1
     ·rw [if_pos c5] at H
      have c5b0 : decide (0 ≤ x5_1) = true := decide_eq_true c5
      clear c5
      by_cases c6 : x5_1 < (l1.length : Int)
      ·rw [if_pos c6] at H
       have c6b0 : decide (x5_1 < (l1.length : Int)) = true := decide_eq_true c6
       clear c6
       by_cases c7 : (rd l0 x5_1) = (rd l1 x5_1)
       ·rw [if_pos c7] at H
        have c7b0 : ((rd l0 x5_1) == (rd l1 x5_1)) = true := beq_iff_eq.mpr c7
        have c7b1 : ((rd l0 x5_1) != (rd l1 x5_1)) = false := bne_eq_false_iff_eq.mpr c7
        clear c7
        have H' := zp.mk H
        clear H
        have p162 : 0 ≤ (x5_1 : Int) := of_decide_eq_true (by first | (with_reducible assumption) | assumption)
        have q162 : x5_1 < (l0.length : Int) := of_decide_eq_true (by first | (with_reducible assumption) | assumption)
        obtain ⟨ad162, e162, hx162_0⟩ := Kd.at_int HR0.out x5_1 p162 q162
        cases e162
        replace p162 := eq_true p162
        replace q162 := eq_true q162
        have p163 : 0 ≤ (x5_1 : Int) := of_decide_eq_true (by first | (with_reducible assumption) | assumption)
        have q163 : x5_1 < (l1.length : Int) := of_decide_eq_true (by first | (with_reducible assumption) | assumption)
        obtain ⟨ad163, e163, hx163_0⟩ := Kd.at_int HR1.out x5_1 p163 q163
        cases e163
        replace p163 := eq_true p163
        replace q163 := eq_true q163
        go_wp2
        repeat (go_quiet (fail); try go_wp2)
        go_roundg k1
        case measure => have := HK1.out; omega
        case rel => exact ⟨(wrap64 (x5_1 + 1)), (by first | rfl | (simp; done) | (simp [*]; done)), H', ⟨by have := HK1.out; omega⟩, by repeat (first | exact Drawn0.refl _ | apply Drawn0.step)⟩
       ·rw [if_neg c7] at H
        have c7b0 : ((rd l0 x5_1) == (rd l1 x5_1)) = false := beq_eq_false_iff_ne.mpr c7
        have c7b1 : ((rd l0 x5_1) != (rd l1 x5_1)) = true := bne_iff_ne.mpr c7
        obtain rfl := Option.some.inj H
        have p162 : 0 ≤ (x5_1 : Int) := of_decide_eq_true (by first | (with_reducible assumption) | assumption)
        have q162 : x5_1 < (l0.length : Int) := of_decide_eq_true (by first | (with_reducible assumption) | assumption)
        obtain ⟨ad162, e162, hx162_0⟩ := Kd.at_int HR0.out x5_1 p162 q162
        cases e162
        replace p162 := eq_true p162
        replace q162 := eq_true q162
        have p163 : 0 ≤ (x5_1 : Int) := of_decide_eq_true (by first | (with_reducible assumption) | assumption)
        have q163 : x5_1 < (l1.length : Int) := of_decide_eq_true (by first | (with_reducible assumption) | assumption)
        obtain ⟨ad163, e163, hx163_0⟩ := Kd.at_int HR1.out x5_1 p163 q163
        cases e163
        replace p163 := eq_true p163
        replace q163 := eq_true q163
        go_wp2
        repeat (go_quiet (fail); try go_wp2)
        go_ret
        exact ⟨by first | rfl | (simp; done) | (simp [*]; done), by repeat (first | exact Drawn0.refl _ | apply Drawn0.step)⟩
      ·rw [if_neg c6] at H
       exact absurd H (by simp)
     ·rw [if_neg c5] at H
      exact absurd H (by simp)
    ·rw [if_neg c4] at H
     have c4b0 : decide (x5_1 < (l0.length : Int)) = false := decide_eq_false c4
     clear c4
     obtain rfl := Option.some.inj H
     go_wp2
     repeat (go_quiet (fail); try go_wp2)
     go_ret
     exact ⟨by first | rfl | (simp; done) | (simp [*]; done), by repeat (first | exact Drawn0.refl _ | apply Drawn0.step)⟩
 ·rw [if_neg c3] at H
  have c3b0 : ((l0.length : Int) == (l1.length : Int)) = false := beq_eq_false_iff_ne.mpr c3
  have c3b1 : ((l0.length : Int) != (l1.length : Int)) = true := bne_iff_ne.mpr c3
  have c3b2 : (l0.length == l1.length) = false := by first | simpa using c3 | (simp at c3 ⊢; omega)
  obtain rfl := Option.some.inj H
  go_enter Try.func28, Try.ntmps28
  go_wp2
  repeat (go_quiet (fail); try go_wp2)
  go_ret
  exact ⟨by first | rfl | (simp; done) | (simp [*]; done), by repeat (first | exact Drawn0.refl _ | apply Drawn0.step)⟩

/-! ### spec_WideAdd: function 29 -/
def spec_WideAdd.f (a0_0 : Int) (a0_1 : Int) (a1_0 : Int) (a1_1 : Int) : Option (Int × Int) := if (IntKind.u64.wrap (a0_1 + a1_1)) < a0_1 then (some (wrap64 (IntKind.u64.wrap ((IntKind.u64.wrap ((IntKind.u64.wrap (a0_0)) + (IntKind.u64.wrap (a1_0)))) + 1)), IntKind.u64.wrap (a0_1 + a1_1))) else (some (wrap64 (IntKind.u64.wrap ((IntKind.u64.wrap (a0_0)) + (IntKind.u64.wrap (a1_0)))), IntKind.u64.wrap (a0_1 + a1_1)))
set_option maxHeartbeats 8000000 in
set_option maxRecDepth 100000 in
theorem spec_WideAdd.calls (a0_0 : Int) (a0_1 : Int) (a1_0 : Int) (a1_1 : Int) (r1 : Int) (r2 : Int) (w : World) (h : spec_WideAdd.f a0_0 a0_1 a1_0 a1_1 = some (r1, r2)) :
  Calls Try.prog 29 #[.agg #[.int .i64 a0_0, .int .u64 a0_1], .agg #[.int .i64 a1_0, .int .u64 a1_1]] w fun e w' => e = .returned (.agg #[.int .i64 r1, .int .u64 r2]) ∧ Below w.heap.size w w' := by
 have hu30 := Try.underlying30
 have HB := zp.mk (Below.refl w.heap.size w)
 have H : (if (IntKind.u64.wrap (a0_1 + a1_1)) < a0_1 then (some (wrap64 (IntKind.u64.wrap ((IntKind.u64.wrap ((IntKind.u64.wrap (a0_0)) + (IntKind.u64.wrap (a1_0)))) + 1)), IntKind.u64.wrap (a0_1 + a1_1))) else (some (wrap64 (IntKind.u64.wrap ((IntKind.u64.wrap (a0_0)) + (IntKind.u64.wrap (a1_0)))), IntKind.u64.wrap (a0_1 + a1_1)))) = some (r1, r2) := h
 clear h
 by_cases c3 : (IntKind.u64.wrap (a0_1 + a1_1)) < a0_1
 ·rw [if_pos c3] at H
  have c3b0 : decide ((IntKind.u64.wrap (a0_1 + a1_1)) < a0_1) = true := decide_eq_true c3
  clear c3
  simp only [Option.some.injEq, Prod.mk.injEq] at H
  obtain ⟨rfl, rfl⟩ := H
  go_enter Try.func29, Try.ntmps29
  go_wp2_with (first | ((with_reducible refine zo (N := 2) rfl ?_); refine zm ?hg (N := 2) ?hd (cs := #[.int .i64 a0_0, .int .u64 a0_1]) (t := 30) ?hr ?_; (case hd => rfl); (case hg => rfl); (case hr => first | (go_simp; done) | (go_simp; rfl)); intro gb164 hg w4 hbox hb; have BK164 := zp.mk (hbox); have GW164 := zp.mk ((zv3 (zv6 HB.out) hg)); have GE164 := zp.mk ((zv3 (zv6 HB.out) hg)); replace HB := zp.mk (zj (zv6 HB.out) hb); clear hb hbox hg) | ((with_reducible refine zo (N := 3) rfl ?_); refine zm ?hg (N := 3) ?hd (cs := #[.int .i64 a1_0, .int .u64 a1_1]) (t := 30) ?hr ?_; (case hd => rfl); (case hg => rfl); (case hr => first | (go_simp; done) | (go_simp; rfl)); intro gb165 hg w5 hbox hb; have BK165 := zp.mk (hbox); have GW165 := zp.mk ((zv3 (zv7 HB.out) hg)); have GE165 := zp.mk ((zv3 (zv7 HB.out) hg)); have NB164_165 := zp.mk ((by rw [hg]; exact Nat.ne_of_lt (blk_lt (g := gb164) (o := .cells #[.int .i64 a0_0, .int .u64 a0_1] 30 (0, 0)) (zv8 BK164.out)) : gb164 ≠ gb165)); have NB165_164 := zp.mk ((by rw [hg]; exact Nat.ne_of_gt (blk_lt (g := gb164) (o := .cells #[.int .i64 a0_0, .int .u64 a0_1] 30 (0, 0)) (zv8 BK164.out)) : gb165 ≠ gb164)); replace BK164 := zp.mk (zl (zv8 BK164.out) hb); replace HB := zp.mk (zj (zv7 HB.out) hb); clear hb hbox hg) | ((with_reducible refine zo (N := 4) rfl ?_); refine zm ?hg (N := 4) ?hd (cs := #[.int .i64 0, .int .u64 0]) (t := 30) ?hr ?_; (case hd => rfl); (case hg => rfl); (case hr => first | (go_simp; done) | (go_simp; rfl)); intro gb166 hg w6 hbox hb; have BK166 := zp.mk (hbox); have GW166 := zp.mk ((zv3 (zv7 HB.out) hg)); have GE166 := zp.mk ((zv3 (zv7 HB.out) hg)); have NB164_166 := zp.mk ((by rw [hg]; exact Nat.ne_of_lt (blk_lt (g := gb164) (o := .cells #[.int .i64 a0_0, .int .u64 a0_1] 30 (0, 0)) (zv8 BK164.out)) : gb164 ≠ gb166)); have NB166_164 := zp.mk ((by rw [hg]; exact Nat.ne_of_gt (blk_lt (g := gb164) (o := .cells #[.int .i64 a0_0, .int .u64 a0_1] 30 (0, 0)) (zv8 BK164.out)) : gb166 ≠ gb164)); have NB165_166 := zp.mk ((by rw [hg]; exact Nat.ne_of_lt (blk_lt (g := gb165) (o := .cells #[.int .i64 a1_0, .int .u64 a1_1] 30 (0, 0)) (zv8 BK165.out)) : gb165 ≠ gb166)); have NB166_165 := zp.mk ((by rw [hg]; exact Nat.ne_of_gt (blk_lt (g := gb165) (o := .cells #[.int .i64 a1_0, .int .u64 a1_1] 30 (0, 0)) (zv8 BK165.out)) : gb166 ≠ gb165)); replace BK164 := zp.mk (zl (zv8 BK164.out) hb); replace BK165 := zp.mk (zl (zv8 BK165.out) hb); replace HB := zp.mk (zj (zv7 HB.out) hb); clear hb hbox hg; have hnb7 := NB164_165.out; have hnc7 := NB165_164.out; have hnb8 := NB164_166.out; have hnc8 := NB166_164.out; have y9_0 := zt0 BK164.out; have y9_1 := zt1 BK164.out; have u9_0 := zd BK164.out 0; have u9_1 := zd BK164.out 1; have hnb10 := NB165_166.out; have hnc10 := NB166_165.out; have y11_0 := zt0 BK165.out; have y11_1 := zt1 BK165.out; have u11_0 := zd BK165.out 0; have u11_1 := zd BK165.out 1; have y12_0 := zt0 BK166.out; have y12_1 := zt1 BK166.out; have u12_0 := zd BK166.out 0; have u12_1 := zd BK166.out 1))
  refine bodyPost_ret (results_cell_row rfl _ _ gb166 30 #[.int .i64 (wrap64 (IntKind.u64.wrap ((IntKind.u64.wrap ((IntKind.u64.wrap (a0_0)) + (IntKind.u64.wrap (a1_0)))) + 1))), .int .u64 (IntKind.u64.wrap (a0_1 + a1_1))] (0, 0) _ rfl (by (with_reducible repeat (first | refine zf ?_ _ | refine zi ?_ | refine zg ?_ _)); refine blk_put (cs := #[.int .i64 (wrap64 (IntKind.u64.wrap ((IntKind.u64.wrap ((IntKind.u64.wrap (a0_0)) + (IntKind.u64.wrap (a1_0)))) + 1))), .int .u64 0]) ?_ 1 _ rfl; (with_reducible repeat (first | refine zf ?_ _ | refine zi ?_ | refine zg ?_ _)); refine blk_put (cs := #[.int .i64 0, .int .u64 0]) ?_ 0 _ rfl; (with_reducible repeat (first | refine zf ?_ _ | refine zi ?_ | refine zg ?_ _)); exact BK166.out) Try.underlying30 rfl (by kernel_rfl)) rfl ?_
  exact ⟨by first | rfl | (simp [errW_none, errW_some] <;> rfl) | (simp [*, errW_none, errW_some] <;> rfl), zv7 HB.out⟩
 ·rw [if_neg c3] at H
  have c3b0 : decide ((IntKind.u64.wrap (a0_1 + a1_1)) < a0_1) = false := decide_eq_false c3
  clear c3
  simp only [Option.some.injEq, Prod.mk.injEq] at H
  obtain ⟨rfl, rfl⟩ := H
  go_enter Try.func29, Try.ntmps29
  go_wp2_with (first | ((with_reducible refine zo (N := 2) rfl ?_); refine zm ?hg (N := 2) ?hd (cs := #[.int .i64 a0_0, .int .u64 a0_1]) (t := 30) ?hr ?_; (case hd => rfl); (case hg => rfl); (case hr => first | (go_simp; done) | (go_simp; rfl)); intro gb164 hg w13 hbox hb; have BK164 := zp.mk (hbox); have GW164 := zp.mk ((zv3 (zv6 HB.out) hg)); have GE164 := zp.mk ((zv3 (zv6 HB.out) hg)); replace HB := zp.mk (zj (zv6 HB.out) hb); clear hb hbox hg) | ((with_reducible refine zo (N := 3) rfl ?_); refine zm ?hg (N := 3) ?hd (cs := #[.int .i64 a1_0, .int .u64 a1_1]) (t := 30) ?hr ?_; (case hd => rfl); (case hg => rfl); (case hr => first | (go_simp; done) | (go_simp; rfl)); intro gb165 hg w14 hbox hb; have BK165 := zp.mk (hbox); have GW165 := zp.mk ((zv3 (zv7 HB.out) hg)); have GE165 := zp.mk ((zv3 (zv7 HB.out) hg)); have NB164_165 := zp.mk ((by rw [hg]; exact Nat.ne_of_lt (blk_lt (g := gb164) (o := .cells #[.int .i64 a0_0, .int .u64 a0_1] 30 (0, 0)) (zv8 BK164.out)) : gb164 ≠ gb165)); have NB165_164 := zp.mk ((by rw [hg]; exact Nat.ne_of_gt (blk_lt (g := gb164) (o := .cells #[.int .i64 a0_0, .int .u64 a0_1] 30 (0, 0)) (zv8 BK164.out)) : gb165 ≠ gb164)); replace BK164 := zp.mk (zl (zv8 BK164.out) hb); replace HB := zp.mk (zj (zv7 HB.out) hb); clear hb hbox hg) | ((with_reducible refine zo (N := 4) rfl ?_); refine zm ?hg (N := 4) ?hd (cs := #[.int .i64 0, .int .u64 0]) (t := 30) ?hr ?_; (case hd => rfl); (case hg => rfl); (case hr => first | (go_simp; done) | (go_simp; rfl)); intro gb166 hg w15 hbox hb; have BK166 := zp.mk (hbox); have GW166 := zp.mk ((zv3 (zv7 HB.out) hg)); have GE166 := zp.mk ((zv3 (zv7 HB.out) hg)); have NB164_166 := zp.mk ((by rw [hg]; exact Nat.ne_of_lt (blk_lt (g := gb164) (o := .cells #[.int .i64 a0_0, .int .u64 a0_1] 30 (0, 0)) (zv8 BK164.out)) : gb164 ≠ gb166)); have NB166_164 := zp.mk ((by rw [hg]; exact Nat.ne_of_gt (blk_lt (g := gb164) (o := .cells #[.int .i64 a0_0, .int .u64 a0_1] 30 (0, 0)) (zv8 BK164.out)) : gb166 ≠ gb164)); have NB165_166 := zp.mk ((by rw [hg]; exact Nat.ne_of_lt (blk_lt (g := gb165) (o := .cells #[.int .i64 a1_0, .int .u64 a1_1] 30 (0, 0)) (zv8 BK165.out)) : gb165 ≠ gb166)); have NB166_165 := zp.mk ((by rw [hg]; exact Nat.ne_of_gt (blk_lt (g := gb165) (o := .cells #[.int .i64 a1_0, .int .u64 a1_1] 30 (0, 0)) (zv8 BK165.out)) : gb166 ≠ gb165)); replace BK164 := zp.mk (zl (zv8 BK164.out) hb); replace BK165 := zp.mk (zl (zv8 BK165.out) hb); replace HB := zp.mk (zj (zv7 HB.out) hb); clear hb hbox hg; have hnb16 := NB164_165.out; have hnc16 := NB165_164.out; have hnb17 := NB164_166.out; have hnc17 := NB166_164.out; have y18_0 := zt0 BK164.out; have y18_1 := zt1 BK164.out; have u18_0 := zd BK164.out 0; have u18_1 := zd BK164.out 1; have hnb19 := NB165_166.out; have hnc19 := NB166_165.out; have y20_0 := zt0 BK165.out; have y20_1 := zt1 BK165.out; have u20_0 := zd BK165.out 0; have u20_1 := zd BK165.out 1; have y21_0 := zt0 BK166.out; have y21_1 := zt1 BK166.out; have u21_0 := zd BK166.out 0; have u21_1 := zd BK166.out 1))
  refine bodyPost_ret (results_cell_row rfl _ _ gb166 30 #[.int .i64 (wrap64 (IntKind.u64.wrap ((IntKind.u64.wrap (a0_0)) + (IntKind.u64.wrap (a1_0))))), .int .u64 (IntKind.u64.wrap (a0_1 + a1_1))] (0, 0) _ rfl (by (with_reducible repeat (first | refine zf ?_ _ | refine zi ?_ | refine zg ?_ _)); refine blk_put (cs := #[.int .i64 (wrap64 (IntKind.u64.wrap ((IntKind.u64.wrap (a0_0)) + (IntKind.u64.wrap (a1_0))))), .int .u64 0]) ?_ 1 _ rfl; (with_reducible repeat (first | refine zf ?_ _ | refine zi ?_ | refine zg ?_ _)); refine blk_put (cs := #[.int .i64 0, .int .u64 0]) ?_ 0 _ rfl; (with_reducible repeat (first | refine zf ?_ _ | refine zi ?_ | refine zg ?_ _)); exact BK166.out) Try.underlying30 rfl (by kernel_rfl)) rfl ?_
  exact ⟨by first | rfl | (simp [errW_none, errW_some] <;> rfl) | (simp [*, errW_none, errW_some] <;> rfl), zv7 HB.out⟩

/-! ### spec_WideOf: function 30 -/
def spec_WideOf.f (a0 : Int) : Option (Int × Int) := if a0 < 0 then (some ((-1), IntKind.u64.wrap (a0))) else (some (0, IntKind.u64.wrap (a0)))
set_option maxHeartbeats 8000000 in
set_option maxRecDepth 100000 in
theorem spec_WideOf.calls (a0 : Int) (r1 : Int) (r2 : Int) (w : World) (h : spec_WideOf.f a0 = some (r1, r2)) :
  Calls Try.prog 30 #[.int .i64 a0] w fun e w' => e = .returned (.agg #[.int .i64 r1, .int .u64 r2]) ∧ Below w.heap.size w w' := by
 have hu30 := Try.underlying30
 have HB := zp.mk (Below.refl w.heap.size w)
 have H : (if a0 < 0 then (some ((-1), IntKind.u64.wrap (a0))) else (some (0, IntKind.u64.wrap (a0)))) = some (r1, r2) := h
 clear h
 by_cases c2 : a0 < 0
 ·rw [if_pos c2] at H
  have c2b0 : decide (a0 < 0) = true := decide_eq_true c2
  clear c2
  simp only [Option.some.injEq, Prod.mk.injEq] at H
  obtain ⟨rfl, rfl⟩ := H
  go_enter Try.func30, Try.ntmps30
  go_wp2_with (first | ((with_reducible refine zo (N := 2) rfl ?_); refine zm ?hg (N := 2) ?hd (cs := #[.int .i64 0, .int .u64 0]) (t := 30) ?hr ?_; (case hd => rfl); (case hg => rfl); (case hr => first | (go_simp; done) | (go_simp; rfl)); intro gb167 hg w3 hbox hb; have BK167 := zp.mk (hbox); have GW167 := zp.mk ((zv3 (zv6 HB.out) hg)); have GE167 := zp.mk ((zv3 (zv6 HB.out) hg)); replace HB := zp.mk (zj (zv6 HB.out) hb); clear hb hbox hg; have y4_0 := zt0 BK167.out; have y4_1 := zt1 BK167.out; have u4_0 := zd BK167.out 0; have u4_1 := zd BK167.out 1))
  refine bodyPost_ret (results_cell_row rfl _ _ gb167 30 #[.int .i64 (-1), .int .u64 (IntKind.u64.wrap (a0))] (0, 0) _ rfl (by (with_reducible repeat (first | refine zf ?_ _ | refine zi ?_ | refine zg ?_ _)); refine blk_put (cs := #[.int .i64 (-1), .int .u64 0]) ?_ 1 _ rfl; (with_reducible repeat (first | refine zf ?_ _ | refine zi ?_ | refine zg ?_ _)); refine blk_put (cs := #[.int .i64 0, .int .u64 0]) ?_ 0 _ rfl; (with_reducible repeat (first | refine zf ?_ _ | refine zi ?_ | refine zg ?_ _)); exact BK167.out) Try.underlying30 rfl (by kernel_rfl)) rfl ?_
  exact ⟨by first | rfl | (simp [errW_none, errW_some] <;> rfl) | (simp [*, errW_none, errW_some] <;> rfl), zv7 HB.out⟩
 ·rw [if_neg c2] at H
  have c2b0 : decide (a0 < 0) = false := decide_eq_false c2
  clear c2
  simp only [Option.some.injEq, Prod.mk.injEq] at H
  obtain ⟨rfl, rfl⟩ := H
  go_enter Try.func30, Try.ntmps30
  go_wp2_with (first | ((with_reducible refine zo (N := 2) rfl ?_); refine zm ?hg (N := 2) ?hd (cs := #[.int .i64 0, .int .u64 0]) (t := 30) ?hr ?_; (case hd => rfl); (case hg => rfl); (case hr => first | (go_simp; done) | (go_simp; rfl)); intro gb167 hg w5 hbox hb; have BK167 := zp.mk (hbox); have GW167 := zp.mk ((zv3 (zv6 HB.out) hg)); have GE167 := zp.mk ((zv3 (zv6 HB.out) hg)); replace HB := zp.mk (zj (zv6 HB.out) hb); clear hb hbox hg; have y6_0 := zt0 BK167.out; have y6_1 := zt1 BK167.out; have u6_0 := zd BK167.out 0; have u6_1 := zd BK167.out 1))
  refine bodyPost_ret (results_cell_row rfl _ _ gb167 30 #[.int .i64 0, .int .u64 (IntKind.u64.wrap (a0))] (0, 0) _ rfl (by (with_reducible repeat (first | refine zf ?_ _ | refine zi ?_ | refine zg ?_ _)); refine blk_put (cs := #[.int .i64 0, .int .u64 0]) ?_ 1 _ rfl; (with_reducible repeat (first | refine zf ?_ _ | refine zi ?_ | refine zg ?_ _)); refine blk_put (cs := #[.int .i64 0, .int .u64 0]) ?_ 0 _ rfl; (with_reducible repeat (first | refine zf ?_ _ | refine zi ?_ | refine zg ?_ _)); exact BK167.out) Try.underlying30 rfl (by kernel_rfl)) rfl ?_
  exact ⟨by first | rfl | (simp [errW_none, errW_some] <;> rfl) | (simp [*, errW_none, errW_some] <;> rfl), zv7 HB.out⟩

/-! ### spec_WideNeg: function 55 -/
def spec_WideNeg.f (a0_0 : Int) (a0_1 : Int) : Option (Int × Int) := (spec_WideAdd.f (wrap64 ((-1) - a0_0)) (IntKind.u64.wrap (18446744073709551615 - a0_1)) 0 1).bind fun bt170 => (some (bt170.1, bt170.2))
set_option maxHeartbeats 8000000 in
set_option maxRecDepth 100000 in
theorem spec_WideNeg.calls (a0_0 : Int) (a0_1 : Int) (r1 : Int) (r2 : Int) (w : World) (h : spec_WideNeg.f a0_0 a0_1 = some (r1, r2)) :
  Calls Try.prog 55 #[.agg #[.int .i64 a0_0, .int .u64 a0_1]] w fun e w' => e = .returned (.agg #[.int .i64 r1, .int .u64 r2]) ∧ Below w.heap.size w w' := by
 have hu30 := Try.underlying30
 have HB := zp.mk (Below.refl w.heap.size w)
 have H : ((spec_WideAdd.f (wrap64 ((-1) - a0_0)) (IntKind.u64.wrap (18446744073709551615 - a0_1)) 0 1).bind fun bt170 => (some (bt170.1, bt170.2))) = some (r1, r2) := h
 clear h
 replace H := zs4 H
 obtain ⟨⟨t170, t171⟩, A20, H⟩ := H
 replace H : (some (t170, t171)) = some (r1, r2) := H
 have A2 := zp.mk A20
 clear A20
 simp only [Option.some.injEq, Prod.mk.injEq] at H
 obtain ⟨rfl, rfl⟩ := H
 go_enter Try.func55, Try.ntmps55
 go_wp2_with (first | ((with_reducible refine zo (N := 1) rfl ?_); refine zm ?hg (N := 1) ?hd (cs := #[.int .i64 a0_0, .int .u64 a0_1]) (t := 30) ?hr ?_; (case hd => rfl); (case hg => rfl); (case hr => first | (go_simp; done) | (go_simp; rfl)); intro gb168 hg w3 hbox hb; have BK168 := zp.mk (hbox); have GW168 := zp.mk ((zv3 (zv6 HB.out) hg)); have GE168 := zp.mk ((zv3 (zv6 HB.out) hg)); replace HB := zp.mk (zj (zv6 HB.out) hb); clear hb hbox hg) | ((with_reducible refine zo (N := 2) rfl ?_); refine zm ?hg (N := 2) ?hd (cs := #[.int .i64 0, .int .u64 0]) (t := 30) ?hr ?_; (case hd => rfl); (case hg => rfl); (case hr => first | (go_simp; done) | (go_simp; rfl)); intro gb169 hg w4 hbox hb; have BK169 := zp.mk (hbox); have GW169 := zp.mk ((zv3 (zv7 HB.out) hg)); have GE169 := zp.mk ((zv3 (zv7 HB.out) hg)); have NB168_169 := zp.mk ((by rw [hg]; exact Nat.ne_of_lt (blk_lt (g := gb168) (o := .cells #[.int .i64 a0_0, .int .u64 a0_1] 30 (0, 0)) (zv8 BK168.out)) : gb168 ≠ gb169)); have NB169_168 := zp.mk ((by rw [hg]; exact Nat.ne_of_gt (blk_lt (g := gb168) (o := .cells #[.int .i64 a0_0, .int .u64 a0_1] 30 (0, 0)) (zv8 BK168.out)) : gb169 ≠ gb168)); replace BK168 := zp.mk (zl (zv8 BK168.out) hb); replace HB := zp.mk (zj (zv7 HB.out) hb); clear hb hbox hg; have hnb5 := NB168_169.out; have hnc5 := NB169_168.out; have y6_0 := zt0 BK168.out; have y6_1 := zt1 BK168.out; have u6_0 := zd BK168.out 0; have u6_1 := zd BK168.out 1) | ((with_reducible refine zn (f := 29) rfl ?_); refine goesL_ (some 11) rfl rfl Try.func29 (by kernel_rfl) rfl #[.agg #[.int .i64 (wrap64 ((-1) - a0_0)), .int .u64 (IntKind.u64.wrap (18446744073709551615 - a0_1))], .agg #[.int .i64 0, .int .u64 1]] rfl (by (try simp only [List.map_toArray, List.map_cons, List.map_nil]); first | done | rfl | (simp only [List.length_drop, List.length_take]; rfl)) ?_; (with_reducible refine (spec_WideAdd.calls (wrap64 ((-1) - a0_0)) (IntKind.u64.wrap (18446744073709551615 - a0_1)) 0 1 t170 t171 _ A2.out).mono ?_); rintro e w7 ⟨rfl, hb⟩; refine ⟨_, rfl, ?_⟩; replace BK168 := zp.mk (zl (zv8 BK168.out) hb); replace BK169 := zp.mk (zl (zv8 BK169.out) hb); replace HB := zp.mk (zj (zv7 HB.out) hb); (try clear hb); (try clear hb2); (try clear hk); (try clear hi); have y8_0 := zt0 BK169.out; have y8_1 := zt1 BK169.out; have u8_0 := zd BK169.out 0; have u8_1 := zd BK169.out 1))
 refine bodyPost_ret (results_cell_row rfl _ _ gb169 30 #[.int .i64 t170, .int .u64 t171] (0, 0) _ rfl (by (with_reducible repeat (first | refine zf ?_ _ | refine zi ?_ | refine zg ?_ _)); refine blk_put (cs := #[.int .i64 t170, .int .u64 0]) ?_ 1 _ rfl; (with_reducible repeat (first | refine zf ?_ _ | refine zi ?_ | refine zg ?_ _)); refine blk_put (cs := #[.int .i64 0, .int .u64 0]) ?_ 0 _ rfl; (with_reducible repeat (first | refine zf ?_ _ | refine zi ?_ | refine zg ?_ _)); exact BK169.out) Try.underlying30 rfl (by kernel_rfl)) rfl ?_
 exact ⟨by first | rfl | (simp [errW_none, errW_some] <;> rfl) | (simp [*, errW_none, errW_some] <;> rfl), zv7 HB.out⟩

/-! ### spec_l03Times: function 45 -/
mutual
def spec_l03Times.j0 : Nat → Int → Int → Int → Int → Int → Option (Int × Int)
 | 0, _, _, _, _, _ => none
 | k + 1, x7, x174000, x174001, x177000, x177001 => spec_l03Times.l0 k x7 x174000 x174001 x177000 x177001
def spec_l03Times.l0 : Nat → Int → Int → Int → Int → Int → Option (Int × Int)
 | 0, _, _, _, _, _ => none
 | k + 1, x7, x174000, x174001, x177000, x177001 => if x7 > 0 then (if (Int.tmod x7 2) = 1 then ((spec_WideAdd.f x174000 x174001 x177000 x177001).bind fun bt179 => ((spec_WideAdd.f x177000 x177001 x177000 x177001).bind fun bt181 => (spec_l03Times.l0 k (IntKind.u64.wrap (Int.tdiv x7 2)) bt179.1 bt179.2 bt181.1 bt181.2))) else ((spec_WideAdd.f x177000 x177001 x177000 x177001).bind fun bt183 => (spec_l03Times.l0 k (IntKind.u64.wrap (Int.tdiv x7 2)) x174000 x174001 bt183.1 bt183.2))) else (some (x174000, x174001))
end
def spec_l03Times.f (k : Nat) (a0 : Int) (a1 : Int) : Option (Int × Int) := (spec_WideOf.f a0).bind fun bt174 => (if a1 < 0 then ((spec_WideNeg.f bt174.1 bt174.2).bind fun bt177 => (spec_l03Times.j0 k (IntKind.u64.wrap (-(IntKind.u64.wrap (a1)))) 0 0 bt177.1 bt177.2)) else (spec_l03Times.j0 k (IntKind.u64.wrap (a1)) 0 0 bt174.1 bt174.2))
set_option maxHeartbeats 8000000 in
set_option maxRecDepth 100000 in
theorem spec_l03Times.calls (k : Nat) (a0 : Int) (a1 : Int) (r1 : Int) (r2 : Int) (w : World) (h : spec_l03Times.f k a0 a1 = some (r1, r2)) :
  Calls Try.prog 45 #[.int .i64 a0, .int .i64 a1] w fun e w' => e = .returned (.agg #[.int .i64 r1, .int .u64 r2]) ∧ Below w.heap.size w w' := by
 have hu30 := Try.underlying30
 have HB := zp.mk (Below.refl w.heap.size w)
 have H : ((spec_WideOf.f a0).bind fun bt174 => (if a1 < 0 then ((spec_WideNeg.f bt174.1 bt174.2).bind fun bt177 => (spec_l03Times.j0 k (IntKind.u64.wrap (-(IntKind.u64.wrap (a1)))) 0 0 bt177.1 bt177.2)) else (spec_l03Times.j0 k (IntKind.u64.wrap (a1)) 0 0 bt174.1 bt174.2))) = some (r1, r2) := h
 clear h
 replace H := zs4 H
 obtain ⟨⟨t174, t175⟩, A30, H⟩ := H
 replace H : (if a1 < 0 then ((spec_WideNeg.f t174 t175).bind fun bt177 => (spec_l03Times.j0 k (IntKind.u64.wrap (-(IntKind.u64.wrap (a1)))) 0 0 bt177.1 bt177.2)) else (spec_l03Times.j0 k (IntKind.u64.wrap (a1)) 0 0 t174 t175)) = some (r1, r2) := H
 have A3 := zp.mk A30
 clear A30
 have HC4 := zp.mk H
 clear H
 go_enter Try.func45, Try.ntmps45
 go_upto_if 14 with (first | ((with_reducible refine zo (N := 4) rfl ?_); refine zm ?hg (N := 4) ?hd (cs := #[.int .i64 0, .int .u64 0]) (t := 30) ?hr ?_; (case hd => rfl); (case hg => rfl); (case hr => first | (go_simp; done) | (go_simp; rfl)); intro gb172 hg w5 hbox hb; have BK172 := zp.mk (hbox); have GW172 := zp.mk ((zv3 (zv6 HB.out) hg)); have GE172 := zp.mk ((zv3 (zv6 HB.out) hg)); replace HB := zp.mk (zj (zv6 HB.out) hb); clear hb hbox hg) | ((with_reducible refine zo (N := 5) rfl ?_); refine zm ?hg (N := 5) ?hd (cs := #[.int .i64 0, .int .u64 0]) (t := 30) ?hr ?_; (case hd => rfl); (case hg => rfl); (case hr => first | (go_simp; done) | (go_simp; rfl)); intro gb173 hg w6 hbox hb; have BK173 := zp.mk (hbox); have GW173 := zp.mk ((zv3 (zv7 HB.out) hg)); have GE173 := zp.mk ((zv3 (zv7 HB.out) hg)); have NB172_173 := zp.mk ((by rw [hg]; exact Nat.ne_of_lt (blk_lt (g := gb172) (o := .cells #[.int .i64 0, .int .u64 0] 30 (0, 0)) (zv8 BK172.out)) : gb172 ≠ gb173)); have NB173_172 := zp.mk ((by rw [hg]; exact Nat.ne_of_gt (blk_lt (g := gb172) (o := .cells #[.int .i64 0, .int .u64 0] 30 (0, 0)) (zv8 BK172.out)) : gb173 ≠ gb172)); replace BK172 := zp.mk (zl (zv8 BK172.out) hb); replace HB := zp.mk (zj (zv7 HB.out) hb); clear hb hbox hg; have hnb7 := NB173_172.out; have hnc7 := NB172_173.out; have y8_0 := zt0 BK173.out; have y8_1 := zt1 BK173.out; have u8_0 := zd BK173.out 0; have u8_1 := zd BK173.out 1) | ((with_reducible refine zn (f := 30) rfl ?_); refine goesL_ (some 10) rfl rfl Try.func30 (by kernel_rfl) rfl #[.int .i64 a0] rfl (by (try simp only [List.map_toArray, List.map_cons, List.map_nil]); first | done | rfl | (simp only [List.length_drop, List.length_take]; rfl)) ?_; (with_reducible refine (spec_WideOf.calls a0 t174 t175 _ A3.out).mono ?_); rintro e w9 ⟨rfl, hb⟩; refine ⟨_, rfl, ?_⟩; replace BK172 := zp.mk (zl (g := gb172) (o := .cells #[.int .i64 0, .int .u64 0] 30 (0, 0)) (by (with_reducible repeat (first | refine zf ?_ _ | refine zi ?_ | refine zg ?_ _)); refine blk_far ?_ NB172_173.out _; (with_reducible repeat (first | refine zf ?_ _ | refine zi ?_ | refine zg ?_ _)); refine blk_far ?_ NB172_173.out _; (with_reducible repeat (first | refine zf ?_ _ | refine zi ?_ | refine zg ?_ _)); exact BK172.out) hb); replace BK173 := zp.mk (zl (g := gb173) (o := .cells #[.int .i64 0, .int .u64 0] 30 (0, 0)) (by (with_reducible repeat (first | refine zf ?_ _ | refine zi ?_ | refine zg ?_ _)); refine blk_put (cs := #[.int .i64 0, .int .u64 0]) ?_ 1 _ rfl; (with_reducible repeat (first | refine zf ?_ _ | refine zi ?_ | refine zg ?_ _)); refine blk_put (cs := #[.int .i64 0, .int .u64 0]) ?_ 0 _ rfl; (with_reducible repeat (first | refine zf ?_ _ | refine zi ?_ | refine zg ?_ _)); exact BK173.out) hb); replace HB := zp.mk (zj (zv7 HB.out) hb); (try clear hb); (try clear hb2); (try clear hk); (try clear hi)) | ((with_reducible refine zo (N := 6) rfl ?_); refine zm ?hg (N := 6) ?hd (cs := #[.int .i64 0, .int .u64 0]) (t := 30) ?hr ?_; (case hd => rfl); (case hg => rfl); (case hr => first | (go_simp; done) | (go_simp; rfl)); intro gb176 hg w10 hbox hb; have BK176 := zp.mk (hbox); have GW176 := zp.mk ((zv3 (zv7 HB.out) hg)); have GE176 := zp.mk ((zv3 (zv7 HB.out) hg)); have NB172_176 := zp.mk ((by rw [hg]; exact Nat.ne_of_lt (blk_lt (g := gb172) (o := .cells #[.int .i64 0, .int .u64 0] 30 (0, 0)) (zv8 BK172.out)) : gb172 ≠ gb176)); have NB176_172 := zp.mk ((by rw [hg]; exact Nat.ne_of_gt (blk_lt (g := gb172) (o := .cells #[.int .i64 0, .int .u64 0] 30 (0, 0)) (zv8 BK172.out)) : gb176 ≠ gb172)); have NB173_176 := zp.mk ((by rw [hg]; exact Nat.ne_of_lt (blk_lt (g := gb173) (o := .cells #[.int .i64 0, .int .u64 0] 30 (0, 0)) (zv8 BK173.out)) : gb173 ≠ gb176)); have NB176_173 := zp.mk ((by rw [hg]; exact Nat.ne_of_gt (blk_lt (g := gb173) (o := .cells #[.int .i64 0, .int .u64 0] 30 (0, 0)) (zv8 BK173.out)) : gb176 ≠ gb173)); replace BK172 := zp.mk (zl (zv8 BK172.out) hb); replace BK173 := zp.mk (zl (zv8 BK173.out) hb); replace HB := zp.mk (zj (zv7 HB.out) hb); clear hb hbox hg; have hnb11 := NB176_172.out; have hnc11 := NB172_176.out; have hnb12 := NB176_173.out; have hnc12 := NB173_176.out; have y13_0 := zt0 BK176.out; have y13_1 := zt1 BK176.out; have u13_0 := zd BK176.out 0; have u13_1 := zd BK176.out 1))
 (try simp only [Act.put, zs1, zs2, zs3])
 go_cut [7] (fun v7 wc => ∃ (kq : Nat) (x7_3 : Int) (x177000_3 : Int) (x177001_3 : Int), v7 = .int .u64 x7_3 ∧ zp (spec_l03Times.j0 kq x7_3 0 0 x177000_3 x177001_3 = some (r1, r2)) ∧ zp (kq ≤ k) ∧ zp (wc.heap[gb172]? = some (.cells #[.int .i64 0, .int .u64 0] 30 (0, 0))) ∧ zp (wc.heap[gb173]? = some (.cells #[.int .i64 0, .int .u64 0] 30 (0, 0))) ∧ zp (wc.heap[gb176]? = some (.cells #[.int .i64 x177000_3, .int .u64 x177001_3] 30 (0, 0))) ∧ zp (Below w.heap.size w wc))
 case first =>
  have H := HC4.out
  clear HC4
  by_cases c14 : a1 < 0
  ·rw [if_pos c14] at H
   have c14b0 : decide (a1 < 0) = true := decide_eq_true c14
   clear c14
   (first | rw [c14b0] | (simp only [i64_w, i32_w]; rw [c14b0]) | skip)
   replace H := zs4 H
   obtain ⟨⟨t177, t178⟩, A150, H⟩ := H
   replace H : (spec_l03Times.j0 k (IntKind.u64.wrap (-(IntKind.u64.wrap (a1)))) 0 0 t177 t178) = some (r1, r2) := H
   have A15 := zp.mk A150
   clear A150
   have H' := zp.mk H
   clear H
   have hnb16 := NB176_172.out
   have hnc16 := NB172_176.out
   have hnb17 := NB176_173.out
   have hnc17 := NB173_176.out
   have y18_0 := zt0 BK176.out
   have y18_1 := zt1 BK176.out
   have u18_0 := zd BK176.out 0
   have u18_1 := zd BK176.out 1
   go_wp2_with (first | ((with_reducible refine zn (f := 55) rfl ?_); refine goesL_ (some 16) rfl rfl Try.func55 (by kernel_rfl) rfl #[.agg #[.int .i64 t174, .int .u64 t175]] rfl (by (try simp only [List.map_toArray, List.map_cons, List.map_nil]); first | done | rfl | (simp only [List.length_drop, List.length_take]; rfl)) ?_; (with_reducible refine (spec_WideNeg.calls t174 t175 t177 t178 _ A15.out).mono ?_); rintro e w19 ⟨rfl, hb⟩; refine ⟨_, rfl, ?_⟩; replace BK172 := zp.mk (zl (g := gb172) (o := .cells #[.int .i64 0, .int .u64 0] 30 (0, 0)) (by (with_reducible repeat (first | refine zf ?_ _ | refine zi ?_ | refine zg ?_ _)); refine blk_far ?_ NB172_176.out _; (with_reducible repeat (first | refine zf ?_ _ | refine zi ?_ | refine zg ?_ _)); refine blk_far ?_ NB172_176.out _; (with_reducible repeat (first | refine zf ?_ _ | refine zi ?_ | refine zg ?_ _)); exact BK172.out) hb); replace BK173 := zp.mk (zl (g := gb173) (o := .cells #[.int .i64 0, .int .u64 0] 30 (0, 0)) (by (with_reducible repeat (first | refine zf ?_ _ | refine zi ?_ | refine zg ?_ _)); refine blk_far ?_ NB173_176.out _; (with_reducible repeat (first | refine zf ?_ _ | refine zi ?_ | refine zg ?_ _)); refine blk_far ?_ NB173_176.out _; (with_reducible repeat (first | refine zf ?_ _ | refine zi ?_ | refine zg ?_ _)); exact BK173.out) hb); replace BK176 := zp.mk (zl (g := gb176) (o := .cells #[.int .i64 t174, .int .u64 t175] 30 (0, 0)) (by (with_reducible repeat (first | refine zf ?_ _ | refine zi ?_ | refine zg ?_ _)); refine blk_put (cs := #[.int .i64 t174, .int .u64 0]) ?_ 1 _ rfl; (with_reducible repeat (first | refine zf ?_ _ | refine zi ?_ | refine zg ?_ _)); refine blk_put (cs := #[.int .i64 0, .int .u64 0]) ?_ 0 _ rfl; (with_reducible repeat (first | refine zf ?_ _ | refine zi ?_ | refine zg ?_ _)); exact BK176.out) hb); replace HB := zp.mk (zj (zv7 HB.out) hb); (try clear hb); (try clear hb2); (try clear hk); (try clear hi); have y20_0 := zt0 BK176.out; have y20_1 := zt1 BK176.out; have u20_0 := zd BK176.out 0; have u20_1 := zd BK176.out 1))
   go_meet
   case rel => exact ⟨_, (IntKind.u64.wrap (-(IntKind.u64.wrap (a1)))), (t177), (t178), (by first | rfl | (simp; done) | (simp [*]; done)), H', ⟨by first | omega | exact Nat.le_refl _⟩, ⟨by (with_reducible repeat (first | refine zf ?_ _ | refine zi ?_ | refine zg ?_ _)); refine blk_far ?_ NB172_176.out _; (with_reducible repeat (first | refine zf ?_ _ | refine zi ?_ | refine zg ?_ _)); refine blk_far ?_ NB172_176.out _; (with_reducible repeat (first | refine zf ?_ _ | refine zi ?_ | refine zg ?_ _)); exact BK172.out⟩, ⟨by (with_reducible repeat (first | refine zf ?_ _ | refine zi ?_ | refine zg ?_ _)); refine blk_far ?_ NB173_176.out _; (with_reducible repeat (first | refine zf ?_ _ | refine zi ?_ | refine zg ?_ _)); refine blk_far ?_ NB173_176.out _; (with_reducible repeat (first | refine zf ?_ _ | refine zi ?_ | refine zg ?_ _)); exact BK173.out⟩, ⟨by (with_reducible repeat (first | refine zf ?_ _ | refine zi ?_ | refine zg ?_ _)); refine blk_put (cs := #[.int .i64 t177, .int .u64 t175]) ?_ 1 _ rfl; (with_reducible repeat (first | refine zf ?_ _ | refine zi ?_ | refine zg ?_ _)); refine blk_put (cs := #[.int .i64 t174, .int .u64 t175]) ?_ 0 _ rfl; (with_reducible repeat (first | refine zf ?_ _ | refine zi ?_ | refine zg ?_ _)); exact BK176.out⟩, ⟨zv7 HB.out⟩⟩
  ·rw [if_neg c14] at H
   have c14b0 : decide (a1 < 0) = false := decide_eq_false c14
   clear c14
   (first | rw [c14b0] | (simp only [i64_w, i32_w]; rw [c14b0]) | skip)
   have H' := zp.mk H
   clear H
   go_wp2
   go_meet
   case rel => exact ⟨_, (IntKind.u64.wrap (a1)), (t174), (t175), (by first | rfl | (simp; done) | (simp [*]; done)), H', ⟨by first | omega | exact Nat.le_refl _⟩, ⟨by (with_reducible repeat (first | refine zf ?_ _ | refine zi ?_ | refine zg ?_ _)); refine blk_far ?_ NB172_176.out _; (with_reducible repeat (first | refine zf ?_ _ | refine zi ?_ | refine zg ?_ _)); refine blk_far ?_ NB172_176.out _; (with_reducible repeat (first | refine zf ?_ _ | refine zi ?_ | refine zg ?_ _)); exact BK172.out⟩, ⟨by (with_reducible repeat (first | refine zf ?_ _ | refine zi ?_ | refine zg ?_ _)); refine blk_far ?_ NB173_176.out _; (with_reducible repeat (first | refine zf ?_ _ | refine zi ?_ | refine zg ?_ _)); refine blk_far ?_ NB173_176.out _; (with_reducible repeat (first | refine zf ?_ _ | refine zi ?_ | refine zg ?_ _)); exact BK173.out⟩, ⟨by (with_reducible repeat (first | refine zf ?_ _ | refine zi ?_ | refine zg ?_ _)); refine blk_put (cs := #[.int .i64 t174, .int .u64 0]) ?_ 1 _ rfl; (with_reducible repeat (first | refine zf ?_ _ | refine zi ?_ | refine zg ?_ _)); refine blk_put (cs := #[.int .i64 0, .int .u64 0]) ?_ 0 _ rfl; (with_reducible repeat (first | refine zf ?_ _ | refine zi ?_ | refine zg ?_ _)); exact BK176.out⟩, ⟨zv7 HB.out⟩⟩
 case rest =>
  clear HC4
  try clear c1
  try clear p2
  try clear c3
  try clear c4
  try clear c5
  try clear c7
  try clear c11
  try clear c12
  try clear c14
  try clear c14b0
  try clear c16
  try clear c17
  try clear y13_0
  try clear y13_1
  try clear y18_0
  try clear y18_1
  try clear y20_0
  try clear y20_1
  try clear y8_0
  try clear y8_1
  try clear u13_0
  try clear u13_1
  try clear u18_0
  try clear u18_1
  try clear u20_0
  try clear u20_1
  try clear u8_0
  try clear u8_1
  obtain ⟨kq, x7_3, x177000_3, x177001_3, rfl, HA, HJ3, BK172, BK173, BK176, HB⟩ := hcut
  cases kq with
  | zero => exact absurd HA.out (by simp [spec_l03Times.j0])
  | succ kj3 =>
   have H := HA.out
   clear HA
   simp only [spec_l03Times.j0] at H
   have H' := zp.mk H
   clear H
   go_wp2
   go_loopg [7] kj3 (fun kq v7 w' => ∃ (x7_2 : Int) (x174000_2 : Int) (x174001_2 : Int) (x177000_2 : Int) (x177001_2 : Int), v7 = .int .u64 x7_2 ∧ zp (spec_l03Times.l0 kq x7_2 x174000_2 x174001_2 x177000_2 x177001_2 = some (r1, r2)) ∧ zp (kq ≤ kj3) ∧ zp (w'.heap[gb172]? = some (.cells #[.int .i64 0, .int .u64 0] 30 (0, 0))) ∧ zp (w'.heap[gb173]? = some (.cells #[.int .i64 x174000_2, .int .u64 x174001_2] 30 (0, 0))) ∧ zp (w'.heap[gb176]? = some (.cells #[.int .i64 x177000_2, .int .u64 x177001_2] 30 (0, 0))) ∧ zp (Below w.heap.size w w'))
   case atStart => exact ⟨(x7_3), (0), (0), (x177000_3), (x177001_3), (by first | rfl | (simp; done) | (simp [*]; done)), H', ⟨Nat.le_refl _⟩, ⟨zv8 BK172.out⟩, ⟨zv8 BK173.out⟩, ⟨zv8 BK176.out⟩, ⟨zv7 HB.out⟩⟩
   case round =>
    clear H'
    try clear c1
    try clear p2
    try clear c3
    try clear c4
    try clear c5
    try clear c7
    try clear c11
    try clear c12
    try clear c14
    try clear c14b0
    try clear c16
    try clear c17
    try clear y13_0
    try clear y13_1
    try clear y18_0
    try clear y18_1
    try clear y20_0
    try clear y20_1
    try clear y8_0
    try clear y8_1
    try clear u13_0
    try clear u13_1
    try clear u18_0
    try clear u18_1
    try clear u20_0
    try clear u20_1
    try clear u8_0
    try clear u8_1
    try clear p2
    obtain ⟨x7_2, x174000_2, x174001_2, x177000_2, x177001_2, rfl, HA, HK2, BK172, BK173, BK176, HB⟩ := hrel
    cases gk with
    | zero => exact absurd HA.out (by simp [spec_l03Times.l0])
    | succ k2 =>
     have H := HA.out
     clear HA
     simp only [spec_l03Times.l0] at H
     by_cases c21 : x7_2 > 0
     ·rw [if_pos c21] at H
      have c21b0 : decide (0 < x7_2) = true := decide_eq_true c21
      clear c21
      by_cases c22 : (Int.tmod x7_2 2) = 1
      ·rw [if_pos c22] at H
       have c22b0 : ((Int.tmod x7_2 2) == 1) = true := beq_iff_eq.mpr c22
       have c22b1 : ((Int.tmod x7_2 2) != 1) = false := bne_eq_false_iff_eq.mpr c22
       clear c22
       replace H := zs4 H
       obtain ⟨⟨t179, t180⟩, A230, H⟩ := H
       replace H : ((spec_WideAdd.f x177000_2 x177001_2 x177000_2 x177001_2).bind fun bt181 => (spec_l03Times.l0 k2 (IntKind.u64.wrap (Int.tdiv x7_2 2)) t179 t180 bt181.1 bt181.2)) = some (r1, r2) := H
       have A23 := zp.mk A230
       clear A230
       replace H := zs4 H
       obtain ⟨⟨t181, t182⟩, A240, H⟩ := H
       replace H : (spec_l03Times.l0 k2 (IntKind.u64.wrap (Int.tdiv x7_2 2)) t179 t180 t181 t182) = some (r1, r2) := H
       have A24 := zp.mk A240
       clear A240
       have H' := zp.mk H
       clear H
       have hnb25 := NB173_172.out
       have hnc25 := NB172_173.out
       have hnb26 := NB173_176.out
       have hnc26 := NB176_173.out
       have y27_0 := zt0 BK173.out
       have y27_1 := zt1 BK173.out
       have u27_0 := zd BK173.out 0
       have u27_1 := zd BK173.out 1
       have hnb28 := NB176_172.out
       have hnc28 := NB172_176.out
       have y29_0 := zt0 BK176.out
       have y29_1 := zt1 BK176.out
       have u29_0 := zd BK176.out 0
       have u29_1 := zd BK176.out 1
       go_wp2_with (first | ((with_reducible refine zn (f := 29) rfl ?_); refine goesL_ (some 26) rfl rfl Try.func29 (by kernel_rfl) rfl #[.agg #[.int .i64 x174000_2, .int .u64 x174001_2], .agg #[.int .i64 x177000_2, .int .u64 x177001_2]] rfl (by (try simp only [List.map_toArray, List.map_cons, List.map_nil]); first | done | rfl | (simp only [List.length_drop, List.length_take]; rfl)) ?_; (with_reducible refine (spec_WideAdd.calls x174000_2 x174001_2 x177000_2 x177001_2 t179 t180 _ A23.out).mono ?_); rintro e w30 ⟨rfl, hb⟩; refine ⟨_, rfl, ?_⟩; replace BK172 := zp.mk (zl (zv8 BK172.out) hb); replace BK173 := zp.mk (zl (zv8 BK173.out) hb); replace BK176 := zp.mk (zl (zv8 BK176.out) hb); replace HB := zp.mk (zj (zv7 HB.out) hb); (try clear hb); (try clear hb2); (try clear hk); (try clear hi); have y31_0 := zt0 BK173.out; have y31_1 := zt1 BK173.out; have u31_0 := zd BK173.out 0; have u31_1 := zd BK173.out 1; have y32_0 := zt0 BK176.out; have y32_1 := zt1 BK176.out; have u32_0 := zd BK176.out 0; have u32_1 := zd BK176.out 1) | ((with_reducible refine zn (f := 29) rfl ?_); refine goesL_ (some 29) rfl rfl Try.func29 (by kernel_rfl) rfl #[.agg #[.int .i64 x177000_2, .int .u64 x177001_2], .agg #[.int .i64 x177000_2, .int .u64 x177001_2]] rfl (by (try simp only [List.map_toArray, List.map_cons, List.map_nil]); first | done | rfl | (simp only [List.length_drop, List.length_take]; rfl)) ?_; (with_reducible refine (spec_WideAdd.calls x177000_2 x177001_2 x177000_2 x177001_2 t181 t182 _ A24.out).mono ?_); rintro e w33 ⟨rfl, hb⟩; refine ⟨_, rfl, ?_⟩; replace BK172 := zp.mk (zl (g := gb172) (o := .cells #[.int .i64 0, .int .u64 0] 30 (0, 0)) (by (with_reducible repeat (first | refine zf ?_ _ | refine zi ?_ | refine zg ?_ _)); refine blk_far ?_ NB172_173.out _; (with_reducible repeat (first | refine zf ?_ _ | refine zi ?_ | refine zg ?_ _)); refine blk_far ?_ NB172_173.out _; (with_reducible repeat (first | refine zf ?_ _ | refine zi ?_ | refine zg ?_ _)); exact BK172.out) hb); replace BK173 := zp.mk (zl (g := gb173) (o := .cells #[.int .i64 t179, .int .u64 t180] 30 (0, 0)) (by (with_reducible repeat (first | refine zf ?_ _ | refine zi ?_ | refine zg ?_ _)); refine blk_put (cs := #[.int .i64 t179, .int .u64 x174001_2]) ?_ 1 _ rfl; (with_reducible repeat (first | refine zf ?_ _ | refine zi ?_ | refine zg ?_ _)); refine blk_put (cs := #[.int .i64 x174000_2, .int .u64 x174001_2]) ?_ 0 _ rfl; (with_reducible repeat (first | refine zf ?_ _ | refine zi ?_ | refine zg ?_ _)); exact BK173.out) hb); replace BK176 := zp.mk (zl (g := gb176) (o := .cells #[.int .i64 x177000_2, .int .u64 x177001_2] 30 (0, 0)) (by (with_reducible repeat (first | refine zf ?_ _ | refine zi ?_ | refine zg ?_ _)); refine blk_far ?_ NB176_173.out _; (with_reducible repeat (first | refine zf ?_ _ | refine zi ?_ | refine zg ?_ _)); refine blk_far ?_ NB176_173.out _; (with_reducible repeat (first | refine zf ?_ _ | refine zi ?_ | refine zg ?_ _)); exact BK176.out) hb); replace HB := zp.mk (zj (zv7 HB.out) hb); (try clear hb); (try clear hb2); (try clear hk); (try clear hi); have y34_0 := zt0 BK176.out; have y34_1 := zt1 BK176.out; have u34_0 := zd BK176.out 0; have u34_1 := zd BK176.out 1))
       go_roundg k2
       case measure => have := HJ3.out; have := HK2.out; omega
       case rel => exact ⟨(IntKind.u64.wrap (Int.tdiv x7_2 2)), (t179), (t180), (t181), (t182), (by first | rfl | (simp; done) | (simp [*]; done)), H', ⟨by have := HJ3.out; have := HK2.out; omega⟩, ⟨by (with_reducible repeat (first | refine zf ?_ _ | refine zi ?_ | refine zg ?_ _)); refine blk_far ?_ NB172_176.out _; (with_reducible repeat (first | refine zf ?_ _ | refine zi ?_ | refine zg ?_ _)); refine blk_far ?_ NB172_176.out _; (with_reducible repeat (first | refine zf ?_ _ | refine zi ?_ | refine zg ?_ _)); exact BK172.out⟩, ⟨by (with_reducible repeat (first | refine zf ?_ _ | refine zi ?_ | refine zg ?_ _)); refine blk_far ?_ NB173_176.out _; (with_reducible repeat (first | refine zf ?_ _ | refine zi ?_ | refine zg ?_ _)); refine blk_far ?_ NB173_176.out _; (with_reducible repeat (first | refine zf ?_ _ | refine zi ?_ | refine zg ?_ _)); exact BK173.out⟩, ⟨by (with_reducible repeat (first | refine zf ?_ _ | refine zi ?_ | refine zg ?_ _)); refine blk_put (cs := #[.int .i64 t181, .int .u64 x177001_2]) ?_ 1 _ rfl; (with_reducible repeat (first | refine zf ?_ _ | refine zi ?_ | refine zg ?_ _)); refine blk_put (cs := #[.int .i64 x177000_2, .int .u64 x177001_2]) ?_ 0 _ rfl; (with_reducible repeat (first | refine zf ?_ _ | refine zi ?_ | refine zg ?_ _)); exact BK176.out⟩, ⟨zv7 HB.out⟩⟩
      ·rw [if_neg c22] at H
       have c22b0 : ((Int.tmod x7_2 2) == 1) = false := beq_eq_false_iff_ne.mpr c22
       have c22b1 : ((Int.tmod x7_2 2) != 1) = true := bne_iff_ne.mpr c22
       replace H := zs4 H
       obtain ⟨⟨t183, t184⟩, A350, H⟩ := H
       replace H : (spec_l03Times.l0 k2 (IntKind.u64.wrap (Int.tdiv x7_2 2)) x174000_2 x174001_2 t183 t184) = some (r1, r2) := H
       have A35 := zp.mk A350
       clear A350
       have H' := zp.mk H
       clear H
       have hnb36 := NB176_172.out
       have hnc36 := NB172_176.out
       have hnb37 := NB176_173.out
       have hnc37 := NB173_176.out
       have y38_0 := zt0 BK176.out
       have y38_1 := zt1 BK176.out
       have u38_0 := zd BK176.out 0
       have u38_1 := zd BK176.out 1
       go_wp2_with (first | ((with_reducible refine zn (f := 29) rfl ?_); refine goesL_ (some 29) rfl rfl Try.func29 (by kernel_rfl) rfl #[.agg #[.int .i64 x177000_2, .int .u64 x177001_2], .agg #[.int .i64 x177000_2, .int .u64 x177001_2]] rfl (by (try simp only [List.map_toArray, List.map_cons, List.map_nil]); first | done | rfl | (simp only [List.length_drop, List.length_take]; rfl)) ?_; (with_reducible refine (spec_WideAdd.calls x177000_2 x177001_2 x177000_2 x177001_2 t183 t184 _ A35.out).mono ?_); rintro e w39 ⟨rfl, hb⟩; refine ⟨_, rfl, ?_⟩; replace BK172 := zp.mk (zl (zv8 BK172.out) hb); replace BK173 := zp.mk (zl (zv8 BK173.out) hb); replace BK176 := zp.mk (zl (zv8 BK176.out) hb); replace HB := zp.mk (zj (zv7 HB.out) hb); (try clear hb); (try clear hb2); (try clear hk); (try clear hi); have y40_0 := zt0 BK176.out; have y40_1 := zt1 BK176.out; have u40_0 := zd BK176.out 0; have u40_1 := zd BK176.out 1))
       go_roundg k2
       case measure => have := HJ3.out; have := HK2.out; omega
       case rel => exact ⟨(IntKind.u64.wrap (Int.tdiv x7_2 2)), (x174000_2), (x174001_2), (t183), (t184), (by first | rfl | (simp; done) | (simp [*]; done)), H', ⟨by have := HJ3.out; have := HK2.out; omega⟩, ⟨by (with_reducible repeat (first | refine zf ?_ _ | refine zi ?_ | refine zg ?_ _)); refine blk_far ?_ NB172_176.out _; (with_reducible repeat (first | refine zf ?_ _ | refine zi ?_ | refine zg ?_ _)); refine blk_far ?_ NB172_176.out _; (with_reducible repeat (first | refine zf ?_ _ | refine zi ?_ | refine zg ?_ _)); exact BK172.out⟩, ⟨by (with_reducible repeat (first | refine zf ?_ _ | refine zi ?_ | refine zg ?_ _)); refine blk_far ?_ NB173_176.out _; (with_reducible repeat (first | refine zf ?_ _ | refine zi ?_ | refine zg ?_ _)); refine blk_far ?_ NB173_176.out _; (with_reducible repeat (first | refine zf ?_ _ | refine zi ?_ | refine zg ?_ _)); exact BK173.out⟩, ⟨by (with_reducible repeat (first | refine zf ?_ _ | refine zi ?_ | refine zg ?_ _)); refine blk_put (cs := #[.int .i64 t183, .int .u64 x177001_2]) ?_ 1 _ rfl; (with_reducible repeat (first | refine zf ?_ _ | refine zi ?_ | refine zg ?_ _)); refine blk_put (cs := #[.int .i64 x177000_2, .int .u64 x177001_2]) ?_ 0 _ rfl; (with_reducible repeat (first | refine zf ?_ _ | refine zi ?_ | refine zg ?_ _)); exact BK176.out⟩, ⟨zv7 HB.out⟩⟩
     ·rw [if_neg c21] at H
      have c21b0 : decide (0 < x7_2) = false := decide_eq_false c21
      clear c21
      simp only [Option.some.injEq, Prod.mk.injEq] at H
      obtain ⟨rfl, rfl⟩ := H
      have hnb41 := NB173_172.out
      have hnc41 := NB172_173.out
      have hnb42 := NB173_176.out
      have hnc42 := NB176_173.out
      have y43_0 := zt0 BK173.out
      have y43_1 := zt1 BK173.out
      have u43_0 := zd BK173.out 0
      have u43_1 := zd BK173.out 1
      have hnb44 := NB172_176.out
      have hnc44 := NB176_172.out
      have y45_0 := zt0 BK172.out
      have y45_1 := zt1 BK172.out
      have u45_0 := zd BK172.out 0
      have u45_1 := zd BK172.out 1
      go_wp2
      refine bodyPost_ret (results_cell_row rfl _ _ gb172 30 #[.int .i64 x174000_2, .int .u64 x174001_2] (0, 0) _ rfl (by (with_reducible repeat (first | refine zf ?_ _ | refine zi ?_ | refine zg ?_ _)); refine blk_put (cs := #[.int .i64 x174000_2, .int .u64 0]) ?_ 1 _ rfl; (with_reducible repeat (first | refine zf ?_ _ | refine zi ?_ | refine zg ?_ _)); refine blk_put (cs := #[.int .i64 0, .int .u64 0]) ?_ 0 _ rfl; (with_reducible repeat (first | refine zf ?_ _ | refine zi ?_ | refine zg ?_ _)); exact BK172.out) Try.underlying30 rfl (by kernel_rfl)) rfl ?_
      exact ⟨by first | rfl | (simp [errW_none, errW_some] <;> rfl) | (simp [*, errW_none, errW_some] <;> rfl), zv7 HB.out⟩

/-! ### spec_l07Times: function 31 -/
def spec_l07Times.f (k : Nat) (a0 : Int) (a1 : Int) : Option (Int × Int) := (spec_l03Times.f k a0 a1).bind fun bt186 => (some (bt186.1, bt186.2))
set_option maxHeartbeats 8000000 in
set_option maxRecDepth 100000 in
theorem spec_l07Times.calls (k : Nat) (a0 : Int) (a1 : Int) (r1 : Int) (r2 : Int) (w : World) (h : spec_l07Times.f k a0 a1 = some (r1, r2)) :
  Calls Try.prog 31 #[.int .i64 a0, .int .i64 a1] w fun e w' => e = .returned (.agg #[.int .i64 r1, .int .u64 r2]) ∧ Below w.heap.size w w' := by
 have hu30 := Try.underlying30
 have HB := zp.mk (Below.refl w.heap.size w)
 have H : ((spec_l03Times.f k a0 a1).bind fun bt186 => (some (bt186.1, bt186.2))) = some (r1, r2) := h
 clear h
 replace H := zs4 H
 obtain ⟨⟨t186, t187⟩, A30, H⟩ := H
 replace H : (some (t186, t187)) = some (r1, r2) := H
 have A3 := zp.mk A30
 clear A30
 simp only [Option.some.injEq, Prod.mk.injEq] at H
 obtain ⟨rfl, rfl⟩ := H
 go_enter Try.func31, Try.ntmps31
 go_wp2_with (first | ((with_reducible refine zo (N := 4) rfl ?_); refine zm ?hg (N := 4) ?hd (cs := #[.int .i64 0, .int .u64 0]) (t := 30) ?hr ?_; (case hd => rfl); (case hg => rfl); (case hr => first | (go_simp; done) | (go_simp; rfl)); intro gb185 hg w4 hbox hb; have BK185 := zp.mk (hbox); have GW185 := zp.mk ((zv3 (zv6 HB.out) hg)); have GE185 := zp.mk ((zv3 (zv6 HB.out) hg)); replace HB := zp.mk (zj (zv6 HB.out) hb); clear hb hbox hg) | ((with_reducible refine zn (f := 45) rfl ?_); refine goesL_ (some 7) rfl rfl Try.func45 (by kernel_rfl) rfl #[.int .i64 a0, .int .i64 a1] rfl (by (try simp only [List.map_toArray, List.map_cons, List.map_nil]); first | done | rfl | (simp only [List.length_drop, List.length_take]; rfl)) ?_; (with_reducible refine (spec_l03Times.calls k a0 a1 t186 t187 _ A3.out).mono ?_); rintro e w5 ⟨rfl, hb⟩; refine ⟨_, rfl, ?_⟩; replace BK185 := zp.mk (zl (zv8 BK185.out) hb); replace HB := zp.mk (zj (zv7 HB.out) hb); (try clear hb); (try clear hb2); (try clear hk); (try clear hi); have y6_0 := zt0 BK185.out; have y6_1 := zt1 BK185.out; have u6_0 := zd BK185.out 0; have u6_1 := zd BK185.out 1))
 refine bodyPost_ret (results_cell_row rfl _ _ gb185 30 #[.int .i64 t186, .int .u64 t187] (0, 0) _ rfl (by (with_reducible repeat (first | refine zf ?_ _ | refine zi ?_ | refine zg ?_ _)); refine blk_put (cs := #[.int .i64 t186, .int .u64 0]) ?_ 1 _ rfl; (with_reducible repeat (first | refine zf ?_ _ | refine zi ?_ | refine zg ?_ _)); refine blk_put (cs := #[.int .i64 0, .int .u64 0]) ?_ 0 _ rfl; (with_reducible repeat (first | refine zf ?_ _ | refine zi ?_ | refine zg ?_ _)); exact BK185.out) Try.underlying30 rfl (by kernel_rfl)) rfl ?_
 exact ⟨by first | rfl | (simp [errW_none, errW_some] <;> rfl) | (simp [*, errW_none, errW_some] <;> rfl), zv7 HB.out⟩

/-! ### spec_WideCmp: function 32 -/
def spec_WideCmp.f (a0_0 : Int) (a0_1 : Int) (a1_0 : Int) (a1_1 : Int) : Option (Int) := if a0_0 = a1_0 then (if a0_1 = a1_1 then (some 0) else (if a0_1 < a1_1 then (some (-1)) else (some 1))) else (if a0_0 < a1_0 then (some (-1)) else (some 1))
set_option maxHeartbeats 8000000 in
set_option maxRecDepth 100000 in
theorem spec_WideCmp.calls (a0_0 : Int) (a0_1 : Int) (a1_0 : Int) (a1_1 : Int) (r : Int) (w : World) (h : spec_WideCmp.f a0_0 a0_1 a1_0 a1_1 = some r) :
  Calls Try.prog 32 #[.agg #[.int .i64 a0_0, .int .u64 a0_1], .agg #[.int .i64 a1_0, .int .u64 a1_1]] w fun e w' => e = .returned (.int .i64 r) ∧ Below w.heap.size w w' := by
 have hu30 := Try.underlying30
 have HB := zp.mk (Below.refl w.heap.size w)
 have H : (if a0_0 = a1_0 then (if a0_1 = a1_1 then (some 0) else (if a0_1 < a1_1 then (some (-1)) else (some 1))) else (if a0_0 < a1_0 then (some (-1)) else (some 1))) = some r := h
 clear h
 by_cases c3 : a0_0 = a1_0
 ·rw [if_pos c3] at H
  have c3b0 : (a0_0 == a1_0) = true := beq_iff_eq.mpr c3
  have c3b1 : (a0_0 != a1_0) = false := bne_eq_false_iff_eq.mpr c3
  clear c3
  by_cases c4 : a0_1 = a1_1
  ·rw [if_pos c4] at H
   have c4b0 : (a0_1 == a1_1) = true := beq_iff_eq.mpr c4
   have c4b1 : (a0_1 != a1_1) = false := bne_eq_false_iff_eq.mpr c4
   clear c4
   obtain rfl := Option.some.inj H
   go_enter Try.func32, Try.ntmps32
   go_wp2_with (first | ((with_reducible refine zo (N := 2) rfl ?_); refine zm ?hg (N := 2) ?hd (cs := #[.int .i64 a0_0, .int .u64 a0_1]) (t := 30) ?hr ?_; (case hd => rfl); (case hg => rfl); (case hr => first | (go_simp; done) | (go_simp; rfl)); intro gb188 hg w5 hbox hb; have BK188 := zp.mk (hbox); have GW188 := zp.mk ((zv3 (zv6 HB.out) hg)); have GE188 := zp.mk ((zv3 (zv6 HB.out) hg)); replace HB := zp.mk (zj (zv6 HB.out) hb); clear hb hbox hg) | ((with_reducible refine zo (N := 3) rfl ?_); refine zm ?hg (N := 3) ?hd (cs := #[.int .i64 a1_0, .int .u64 a1_1]) (t := 30) ?hr ?_; (case hd => rfl); (case hg => rfl); (case hr => first | (go_simp; done) | (go_simp; rfl)); intro gb189 hg w6 hbox hb; have BK189 := zp.mk (hbox); have GW189 := zp.mk ((zv3 (zv7 HB.out) hg)); have GE189 := zp.mk ((zv3 (zv7 HB.out) hg)); have NB188_189 := zp.mk ((by rw [hg]; exact Nat.ne_of_lt (blk_lt (g := gb188) (o := .cells #[.int .i64 a0_0, .int .u64 a0_1] 30 (0, 0)) (zv8 BK188.out)) : gb188 ≠ gb189)); have NB189_188 := zp.mk ((by rw [hg]; exact Nat.ne_of_gt (blk_lt (g := gb188) (o := .cells #[.int .i64 a0_0, .int .u64 a0_1] 30 (0, 0)) (zv8 BK188.out)) : gb189 ≠ gb188)); replace BK188 := zp.mk (zl (zv8 BK188.out) hb); replace HB := zp.mk (zj (zv7 HB.out) hb); clear hb hbox hg; have hnb7 := NB188_189.out; have hnc7 := NB189_188.out; have y8_0 := zt0 BK188.out; have y8_1 := zt1 BK188.out; have u8_0 := zd BK188.out 0; have u8_1 := zd BK188.out 1; have y9_0 := zt0 BK189.out; have y9_1 := zt1 BK189.out; have u9_0 := zd BK189.out 0; have u9_1 := zd BK189.out 1))
   go_ret
   exact ⟨by first | rfl | (simp [errW_none, errW_some] <;> rfl) | (simp [*, errW_none, errW_some] <;> rfl), zv7 HB.out⟩
  ·rw [if_neg c4] at H
   have c4b0 : (a0_1 == a1_1) = false := beq_eq_false_iff_ne.mpr c4
   have c4b1 : (a0_1 != a1_1) = true := bne_iff_ne.mpr c4
   by_cases c10 : a0_1 < a1_1
   ·rw [if_pos c10] at H
    have c10b0 : decide (a0_1 < a1_1) = true := decide_eq_true c10
    clear c10
    obtain rfl := Option.some.inj H
    go_enter Try.func32, Try.ntmps32
    go_wp2_with (first | ((with_reducible refine zo (N := 2) rfl ?_); refine zm ?hg (N := 2) ?hd (cs := #[.int .i64 a0_0, .int .u64 a0_1]) (t := 30) ?hr ?_; (case hd => rfl); (case hg => rfl); (case hr => first | (go_simp; done) | (go_simp; rfl)); intro gb188 hg w11 hbox hb; have BK188 := zp.mk (hbox); have GW188 := zp.mk ((zv3 (zv6 HB.out) hg)); have GE188 := zp.mk ((zv3 (zv6 HB.out) hg)); replace HB := zp.mk (zj (zv6 HB.out) hb); clear hb hbox hg) | ((with_reducible refine zo (N := 3) rfl ?_); refine zm ?hg (N := 3) ?hd (cs := #[.int .i64 a1_0, .int .u64 a1_1]) (t := 30) ?hr ?_; (case hd => rfl); (case hg => rfl); (case hr => first | (go_simp; done) | (go_simp; rfl)); intro gb189 hg w12 hbox hb; have BK189 := zp.mk (hbox); have GW189 := zp.mk ((zv3 (zv7 HB.out) hg)); have GE189 := zp.mk ((zv3 (zv7 HB.out) hg)); have NB188_189 := zp.mk ((by rw [hg]; exact Nat.ne_of_lt (blk_lt (g := gb188) (o := .cells #[.int .i64 a0_0, .int .u64 a0_1] 30 (0, 0)) (zv8 BK188.out)) : gb188 ≠ gb189)); have NB189_188 := zp.mk ((by rw [hg]; exact Nat.ne_of_gt (blk_lt (g := gb188) (o := .cells #[.int .i64 a0_0, .int .u64 a0_1] 30 (0, 0)) (zv8 BK188.out)) : gb189 ≠ gb188)); replace BK188 := zp.mk (zl (zv8 BK188.out) hb); replace HB := zp.mk (zj (zv7 HB.out) hb); clear hb hbox hg; have hnb13 := NB188_189.out; have hnc13 := NB189_188.out; have y14_0 := zt0 BK188.out; have y14_1 := zt1 BK188.out; have u14_0 := zd BK188.out 0; have u14_1 := zd BK188.out 1; have y15_0 := zt0 BK189.out; have y15_1 := zt1 BK189.out; have u15_0 := zd BK189.out 0; have u15_1 := zd BK189.out 1))
    go_ret
    exact ⟨by first | rfl | (simp [errW_none, errW_some] <;> rfl) | (simp [*, errW_none, errW_some] <;> rfl), zv7 HB.out⟩
   ·rw [if_neg c10] at H
    have c10b0 : decide (a0_1 < a1_1) = false := decide_eq_false c10
    clear c10
    obtain rfl := Option.some.inj H
    go_enter Try.func32, Try.ntmps32
    go_wp2_with (first | ((with_reducible refine zo (N := 2) rfl ?_); refine zm ?hg (N := 2) ?hd (cs := #[.int .i64 a0_0, .int .u64 a0_1]) (t := 30) ?hr ?_; (case hd => rfl); (case hg => rfl); (case hr => first | (go_simp; done) | (go_simp; rfl)); intro gb188 hg w16 hbox hb; have BK188 := zp.mk (hbox); have GW188 := zp.mk ((zv3 (zv6 HB.out) hg)); have GE188 := zp.mk ((zv3 (zv6 HB.out) hg)); replace HB := zp.mk (zj (zv6 HB.out) hb); clear hb hbox hg) | ((with_reducible refine zo (N := 3) rfl ?_); refine zm ?hg (N := 3) ?hd (cs := #[.int .i64 a1_0, .int .u64 a1_1]) (t := 30) ?hr ?_; (case hd => rfl); (case hg => rfl); (case hr => first | (go_simp; done) | (go_simp; rfl)); intro gb189 hg w17 hbox hb; have BK189 := zp.mk (hbox); have GW189 := zp.mk ((zv3 (zv7 HB.out) hg)); have GE189 := zp.mk ((zv3 (zv7 HB.out) hg)); have NB188_189 := zp.mk ((by rw [hg]; exact Nat.ne_of_lt (blk_lt (g := gb188) (o := .cells #[.int .i64 a0_0, .int .u64 a0_1] 30 (0, 0)) (zv8 BK188.out)) : gb188 ≠ gb189)); have NB189_188 := zp.mk ((by rw [hg]; exact Nat.ne_of_gt (blk_lt (g := gb188) (o := .cells #[.int .i64 a0_0, .int .u64 a0_1] 30 (0, 0)) (zv8 BK188.out)) : gb189 ≠ gb188)); replace BK188 := zp.mk (zl (zv8 BK188.out) hb); replace HB := zp.mk (zj (zv7 HB.out) hb); clear hb hbox hg; have hnb18 := NB188_189.out; have hnc18 := NB189_188.out; have y19_0 := zt0 BK188.out; have y19_1 := zt1 BK188.out; have u19_0 := zd BK188.out 0; have u19_1 := zd BK188.out 1; have y20_0 := zt0 BK189.out; have y20_1 := zt1 BK189.out; have u20_0 := zd BK189.out 0; have u20_1 := zd BK189.out 1))
    go_ret
    exact ⟨by first | rfl | (simp [errW_none, errW_some] <;> rfl) | (simp [*, errW_none, errW_some] <;> rfl), zv7 HB.out⟩
 ·rw [if_neg c3] at H
  have c3b0 : (a0_0 == a1_0) = false := beq_eq_false_iff_ne.mpr c3
  have c3b1 : (a0_0 != a1_0) = true := bne_iff_ne.mpr c3
  by_cases c21 : a0_0 < a1_0
  ·rw [if_pos c21] at H
   have c21b0 : decide (a0_0 < a1_0) = true := decide_eq_true c21
   clear c21
   obtain rfl := Option.some.inj H
   go_enter Try.func32, Try.ntmps32
   go_wp2_with (first | ((with_reducible refine zo (N := 2) rfl ?_); refine zm ?hg (N := 2) ?hd (cs := #[.int .i64 a0_0, .int .u64 a0_1]) (t := 30) ?hr ?_; (case hd => rfl); (case hg => rfl); (case hr => first | (go_simp; done) | (go_simp; rfl)); intro gb188 hg w22 hbox hb; have BK188 := zp.mk (hbox); have GW188 := zp.mk ((zv3 (zv6 HB.out) hg)); have GE188 := zp.mk ((zv3 (zv6 HB.out) hg)); replace HB := zp.mk (zj (zv6 HB.out) hb); clear hb hbox hg) | ((with_reducible refine zo (N := 3) rfl ?_); refine zm ?hg (N := 3) ?hd (cs := #[.int .i64 a1_0, .int .u64 a1_1]) (t := 30) ?hr ?_; (case hd => rfl); (case hg => rfl); (case hr => first | (go_simp; done) | (go_simp; rfl)); intro gb189 hg w23 hbox hb; have BK189 := zp.mk (hbox); have GW189 := zp.mk ((zv3 (zv7 HB.out) hg)); have GE189 := zp.mk ((zv3 (zv7 HB.out) hg)); have NB188_189 := zp.mk ((by rw [hg]; exact Nat.ne_of_lt (blk_lt (g := gb188) (o := .cells #[.int .i64 a0_0, .int .u64 a0_1] 30 (0, 0)) (zv8 BK188.out)) : gb188 ≠ gb189)); have NB189_188 := zp.mk ((by rw [hg]; exact Nat.ne_of_gt (blk_lt (g := gb188) (o := .cells #[.int .i64 a0_0, .int .u64 a0_1] 30 (0, 0)) (zv8 BK188.out)) : gb189 ≠ gb188)); replace BK188 := zp.mk (zl (zv8 BK188.out) hb); replace HB := zp.mk (zj (zv7 HB.out) hb); clear hb hbox hg; have hnb24 := NB188_189.out; have hnc24 := NB189_188.out; have y25_0 := zt0 BK188.out; have y25_1 := zt1 BK188.out; have u25_0 := zd BK188.out 0; have u25_1 := zd BK188.out 1; have y26_0 := zt0 BK189.out; have y26_1 := zt1 BK189.out; have u26_0 := zd BK189.out 0; have u26_1 := zd BK189.out 1))
   go_ret
   exact ⟨by first | rfl | (simp [errW_none, errW_some] <;> rfl) | (simp [*, errW_none, errW_some] <;> rfl), zv7 HB.out⟩
  ·rw [if_neg c21] at H
   have c21b0 : decide (a0_0 < a1_0) = false := decide_eq_false c21
   clear c21
   obtain rfl := Option.some.inj H
   go_enter Try.func32, Try.ntmps32
   go_wp2_with (first | ((with_reducible refine zo (N := 2) rfl ?_); refine zm ?hg (N := 2) ?hd (cs := #[.int .i64 a0_0, .int .u64 a0_1]) (t := 30) ?hr ?_; (case hd => rfl); (case hg => rfl); (case hr => first | (go_simp; done) | (go_simp; rfl)); intro gb188 hg w27 hbox hb; have BK188 := zp.mk (hbox); have GW188 := zp.mk ((zv3 (zv6 HB.out) hg)); have GE188 := zp.mk ((zv3 (zv6 HB.out) hg)); replace HB := zp.mk (zj (zv6 HB.out) hb); clear hb hbox hg) | ((with_reducible refine zo (N := 3) rfl ?_); refine zm ?hg (N := 3) ?hd (cs := #[.int .i64 a1_0, .int .u64 a1_1]) (t := 30) ?hr ?_; (case hd => rfl); (case hg => rfl); (case hr => first | (go_simp; done) | (go_simp; rfl)); intro gb189 hg w28 hbox hb; have BK189 := zp.mk (hbox); have GW189 := zp.mk ((zv3 (zv7 HB.out) hg)); have GE189 := zp.mk ((zv3 (zv7 HB.out) hg)); have NB188_189 := zp.mk ((by rw [hg]; exact Nat.ne_of_lt (blk_lt (g := gb188) (o := .cells #[.int .i64 a0_0, .int .u64 a0_1] 30 (0, 0)) (zv8 BK188.out)) : gb188 ≠ gb189)); have NB189_188 := zp.mk ((by rw [hg]; exact Nat.ne_of_gt (blk_lt (g := gb188) (o := .cells #[.int .i64 a0_0, .int .u64 a0_1] 30 (0, 0)) (zv8 BK188.out)) : gb189 ≠ gb188)); replace BK188 := zp.mk (zl (zv8 BK188.out) hb); replace HB := zp.mk (zj (zv7 HB.out) hb); clear hb hbox hg; have hnb29 := NB188_189.out; have hnc29 := NB189_188.out; have y30_0 := zt0 BK188.out; have y30_1 := zt1 BK188.out; have u30_0 := zd BK188.out 0; have u30_1 := zd BK188.out 1; have y31_0 := zt0 BK189.out; have y31_1 := zt1 BK189.out; have u31_0 := zd BK189.out 0; have u31_1 := zd BK189.out 1))
   go_ret
   exact ⟨by first | rfl | (simp [errW_none, errW_some] <;> rfl) | (simp [*, errW_none, errW_some] <;> rfl), zv7 HB.out⟩

end Go.Proofs.Ytnnahpmnkpmopaa.QFnExactAggDone
