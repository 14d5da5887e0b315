/- Proved: calls of the program come to the answers of the plain Lean functions that stand beside them. Each contract names its conditions. (Written by a program of this session, over the printer of the kit.) -/
import Derived.Test.YtnnahpmnkpmopaaZAggOkQFnExactAggOkx0
import Derived.Test.YtnnahpmnkpmopaaZAggOkQFnExactAggOkx5
namespace Go.Proofs.Ytnnahpmnkpmopaa.QFnExactAggOk
open Go.RowKit Go.Proofs.YtnnahpmnkpmopaaW.PrintWords Go.Proofs.YtnnahpmnkpmopaaW.PrintLast Go.Proofs.YtnnahpmnkpmopaaW.PrintMore
attribute [local go_sem] max2_int min2_int max_two min_two max_three min_three max_four min_four   -- for this text's walks alone
set_option linter.unusedVariables false
set_option linter.unusedSimpArgs false

/-! ### impl_wideTimes: function 51 -/
def impl_wideTimes.j0 : Nat → Int → Int → Int → Option (Int × Int)
 | 0, _, _, _ => none
 | k + 1, x0, x1, x5 => (bits_Mul64.f x5 (IntKind.u64.wrap (x1))).bind fun bt232 => (if x0 < 0 then ((impl_WideNeg.f (wrap64 (bt232.1)) bt232.2).bind fun bt235 => (some (bt235.1, bt235.2))) else (some (wrap64 (bt232.1), bt232.2)))
def impl_wideTimes.f (k : Nat) (a0 : Int) (a1 : Int) : Option (Int × Int) := if a0 < 0 then (impl_wideTimes.j0 k a0 a1 (IntKind.u64.wrap (-(IntKind.u64.wrap (a0))))) else (impl_wideTimes.j0 k a0 a1 (IntKind.u64.wrap (a0)))
theorem impl_wideTimes.mono_l : ∀ k, (∀ y0 y1 y2, LeO (impl_wideTimes.j0 k y0 y1 y2) (impl_wideTimes.j0 (k + 1) y0 y1 y2))
 | 0 => fun _ _ _ r h => by simp [impl_wideTimes.j0] at h
 | k + 1 => by
  have ih0 := impl_wideTimes.mono_l k
  ·intro y0 y1 y2
   unfold impl_wideTimes.j0
   repeat' first
   | (with_reducible exact ih0 _ _ _)
   | (with_reducible exact LeO.refl _)
   | (with_reducible exact LeO.none _)
   | (with_reducible refine LeO.ite ?_ ?_)
   | (with_reducible refine LeO.bind ?_ (fun _ => ?_))
   | exact ih0 _ _ _
   | exact LeO.none _
   | refine LeO.ite ?_ ?_
   | refine LeO.bind ?_ (fun _ => ?_)
theorem impl_wideTimes.mono : ∀ a0 a1 k, LeO (impl_wideTimes.f k a0 a1) (impl_wideTimes.f (k + 1) a0 a1) := by
 intro a0 a1 k
 have ih0 := impl_wideTimes.mono_l k
 unfold impl_wideTimes.f
 repeat' first
   | (with_reducible exact ih0 _ _ _)
   | (with_reducible exact LeO.refl _)
   | (with_reducible exact LeO.none _)
   | (with_reducible refine LeO.ite ?_ ?_)
   | (with_reducible refine LeO.bind ?_ (fun _ => ?_))
   | exact ih0 _ _ _
   | exact LeO.none _
   | refine LeO.ite ?_ ?_
   | refine LeO.bind ?_ (fun _ => ?_)
set_option maxHeartbeats 8000000 in
set_option maxRecDepth 100000 in
theorem impl_wideTimes.calls (k : Nat) (a0 : Int) (a1 : Int) (r1 : Int) (r2 : Int) (w : World) (h : impl_wideTimes.f k a0 a1 = some (r1, r2)) :
  Calls Try.prog 51 #[.int .i64 a0, .int .i64 a1] w fun e w' => e = .returned (.agg #[.int .i64 r1, .int .u64 r2]) ∧ Below w.heap.size w w' := by
 have hu30 := Try.underlying30
 have HB := zp.mk (Below.refl w.heap.size w)
 have H : (if a0 < 0 then (impl_wideTimes.j0 k a0 a1 (IntKind.u64.wrap (-(IntKind.u64.wrap (a0))))) else (impl_wideTimes.j0 k a0 a1 (IntKind.u64.wrap (a0)))) = some (r1, r2) := h
 clear h
 have HC3 := zp.mk H
 clear H
 go_enter Try.func51, Try.ntmps51
 go_upto_if 12 with (first | ((with_reducible refine zo (N := 4) rfl ?_); refine zm ?hg (N := 4) ?hd (cs := #[.int .i64 0, .int .u64 0]) (t := 30) ?hr ?_; (case hd => rfl); (case hg => rfl); (case hr => first | (go_simp; done) | (go_simp; rfl)); intro gb231 hg w4 hbox hb; have n0_ := zp.mk (zj (by repeat (first | (with_reducible first | exact HB.out | apply zc | apply za | apply zb) | exact HB.out)) hb); have n1_ := zp.mk (hbox); have n2_ := zp.mk ((by rw [hg]; exact (zk (by repeat (first | (with_reducible first | exact HB.out | apply zc | apply za | apply zb) | exact HB.out))) : w.heap.size ≤ gb231)); have n3_ := zp.mk ((by rw [hg]; exact (zk (by repeat (first | (with_reducible first | exact HB.out | apply zc | apply za | apply zb) | exact HB.out))) : w.heap.size ≤ gb231)); clear HB; have HB := n0_; have BK231 := n1_; have GW231 := n2_; have GE231 := n3_; clear n0_ n1_ n2_ n3_; clear hb hbox hg))
 (try simp only [Act.put, List.setIfInBounds_toArray, List.set_cons_zero, List.set_cons_succ])
 go_cut [5] (fun v5 wc => ∃ (kq : Nat) (x5_2 : Int), v5 = .int .u64 x5_2 ∧ zp (impl_wideTimes.j0 kq a0 a1 x5_2 = some (r1, r2)) ∧ zp (kq ≤ k) ∧ zp (wc.heap[gb231]? = some (.cells #[.int .i64 0, .int .u64 0] 30 (0, 0))) ∧ zp (Below w.heap.size w wc))
 case first =>
  have H := HC3.out
  clear HC3
  by_cases c5 : a0 < 0
  ·rw [if_pos c5] at H
   have c5b0 : decide (a0 < 0) = true := decide_eq_true c5
   clear c5
   (first | rw [c5b0] | (simp only [i64_w, i32_w]; rw [c5b0]) | skip)
   have H' := zp.mk H
   clear H
   go_wp2
   go_meet
   case rel => exact ⟨_, (IntKind.u64.wrap (-(IntKind.u64.wrap (a0)))), (by first | rfl | (simp; done) | (simp [*]; done)), H', ⟨by first | omega | exact Nat.le_refl _⟩, ⟨by (with_reducible repeat (first | refine zf ?_ _ | refine zi ?_ | refine zg ?_ _)); exact BK231.out⟩, ⟨by repeat (first | (with_reducible first | exact HB.out | apply zc | apply za | apply zb | refine zh ?_ GE231.out) | exact HB.out)⟩⟩
  ·rw [if_neg c5] at H
   have c5b0 : decide (a0 < 0) = false := decide_eq_false c5
   clear c5
   (first | rw [c5b0] | (simp only [i64_w, i32_w]; rw [c5b0]) | skip)
   have H' := zp.mk H
   clear H
   go_wp2
   go_meet
   case rel => exact ⟨_, (IntKind.u64.wrap (a0)), (by first | rfl | (simp; done) | (simp [*]; done)), H', ⟨by first | omega | exact Nat.le_refl _⟩, ⟨by (with_reducible repeat (first | refine zf ?_ _ | refine zi ?_ | refine zg ?_ _)); exact BK231.out⟩, ⟨by repeat (first | (with_reducible first | exact HB.out | apply zc | apply za | apply zb | refine zh ?_ GE231.out) | exact HB.out)⟩⟩
 case rest =>
  clear HC3
  try clear p2
  try clear c5
  try clear c5b0
  obtain ⟨kq, x5_2, rfl, HA, HJ2, BK231, HB⟩ := hcut
  cases kq with
  | zero => exact absurd HA.out (by simp [impl_wideTimes.j0])
  | succ kj2 =>
   have H := HA.out
   clear HA
   simp only [impl_wideTimes.j0] at H
   replace H := Option.bind_eq_some_iff.mp H
   obtain ⟨⟨t232, t233⟩, A60, H⟩ := H
   replace H : (if a0 < 0 then ((impl_WideNeg.f (wrap64 (t232)) t233).bind fun bt235 => (some (bt235.1, bt235.2))) else (some (wrap64 (t232), t233))) = some (r1, r2) := H
   have A6 := zp.mk A60
   clear A60
   by_cases c7 : a0 < 0
   ·rw [if_pos c7] at H
    have c7b0 : decide (a0 < 0) = true := decide_eq_true c7
    clear c7
    replace H := Option.bind_eq_some_iff.mp H
    obtain ⟨⟨t235, t236⟩, A80, H⟩ := H
    replace H : (some (t235, t236)) = some (r1, r2) := H
    have A8 := zp.mk A80
    clear A80
    simp only [Option.some.injEq, Prod.mk.injEq] at H
    obtain ⟨rfl, rfl⟩ := H
    go_wp2_with (first | ((with_reducible refine zn (f := 69) rfl ?_); refine goesL_ (some 19) rfl rfl Try.func69 (by kernel_rfl) rfl #[.int .u64 x5_2, .int .u64 (IntKind.u64.wrap (a1))] rfl (by (try simp only [List.map_toArray, List.map_cons, List.map_nil]); first | done | rfl | (simp only [List.length_drop, List.length_take]; rfl)) ?_; (with_reducible refine (bits_Mul64.calls x5_2 (IntKind.u64.wrap (a1)) t232 t233 _ A6.out).mono ?_); rintro e w' ⟨rfl, ⟨nd, rfl⟩⟩; refine ⟨_, rfl, ?_⟩; (try (rw [drewN_self wc]; generalize hq_ : World.drewN wc _ = wc; have n0_ : zp (wc.heap[gb231]? = some (.cells #[.int .i64 0, .int .u64 0] 30 (0, 0))) := ⟨by rw [← hq_]; exact (by (with_reducible repeat (first | refine zf ?_ _ | refine zi ?_ | refine zg ?_ _)); exact BK231.out)⟩; have n1_ : zp (Below w.heap.size w wc) := ⟨by rw [← hq_]; exact (by repeat (first | (with_reducible first | exact HB.out | apply zc | apply za | apply zb | refine zh ?_ GE231.out) | exact HB.out))⟩; clear BK231 HB hq_; have BK231 := n0_; have HB := n1_; clear n0_ n1_))) | ((with_reducible refine zo (N := 8) rfl ?_); refine zm ?hg (N := 8) ?hd (cs := #[.int .i64 0, .int .u64 0]) (t := 30) ?hr ?_; (case hd => rfl); (case hg => rfl); (case hr => first | (go_simp; done) | (go_simp; rfl)); intro gb234 hg w9 hbox hb; have n0_ := zp.mk (zl (g := gb231) (o := .cells #[.int .i64 0, .int .u64 0] 30 (0, 0)) (by (with_reducible repeat (first | refine zf ?_ _ | refine zi ?_ | refine zg ?_ _)); exact BK231.out) hb); have n1_ := zp.mk (zj (by repeat (first | (with_reducible first | exact HB.out | apply zc | apply za | apply zb | refine zh ?_ GE231.out) | exact HB.out)) hb); have n2_ := zp.mk (hbox); have n3_ := zp.mk ((by rw [hg]; exact (zk (by repeat (first | (with_reducible first | exact HB.out | apply zc | apply za | apply zb | refine zh ?_ GE231.out) | exact HB.out))) : w.heap.size ≤ gb234)); have n4_ := zp.mk ((by rw [hg]; exact (zk (by repeat (first | (with_reducible first | exact HB.out | apply zc | apply za | apply zb | refine zh ?_ GE231.out) | exact HB.out))) : w.heap.size ≤ gb234)); have n5_ := zp.mk ((by rw [hg]; exact Nat.ne_of_lt (blk_lt (g := gb231) (o := .cells #[.int .i64 0, .int .u64 0] 30 (0, 0)) (by (with_reducible repeat (first | refine zf ?_ _ | refine zi ?_ | refine zg ?_ _)); exact BK231.out)) : gb231 ≠ gb234)); have n6_ := zp.mk ((by rw [hg]; exact Nat.ne_of_gt (blk_lt (g := gb231) (o := .cells #[.int .i64 0, .int .u64 0] 30 (0, 0)) (by (with_reducible repeat (first | refine zf ?_ _ | refine zi ?_ | refine zg ?_ _)); exact BK231.out)) : gb234 ≠ gb231)); clear BK231; clear HB; have BK231 := n0_; have HB := n1_; have BK234 := n2_; have GW234 := n3_; have GE234 := n4_; have NB231_234 := n5_; have NB234_231 := n6_; clear n0_ n1_ n2_ n3_ n4_ n5_ n6_; clear hb hbox hg; have hnb10 := NB234_231.out; have hnc10 := NB231_234.out; have hcz11_0 : w9.cell? ⟨gb234, 0, none⟩ = some (.int .i64 0) := (ze BK234.out 0).trans rfl; have hcz11_1 : w9.cell? ⟨gb234, 1, none⟩ = some (.int .u64 0) := (ze BK234.out 1).trans rfl; have hfz11_0 := zd BK234.out 0; have hfz11_1 := zd BK234.out 1) | ((with_reducible refine zn (f := 48) rfl ?_); refine goesL_ (some 29) rfl rfl Try.func48 (by kernel_rfl) rfl #[.agg #[.int .i64 (wrap64 (t232)), .int .u64 t233]] rfl (by (try simp only [List.map_toArray, List.map_cons, List.map_nil]); first | done | rfl | (simp only [List.length_drop, List.length_take]; rfl)) ?_; (with_reducible refine (impl_WideNeg.calls (wrap64 (t232)) t233 t235 t236 _ A8.out).mono ?_); rintro e w12 ⟨rfl, hb⟩; refine ⟨_, rfl, ?_⟩; have n0_ := zp.mk (zl (g := gb231) (o := .cells #[.int .i64 0, .int .u64 0] 30 (0, 0)) (by (with_reducible repeat (first | refine zf ?_ _ | refine zi ?_ | refine zg ?_ _)); refine blk_far ?_ NB231_234.out _; (with_reducible repeat (first | refine zf ?_ _ | refine zi ?_ | refine zg ?_ _)); refine blk_far ?_ NB231_234.out _; (with_reducible repeat (first | refine zf ?_ _ | refine zi ?_ | refine zg ?_ _)); exact BK231.out) hb); have n1_ := zp.mk (zl (g := gb234) (o := .cells #[.int .i64 (wrap64 (t232)), .int .u64 t233] 30 (0, 0)) (by (with_reducible repeat (first | refine zf ?_ _ | refine zi ?_ | refine zg ?_ _)); refine blk_put (cs := #[.int .i64 (wrap64 (t232)), .int .u64 0]) ?_ 1 _ rfl; (with_reducible repeat (first | refine zf ?_ _ | refine zi ?_ | refine zg ?_ _)); refine blk_put (cs := #[.int .i64 0, .int .u64 0]) ?_ 0 _ rfl; (with_reducible repeat (first | refine zf ?_ _ | refine zi ?_ | refine zg ?_ _)); exact BK234.out) hb); have n2_ := zp.mk (zj (by repeat (first | (with_reducible first | exact HB.out | apply zc | apply za | apply zb | refine zh ?_ GE231.out | refine zh ?_ GE234.out) | exact HB.out)) hb); clear BK231; clear BK234; clear HB; have BK231 := n0_; have BK234 := n1_; have HB := n2_; clear n0_ n1_ n2_; (try clear hb); (try clear hb2); (try clear hk); (try clear hi); have hcz13_0 : w12.cell? ⟨gb231, 0, none⟩ = some (.int .i64 0) := (ze BK231.out 0).trans rfl; have hcz13_1 : w12.cell? ⟨gb231, 1, none⟩ = some (.int .u64 0) := (ze BK231.out 1).trans rfl; have hfz13_0 := zd BK231.out 0; have hfz13_1 := zd BK231.out 1))
    refine bodyPost_ret (results_cell_row rfl _ _ gb231 30 #[.int .i64 t235, .int .u64 t236] (0, 0) _ rfl (by (with_reducible repeat (first | refine zf ?_ _ | refine zi ?_ | refine zg ?_ _)); refine blk_put (cs := #[.int .i64 t235, .int .u64 0]) ?_ 1 _ rfl; (with_reducible repeat (first | refine zf ?_ _ | refine zi ?_ | refine zg ?_ _)); refine blk_put (cs := #[.int .i64 0, .int .u64 0]) ?_ 0 _ rfl; (with_reducible repeat (first | refine zf ?_ _ | refine zi ?_ | refine zg ?_ _)); exact BK231.out) Try.underlying30 rfl (by kernel_rfl)) rfl ?_
    exact ⟨by first | rfl | (simp [errW_none, errW_some] <;> rfl) | (simp [*, errW_none, errW_some] <;> rfl), by repeat (first | (with_reducible first | exact HB.out | apply zc | apply za | apply zb | refine zh ?_ GE231.out | refine zh ?_ GE234.out) | exact HB.out)⟩
   ·rw [if_neg c7] at H
    have c7b0 : decide (a0 < 0) = false := decide_eq_false c7
    clear c7
    simp only [Option.some.injEq, Prod.mk.injEq] at H
    obtain ⟨rfl, rfl⟩ := H
    go_wp2_with (first | ((with_reducible refine zn (f := 69) rfl ?_); refine goesL_ (some 19) rfl rfl Try.func69 (by kernel_rfl) rfl #[.int .u64 x5_2, .int .u64 (IntKind.u64.wrap (a1))] rfl (by (try simp only [List.map_toArray, List.map_cons, List.map_nil]); first | done | rfl | (simp only [List.length_drop, List.length_take]; rfl)) ?_; (with_reducible refine (bits_Mul64.calls x5_2 (IntKind.u64.wrap (a1)) t232 t233 _ A6.out).mono ?_); rintro e w' ⟨rfl, ⟨nd, rfl⟩⟩; refine ⟨_, rfl, ?_⟩; (try (rw [drewN_self wc]; generalize hq_ : World.drewN wc _ = wc; have n0_ : zp (wc.heap[gb231]? = some (.cells #[.int .i64 0, .int .u64 0] 30 (0, 0))) := ⟨by rw [← hq_]; exact (by (with_reducible repeat (first | refine zf ?_ _ | refine zi ?_ | refine zg ?_ _)); exact BK231.out)⟩; have n1_ : zp (Below w.heap.size w wc) := ⟨by rw [← hq_]; exact (by repeat (first | (with_reducible first | exact HB.out | apply zc | apply za | apply zb | refine zh ?_ GE231.out) | exact HB.out))⟩; clear BK231 HB hq_; have BK231 := n0_; have HB := n1_; clear n0_ n1_))) | ((with_reducible refine zo (N := 8) rfl ?_); refine zm ?hg (N := 8) ?hd (cs := #[.int .i64 0, .int .u64 0]) (t := 30) ?hr ?_; (case hd => rfl); (case hg => rfl); (case hr => first | (go_simp; done) | (go_simp; rfl)); intro gb234 hg w14 hbox hb; have n0_ := zp.mk (zl (g := gb231) (o := .cells #[.int .i64 0, .int .u64 0] 30 (0, 0)) (by (with_reducible repeat (first | refine zf ?_ _ | refine zi ?_ | refine zg ?_ _)); exact BK231.out) hb); have n1_ := zp.mk (zj (by repeat (first | (with_reducible first | exact HB.out | apply zc | apply za | apply zb | refine zh ?_ GE231.out) | exact HB.out)) hb); have n2_ := zp.mk (hbox); have n3_ := zp.mk ((by rw [hg]; exact (zk (by repeat (first | (with_reducible first | exact HB.out | apply zc | apply za | apply zb | refine zh ?_ GE231.out) | exact HB.out))) : w.heap.size ≤ gb234)); have n4_ := zp.mk ((by rw [hg]; exact (zk (by repeat (first | (with_reducible first | exact HB.out | apply zc | apply za | apply zb | refine zh ?_ GE231.out) | exact HB.out))) : w.heap.size ≤ gb234)); have n5_ := zp.mk ((by rw [hg]; exact Nat.ne_of_lt (blk_lt (g := gb231) (o := .cells #[.int .i64 0, .int .u64 0] 30 (0, 0)) (by (with_reducible repeat (first | refine zf ?_ _ | refine zi ?_ | refine zg ?_ _)); exact BK231.out)) : gb231 ≠ gb234)); have n6_ := zp.mk ((by rw [hg]; exact Nat.ne_of_gt (blk_lt (g := gb231) (o := .cells #[.int .i64 0, .int .u64 0] 30 (0, 0)) (by (with_reducible repeat (first | refine zf ?_ _ | refine zi ?_ | refine zg ?_ _)); exact BK231.out)) : gb234 ≠ gb231)); clear BK231; clear HB; have BK231 := n0_; have HB := n1_; have BK234 := n2_; have GW234 := n3_; have GE234 := n4_; have NB231_234 := n5_; have NB234_231 := n6_; clear n0_ n1_ n2_ n3_ n4_ n5_ n6_; clear hb hbox hg; have hnb15 := NB234_231.out; have hnc15 := NB231_234.out; have hcz16_0 : w14.cell? ⟨gb234, 0, none⟩ = some (.int .i64 0) := (ze BK234.out 0).trans rfl; have hcz16_1 : w14.cell? ⟨gb234, 1, none⟩ = some (.int .u64 0) := (ze BK234.out 1).trans rfl; have hfz16_0 := zd BK234.out 0; have hfz16_1 := zd BK234.out 1; have hcz17_0 : w14.cell? ⟨gb231, 0, none⟩ = some (.int .i64 0) := (ze BK231.out 0).trans rfl; have hcz17_1 : w14.cell? ⟨gb231, 1, none⟩ = some (.int .u64 0) := (ze BK231.out 1).trans rfl; have hfz17_0 := zd BK231.out 0; have hfz17_1 := zd BK231.out 1))
    refine bodyPost_ret (results_cell_row rfl _ _ gb231 30 #[.int .i64 (wrap64 (t232)), .int .u64 t233] (0, 0) _ rfl (by (with_reducible repeat (first | refine zf ?_ _ | refine zi ?_ | refine zg ?_ _)); refine blk_put (cs := #[.int .i64 (wrap64 (t232)), .int .u64 0]) ?_ 1 _ rfl; (with_reducible repeat (first | refine zf ?_ _ | refine zi ?_ | refine zg ?_ _)); refine blk_put (cs := #[.int .i64 0, .int .u64 0]) ?_ 0 _ rfl; (with_reducible repeat (first | refine zf ?_ _ | refine zi ?_ | refine zg ?_ _)); refine blk_far ?_ NB231_234.out _; (with_reducible repeat (first | refine zf ?_ _ | refine zi ?_ | refine zg ?_ _)); refine blk_far ?_ NB231_234.out _; (with_reducible repeat (first | refine zf ?_ _ | refine zi ?_ | refine zg ?_ _)); exact BK231.out) Try.underlying30 rfl (by kernel_rfl)) rfl ?_
    exact ⟨by first | rfl | (simp [errW_none, errW_some] <;> rfl) | (simp [*, errW_none, errW_some] <;> rfl), by repeat (first | (with_reducible first | exact HB.out | apply zc | apply za | apply zb | refine zh ?_ GE231.out | refine zh ?_ GE234.out) | exact HB.out)⟩

end Go.Proofs.Ytnnahpmnkpmopaa.QFnExactAggOk
