/- Proved: calls of the program come to the answers of the plain Lean functions that stand beside them. Each contract names its conditions. (Written by a program of this session, over the printer of the kit.) -/
import Derived.Test.YtnnahpmnkpmopaaZAggOkQFnExactAggOkx0
import Derived.Test.YtnnahpmnkpmopaaZAggOkQFnExactAggOkx1
import Derived.Test.YtnnahpmnkpmopaaZAggOkQFnExactAggOkx5
import Derived.Test.YtnnahpmnkpmopaaZAggOkQFnExactAggOkx6
namespace Go.Proofs.Ytnnahpmnkpmopaa.QFnExactAggOk
open Go.RowKit Go.Proofs.YtnnahpmnkpmopaaW.PrintWords Go.Proofs.YtnnahpmnkpmopaaW.PrintLast Go.Proofs.YtnnahpmnkpmopaaW.PrintMore
attribute [local go_sem] max2_int min2_int max_two min_two max_three min_three max_four min_four   -- for this text's walks alone
set_option linter.unusedVariables false
set_option linter.unusedSimpArgs false

attribute [local go_sem high] eqA30
/-! ### impl_isAgg: function 34 -/
mutual
def impl_isAgg.j0 : Nat → Bool → Int → Int → Int → Int → Int → List Int → Option (Bool)
 | 0, _, _, _, _, _, _, _ => none
 | k + 1, x52, x238000, x238001, x238002, x238003, x238004, x238005 => if x52 = true then (some false) else (impl_isAgg.l0 k x238005 (x238005.length : Int) 0 x238000 x238001 x238002 x238003 x238004 x238005 x238001 x238002)
def impl_isAgg.l0 : Nat → List Int → Int → Int → Int → Int → Int → Int → Int → List Int → Int → Int → Option (Bool)
 | 0, _, _, _, _, _, _, _, _, _, _, _ => none
 | k + 1, x56, x57, x58, x238000, x238001, x238002, x238003, x238004, x238005, x241000, x241001 => if x58 < x57 then (if 0 ≤ x58 then (if x58 < (x56.length : Int) then (if x58 > 0 then (if 0 ≤ (wrap64 (x58 - 1)) then (if (wrap64 (x58 - 1)) < (x238005.length : Int) then (impl_isAgg.j2 k (rd x56 x58) x56 x57 x58 (decide ((rd x56 x58) > (rd x238005 (wrap64 (x58 - 1))))) x238000 x238001 x238002 x238003 x238004 x238005 x241000 x241001) else (none)) else (none)) else (impl_isAgg.j2 k (rd x56 x58) x56 x57 x58 false x238000 x238001 x238002 x238003 x238004 x238005 x241000 x241001)) else (none)) else (none)) else (if 0 ≤ (wrap64 ((x238005.length : Int) - 1)) then (if (wrap64 ((x238005.length : Int) - 1)) < (x238005.length : Int) then (if x238000 ≤ 4 then (if x238003 = (rd x238005 (wrap64 ((x238005.length : Int) - 1))) then (some (x241000 == 0 && (x241001 == 0))) else (some false)) else ((impl_WideOf.f x238003).bind fun bt250 => ((impl_WideNeg.f bt250.1 bt250.2).bind fun bt252 => ((impl_WideAdd.f x241000 x241001 bt252.1 bt252.2).bind fun bt254 => (if x238003 ≤ (rd x238005 (wrap64 ((x238005.length : Int) - 1))) then ((impl_wideTimes.f k x238003 (wrap64 ((wrap64 (x238000 - 4)) - 1))).bind fun bt256 => ((impl_WideCmp.f k bt256.1 bt256.2 bt254.1 bt254.2).bind fun t258 => (if t258 ≤ 0 then ((impl_wideTimes.f k (rd x238005 (wrap64 ((x238005.length : Int) - 1))) (wrap64 ((wrap64 (x238000 - 4)) - 1))).bind fun bt259 => ((impl_WideCmp.f k bt254.1 bt254.2 bt259.1 bt259.2).bind fun t261 => (some (decide (t261 ≤ 0))))) else (some false)))) else (some false)))))) else (none)) else (none))
def impl_isAgg.j2 : Nat → Int → List Int → Int → Int → Bool → Int → Int → Int → Int → Int → List Int → Int → Int → Option (Bool)
 | 0, _, _, _, _, _, _, _, _, _, _, _, _, _ => none
 | k + 1, x5, x56, x57, x58, x74, x238000, x238001, x238002, x238003, x238004, x238005, x241000, x241001 => if x74 = true then (some false) else ((impl_WideOf.f x5).bind fun bt243 => ((impl_WideNeg.f bt243.1 bt243.2).bind fun bt245 => ((impl_WideAdd.f x241000 x241001 bt245.1 bt245.2).bind fun bt247 => (impl_isAgg.l0 k x56 x57 (wrap64 (x58 + 1)) x238000 x238001 x238002 x238003 x238004 x238005 bt247.1 bt247.2))))
end
def impl_isAgg.f (k : Nat) (a0_0 : Int) (a0_1 : Int) (a0_2 : Int) (a0_3 : Int) (a0_4 : Int) (l0_5 : List Int) : Option (Bool) := if a0_0 = 0 then (if (a0_1 == 0 && (a0_2 == 0)) = true then (if a0_3 = 0 then (if a0_4 = 0 then (some ((l0_5.length : Int) == 0)) else (some false)) else (some false)) else (some false)) else ((impl_in.f a0_0 1 1000000).bind fun t238 => (if t238 = true then (if (l0_5.length : Int) = (mn a0_0 4) then (if 0 < (l0_5.length : Int) then (impl_isAgg.j0 k ((rd l0_5 0) != a0_4) a0_0 a0_1 a0_2 a0_3 a0_4 l0_5) else (none)) else (impl_isAgg.j0 k true a0_0 a0_1 a0_2 a0_3 a0_4 l0_5)) else (impl_isAgg.j0 k true a0_0 a0_1 a0_2 a0_3 a0_4 l0_5)))
theorem impl_isAgg.mono_l : ∀ k, (∀ y0 y1 y2 y3 y4 y5 y6, LeO (impl_isAgg.j0 k y0 y1 y2 y3 y4 y5 y6) (impl_isAgg.j0 (k + 1) y0 y1 y2 y3 y4 y5 y6)) ∧ (∀ y0 y1 y2 y3 y4 y5 y6 y7 y8 y9 y10, LeO (impl_isAgg.l0 k y0 y1 y2 y3 y4 y5 y6 y7 y8 y9 y10) (impl_isAgg.l0 (k + 1) y0 y1 y2 y3 y4 y5 y6 y7 y8 y9 y10)) ∧ (∀ y0 y1 y2 y3 y4 y5 y6 y7 y8 y9 y10 y11 y12, LeO (impl_isAgg.j2 k y0 y1 y2 y3 y4 y5 y6 y7 y8 y9 y10 y11 y12) (impl_isAgg.j2 (k + 1) y0 y1 y2 y3 y4 y5 y6 y7 y8 y9 y10 y11 y12))
 | 0 => ⟨fun _ _ _ _ _ _ _ r h => by simp [impl_isAgg.j0] at h, fun _ _ _ _ _ _ _ _ _ _ _ r h => by simp [impl_isAgg.l0] at h, fun _ _ _ _ _ _ _ _ _ _ _ _ _ r h => by simp [impl_isAgg.j2] at h⟩
 | k + 1 => by
  obtain ⟨ih0, ih1, ih2⟩ := impl_isAgg.mono_l k
  refine ⟨?_, ?_, ?_⟩
  ·intro y0 y1 y2 y3 y4 y5 y6
   unfold impl_isAgg.j0
   repeat' first
   | (with_reducible exact ih0 _ _ _ _ _ _ _)
   | (with_reducible exact ih1 _ _ _ _ _ _ _ _ _ _ _)
   | (with_reducible exact ih2 _ _ _ _ _ _ _ _ _ _ _ _ _)
   | (with_reducible exact impl_WideCmp.mono _ _ _ _ _)
   | (with_reducible exact impl_wideTimes.mono _ _ _)
   | (with_reducible exact LeO.refl _)
   | (with_reducible exact LeO.none _)
   | (with_reducible refine LeO.ite ?_ ?_)
   | (with_reducible refine LeO.bind ?_ (fun _ => ?_))
   | exact ih0 _ _ _ _ _ _ _
   | exact ih1 _ _ _ _ _ _ _ _ _ _ _
   | exact ih2 _ _ _ _ _ _ _ _ _ _ _ _ _
   | exact impl_WideCmp.mono _ _ _ _ _
   | exact impl_wideTimes.mono _ _ _
   | exact LeO.none _
   | refine LeO.ite ?_ ?_
   | refine LeO.bind ?_ (fun _ => ?_)
  ·intro y0 y1 y2 y3 y4 y5 y6 y7 y8 y9 y10
   unfold impl_isAgg.l0
   repeat' first
   | (with_reducible exact ih0 _ _ _ _ _ _ _)
   | (with_reducible exact ih1 _ _ _ _ _ _ _ _ _ _ _)
   | (with_reducible exact ih2 _ _ _ _ _ _ _ _ _ _ _ _ _)
   | (with_reducible exact impl_WideCmp.mono _ _ _ _ _)
   | (with_reducible exact impl_wideTimes.mono _ _ _)
   | (with_reducible exact LeO.refl _)
   | (with_reducible exact LeO.none _)
   | (with_reducible refine LeO.ite ?_ ?_)
   | (with_reducible refine LeO.bind ?_ (fun _ => ?_))
   | exact ih0 _ _ _ _ _ _ _
   | exact ih1 _ _ _ _ _ _ _ _ _ _ _
   | exact ih2 _ _ _ _ _ _ _ _ _ _ _ _ _
   | exact impl_WideCmp.mono _ _ _ _ _
   | exact impl_wideTimes.mono _ _ _
   | exact LeO.none _
   | refine LeO.ite ?_ ?_
   | refine LeO.bind ?_ (fun _ => ?_)
  ·intro y0 y1 y2 y3 y4 y5 y6 y7 y8 y9 y10 y11 y12
   unfold impl_isAgg.j2
   repeat' first
   | (with_reducible exact ih0 _ _ _ _ _ _ _)
   | (with_reducible exact ih1 _ _ _ _ _ _ _ _ _ _ _)
   | (with_reducible exact ih2 _ _ _ _ _ _ _ _ _ _ _ _ _)
   | (with_reducible exact impl_WideCmp.mono _ _ _ _ _)
   | (with_reducible exact impl_wideTimes.mono _ _ _)
   | (with_reducible exact LeO.refl _)
   | (with_reducible exact LeO.none _)
   | (with_reducible refine LeO.ite ?_ ?_)
   | (with_reducible refine LeO.bind ?_ (fun _ => ?_))
   | exact ih0 _ _ _ _ _ _ _
   | exact ih1 _ _ _ _ _ _ _ _ _ _ _
   | exact ih2 _ _ _ _ _ _ _ _ _ _ _ _ _
   | exact impl_WideCmp.mono _ _ _ _ _
   | exact impl_wideTimes.mono _ _ _
   | exact LeO.none _
   | refine LeO.ite ?_ ?_
   | refine LeO.bind ?_ (fun _ => ?_)
theorem impl_isAgg.mono : ∀ a0 a1 a2 a3 a4 a5 k, LeO (impl_isAgg.f k a0 a1 a2 a3 a4 a5) (impl_isAgg.f (k + 1) a0 a1 a2 a3 a4 a5) := by
 intro a0 a1 a2 a3 a4 a5 k
 obtain ⟨ih0, ih1, ih2⟩ := impl_isAgg.mono_l k
 unfold impl_isAgg.f
 repeat' first
   | (with_reducible exact ih0 _ _ _ _ _ _ _)
   | (with_reducible exact ih1 _ _ _ _ _ _ _ _ _ _ _)
   | (with_reducible exact ih2 _ _ _ _ _ _ _ _ _ _ _ _ _)
   | (with_reducible exact impl_WideCmp.mono _ _ _ _ _)
   | (with_reducible exact impl_wideTimes.mono _ _ _)
   | (with_reducible exact LeO.refl _)
   | (with_reducible exact LeO.none _)
   | (with_reducible refine LeO.ite ?_ ?_)
   | (with_reducible refine LeO.bind ?_ (fun _ => ?_))
   | exact ih0 _ _ _ _ _ _ _
   | exact ih1 _ _ _ _ _ _ _ _ _ _ _
   | exact ih2 _ _ _ _ _ _ _ _ _ _ _ _ _
   | exact impl_WideCmp.mono _ _ _ _ _
   | exact impl_wideTimes.mono _ _ _
   | exact LeO.none _
   | refine LeO.ite ?_ ?_
   | refine LeO.bind ?_ (fun _ => ?_)
def impl_isAgg.T3 : Bool × List (List Nat × List Nat) := (true, [([], []), ([0], [0]), ([1], [1]), ([2], [2]), ([3, 2], [3]), ([4], [4]), ([5, 4], [4, 5]), ([6, 4], [4, 6]), ([4], [4]), ([8, 4], [4, 8]), ([9, 4], [4, 9]), ([7, 10, 4], [4, 7, 10]), ([4, 11], [4, 11]), ([12, 4], [12]), ([13], [13]), ([14, 13], [13, 14]), ([15, 13], [13, 15]), ([16, 13], [13, 16]), ([13], [13]), ([18, 13], [13, 18]), ([17, 19, 13], [13, 17, 19]), ([13, 20], [13, 20])])
def impl_isAgg.B3 : List Nat := [0, 1, 3, 7, 15, 31, 63, 127, 31, 287, 799, 2047, 4095, 8191, 16383, 32767, 65535, 131071, 16383, 278527, 1048575, 2097151]
theorem impl_isAgg.tab3 : rtab .any (opsOf Try.f34 3) = impl_isAgg.T3 := by kernel_rfl
theorem impl_isAgg.bits3 : waitsOk impl_isAgg.T3.2 impl_isAgg.B3 = true := by kernel_rfl
def impl_isAgg.T18 : Bool × List (List Nat × List Nat) := (true, [([], []), ([0], [0]), ([], []), ([1, 2], [1, 2]), ([3], [3]), ([4], [4]), ([5, 4], [4, 5]), ([4], [4]), ([6, 7, 4, 4], [4, 6, 7]), ([4], [4]), ([8, 9, 8, 4], [4, 8, 9]), ([10, 4], [4, 10]), ([4, 11], [4, 11]), ([12, 10], [12]), ([13], [13]), ([13], [13]), ([13], [13]), ([15, 16, 13, 13], [13, 15, 16]), ([14, 17, 17, 13], [13, 14, 17]), ([18, 13], [13, 18]), ([13, 19], [13, 19]), ([20, 18, 0, 1, 2, 3, 4, 5, 6, 7, 8, 9, 10, 11, 12, 13, 14, 15, 16, 17, 18, 19, 20], [20])])
def impl_isAgg.B18 : List Nat := [0, 1, 0, 7, 15, 31, 63, 31, 255, 31, 1023, 2047, 4095, 8191, 16383, 16383, 16383, 114687, 262143, 524287, 1048575, 2097151]
theorem impl_isAgg.tab18 : rtab .any (opsOf Try.f34 18) = impl_isAgg.T18 := by kernel_rfl
theorem impl_isAgg.bits18 : waitsOk impl_isAgg.T18.2 impl_isAgg.B18 = true := by kernel_rfl
set_option maxHeartbeats 8000000 in
set_option maxRecDepth 100000 in
theorem impl_isAgg.calls (k : Nat) (a0_0 : Int) (a0_1 : Int) (a0_2 : Int) (a0_3 : Int) (a0_4 : Int) (A0_5 : Option Addr) (c0_5 : Nat) (l0_5 : List Int) (r : Bool) (w : World) (hr0_5 : Kd.C (Kd.int .i64) w A0_5 l0_5.length l0_5) (hc0_5 : l0_5.length ≤ c0_5) (h : impl_isAgg.f k a0_0 a0_1 a0_2 a0_3 a0_4 l0_5 = some r) :
  Calls Try.prog 34 #[.agg #[.int .i64 a0_0, .int .i64 a0_1, .int .u64 a0_2, .int .i64 a0_3, .int .i64 a0_4, .slice A0_5 l0_5.length c0_5]] w fun e w' => e = .returned (.bool r) ∧ Below w.heap.size w w' := by
 have hu32 := Try.underlying32
 have hu30 := Try.underlying30
 have HR0_5 := zp.mk hr0_5
 have HC0_5 := zp.mk hc0_5
 clear hr0_5 hc0_5
 have HB := zp.mk (Below.refl w.heap.size w)
 have H : (if a0_0 = 0 then (if (a0_1 == 0 && (a0_2 == 0)) = true then (if a0_3 = 0 then (if a0_4 = 0 then (some ((l0_5.length : Int) == 0)) else (some false)) else (some false)) else (some false)) else ((impl_in.f a0_0 1 1000000).bind fun t238 => (if t238 = true then (if (l0_5.length : Int) = (mn a0_0 4) then (if 0 < (l0_5.length : Int) then (impl_isAgg.j0 k ((rd l0_5 0) != a0_4) a0_0 a0_1 a0_2 a0_3 a0_4 l0_5) else (none)) else (impl_isAgg.j0 k true a0_0 a0_1 a0_2 a0_3 a0_4 l0_5)) else (impl_isAgg.j0 k true a0_0 a0_1 a0_2 a0_3 a0_4 l0_5)))) = some r := h
 clear h
 by_cases c2 : a0_0 = 0
 ·rw [if_pos c2] at H
  have c2b0 : (a0_0 == 0) = true := beq_iff_eq.mpr c2
  have c2b1 : (a0_0 != 0) = false := bne_eq_false_iff_eq.mpr c2
  clear c2
  by_cases c3 : (a0_1 == 0 && (a0_2 == 0)) = true
  ·rw [if_pos c3] at H
   have c3b0 : (a0_1 == 0 && (a0_2 == 0)) = true := c3
   (try (have c3b1 : decide (a0_1 = 0 && (a0_2 == 0)) = true := by simpa using c3))
   (try (have c3b2 : (a0_1 == 0 && (a0_2 == 0)) = true := by simpa using c3))
   clear c3
   by_cases c4 : a0_3 = 0
   ·rw [if_pos c4] at H
    have c4b0 : (a0_3 == 0) = true := beq_iff_eq.mpr c4
    have c4b1 : (a0_3 != 0) = false := bne_eq_false_iff_eq.mpr c4
    clear c4
    by_cases c5 : a0_4 = 0
    ·rw [if_pos c5] at H
     have c5b0 : (a0_4 == 0) = true := beq_iff_eq.mpr c5
     have c5b1 : (a0_4 != 0) = false := bne_eq_false_iff_eq.mpr c5
     clear c5
     obtain rfl := Option.some.inj H
     go_enter Try.func34, Try.ntmps34
     go_wp2_with (first | ((with_reducible refine zo (N := 1) rfl ?_); (try (refine gate_guard (by rfl) ?_; dsimp only)); refine zm ?hg (N := 1) ?hd (cs := #[.int .i64 a0_0, .int .i64 a0_1, .int .u64 a0_2, .int .i64 a0_3, .int .i64 a0_4, .slice A0_5 l0_5.length c0_5]) (t := 32) ?hr ?_; (case hd => rfl); (case hg => rfl); (case hr => first | (go_simp; done) | (go_simp; rfl)); intro gb237 hg w6 hbox hb; have n0_ := zp.mk (zj (by repeat (first | (with_reducible first | exact HB.out | apply zc | apply za | apply zb) | exact HB.out)) hb); have n1_ := zp.mk (hbox); have n2_ := zp.mk ((by rw [hg]; exact (zk (by repeat (first | (with_reducible first | exact HB.out | apply zc | apply za | apply zb) | exact HB.out))) : w.heap.size ≤ gb237)); have n3_ := zp.mk ((by rw [hg]; exact (zk (by repeat (first | (with_reducible first | exact HB.out | apply zc | apply za | apply zb) | exact HB.out))) : w.heap.size ≤ gb237)); clear HB; have HB := n0_; have BK237 := n1_; have GW237 := n2_; have GE237 := n3_; clear n0_ n1_ n2_ n3_; clear hb hbox hg; have hcz7_0 : w6.cell? ⟨gb237, 0, none⟩ = some (.int .i64 a0_0) := (ze BK237.out 0).trans rfl; have hcz7_1 : w6.cell? ⟨gb237, 1, none⟩ = some (.int .i64 a0_1) := (ze BK237.out 1).trans rfl; have hcz7_2 : w6.cell? ⟨gb237, 2, none⟩ = some (.int .u64 a0_2) := (ze BK237.out 2).trans rfl; have hcz7_3 : w6.cell? ⟨gb237, 3, none⟩ = some (.int .i64 a0_3) := (ze BK237.out 3).trans rfl; have hcz7_4 : w6.cell? ⟨gb237, 4, none⟩ = some (.int .i64 a0_4) := (ze BK237.out 4).trans rfl; have hcz7_5 : w6.cell? ⟨gb237, 5, none⟩ = some (.slice A0_5 l0_5.length c0_5) := (ze BK237.out 5).trans rfl; have hfz7_0 := zd BK237.out 0; have hfz7_1 := zd BK237.out 1; have hfz7_2 := zd BK237.out 2; have hfz7_3 := zd BK237.out 3; have hfz7_4 := zd BK237.out 4; have hfz7_5 := zd BK237.out 5))
     go_ret
     exact ⟨by first | rfl | (simp [errW_none, errW_some] <;> rfl) | (simp [*, errW_none, errW_some] <;> rfl), by repeat (first | (with_reducible first | exact HB.out | apply zc | apply za | apply zb | refine zh ?_ GE237.out) | exact HB.out)⟩
    ·rw [if_neg c5] at H
     have c5b0 : (a0_4 == 0) = false := beq_eq_false_iff_ne.mpr c5
     have c5b1 : (a0_4 != 0) = true := bne_iff_ne.mpr c5
     obtain rfl := Option.some.inj H
     go_enter Try.func34, Try.ntmps34
     go_wp2_with (first | ((with_reducible refine zo (N := 1) rfl ?_); (try (refine gate_guard (by rfl) ?_; dsimp only)); refine zm ?hg (N := 1) ?hd (cs := #[.int .i64 a0_0, .int .i64 a0_1, .int .u64 a0_2, .int .i64 a0_3, .int .i64 a0_4, .slice A0_5 l0_5.length c0_5]) (t := 32) ?hr ?_; (case hd => rfl); (case hg => rfl); (case hr => first | (go_simp; done) | (go_simp; rfl)); intro gb237 hg w8 hbox hb; have n0_ := zp.mk (zj (by repeat (first | (with_reducible first | exact HB.out | apply zc | apply za | apply zb) | exact HB.out)) hb); have n1_ := zp.mk (hbox); have n2_ := zp.mk ((by rw [hg]; exact (zk (by repeat (first | (with_reducible first | exact HB.out | apply zc | apply za | apply zb) | exact HB.out))) : w.heap.size ≤ gb237)); have n3_ := zp.mk ((by rw [hg]; exact (zk (by repeat (first | (with_reducible first | exact HB.out | apply zc | apply za | apply zb) | exact HB.out))) : w.heap.size ≤ gb237)); clear HB; have HB := n0_; have BK237 := n1_; have GW237 := n2_; have GE237 := n3_; clear n0_ n1_ n2_ n3_; clear hb hbox hg; have hcz9_0 : w8.cell? ⟨gb237, 0, none⟩ = some (.int .i64 a0_0) := (ze BK237.out 0).trans rfl; have hcz9_1 : w8.cell? ⟨gb237, 1, none⟩ = some (.int .i64 a0_1) := (ze BK237.out 1).trans rfl; have hcz9_2 : w8.cell? ⟨gb237, 2, none⟩ = some (.int .u64 a0_2) := (ze BK237.out 2).trans rfl; have hcz9_3 : w8.cell? ⟨gb237, 3, none⟩ = some (.int .i64 a0_3) := (ze BK237.out 3).trans rfl; have hcz9_4 : w8.cell? ⟨gb237, 4, none⟩ = some (.int .i64 a0_4) := (ze BK237.out 4).trans rfl; have hcz9_5 : w8.cell? ⟨gb237, 5, none⟩ = some (.slice A0_5 l0_5.length c0_5) := (ze BK237.out 5).trans rfl; have hfz9_0 := zd BK237.out 0; have hfz9_1 := zd BK237.out 1; have hfz9_2 := zd BK237.out 2; have hfz9_3 := zd BK237.out 3; have hfz9_4 := zd BK237.out 4; have hfz9_5 := zd BK237.out 5))
     go_ret
     exact ⟨by first | rfl | (simp [errW_none, errW_some] <;> rfl) | (simp [*, errW_none, errW_some] <;> rfl), by repeat (first | (with_reducible first | exact HB.out | apply zc | apply za | apply zb | refine zh ?_ GE237.out) | exact HB.out)⟩
   ·rw [if_neg c4] at H
    have c4b0 : (a0_3 == 0) = false := beq_eq_false_iff_ne.mpr c4
    have c4b1 : (a0_3 != 0) = true := bne_iff_ne.mpr c4
    obtain rfl := Option.some.inj H
    go_enter Try.func34, Try.ntmps34
    go_wp2_with (first | ((with_reducible refine zo (N := 1) rfl ?_); (try (refine gate_guard (by rfl) ?_; dsimp only)); refine zm ?hg (N := 1) ?hd (cs := #[.int .i64 a0_0, .int .i64 a0_1, .int .u64 a0_2, .int .i64 a0_3, .int .i64 a0_4, .slice A0_5 l0_5.length c0_5]) (t := 32) ?hr ?_; (case hd => rfl); (case hg => rfl); (case hr => first | (go_simp; done) | (go_simp; rfl)); intro gb237 hg w10 hbox hb; have n0_ := zp.mk (zj (by repeat (first | (with_reducible first | exact HB.out | apply zc | apply za | apply zb) | exact HB.out)) hb); have n1_ := zp.mk (hbox); have n2_ := zp.mk ((by rw [hg]; exact (zk (by repeat (first | (with_reducible first | exact HB.out | apply zc | apply za | apply zb) | exact HB.out))) : w.heap.size ≤ gb237)); have n3_ := zp.mk ((by rw [hg]; exact (zk (by repeat (first | (with_reducible first | exact HB.out | apply zc | apply za | apply zb) | exact HB.out))) : w.heap.size ≤ gb237)); clear HB; have HB := n0_; have BK237 := n1_; have GW237 := n2_; have GE237 := n3_; clear n0_ n1_ n2_ n3_; clear hb hbox hg; have hcz11_0 : w10.cell? ⟨gb237, 0, none⟩ = some (.int .i64 a0_0) := (ze BK237.out 0).trans rfl; have hcz11_1 : w10.cell? ⟨gb237, 1, none⟩ = some (.int .i64 a0_1) := (ze BK237.out 1).trans rfl; have hcz11_2 : w10.cell? ⟨gb237, 2, none⟩ = some (.int .u64 a0_2) := (ze BK237.out 2).trans rfl; have hcz11_3 : w10.cell? ⟨gb237, 3, none⟩ = some (.int .i64 a0_3) := (ze BK237.out 3).trans rfl; have hcz11_4 : w10.cell? ⟨gb237, 4, none⟩ = some (.int .i64 a0_4) := (ze BK237.out 4).trans rfl; have hcz11_5 : w10.cell? ⟨gb237, 5, none⟩ = some (.slice A0_5 l0_5.length c0_5) := (ze BK237.out 5).trans rfl; have hfz11_0 := zd BK237.out 0; have hfz11_1 := zd BK237.out 1; have hfz11_2 := zd BK237.out 2; have hfz11_3 := zd BK237.out 3; have hfz11_4 := zd BK237.out 4; have hfz11_5 := zd BK237.out 5))
    go_ret
    exact ⟨by first | rfl | (simp [errW_none, errW_some] <;> rfl) | (simp [*, errW_none, errW_some] <;> rfl), by repeat (first | (with_reducible first | exact HB.out | apply zc | apply za | apply zb | refine zh ?_ GE237.out) | exact HB.out)⟩
  ·rw [if_neg c3] at H
   have c3b0 : (a0_1 == 0 && (a0_2 == 0)) = false := by simpa using c3
   (try (have c3b1 : decide (a0_1 = 0 && (a0_2 == 0)) = false := by simpa using c3))
   (try (have c3b2 : (a0_1 == 0 && (a0_2 == 0)) = false := by simpa using c3))
   (try (have c3b3 : ¬ (a0_1 = 0 && (a0_2 == 0)) := by simpa using c3))
   clear c3
   obtain rfl := Option.some.inj H
   go_enter Try.func34, Try.ntmps34
   go_wp2_with (first | ((with_reducible refine zo (N := 1) rfl ?_); (try (refine gate_guard (by rfl) ?_; dsimp only)); refine zm ?hg (N := 1) ?hd (cs := #[.int .i64 a0_0, .int .i64 a0_1, .int .u64 a0_2, .int .i64 a0_3, .int .i64 a0_4, .slice A0_5 l0_5.length c0_5]) (t := 32) ?hr ?_; (case hd => rfl); (case hg => rfl); (case hr => first | (go_simp; done) | (go_simp; rfl)); intro gb237 hg w12 hbox hb; have n0_ := zp.mk (zj (by repeat (first | (with_reducible first | exact HB.out | apply zc | apply za | apply zb) | exact HB.out)) hb); have n1_ := zp.mk (hbox); have n2_ := zp.mk ((by rw [hg]; exact (zk (by repeat (first | (with_reducible first | exact HB.out | apply zc | apply za | apply zb) | exact HB.out))) : w.heap.size ≤ gb237)); have n3_ := zp.mk ((by rw [hg]; exact (zk (by repeat (first | (with_reducible first | exact HB.out | apply zc | apply za | apply zb) | exact HB.out))) : w.heap.size ≤ gb237)); clear HB; have HB := n0_; have BK237 := n1_; have GW237 := n2_; have GE237 := n3_; clear n0_ n1_ n2_ n3_; clear hb hbox hg; have hcz13_0 : w12.cell? ⟨gb237, 0, none⟩ = some (.int .i64 a0_0) := (ze BK237.out 0).trans rfl; have hcz13_1 : w12.cell? ⟨gb237, 1, none⟩ = some (.int .i64 a0_1) := (ze BK237.out 1).trans rfl; have hcz13_2 : w12.cell? ⟨gb237, 2, none⟩ = some (.int .u64 a0_2) := (ze BK237.out 2).trans rfl; have hcz13_3 : w12.cell? ⟨gb237, 3, none⟩ = some (.int .i64 a0_3) := (ze BK237.out 3).trans rfl; have hcz13_4 : w12.cell? ⟨gb237, 4, none⟩ = some (.int .i64 a0_4) := (ze BK237.out 4).trans rfl; have hcz13_5 : w12.cell? ⟨gb237, 5, none⟩ = some (.slice A0_5 l0_5.length c0_5) := (ze BK237.out 5).trans rfl; have hfz13_0 := zd BK237.out 0; have hfz13_1 := zd BK237.out 1; have hfz13_2 := zd BK237.out 2; have hfz13_3 := zd BK237.out 3; have hfz13_4 := zd BK237.out 4; have hfz13_5 := zd BK237.out 5))
   go_ret
   exact ⟨by first | rfl | (simp [errW_none, errW_some] <;> rfl) | (simp [*, errW_none, errW_some] <;> rfl), by repeat (first | (with_reducible first | exact HB.out | apply zc | apply za | apply zb | refine zh ?_ GE237.out) | exact HB.out)⟩
 ·rw [if_neg c2] at H
  have c2b0 : (a0_0 == 0) = false := beq_eq_false_iff_ne.mpr c2
  have c2b1 : (a0_0 != 0) = true := bne_iff_ne.mpr c2
  have HC14 := zp.mk H
  clear H
  go_enter Try.func34, Try.ntmps34
  go_upto_region 3 with (first | ((with_reducible refine zo (N := 1) rfl ?_); (try (refine gate_guard (by rfl) ?_; dsimp only)); refine zm ?hg (N := 1) ?hd (cs := #[.int .i64 a0_0, .int .i64 a0_1, .int .u64 a0_2, .int .i64 a0_3, .int .i64 a0_4, .slice A0_5 l0_5.length c0_5]) (t := 32) ?hr ?_; (case hd => rfl); (case hg => rfl); (case hr => first | (go_simp; done) | (go_simp; rfl)); intro gb237 hg w15 hbox hb; have n0_ := zp.mk (zj (by repeat (first | (with_reducible first | exact HB.out | apply zc | apply za | apply zb) | exact HB.out)) hb); have n1_ := zp.mk (hbox); have n2_ := zp.mk ((by rw [hg]; exact (zk (by repeat (first | (with_reducible first | exact HB.out | apply zc | apply za | apply zb) | exact HB.out))) : w.heap.size ≤ gb237)); have n3_ := zp.mk ((by rw [hg]; exact (zk (by repeat (first | (with_reducible first | exact HB.out | apply zc | apply za | apply zb) | exact HB.out))) : w.heap.size ≤ gb237)); clear HB; have HB := n0_; have BK237 := n1_; have GW237 := n2_; have GE237 := n3_; clear n0_ n1_ n2_ n3_; clear hb hbox hg; have hcz16_0 : w15.cell? ⟨gb237, 0, none⟩ = some (.int .i64 a0_0) := (ze BK237.out 0).trans rfl; have hcz16_1 : w15.cell? ⟨gb237, 1, none⟩ = some (.int .i64 a0_1) := (ze BK237.out 1).trans rfl; have hcz16_2 : w15.cell? ⟨gb237, 2, none⟩ = some (.int .u64 a0_2) := (ze BK237.out 2).trans rfl; have hcz16_3 : w15.cell? ⟨gb237, 3, none⟩ = some (.int .i64 a0_3) := (ze BK237.out 3).trans rfl; have hcz16_4 : w15.cell? ⟨gb237, 4, none⟩ = some (.int .i64 a0_4) := (ze BK237.out 4).trans rfl; have hcz16_5 : w15.cell? ⟨gb237, 5, none⟩ = some (.slice A0_5 l0_5.length c0_5) := (ze BK237.out 5).trans rfl; have hfz16_0 := zd BK237.out 0; have hfz16_1 := zd BK237.out 1; have hfz16_2 := zd BK237.out 2; have hfz16_3 := zd BK237.out 3; have hfz16_4 := zd BK237.out 4; have hfz16_5 := zd BK237.out 5))
  (try simp only [Act.put, List.setIfInBounds_toArray, List.set_cons_zero, List.set_cons_succ])
  go_cut [52] (fun v52 wc => ∃ (kq : Nat) (x52_13 : Bool), v52 = .bool x52_13 ∧ zp (impl_isAgg.j0 kq x52_13 a0_0 a0_1 a0_2 a0_3 a0_4 l0_5 = some r) ∧ zp (kq ≤ k) ∧ zp (wc.heap[gb237]? = some (.cells #[.int .i64 a0_0, .int .i64 a0_1, .int .u64 a0_2, .int .i64 a0_3, .int .i64 a0_4, (.slice A0_5 l0_5.length c0_5)] 32 (0, 0))) ∧ zp (Below w.heap.size w wc))
  case first =>
   have H := HC14.out
   clear HC14
   replace H := Option.bind_eq_some_iff.mp H
   obtain ⟨t238, A170, H⟩ := H
   replace H : (if t238 = true then (if (l0_5.length : Int) = (mn a0_0 4) then (if 0 < (l0_5.length : Int) then (impl_isAgg.j0 k ((rd l0_5 0) != a0_4) a0_0 a0_1 a0_2 a0_3 a0_4 l0_5) else (none)) else (impl_isAgg.j0 k true a0_0 a0_1 a0_2 a0_3 a0_4 l0_5)) else (impl_isAgg.j0 k true a0_0 a0_1 a0_2 a0_3 a0_4 l0_5)) = some r := H
   have A17 := zp.mk A170
   clear A170
   by_cases c18 : t238 = true
   ·subst c18
    have H1 : (if (l0_5.length : Int) = (mn a0_0 4) then (if 0 < (l0_5.length : Int) then (impl_isAgg.j0 k ((rd l0_5 0) != a0_4) a0_0 a0_1 a0_2 a0_3 a0_4 l0_5) else (none)) else (impl_isAgg.j0 k true a0_0 a0_1 a0_2 a0_3 a0_4 l0_5)) = some r := by rw [if_pos rfl] at H; exact H
    clear H
    have H := H1
    clear H1
    obtain ⟨ji19, hji19⟩ : ∃ j_ : Int, (mn a0_0 4) = j_ := ⟨_, rfl⟩
    replace H : (if (l0_5.length : Int) = (ji19) then (if 0 < (l0_5.length : Int) then (impl_isAgg.j0 k ((rd l0_5 0) != a0_4) a0_0 a0_1 a0_2 a0_3 a0_4 l0_5) else (none)) else (impl_isAgg.j0 k true a0_0 a0_1 a0_2 a0_3 a0_4 l0_5)) = some r := by first | (rw [hji19] at H; exact H) | (simp only [hji19] at H ⊢; exact H)
    (try rw [hji19] at A17)
    (try (have hji19h : ji19 ≤ 4 := by (rw [← hji19]; unfold mn; (repeat' split) <;> omega)))
    (try (have hji19g : ji19 ≤ 64 := by omega))
    have hji19_ : (if 4 < a0_0 then 4 else a0_0) = ji19 := hji19
    by_cases c20 : (l0_5.length : Int) = (ji19)
    ·rw [if_pos c20] at H
     have c20b0 : ((l0_5.length : Int) == (ji19)) = true := beq_iff_eq.mpr c20
     have c20b1 : ((l0_5.length : Int) != (ji19)) = false := bne_eq_false_iff_eq.mpr c20
     clear c20
     (first | rw [c20b0] | (simp only [i64_w, i32_w]; rw [c20b0]) | skip)
     by_cases c21 : 0 < (l0_5.length : Int)
     ·rw [if_pos c21] at H
      have c21b0 : decide (0 < (l0_5.length : Int)) = true := decide_eq_true c21
      have c21b1 : decide (0 < l0_5.length) = true := decide_eq_true (by omega)
      clear c21
      have H' := zp.mk H
      clear H
      try go_wp2
      have n0_ := zp.mk (zi BK237.out)
      have n1_ := zp.mk (zb HB.out)
      clear BK237
      clear HB
      have BK237 := n0_
      have HB := n1_
      clear n0_ n1_
      have p239 : 0 ≤ (0 : Int) := (by omega)
      have q239 : 0 < (l0_5.length : Int) := of_decide_eq_true (by first | (with_reducible assumption) | assumption)
      obtain ⟨ad239, e239, hx239_0⟩ := Kd.at_int HR0_5.out 0 p239 q239
      have hw239_0 := hx239_0
      (try rw [show ((0 : Int)).toNat = 0 from rfl] at hw239_0)
      (try rw [show 0 * 1 = 0 from rfl] at hw239_0)
      (try rw [Addr.add_zero'] at hw239_0)
      cases e239
      have qi239 : (0 < l0_5.length) = True := eq_true (by omega)
      (try rw [show ((0 : Int)).toNat = 0 from rfl] at hx239_0)
      (try rw [Addr.add_zero'] at hx239_0)
      replace hx239_0 := (HB.out.cell (World.block_lt_of_cell? w _ hx239_0)).trans hx239_0
      replace p239 := eq_true p239
      replace q239 := eq_true q239
      refine start_ (n := 22) (S := fun w' => w'.cell? ⟨gb237, 0, none⟩ = some (.int .i64 a0_0) ∧ w'.cell? ⟨gb237, 1, none⟩ = some (.int .i64 a0_1) ∧ w'.cell? ⟨gb237, 2, none⟩ = some (.int .u64 a0_2) ∧ w'.cell? ⟨gb237, 3, none⟩ = some (.int .i64 a0_3) ∧ w'.cell? ⟨gb237, 4, none⟩ = some (.int .i64 a0_4) ∧ w'.cell? ⟨gb237, 5, none⟩ = some (.slice (some ad239) l0_5.length c0_5) ∧ w'.cell? ad239 = some (.int .i64 (rd l0_5 0))) (ds := []) #[false, false, false, false, false, false, false, false, false, false, false, false, false, false, false, false, false, false, false, false, false, false] (by kernel_rfl) rfl rfl ⟨(ze BK237.out 0).trans rfl, (ze BK237.out 1).trans rfl, (ze BK237.out 2).trans rfl, (ze BK237.out 3).trans rfl, (ze BK237.out 4).trans rfl, (ze BK237.out 5).trans rfl, ((HB.out.cell (World.block_lt_of_cell? w _ hw239_0)).trans hw239_0)⟩ (fun hHeld => ?_); refine with_tabW impl_isAgg.tab3 impl_isAgg.bits3 (fun HT_ HW_ => ?_)
      generalize w15.drew = w22 at BK237 HB hx239_0 hHeld ⊢
      refine pure_ (i := 0) (N := some 31) (v := ?_) (a' := ?_) #[true, false, false, false, false, false, false, false, false, false, false, false, false, false, false, false, false, false, false, false, false, false] rfl rfl (any_of HT_.out (by kernel_rfl)) (fun _ _ _ h => h) (Or.inl ⟨by rfl, ?_⟩) ?_ ?_
      rotate_left
      ·intro w'
       go_simp
       with_reducible rfl
      rotate_left
      ·simp only [Act.put, List.setIfInBounds_toArray, List.set_cons_zero, List.set_cons_succ, i64_w, i32_w]
       rfl
      refine take_ (i := 1) (N := some 32) (v := ?_) (a' := ?_) #[true, true, false, false, false, false, false, false, false, false, false, false, false, false, false, false, false, false, false, false, false, false] rfl rfl (take_ofW HT_.out HW_.out (by kernel_rfl)) (fun _ _ _ h => h) (Or.inl ⟨by rfl, ?_⟩) hHeld ?_ ?_
      rotate_left
      ·rintro w' ⟨s0, s1, s2, s3, s4, s5, s6⟩
       go_simp
       with_reducible rfl
      rotate_left
      ·simp only [Act.put, List.setIfInBounds_toArray, List.set_cons_zero, List.set_cons_succ, i64_w, i32_w]
       rfl
      refine one_ (i := 2) (N := some 33) #[true, true, true, false, false, false, false, false, false, false, false, false, false, false, false, false, false, false, false, false, false, false] rfl rfl (one_of HT_.out (by kernel_rfl)) (by decide) (fun K hK => ?_)
      refine goes_ Try.func46 (by kernel_rfl) rfl #[.int .i64 a0_0, .int .i64 1, .int .i64 1000000] (by rfl) rfl rfl (by (try simp only [List.map_toArray, List.map_cons, List.map_nil]); first | done | rfl | (simp only [List.length_drop, List.length_take]; rfl)) ?_
      with_reducible refine (impl_in.calls a0_0 1 1000000 true _ A17.out).mono ?_
      rintro e w' ⟨rfl, ⟨nd, rfl⟩⟩
      refine ⟨_, rfl, ?_⟩
      refine hK.out _ _ ⟨(ze BK237.out 0).trans rfl, (ze BK237.out 1).trans rfl, (ze BK237.out 2).trans rfl, (ze BK237.out 3).trans rfl, (ze BK237.out 4).trans rfl, (ze BK237.out 5).trans rfl, ((HB.out.cell (World.block_lt_of_cell? w _ hw239_0)).trans hw239_0)⟩ (fun hHeld => ?_)
      clear hK K
      refine norm_ (a' := ?_) ?_ ?_
      rotate_left
      ·show Act.put _ (some 33) _ = _
       simp only [Act.put, List.setIfInBounds_toArray, List.set_cons_zero, List.set_cons_succ, i64_w, i32_w]
       rfl
      refine pure_ (i := 3) (N := some 34) (v := ?_) (a' := ?_) #[true, true, true, true, false, false, false, false, false, false, false, false, false, false, false, false, false, false, false, false, false, false] rfl rfl (any_of HT_.out (by kernel_rfl)) (fun _ _ _ h => h) (Or.inl ⟨by rfl, ?_⟩) ?_ ?_
      rotate_left
      ·intro w'
       go_simp
       with_reducible rfl
      rotate_left
      ·simp only [Act.put, List.setIfInBounds_toArray, List.set_cons_zero, List.set_cons_succ, i64_w, i32_w]
       rfl
      refine pure_ (i := 4) (N := some 35) (v := ?_) (a' := ?_) #[true, true, true, true, true, false, false, false, false, false, false, false, false, false, false, false, false, false, false, false, false, false] rfl rfl (any_of HT_.out (by kernel_rfl)) (fun _ _ _ h => h) (Or.inl ⟨by rfl, ?_⟩) ?_ ?_
      rotate_left
      ·intro w'
       go_simp
       with_reducible rfl
      rotate_left
      ·simp only [Act.put, List.setIfInBounds_toArray, List.set_cons_zero, List.set_cons_succ, i64_w, i32_w]
       rfl
      refine pure_ (i := 5) (N := some 36) (v := ?_) (a' := ?_) #[true, true, true, true, true, true, false, false, false, false, false, false, false, false, false, false, false, false, false, false, false, false] rfl rfl (any_of HT_.out (by kernel_rfl)) (fun _ _ _ h => h) (Or.inl ⟨by rfl, ?_⟩) ?_ ?_
      rotate_left
      ·intro w'
       go_simp
       with_reducible rfl
      rotate_left
      ·simp only [Act.put, List.setIfInBounds_toArray, List.set_cons_zero, List.set_cons_succ, i64_w, i32_w]
       rfl
      refine pure_ (i := 8) (N := some 39) (v := ?_) (a' := ?_) #[true, true, true, true, true, true, false, false, true, false, false, false, false, false, false, false, false, false, false, false, false, false] rfl rfl (any_of HT_.out (by kernel_rfl)) (fun _ _ _ h => h) (Or.inl ⟨by rfl, ?_⟩) ?_ ?_
      rotate_left
      ·intro w'
       go_simp
       with_reducible rfl
      rotate_left
      ·simp only [Act.put, List.setIfInBounds_toArray, List.set_cons_zero, List.set_cons_succ, i64_w, i32_w]
       rfl
      refine take_ (i := 6) (N := some 37) (v := ?_) (a' := ?_) #[true, true, true, true, true, true, true, false, true, false, false, false, false, false, false, false, false, false, false, false, false, false] rfl rfl (take_ofW HT_.out HW_.out (by kernel_rfl)) (fun _ _ _ h => h) (Or.inl ⟨by rfl, ?_⟩) hHeld ?_ ?_
      rotate_left
      ·rintro w' ⟨s0, s1, s2, s3, s4, s5, s6⟩
       go_simp
       with_reducible rfl
      rotate_left
      ·simp only [Act.put, List.setIfInBounds_toArray, List.set_cons_zero, List.set_cons_succ, i64_w, i32_w]
       rfl
      refine pure_ (i := 7) (N := some 38) (v := ?_) (a' := ?_) #[true, true, true, true, true, true, true, true, true, false, false, false, false, false, false, false, false, false, false, false, false, false] rfl rfl (any_of HT_.out (by kernel_rfl)) (fun _ _ _ h => h) (Or.inl ⟨by rfl, ?_⟩) ?_ ?_
      rotate_left
      ·intro w'
       go_simp
       with_reducible rfl
      rotate_left
      ·simp only [Act.put, List.setIfInBounds_toArray, List.set_cons_zero, List.set_cons_succ, i64_w, i32_w]
       rfl
      refine take_ (i := 9) (N := some 40) (v := ?_) (a' := ?_) #[true, true, true, true, true, true, true, true, true, true, false, false, false, false, false, false, false, false, false, false, false, false] rfl rfl (take_ofW HT_.out HW_.out (by kernel_rfl)) (fun _ _ _ h => h) (Or.inl ⟨by rfl, ?_⟩) hHeld ?_ ?_
      rotate_left
      ·rintro w' ⟨s0, s1, s2, s3, s4, s5, s6⟩
       go_simp
       with_reducible rfl
      rotate_left
      ·simp only [Act.put, List.setIfInBounds_toArray, List.set_cons_zero, List.set_cons_succ, i64_w, i32_w]
       rfl
      refine pure_ (i := 10) (N := some 41) (v := ?_) (a' := ?_) #[true, true, true, true, true, true, true, true, true, true, true, false, false, false, false, false, false, false, false, false, false, false] rfl rfl (any_of HT_.out (by kernel_rfl)) (fun _ _ _ h => h) (Or.inl ⟨by rfl, ?_⟩) ?_ ?_
      rotate_left
      ·intro w'
       go_simp
       with_reducible rfl
      rotate_left
      ·simp only [Act.put, List.setIfInBounds_toArray, List.set_cons_zero, List.set_cons_succ, i64_w, i32_w]
       rfl
      refine pure_ (i := 11) (N := some 42) (v := ?_) (a' := ?_) #[true, true, true, true, true, true, true, true, true, true, true, true, false, false, false, false, false, false, false, false, false, false] rfl rfl (any_of HT_.out (by kernel_rfl)) (fun _ _ _ h => h) (Or.inl ⟨by rfl, ?_⟩) ?_ ?_
      rotate_left
      ·intro w'
       go_simp
       with_reducible rfl
      rotate_left
      ·simp only [Act.put, List.setIfInBounds_toArray, List.set_cons_zero, List.set_cons_succ, i64_w, i32_w]
       rfl
      refine pure_ (i := 12) (N := some 43) (v := ?_) (a' := ?_) #[true, true, true, true, true, true, true, true, true, true, true, true, true, false, false, false, false, false, false, false, false, false] rfl rfl (any_of HT_.out (by kernel_rfl)) (fun _ _ _ h => h) (Or.inl ⟨by rfl, ?_⟩) ?_ ?_
      rotate_left
      ·intro w'
       go_simp
       with_reducible rfl
      rotate_left
      ·simp only [Act.put, List.setIfInBounds_toArray, List.set_cons_zero, List.set_cons_succ, i64_w, i32_w]
       rfl
      refine pure_ (i := 13) (N := some 44) (v := ?_) (a' := ?_) #[true, true, true, true, true, true, true, true, true, true, true, true, true, true, false, false, false, false, false, false, false, false] rfl rfl (any_of HT_.out (by kernel_rfl)) (fun _ _ _ h => h) (Or.inl ⟨by rfl, ?_⟩) ?_ ?_
      rotate_left
      ·intro w'
       go_simp
       with_reducible rfl
      rotate_left
      ·simp only [Act.put, List.setIfInBounds_toArray, List.set_cons_zero, List.set_cons_succ, i64_w, i32_w]
       rfl
      refine pure_ (i := 14) (N := some 45) (v := ?_) (a' := ?_) #[true, true, true, true, true, true, true, true, true, true, true, true, true, true, true, false, false, false, false, false, false, false] rfl rfl (any_of HT_.out (by kernel_rfl)) (fun _ _ _ h => h) (Or.inl ⟨by rfl, ?_⟩) ?_ ?_
      rotate_left
      ·intro w'
       go_simp
       with_reducible rfl
      rotate_left
      ·simp only [Act.put, List.setIfInBounds_toArray, List.set_cons_zero, List.set_cons_succ, i64_w, i32_w]
       rfl
      refine pure_ (i := 18) (N := some 49) (v := ?_) (a' := ?_) #[true, true, true, true, true, true, true, true, true, true, true, true, true, true, true, false, false, false, true, false, false, false] rfl rfl (any_of HT_.out (by kernel_rfl)) (fun _ _ _ h => h) (Or.inl ⟨by rfl, ?_⟩) ?_ ?_
      rotate_left
      ·intro w'
       go_simp
       with_reducible rfl
      rotate_left
      ·simp only [Act.put, List.setIfInBounds_toArray, List.set_cons_zero, List.set_cons_succ, i64_w, i32_w]
       rfl
      refine take_ (i := 15) (N := some 46) (v := ?_) (a' := ?_) #[true, true, true, true, true, true, true, true, true, true, true, true, true, true, true, true, false, false, true, false, false, false] rfl rfl (take_ofW HT_.out HW_.out (by kernel_rfl)) (fun _ _ _ h => h) (Or.inl ⟨by rfl, ?_⟩) hHeld ?_ ?_
      rotate_left
      ·rintro w' ⟨s0, s1, s2, s3, s4, s5, s6⟩
       go_simp
       with_reducible rfl
      rotate_left
      ·simp only [Act.put, List.setIfInBounds_toArray, List.set_cons_zero, List.set_cons_succ, i64_w, i32_w]
       rfl
      refine pure_ (i := 16) (N := some 47) (v := ?_) (a' := ?_) #[true, true, true, true, true, true, true, true, true, true, true, true, true, true, true, true, true, false, true, false, false, false] rfl rfl (any_of HT_.out (by kernel_rfl)) (fun _ _ _ h => h) (Or.inl ⟨by rfl, ?_⟩) ?_ ?_
      rotate_left
      ·intro w'
       go_simp
       with_reducible rfl
      rotate_left
      ·simp only [Act.put, List.setIfInBounds_toArray, List.set_cons_zero, List.set_cons_succ, i64_w, i32_w]
       rfl
      refine take_ (i := 17) (N := some 48) (v := ?_) (a' := ?_) #[true, true, true, true, true, true, true, true, true, true, true, true, true, true, true, true, true, true, true, false, false, false] rfl rfl (take_ofW HT_.out HW_.out (by kernel_rfl)) (fun _ _ _ h => h) (Or.inl ⟨by rfl, ?_⟩) hHeld ?_ ?_
      rotate_left
      ·rintro w' ⟨s0, s1, s2, s3, s4, s5, s6⟩
       go_simp
       with_reducible rfl
      rotate_left
      ·simp only [Act.put, List.setIfInBounds_toArray, List.set_cons_zero, List.set_cons_succ, i64_w, i32_w]
       rfl
      refine take_ (i := 19) (N := some 50) (v := ?_) (a' := ?_) #[true, true, true, true, true, true, true, true, true, true, true, true, true, true, true, true, true, true, true, true, false, false] rfl rfl (take_ofW HT_.out HW_.out (by kernel_rfl)) (fun _ _ _ h => h) (Or.inl ⟨by rfl, ?_⟩) hHeld ?_ ?_
      rotate_left
      ·rintro w' ⟨s0, s1, s2, s3, s4, s5, s6⟩
       go_simp
       with_reducible rfl
      rotate_left
      ·simp only [Act.put, List.setIfInBounds_toArray, List.set_cons_zero, List.set_cons_succ, i64_w, i32_w]
       rfl
      refine pure_ (i := 20) (N := some 51) (v := ?_) (a' := ?_) #[true, true, true, true, true, true, true, true, true, true, true, true, true, true, true, true, true, true, true, true, true, false] rfl rfl (any_of HT_.out (by kernel_rfl)) (fun _ _ _ h => h) (Or.inl ⟨by rfl, ?_⟩) ?_ ?_
      rotate_left
      ·intro w'
       go_simp
       with_reducible rfl
      rotate_left
      ·simp only [Act.put, List.setIfInBounds_toArray, List.set_cons_zero, List.set_cons_succ, i64_w, i32_w]
       rfl
      refine pure_ (i := 21) (N := some 52) (v := ?_) (a' := ?_) #[true, true, true, true, true, true, true, true, true, true, true, true, true, true, true, true, true, true, true, true, true, true] rfl rfl (any_of HT_.out (by kernel_rfl)) (fun _ _ _ h => h) (Or.inl ⟨by rfl, ?_⟩) ?_ ?_
      rotate_left
      ·intro w'
       go_simp
       with_reducible rfl
      rotate_left
      ·simp only [Act.put, List.setIfInBounds_toArray, List.set_cons_zero, List.set_cons_succ, i64_w, i32_w]
       rfl
      refine done_ (done_of HT_.out (by kernel_rfl)) ?_
      try go_wp2
      go_meet
      case rel => exact ⟨_, (((rd l0_5 0) != a0_4)), (by first | rfl | (simp; done) | (simp [*]; done)), H', ⟨by first | omega | exact Nat.le_refl _⟩, ⟨by (with_reducible repeat (first | refine zf ?_ _ | refine zi ?_ | refine zg ?_ _)); exact BK237.out⟩, ⟨by repeat (first | (with_reducible first | exact HB.out | apply zc | apply za | apply zb | refine zh ?_ GE237.out) | exact HB.out)⟩⟩
     ·rw [if_neg c21] at H
      exact absurd H (by simp)
    ·rw [if_neg c20] at H
     have c20b0 : ((l0_5.length : Int) == (ji19)) = false := beq_eq_false_iff_ne.mpr c20
     have c20b1 : ((l0_5.length : Int) != (ji19)) = true := bne_iff_ne.mpr c20
     (first | rw [c20b0] | (simp only [i64_w, i32_w]; rw [c20b0]) | skip)
     have H' := zp.mk H
     clear H
     try go_wp2
     have n0_ := zp.mk (zi BK237.out)
     have n1_ := zp.mk (zb HB.out)
     clear BK237
     clear HB
     have BK237 := n0_
     have HB := n1_
     clear n0_ n1_
     refine start_ (n := 22) (S := fun w' => w'.cell? ⟨gb237, 0, none⟩ = some (.int .i64 a0_0) ∧ w'.cell? ⟨gb237, 1, none⟩ = some (.int .i64 a0_1) ∧ w'.cell? ⟨gb237, 2, none⟩ = some (.int .u64 a0_2) ∧ w'.cell? ⟨gb237, 3, none⟩ = some (.int .i64 a0_3) ∧ w'.cell? ⟨gb237, 4, none⟩ = some (.int .i64 a0_4) ∧ w'.cell? ⟨gb237, 5, none⟩ = some (.slice A0_5 l0_5.length c0_5)) (ds := []) #[false, false, false, false, false, false, false, false, false, false, false, false, false, false, false, false, false, false, false, false, false, false] (by kernel_rfl) rfl rfl ⟨(ze BK237.out 0).trans rfl, (ze BK237.out 1).trans rfl, (ze BK237.out 2).trans rfl, (ze BK237.out 3).trans rfl, (ze BK237.out 4).trans rfl, (ze BK237.out 5).trans rfl⟩ (fun hHeld => ?_); refine with_tabW impl_isAgg.tab3 impl_isAgg.bits3 (fun HT_ HW_ => ?_)
     generalize w15.drew = w23 at BK237 HB hHeld ⊢
     refine pure_ (i := 0) (N := some 31) (v := ?_) (a' := ?_) #[true, false, false, false, false, false, false, false, false, false, false, false, false, false, false, false, false, false, false, false, false, false] rfl rfl (any_of HT_.out (by kernel_rfl)) (fun _ _ _ h => h) (Or.inl ⟨by rfl, ?_⟩) ?_ ?_
     rotate_left
     ·intro w'
      go_simp
      with_reducible rfl
     rotate_left
     ·simp only [Act.put, List.setIfInBounds_toArray, List.set_cons_zero, List.set_cons_succ, i64_w, i32_w]
      rfl
     refine take_ (i := 1) (N := some 32) (v := ?_) (a' := ?_) #[true, true, false, false, false, false, false, false, false, false, false, false, false, false, false, false, false, false, false, false, false, false] rfl rfl (take_ofW HT_.out HW_.out (by kernel_rfl)) (fun _ _ _ h => h) (Or.inl ⟨by rfl, ?_⟩) hHeld ?_ ?_
     rotate_left
     ·rintro w' ⟨s0, s1, s2, s3, s4, s5⟩
      go_simp
      with_reducible rfl
     rotate_left
     ·simp only [Act.put, List.setIfInBounds_toArray, List.set_cons_zero, List.set_cons_succ, i64_w, i32_w]
      rfl
     refine one_ (i := 2) (N := some 33) #[true, true, true, false, false, false, false, false, false, false, false, false, false, false, false, false, false, false, false, false, false, false] rfl rfl (one_of HT_.out (by kernel_rfl)) (by decide) (fun K hK => ?_)
     refine goes_ Try.func46 (by kernel_rfl) rfl #[.int .i64 a0_0, .int .i64 1, .int .i64 1000000] (by rfl) rfl rfl (by (try simp only [List.map_toArray, List.map_cons, List.map_nil]); first | done | rfl | (simp only [List.length_drop, List.length_take]; rfl)) ?_
     with_reducible refine (impl_in.calls a0_0 1 1000000 true _ A17.out).mono ?_
     rintro e w' ⟨rfl, ⟨nd, rfl⟩⟩
     refine ⟨_, rfl, ?_⟩
     refine hK.out _ _ ⟨(ze BK237.out 0).trans rfl, (ze BK237.out 1).trans rfl, (ze BK237.out 2).trans rfl, (ze BK237.out 3).trans rfl, (ze BK237.out 4).trans rfl, (ze BK237.out 5).trans rfl⟩ (fun hHeld => ?_)
     clear hK K
     refine norm_ (a' := ?_) ?_ ?_
     rotate_left
     ·show Act.put _ (some 33) _ = _
      simp only [Act.put, List.setIfInBounds_toArray, List.set_cons_zero, List.set_cons_succ, i64_w, i32_w]
      rfl
     refine pure_ (i := 3) (N := some 34) (v := ?_) (a' := ?_) #[true, true, true, true, false, false, false, false, false, false, false, false, false, false, false, false, false, false, false, false, false, false] rfl rfl (any_of HT_.out (by kernel_rfl)) (fun _ _ _ h => h) (Or.inl ⟨by rfl, ?_⟩) ?_ ?_
     rotate_left
     ·intro w'
      go_simp
      with_reducible rfl
     rotate_left
     ·simp only [Act.put, List.setIfInBounds_toArray, List.set_cons_zero, List.set_cons_succ, i64_w, i32_w]
      rfl
     refine pure_ (i := 4) (N := some 35) (v := ?_) (a' := ?_) #[true, true, true, true, true, false, false, false, false, false, false, false, false, false, false, false, false, false, false, false, false, false] rfl rfl (any_of HT_.out (by kernel_rfl)) (fun _ _ _ h => h) (Or.inl ⟨by rfl, ?_⟩) ?_ ?_
     rotate_left
     ·intro w'
      go_simp
      with_reducible rfl
     rotate_left
     ·simp only [Act.put, List.setIfInBounds_toArray, List.set_cons_zero, List.set_cons_succ, i64_w, i32_w]
      rfl
     refine pure_ (i := 5) (N := some 36) (v := ?_) (a' := ?_) #[true, true, true, true, true, true, false, false, false, false, false, false, false, false, false, false, false, false, false, false, false, false] rfl rfl (any_of HT_.out (by kernel_rfl)) (fun _ _ _ h => h) (Or.inl ⟨by rfl, ?_⟩) ?_ ?_
     rotate_left
     ·intro w'
      go_simp
      with_reducible rfl
     rotate_left
     ·simp only [Act.put, List.setIfInBounds_toArray, List.set_cons_zero, List.set_cons_succ, i64_w, i32_w]
      rfl
     refine pure_ (i := 8) (N := some 39) (v := ?_) (a' := ?_) #[true, true, true, true, true, true, false, false, true, false, false, false, false, false, false, false, false, false, false, false, false, false] rfl rfl (any_of HT_.out (by kernel_rfl)) (fun _ _ _ h => h) (Or.inl ⟨by rfl, ?_⟩) ?_ ?_
     rotate_left
     ·intro w'
      go_simp
      with_reducible rfl
     rotate_left
     ·simp only [Act.put, List.setIfInBounds_toArray, List.set_cons_zero, List.set_cons_succ, i64_w, i32_w]
      rfl
     refine take_ (i := 6) (N := some 37) (v := ?_) (a' := ?_) #[true, true, true, true, true, true, true, false, true, false, false, false, false, false, false, false, false, false, false, false, false, false] rfl rfl (take_ofW HT_.out HW_.out (by kernel_rfl)) (fun _ _ _ h => h) (Or.inl ⟨by rfl, ?_⟩) hHeld ?_ ?_
     rotate_left
     ·rintro w' ⟨s0, s1, s2, s3, s4, s5⟩
      go_simp
      with_reducible rfl
     rotate_left
     ·simp only [Act.put, List.setIfInBounds_toArray, List.set_cons_zero, List.set_cons_succ, i64_w, i32_w]
      rfl
     refine pure_ (i := 7) (N := some 38) (v := ?_) (a' := ?_) #[true, true, true, true, true, true, true, true, true, false, false, false, false, false, false, false, false, false, false, false, false, false] rfl rfl (any_of HT_.out (by kernel_rfl)) (fun _ _ _ h => h) (Or.inl ⟨by rfl, ?_⟩) ?_ ?_
     rotate_left
     ·intro w'
      go_simp
      with_reducible rfl
     rotate_left
     ·simp only [Act.put, List.setIfInBounds_toArray, List.set_cons_zero, List.set_cons_succ, i64_w, i32_w]
      rfl
     refine take_ (i := 9) (N := some 40) (v := ?_) (a' := ?_) #[true, true, true, true, true, true, true, true, true, true, false, false, false, false, false, false, false, false, false, false, false, false] rfl rfl (take_ofW HT_.out HW_.out (by kernel_rfl)) (fun _ _ _ h => h) (Or.inl ⟨by rfl, ?_⟩) hHeld ?_ ?_
     rotate_left
     ·rintro w' ⟨s0, s1, s2, s3, s4, s5⟩
      go_simp
      with_reducible rfl
     rotate_left
     ·simp only [Act.put, List.setIfInBounds_toArray, List.set_cons_zero, List.set_cons_succ, i64_w, i32_w]
      rfl
     refine pure_ (i := 10) (N := some 41) (v := ?_) (a' := ?_) #[true, true, true, true, true, true, true, true, true, true, true, false, false, false, false, false, false, false, false, false, false, false] rfl rfl (any_of HT_.out (by kernel_rfl)) (fun _ _ _ h => h) (Or.inl ⟨by rfl, ?_⟩) ?_ ?_
     rotate_left
     ·intro w'
      go_simp
      with_reducible rfl
     rotate_left
     ·simp only [Act.put, List.setIfInBounds_toArray, List.set_cons_zero, List.set_cons_succ, i64_w, i32_w]
      rfl
     refine pure_ (i := 11) (N := some 42) (v := ?_) (a' := ?_) #[true, true, true, true, true, true, true, true, true, true, true, true, false, false, false, false, false, false, false, false, false, false] rfl rfl (any_of HT_.out (by kernel_rfl)) (fun _ _ _ h => h) (Or.inl ⟨by rfl, ?_⟩) ?_ ?_
     rotate_left
     ·intro w'
      go_simp
      with_reducible rfl
     rotate_left
     ·simp only [Act.put, List.setIfInBounds_toArray, List.set_cons_zero, List.set_cons_succ, i64_w, i32_w]
      rfl
     refine pure_ (i := 12) (N := some 43) (v := ?_) (a' := ?_) #[true, true, true, true, true, true, true, true, true, true, true, true, true, false, false, false, false, false, false, false, false, false] rfl rfl (any_of HT_.out (by kernel_rfl)) (fun _ _ _ h => h) (Or.inl ⟨by rfl, ?_⟩) ?_ ?_
     rotate_left
     ·intro w'
      go_simp
      with_reducible rfl
     rotate_left
     ·simp only [Act.put, List.setIfInBounds_toArray, List.set_cons_zero, List.set_cons_succ, i64_w, i32_w]
      rfl
     refine pure_ (i := 13) (N := some 44) (v := ?_) (a' := ?_) #[true, true, true, true, true, true, true, true, true, true, true, true, true, true, false, false, false, false, false, false, false, false] rfl rfl (any_of HT_.out (by kernel_rfl)) (fun _ _ _ h => h) (Or.inl ⟨by rfl, ?_⟩) ?_ ?_
     rotate_left
     ·intro w'
      go_simp
      with_reducible rfl
     rotate_left
     ·simp only [Act.put, List.setIfInBounds_toArray, List.set_cons_zero, List.set_cons_succ, i64_w, i32_w]
      rfl
     refine pure_ (i := 14) (N := some 45) (v := undef) (a' := ?_) #[true, true, true, true, true, true, true, true, true, true, true, true, true, true, true, false, false, false, false, false, false, false] rfl rfl (any_of HT_.out (by kernel_rfl)) (fun _ _ _ h => h) (Or.inr ⟨by rfl, rfl⟩) ?_ ?_
     rotate_left
     ·simp only [Act.put, List.setIfInBounds_toArray, List.set_cons_zero, List.set_cons_succ, i64_w, i32_w]
      rfl
     refine pure_ (i := 15) (N := some 46) (v := undef) (a' := ?_) #[true, true, true, true, true, true, true, true, true, true, true, true, true, true, true, true, false, false, false, false, false, false] rfl rfl (any_of HT_.out (by kernel_rfl)) (fun _ _ _ h => h) (Or.inr ⟨by rfl, rfl⟩) ?_ ?_
     rotate_left
     ·simp only [Act.put, List.setIfInBounds_toArray, List.set_cons_zero, List.set_cons_succ, i64_w, i32_w]
      rfl
     refine pure_ (i := 16) (N := some 47) (v := undef) (a' := ?_) #[true, true, true, true, true, true, true, true, true, true, true, true, true, true, true, true, true, false, false, false, false, false] rfl rfl (any_of HT_.out (by kernel_rfl)) (fun _ _ _ h => h) (Or.inr ⟨by rfl, rfl⟩) ?_ ?_
     rotate_left
     ·simp only [Act.put, List.setIfInBounds_toArray, List.set_cons_zero, List.set_cons_succ, i64_w, i32_w]
      rfl
     refine pure_ (i := 17) (N := some 48) (v := undef) (a' := ?_) #[true, true, true, true, true, true, true, true, true, true, true, true, true, true, true, true, true, true, false, false, false, false] rfl rfl (any_of HT_.out (by kernel_rfl)) (fun _ _ _ h => h) (Or.inr ⟨by rfl, rfl⟩) ?_ ?_
     rotate_left
     ·simp only [Act.put, List.setIfInBounds_toArray, List.set_cons_zero, List.set_cons_succ, i64_w, i32_w]
      rfl
     refine pure_ (i := 18) (N := some 49) (v := undef) (a' := ?_) #[true, true, true, true, true, true, true, true, true, true, true, true, true, true, true, true, true, true, true, false, false, false] rfl rfl (any_of HT_.out (by kernel_rfl)) (fun _ _ _ h => h) (Or.inr ⟨by rfl, rfl⟩) ?_ ?_
     rotate_left
     ·simp only [Act.put, List.setIfInBounds_toArray, List.set_cons_zero, List.set_cons_succ, i64_w, i32_w]
      rfl
     refine pure_ (i := 19) (N := some 50) (v := undef) (a' := ?_) #[true, true, true, true, true, true, true, true, true, true, true, true, true, true, true, true, true, true, true, true, false, false] rfl rfl (any_of HT_.out (by kernel_rfl)) (fun _ _ _ h => h) (Or.inr ⟨by rfl, rfl⟩) ?_ ?_
     rotate_left
     ·simp only [Act.put, List.setIfInBounds_toArray, List.set_cons_zero, List.set_cons_succ, i64_w, i32_w]
      rfl
     refine pure_ (i := 20) (N := some 51) (v := undef) (a' := ?_) #[true, true, true, true, true, true, true, true, true, true, true, true, true, true, true, true, true, true, true, true, true, false] rfl rfl (any_of HT_.out (by kernel_rfl)) (fun _ _ _ h => h) (Or.inr ⟨by rfl, rfl⟩) ?_ ?_
     rotate_left
     ·simp only [Act.put, List.setIfInBounds_toArray, List.set_cons_zero, List.set_cons_succ, i64_w, i32_w]
      rfl
     refine pure_ (i := 21) (N := some 52) (v := ?_) (a' := ?_) #[true, true, true, true, true, true, true, true, true, true, true, true, true, true, true, true, true, true, true, true, true, true] rfl rfl (any_of HT_.out (by kernel_rfl)) (fun _ _ _ h => h) (Or.inl ⟨by rfl, ?_⟩) ?_ ?_
     rotate_left
     ·intro w'
      go_simp
      with_reducible rfl
     rotate_left
     ·simp only [Act.put, List.setIfInBounds_toArray, List.set_cons_zero, List.set_cons_succ, i64_w, i32_w]
      rfl
     refine done_ (done_of HT_.out (by kernel_rfl)) ?_
     try go_wp2
     go_meet
     case rel => exact ⟨_, (true), (by first | rfl | (simp; done) | (simp [*]; done)), H', ⟨by first | omega | exact Nat.le_refl _⟩, ⟨by (with_reducible repeat (first | refine zf ?_ _ | refine zi ?_ | refine zg ?_ _)); exact BK237.out⟩, ⟨by repeat (first | (with_reducible first | exact HB.out | apply zc | apply za | apply zb | refine zh ?_ GE237.out) | exact HB.out)⟩⟩
   ·replace c18 := Bool.eq_false_iff.mpr c18
    subst c18
    have H1 : (impl_isAgg.j0 k true a0_0 a0_1 a0_2 a0_3 a0_4 l0_5) = some r := by rw [if_neg (show ¬ (false = true) by decide)] at H; exact H
    clear H
    have H := H1
    clear H1
    have H' := zp.mk H
    clear H
    try go_wp2
    have n0_ := zp.mk (zi BK237.out)
    have n1_ := zp.mk (zb HB.out)
    clear BK237
    clear HB
    have BK237 := n0_
    have HB := n1_
    clear n0_ n1_
    refine start_ (n := 22) (S := fun w' => w'.cell? ⟨gb237, 0, none⟩ = some (.int .i64 a0_0) ∧ w'.cell? ⟨gb237, 1, none⟩ = some (.int .i64 a0_1) ∧ w'.cell? ⟨gb237, 2, none⟩ = some (.int .u64 a0_2) ∧ w'.cell? ⟨gb237, 3, none⟩ = some (.int .i64 a0_3) ∧ w'.cell? ⟨gb237, 4, none⟩ = some (.int .i64 a0_4) ∧ w'.cell? ⟨gb237, 5, none⟩ = some (.slice A0_5 l0_5.length c0_5)) (ds := []) #[false, false, false, false, false, false, false, false, false, false, false, false, false, false, false, false, false, false, false, false, false, false] (by kernel_rfl) rfl rfl ⟨(ze BK237.out 0).trans rfl, (ze BK237.out 1).trans rfl, (ze BK237.out 2).trans rfl, (ze BK237.out 3).trans rfl, (ze BK237.out 4).trans rfl, (ze BK237.out 5).trans rfl⟩ (fun hHeld => ?_); refine with_tabW impl_isAgg.tab3 impl_isAgg.bits3 (fun HT_ HW_ => ?_)
    generalize w15.drew = w24 at BK237 HB hHeld ⊢
    refine pure_ (i := 0) (N := some 31) (v := ?_) (a' := ?_) #[true, false, false, false, false, false, false, false, false, false, false, false, false, false, false, false, false, false, false, false, false, false] rfl rfl (any_of HT_.out (by kernel_rfl)) (fun _ _ _ h => h) (Or.inl ⟨by rfl, ?_⟩) ?_ ?_
    rotate_left
    ·intro w'
     go_simp
     with_reducible rfl
    rotate_left
    ·simp only [Act.put, List.setIfInBounds_toArray, List.set_cons_zero, List.set_cons_succ, i64_w, i32_w]
     rfl
    refine take_ (i := 1) (N := some 32) (v := ?_) (a' := ?_) #[true, true, false, false, false, false, false, false, false, false, false, false, false, false, false, false, false, false, false, false, false, false] rfl rfl (take_ofW HT_.out HW_.out (by kernel_rfl)) (fun _ _ _ h => h) (Or.inl ⟨by rfl, ?_⟩) hHeld ?_ ?_
    rotate_left
    ·rintro w' ⟨s0, s1, s2, s3, s4, s5⟩
     go_simp
     with_reducible rfl
    rotate_left
    ·simp only [Act.put, List.setIfInBounds_toArray, List.set_cons_zero, List.set_cons_succ, i64_w, i32_w]
     rfl
    refine one_ (i := 2) (N := some 33) #[true, true, true, false, false, false, false, false, false, false, false, false, false, false, false, false, false, false, false, false, false, false] rfl rfl (one_of HT_.out (by kernel_rfl)) (by decide) (fun K hK => ?_)
    refine goes_ Try.func46 (by kernel_rfl) rfl #[.int .i64 a0_0, .int .i64 1, .int .i64 1000000] (by rfl) rfl rfl (by (try simp only [List.map_toArray, List.map_cons, List.map_nil]); first | done | rfl | (simp only [List.length_drop, List.length_take]; rfl)) ?_
    with_reducible refine (impl_in.calls a0_0 1 1000000 false _ A17.out).mono ?_
    rintro e w' ⟨rfl, ⟨nd, rfl⟩⟩
    refine ⟨_, rfl, ?_⟩
    refine hK.out _ _ ⟨(ze BK237.out 0).trans rfl, (ze BK237.out 1).trans rfl, (ze BK237.out 2).trans rfl, (ze BK237.out 3).trans rfl, (ze BK237.out 4).trans rfl, (ze BK237.out 5).trans rfl⟩ (fun hHeld => ?_)
    clear hK K
    refine norm_ (a' := ?_) ?_ ?_
    rotate_left
    ·show Act.put _ (some 33) _ = _
     simp only [Act.put, List.setIfInBounds_toArray, List.set_cons_zero, List.set_cons_succ, i64_w, i32_w]
     rfl
    refine pure_ (i := 3) (N := some 34) (v := ?_) (a' := ?_) #[true, true, true, true, false, false, false, false, false, false, false, false, false, false, false, false, false, false, false, false, false, false] rfl rfl (any_of HT_.out (by kernel_rfl)) (fun _ _ _ h => h) (Or.inl ⟨by rfl, ?_⟩) ?_ ?_
    rotate_left
    ·intro w'
     go_simp
     with_reducible rfl
    rotate_left
    ·simp only [Act.put, List.setIfInBounds_toArray, List.set_cons_zero, List.set_cons_succ, i64_w, i32_w]
     rfl
    refine pure_ (i := 4) (N := some 35) (v := ?_) (a' := ?_) #[true, true, true, true, true, false, false, false, false, false, false, false, false, false, false, false, false, false, false, false, false, false] rfl rfl (any_of HT_.out (by kernel_rfl)) (fun _ _ _ h => h) (Or.inl ⟨by rfl, ?_⟩) ?_ ?_
    rotate_left
    ·intro w'
     go_simp
     with_reducible rfl
    rotate_left
    ·simp only [Act.put, List.setIfInBounds_toArray, List.set_cons_zero, List.set_cons_succ, i64_w, i32_w]
     rfl
    refine pure_ (i := 5) (N := some 36) (v := undef) (a' := ?_) #[true, true, true, true, true, true, false, false, false, false, false, false, false, false, false, false, false, false, false, false, false, false] rfl rfl (any_of HT_.out (by kernel_rfl)) (fun _ _ _ h => h) (Or.inr ⟨by rfl, rfl⟩) ?_ ?_
    rotate_left
    ·simp only [Act.put, List.setIfInBounds_toArray, List.set_cons_zero, List.set_cons_succ, i64_w, i32_w]
     rfl
    refine pure_ (i := 6) (N := some 37) (v := undef) (a' := ?_) #[true, true, true, true, true, true, true, false, false, false, false, false, false, false, false, false, false, false, false, false, false, false] rfl rfl (any_of HT_.out (by kernel_rfl)) (fun _ _ _ h => h) (Or.inr ⟨by rfl, rfl⟩) ?_ ?_
    rotate_left
    ·simp only [Act.put, List.setIfInBounds_toArray, List.set_cons_zero, List.set_cons_succ, i64_w, i32_w]
     rfl
    refine pure_ (i := 7) (N := some 38) (v := undef) (a' := ?_) #[true, true, true, true, true, true, true, true, false, false, false, false, false, false, false, false, false, false, false, false, false, false] rfl rfl (any_of HT_.out (by kernel_rfl)) (fun _ _ _ h => h) (Or.inr ⟨by rfl, rfl⟩) ?_ ?_
    rotate_left
    ·simp only [Act.put, List.setIfInBounds_toArray, List.set_cons_zero, List.set_cons_succ, i64_w, i32_w]
     rfl
    refine pure_ (i := 8) (N := some 39) (v := undef) (a' := ?_) #[true, true, true, true, true, true, true, true, true, false, false, false, false, false, false, false, false, false, false, false, false, false] rfl rfl (any_of HT_.out (by kernel_rfl)) (fun _ _ _ h => h) (Or.inr ⟨by rfl, rfl⟩) ?_ ?_
    rotate_left
    ·simp only [Act.put, List.setIfInBounds_toArray, List.set_cons_zero, List.set_cons_succ, i64_w, i32_w]
     rfl
    refine pure_ (i := 9) (N := some 40) (v := undef) (a' := ?_) #[true, true, true, true, true, true, true, true, true, true, false, false, false, false, false, false, false, false, false, false, false, false] rfl rfl (any_of HT_.out (by kernel_rfl)) (fun _ _ _ h => h) (Or.inr ⟨by rfl, rfl⟩) ?_ ?_
    rotate_left
    ·simp only [Act.put, List.setIfInBounds_toArray, List.set_cons_zero, List.set_cons_succ, i64_w, i32_w]
     rfl
    refine pure_ (i := 10) (N := some 41) (v := undef) (a' := ?_) #[true, true, true, true, true, true, true, true, true, true, true, false, false, false, false, false, false, false, false, false, false, false] rfl rfl (any_of HT_.out (by kernel_rfl)) (fun _ _ _ h => h) (Or.inr ⟨by rfl, rfl⟩) ?_ ?_
    rotate_left
    ·simp only [Act.put, List.setIfInBounds_toArray, List.set_cons_zero, List.set_cons_succ, i64_w, i32_w]
     rfl
    refine pure_ (i := 11) (N := some 42) (v := undef) (a' := ?_) #[true, true, true, true, true, true, true, true, true, true, true, true, false, false, false, false, false, false, false, false, false, false] rfl rfl (any_of HT_.out (by kernel_rfl)) (fun _ _ _ h => h) (Or.inr ⟨by rfl, rfl⟩) ?_ ?_
    rotate_left
    ·simp only [Act.put, List.setIfInBounds_toArray, List.set_cons_zero, List.set_cons_succ, i64_w, i32_w]
     rfl
    refine pure_ (i := 12) (N := some 43) (v := ?_) (a' := ?_) #[true, true, true, true, true, true, true, true, true, true, true, true, true, false, false, false, false, false, false, false, false, false] rfl rfl (any_of HT_.out (by kernel_rfl)) (fun _ _ _ h => h) (Or.inl ⟨by rfl, ?_⟩) ?_ ?_
    rotate_left
    ·intro w'
     go_simp
     with_reducible rfl
    rotate_left
    ·simp only [Act.put, List.setIfInBounds_toArray, List.set_cons_zero, List.set_cons_succ, i64_w, i32_w]
     rfl
    refine pure_ (i := 13) (N := some 44) (v := ?_) (a' := ?_) #[true, true, true, true, true, true, true, true, true, true, true, true, true, true, false, false, false, false, false, false, false, false] rfl rfl (any_of HT_.out (by kernel_rfl)) (fun _ _ _ h => h) (Or.inl ⟨by rfl, ?_⟩) ?_ ?_
    rotate_left
    ·intro w'
     go_simp
     with_reducible rfl
    rotate_left
    ·simp only [Act.put, List.setIfInBounds_toArray, List.set_cons_zero, List.set_cons_succ, i64_w, i32_w]
     rfl
    refine pure_ (i := 14) (N := some 45) (v := undef) (a' := ?_) #[true, true, true, true, true, true, true, true, true, true, true, true, true, true, true, false, false, false, false, false, false, false] rfl rfl (any_of HT_.out (by kernel_rfl)) (fun _ _ _ h => h) (Or.inr ⟨by rfl, rfl⟩) ?_ ?_
    rotate_left
    ·simp only [Act.put, List.setIfInBounds_toArray, List.set_cons_zero, List.set_cons_succ, i64_w, i32_w]
     rfl
    refine pure_ (i := 15) (N := some 46) (v := undef) (a' := ?_) #[true, true, true, true, true, true, true, true, true, true, true, true, true, true, true, true, false, false, false, false, false, false] rfl rfl (any_of HT_.out (by kernel_rfl)) (fun _ _ _ h => h) (Or.inr ⟨by rfl, rfl⟩) ?_ ?_
    rotate_left
    ·simp only [Act.put, List.setIfInBounds_toArray, List.set_cons_zero, List.set_cons_succ, i64_w, i32_w]
     rfl
    refine pure_ (i := 16) (N := some 47) (v := undef) (a' := ?_) #[true, true, true, true, true, true, true, true, true, true, true, true, true, true, true, true, true, false, false, false, false, false] rfl rfl (any_of HT_.out (by kernel_rfl)) (fun _ _ _ h => h) (Or.inr ⟨by rfl, rfl⟩) ?_ ?_
    rotate_left
    ·simp only [Act.put, List.setIfInBounds_toArray, List.set_cons_zero, List.set_cons_succ, i64_w, i32_w]
     rfl
    refine pure_ (i := 17) (N := some 48) (v := undef) (a' := ?_) #[true, true, true, true, true, true, true, true, true, true, true, true, true, true, true, true, true, true, false, false, false, false] rfl rfl (any_of HT_.out (by kernel_rfl)) (fun _ _ _ h => h) (Or.inr ⟨by rfl, rfl⟩) ?_ ?_
    rotate_left
    ·simp only [Act.put, List.setIfInBounds_toArray, List.set_cons_zero, List.set_cons_succ, i64_w, i32_w]
     rfl
    refine pure_ (i := 18) (N := some 49) (v := undef) (a' := ?_) #[true, true, true, true, true, true, true, true, true, true, true, true, true, true, true, true, true, true, true, false, false, false] rfl rfl (any_of HT_.out (by kernel_rfl)) (fun _ _ _ h => h) (Or.inr ⟨by rfl, rfl⟩) ?_ ?_
    rotate_left
    ·simp only [Act.put, List.setIfInBounds_toArray, List.set_cons_zero, List.set_cons_succ, i64_w, i32_w]
     rfl
    refine pure_ (i := 19) (N := some 50) (v := undef) (a' := ?_) #[true, true, true, true, true, true, true, true, true, true, true, true, true, true, true, true, true, true, true, true, false, false] rfl rfl (any_of HT_.out (by kernel_rfl)) (fun _ _ _ h => h) (Or.inr ⟨by rfl, rfl⟩) ?_ ?_
    rotate_left
    ·simp only [Act.put, List.setIfInBounds_toArray, List.set_cons_zero, List.set_cons_succ, i64_w, i32_w]
     rfl
    refine pure_ (i := 20) (N := some 51) (v := undef) (a' := ?_) #[true, true, true, true, true, true, true, true, true, true, true, true, true, true, true, true, true, true, true, true, true, false] rfl rfl (any_of HT_.out (by kernel_rfl)) (fun _ _ _ h => h) (Or.inr ⟨by rfl, rfl⟩) ?_ ?_
    rotate_left
    ·simp only [Act.put, List.setIfInBounds_toArray, List.set_cons_zero, List.set_cons_succ, i64_w, i32_w]
     rfl
    refine pure_ (i := 21) (N := some 52) (v := ?_) (a' := ?_) #[true, true, true, true, true, true, true, true, true, true, true, true, true, true, true, true, true, true, true, true, true, true] rfl rfl (any_of HT_.out (by kernel_rfl)) (fun _ _ _ h => h) (Or.inl ⟨by rfl, ?_⟩) ?_ ?_
    rotate_left
    ·intro w'
     go_simp
     with_reducible rfl
    rotate_left
    ·simp only [Act.put, List.setIfInBounds_toArray, List.set_cons_zero, List.set_cons_succ, i64_w, i32_w]
     rfl
    refine done_ (done_of HT_.out (by kernel_rfl)) ?_
    try go_wp2
    go_meet
    case rel => exact ⟨_, (true), (by first | rfl | (simp; done) | (simp [*]; done)), H', ⟨by first | omega | exact Nat.le_refl _⟩, ⟨by (with_reducible repeat (first | refine zf ?_ _ | refine zi ?_ | refine zg ?_ _)); exact BK237.out⟩, ⟨by repeat (first | (with_reducible first | exact HB.out | apply zc | apply za | apply zb | refine zh ?_ GE237.out) | exact HB.out)⟩⟩
  case rest =>
   clear HC14
   try clear c1
   try clear c2
   try clear c2b0
   try clear c2b1
   try clear p2
   try clear q2
   try clear hx2
   try clear qi2
   try clear c3
   try clear c3b0
   try clear c3b1
   try clear c3b2
   try clear c4
   try clear c4b0
   try clear c4b1
   try clear c5
   try clear c5b0
   try clear c5b1
   try clear c18
   try clear c20
   try clear c20b0
   try clear c20b1
   try clear c21
   try clear c21b0
   try clear c21b1
   try clear p23
   try clear q23
   try clear hx23
   try clear qi23
   try clear hcz11_0
   try clear hcz11_1
   try clear hcz11_2
   try clear hcz11_3
   try clear hcz11_4
   try clear hcz11_5
   try clear hcz13_0
   try clear hcz13_1
   try clear hcz13_2
   try clear hcz13_3
   try clear hcz13_4
   try clear hcz13_5
   try clear hcz16_0
   try clear hcz16_1
   try clear hcz16_2
   try clear hcz16_3
   try clear hcz16_4
   try clear hcz16_5
   try clear hcz9_0
   try clear hcz9_1
   try clear hcz9_2
   try clear hcz9_3
   try clear hcz9_4
   try clear hcz9_5
   try clear hfz11_0
   try clear hfz11_1
   try clear hfz11_2
   try clear hfz11_3
   try clear hfz11_4
   try clear hfz11_5
   try clear hfz13_0
   try clear hfz13_1
   try clear hfz13_2
   try clear hfz13_3
   try clear hfz13_4
   try clear hfz13_5
   try clear hfz16_0
   try clear hfz16_1
   try clear hfz16_2
   try clear hfz16_3
   try clear hfz16_4
   try clear hfz16_5
   try clear hfz9_0
   try clear hfz9_1
   try clear hfz9_2
   try clear hfz9_3
   try clear hfz9_4
   try clear hfz9_5
   try clear hx239_0
   try clear p239
   try clear q239
   obtain ⟨kq, x52_13, rfl, HA, HJ13, BK237, HB⟩ := hcut
   cases kq with
   | zero => exact absurd HA.out (by simp [impl_isAgg.j0])
   | succ kj13 =>
    have H := HA.out
    clear HA
    simp only [impl_isAgg.j0] at H
    by_cases c25 : x52_13 = true
    ·subst c25
     have H1 : (some false) = some r := by rw [if_pos rfl] at H; exact H
     clear H
     have H := H1
     clear H1
     obtain rfl := Option.some.inj H
     go_wp2
     go_ret
     exact ⟨by first | rfl | (simp [errW_none, errW_some] <;> rfl) | (simp [*, errW_none, errW_some] <;> rfl), by repeat (first | (with_reducible first | exact HB.out | apply zc | apply za | apply zb | refine zh ?_ GE237.out) | exact HB.out)⟩
    ·replace c25 := Bool.eq_false_iff.mpr c25
     subst c25
     have H1 : (impl_isAgg.l0 kj13 l0_5 (l0_5.length : Int) 0 a0_0 a0_1 a0_2 a0_3 a0_4 l0_5 a0_1 a0_2) = some r := by rw [if_neg (show ¬ (false = true) by decide)] at H; exact H
     clear H
     have H := H1
     clear H1
     have H' := zp.mk H
     clear H
     have hcz26_0 : wc.cell? ⟨gb237, 0, none⟩ = some (.int .i64 a0_0) := (ze BK237.out 0).trans rfl
     have hcz26_1 : wc.cell? ⟨gb237, 1, none⟩ = some (.int .i64 a0_1) := (ze BK237.out 1).trans rfl
     have hcz26_2 : wc.cell? ⟨gb237, 2, none⟩ = some (.int .u64 a0_2) := (ze BK237.out 2).trans rfl
     have hcz26_3 : wc.cell? ⟨gb237, 3, none⟩ = some (.int .i64 a0_3) := (ze BK237.out 3).trans rfl
     have hcz26_4 : wc.cell? ⟨gb237, 4, none⟩ = some (.int .i64 a0_4) := (ze BK237.out 4).trans rfl
     have hcz26_5 : wc.cell? ⟨gb237, 5, none⟩ = some (.slice A0_5 l0_5.length c0_5) := (ze BK237.out 5).trans rfl
     have hfz26_0 := zd BK237.out 0
     have hfz26_1 := zd BK237.out 1
     have hfz26_2 := zd BK237.out 2
     have hfz26_3 := zd BK237.out 3
     have hfz26_4 := zd BK237.out 4
     have hfz26_5 := zd BK237.out 5
     go_wp2_with (first | ((with_reducible refine zo (N := 3) rfl ?_); (try (refine gate_guard (by rfl) ?_; dsimp only)); refine zm ?hg (N := 3) ?hd (cs := #[.int .i64 0, .int .u64 0]) (t := 30) ?hr ?_; (case hd => rfl); (case hg => rfl); (case hr => first | (go_simp; done) | (go_simp; rfl)); intro gb240 hg w27 hbox hb; have n0_ := zp.mk (zl (g := gb237) (o := .cells #[.int .i64 a0_0, .int .i64 a0_1, .int .u64 a0_2, .int .i64 a0_3, .int .i64 a0_4, .slice A0_5 l0_5.length c0_5] 32 (0, 0)) (by (with_reducible repeat (first | refine zf ?_ _ | refine zi ?_ | refine zg ?_ _)); exact BK237.out) hb); have n1_ := zp.mk (zj (by repeat (first | (with_reducible first | exact HB.out | apply zc | apply za | apply zb | refine zh ?_ GE237.out) | exact HB.out)) hb); have n2_ := zp.mk (hbox); have n3_ := zp.mk ((by rw [hg]; exact (zk (by repeat (first | (with_reducible first | exact HB.out | apply zc | apply za | apply zb | refine zh ?_ GE237.out) | exact HB.out))) : w.heap.size ≤ gb240)); have n4_ := zp.mk ((by rw [hg]; exact (zk (by repeat (first | (with_reducible first | exact HB.out | apply zc | apply za | apply zb | refine zh ?_ GE237.out) | exact HB.out))) : w.heap.size ≤ gb240)); have n5_ := zp.mk ((by rw [hg]; exact Nat.ne_of_lt (blk_lt (g := gb237) (o := .cells #[.int .i64 a0_0, .int .i64 a0_1, .int .u64 a0_2, .int .i64 a0_3, .int .i64 a0_4, .slice A0_5 l0_5.length c0_5] 32 (0, 0)) (by (with_reducible repeat (first | refine zf ?_ _ | refine zi ?_ | refine zg ?_ _)); exact BK237.out)) : gb237 ≠ gb240)); have n6_ := zp.mk ((by rw [hg]; exact Nat.ne_of_gt (blk_lt (g := gb237) (o := .cells #[.int .i64 a0_0, .int .i64 a0_1, .int .u64 a0_2, .int .i64 a0_3, .int .i64 a0_4, .slice A0_5 l0_5.length c0_5] 32 (0, 0)) (by (with_reducible repeat (first | refine zf ?_ _ | refine zi ?_ | refine zg ?_ _)); exact BK237.out)) : gb240 ≠ gb237)); clear BK237; clear HB; have BK237 := n0_; have HB := n1_; have BK240 := n2_; have GW240 := n3_; have GE240 := n4_; have NB237_240 := n5_; have NB240_237 := n6_; clear n0_ n1_ n2_ n3_ n4_ n5_ n6_; clear hb hbox hg; have hnb28 := NB240_237.out; have hnc28 := NB237_240.out; have hcz29_0 : w27.cell? ⟨gb240, 0, none⟩ = some (.int .i64 0) := (ze BK240.out 0).trans rfl; have hcz29_1 : w27.cell? ⟨gb240, 1, none⟩ = some (.int .u64 0) := (ze BK240.out 1).trans rfl; have hfz29_0 := zd BK240.out 0; have hfz29_1 := zd BK240.out 1; have hcz30_0 : w27.cell? ⟨gb237, 0, none⟩ = some (.int .i64 a0_0) := (ze BK237.out 0).trans rfl; have hcz30_1 : w27.cell? ⟨gb237, 1, none⟩ = some (.int .i64 a0_1) := (ze BK237.out 1).trans rfl; have hcz30_2 : w27.cell? ⟨gb237, 2, none⟩ = some (.int .u64 a0_2) := (ze BK237.out 2).trans rfl; have hcz30_3 : w27.cell? ⟨gb237, 3, none⟩ = some (.int .i64 a0_3) := (ze BK237.out 3).trans rfl; have hcz30_4 : w27.cell? ⟨gb237, 4, none⟩ = some (.int .i64 a0_4) := (ze BK237.out 4).trans rfl; have hcz30_5 : w27.cell? ⟨gb237, 5, none⟩ = some (.slice A0_5 l0_5.length c0_5) := (ze BK237.out 5).trans rfl; have hfz30_0 := zd BK237.out 0; have hfz30_1 := zd BK237.out 1; have hfz30_2 := zd BK237.out 2; have hfz30_3 := zd BK237.out 3; have hfz30_4 := zd BK237.out 4; have hfz30_5 := zd BK237.out 5))
     go_loopg [58] kj13 (fun kq v58 w' => ∃ (x58_2 : Int) (x241000_2 : Int) (x241001_2 : Int), v58 = .int .i64 x58_2 ∧ zp (impl_isAgg.l0 kq l0_5 (l0_5.length : Int) x58_2 a0_0 a0_1 a0_2 a0_3 a0_4 l0_5 x241000_2 x241001_2 = some r) ∧ zp (kq ≤ kj13) ∧ zp (w'.heap[gb237]? = some (.cells #[.int .i64 a0_0, .int .i64 a0_1, .int .u64 a0_2, .int .i64 a0_3, .int .i64 a0_4, (.slice A0_5 l0_5.length c0_5)] 32 (0, 0))) ∧ zp (w'.heap[gb240]? = some (.cells #[.int .i64 x241000_2, .int .u64 x241001_2] 30 (0, 0))) ∧ zp (Below w.heap.size w w'))
     case atStart => exact ⟨(0), (a0_1), (a0_2), (by first | rfl | (simp; done) | (simp [*]; done)), H', ⟨Nat.le_refl _⟩, ⟨by (with_reducible repeat (first | refine zf ?_ _ | refine zi ?_ | refine zg ?_ _)); refine blk_far ?_ NB237_240.out _; (with_reducible repeat (first | refine zf ?_ _ | refine zi ?_ | refine zg ?_ _)); refine blk_far ?_ NB237_240.out _; (with_reducible repeat (first | refine zf ?_ _ | refine zi ?_ | refine zg ?_ _)); exact BK237.out⟩, ⟨by (with_reducible repeat (first | refine zf ?_ _ | refine zi ?_ | refine zg ?_ _)); refine blk_put (cs := #[.int .i64 a0_1, .int .u64 0]) ?_ 1 _ rfl; (with_reducible repeat (first | refine zf ?_ _ | refine zi ?_ | refine zg ?_ _)); refine blk_put (cs := #[.int .i64 0, .int .u64 0]) ?_ 0 _ rfl; (with_reducible repeat (first | refine zf ?_ _ | refine zi ?_ | refine zg ?_ _)); exact BK240.out⟩, ⟨by repeat (first | (with_reducible first | exact HB.out | apply zc | apply za | apply zb | refine zh ?_ GE237.out | refine zh ?_ GE240.out) | exact HB.out)⟩⟩
     case round =>
      clear H'
      try clear c1
      try clear c2
      try clear c2b0
      try clear c2b1
      try clear p2
      try clear q2
      try clear hx2
      try clear qi2
      try clear c3
      try clear c3b0
      try clear c3b1
      try clear c3b2
      try clear c4
      try clear c4b0
      try clear c4b1
      try clear c5
      try clear c5b0
      try clear c5b1
      try clear c18
      try clear c20
      try clear c20b0
      try clear c20b1
      try clear c21
      try clear c21b0
      try clear c21b1
      try clear p23
      try clear q23
      try clear hx23
      try clear qi23
      try clear c25
      try clear c28
      try clear hcz11_0
      try clear hcz11_1
      try clear hcz11_2
      try clear hcz11_3
      try clear hcz11_4
      try clear hcz11_5
      try clear hcz13_0
      try clear hcz13_1
      try clear hcz13_2
      try clear hcz13_3
      try clear hcz13_4
      try clear hcz13_5
      try clear hcz16_0
      try clear hcz16_1
      try clear hcz16_2
      try clear hcz16_3
      try clear hcz16_4
      try clear hcz16_5
      try clear hcz26_0
      try clear hcz26_1
      try clear hcz26_2
      try clear hcz26_3
      try clear hcz26_4
      try clear hcz26_5
      try clear hcz29_0
      try clear hcz29_1
      try clear hcz30_0
      try clear hcz30_1
      try clear hcz30_2
      try clear hcz30_3
      try clear hcz30_4
      try clear hcz30_5
      try clear hcz9_0
      try clear hcz9_1
      try clear hcz9_2
      try clear hcz9_3
      try clear hcz9_4
      try clear hcz9_5
      try clear hfz11_0
      try clear hfz11_1
      try clear hfz11_2
      try clear hfz11_3
      try clear hfz11_4
      try clear hfz11_5
      try clear hfz13_0
      try clear hfz13_1
      try clear hfz13_2
      try clear hfz13_3
      try clear hfz13_4
      try clear hfz13_5
      try clear hfz16_0
      try clear hfz16_1
      try clear hfz16_2
      try clear hfz16_3
      try clear hfz16_4
      try clear hfz16_5
      try clear hfz26_0
      try clear hfz26_1
      try clear hfz26_2
      try clear hfz26_3
      try clear hfz26_4
      try clear hfz26_5
      try clear hfz29_0
      try clear hfz29_1
      try clear hfz30_0
      try clear hfz30_1
      try clear hfz30_2
      try clear hfz30_3
      try clear hfz30_4
      try clear hfz30_5
      try clear hfz9_0
      try clear hfz9_1
      try clear hfz9_2
      try clear hfz9_3
      try clear hfz9_4
      try clear hfz9_5
      try clear hx239_0
      try clear p2
      try clear p23
      try clear p239
      try clear q2
      try clear q23
      try clear q239
      obtain ⟨x58_2, x241000_2, x241001_2, rfl, HA, HK2, BK237, BK240, HB⟩ := hrel
      cases gk with
      | zero => exact absurd HA.out (by simp [impl_isAgg.l0])
      | succ k2 =>
       have H := HA.out
       clear HA
       simp only [impl_isAgg.l0] at H
       by_cases c31 : x58_2 < (l0_5.length : Int)
       ·rw [if_pos c31] at H
        have c31b0 : decide (x58_2 < (l0_5.length : Int)) = true := decide_eq_true c31
        clear c31
        by_cases c32 : 0 ≤ x58_2
        ·rw [if_pos c32] at H
         have c32b0 : decide (0 ≤ x58_2) = true := decide_eq_true c32
         clear c32
         by_cases c33 : x58_2 < (l0_5.length : Int)
         ·rw [if_pos c33] at H
          have c33b0 : decide (x58_2 < (l0_5.length : Int)) = true := decide_eq_true c33
          clear c33
          have HC34 := zp.mk H
          clear H
          have p241 : 0 ≤ (x58_2 : Int) := of_decide_eq_true (by first | (with_reducible assumption) | assumption)
          have q241 : x58_2 < (l0_5.length : Int) := of_decide_eq_true (by first | (with_reducible assumption) | assumption)
          obtain ⟨ad241, e241, hx241_0⟩ := Kd.at_int HR0_5.out x58_2 p241 q241
          cases e241
          replace hx241_0 := (HB.out.cell (World.block_lt_of_cell? w _ hx241_0)).trans hx241_0
          replace p241 := eq_true p241
          replace q241 := eq_true q241
          go_upto_region 9 with (fail)
          go_cut [74] (fun v74 wc => ∃ (kq : Nat) (x74_33 : Bool), v74 = .bool x74_33 ∧ zp (impl_isAgg.j2 kq (rd l0_5 x58_2) l0_5 (l0_5.length : Int) x58_2 x74_33 a0_0 a0_1 a0_2 a0_3 a0_4 l0_5 x241000_2 x241001_2 = some r) ∧ zp (kq ≤ k2) ∧ zp (wc.heap[gb237]? = some (.cells #[.int .i64 a0_0, .int .i64 a0_1, .int .u64 a0_2, .int .i64 a0_3, .int .i64 a0_4, (.slice (some ad241) l0_5.length c0_5)] 32 (0, 0))) ∧ zp (wc.heap[gb240]? = some (.cells #[.int .i64 x241000_2, .int .u64 x241001_2] 30 (0, 0))) ∧ zp (Below w.heap.size w wc))
          case first =>
           have H := HC34.out
           clear HC34
           by_cases c35 : x58_2 > 0
           ·rw [if_pos c35] at H
            have c35b0 : decide (0 < x58_2) = true := decide_eq_true c35
            clear c35
            (first | rw [c35b0] | (simp only [i64_w, i32_w]; rw [c35b0]) | skip)
            obtain ⟨ji36, hji36⟩ : ∃ j_ : Int, (wrap64 (x58_2 - 1)) = j_ := ⟨_, rfl⟩
            replace H : (if 0 ≤ (ji36) then (if (ji36) < (l0_5.length : Int) then (impl_isAgg.j2 k2 (rd l0_5 x58_2) l0_5 (l0_5.length : Int) x58_2 (decide ((rd l0_5 x58_2) > (rd l0_5 (ji36)))) a0_0 a0_1 a0_2 a0_3 a0_4 l0_5 x241000_2 x241001_2) else (none)) else (none)) = some r := by first | (rw [hji36] at H; exact H) | (simp only [hji36] at H ⊢; exact H)
            have hji36w : (IntKind.i64.wrap (x58_2 - 1)) = ji36 := (i64_w _).trans hji36
            by_cases c37 : 0 ≤ (ji36)
            ·rw [if_pos c37] at H
             have c37b0 : decide (0 ≤ (ji36)) = true := decide_eq_true c37
             clear c37
             by_cases c38 : (ji36) < (l0_5.length : Int)
             ·rw [if_pos c38] at H
              have c38b0 : decide ((ji36) < (l0_5.length : Int)) = true := decide_eq_true c38
              clear c38
              have H' := zp.mk H
              clear H
              have hnb39 := NB237_240.out
              have hnc39 := NB240_237.out
              have hcz40_0 : wr.cell? ⟨gb237, 0, none⟩ = some (.int .i64 a0_0) := (ze BK237.out 0).trans rfl
              have hcz40_1 : wr.cell? ⟨gb237, 1, none⟩ = some (.int .i64 a0_1) := (ze BK237.out 1).trans rfl
              have hcz40_2 : wr.cell? ⟨gb237, 2, none⟩ = some (.int .u64 a0_2) := (ze BK237.out 2).trans rfl
              have hcz40_3 : wr.cell? ⟨gb237, 3, none⟩ = some (.int .i64 a0_3) := (ze BK237.out 3).trans rfl
              have hcz40_4 : wr.cell? ⟨gb237, 4, none⟩ = some (.int .i64 a0_4) := (ze BK237.out 4).trans rfl
              have hcz40_5 : wr.cell? ⟨gb237, 5, none⟩ = some (.slice (some ad241) l0_5.length c0_5) := (ze BK237.out 5).trans rfl
              have hfz40_0 := zd BK237.out 0
              have hfz40_1 := zd BK237.out 1
              have hfz40_2 := zd BK237.out 2
              have hfz40_3 := zd BK237.out 3
              have hfz40_4 := zd BK237.out 4
              have hfz40_5 := zd BK237.out 5
              have p242 : 0 ≤ ((ji36) : Int) := of_decide_eq_true (by first | (with_reducible assumption) | assumption)
              have q242 : (ji36) < (l0_5.length : Int) := of_decide_eq_true (by first | (with_reducible assumption) | assumption)
              obtain ⟨ad242, e242, hx242_0⟩ := Kd.at_int HR0_5.out (ji36) p242 q242
              obtain rfl : ad241 = ad242 := (by injection e242)
              replace hx242_0 := (HB.out.cell (World.block_lt_of_cell? w _ hx242_0)).trans hx242_0
              replace p242 := eq_true p242
              replace q242 := eq_true q242
              go_wp2
              go_meet
              case rel => exact ⟨_, (decide ((rd l0_5 x58_2) > (rd l0_5 (ji36)))), (by first | rfl | (simp; done) | (simp only [← hji36] <;> (first | rfl | simp)) | (simp [*]; done)), H', ⟨by have := HJ13.out; have := HK2.out; first | omega | exact Nat.le_refl _⟩, ⟨by (with_reducible repeat (first | refine zf ?_ _ | refine zi ?_ | refine zg ?_ _)); exact BK237.out⟩, ⟨by (with_reducible repeat (first | refine zf ?_ _ | refine zi ?_ | refine zg ?_ _)); exact BK240.out⟩, ⟨by repeat (first | (with_reducible first | exact HB.out | apply zc | apply za | apply zb | refine zh ?_ GE237.out | refine zh ?_ GE240.out) | exact HB.out)⟩⟩
             ·rw [if_neg c38] at H
              exact absurd H (by simp)
            ·rw [if_neg c37] at H
             exact absurd H (by simp)
           ·rw [if_neg c35] at H
            have c35b0 : decide (0 < x58_2) = false := decide_eq_false c35
            clear c35
            (first | rw [c35b0] | (simp only [i64_w, i32_w]; rw [c35b0]) | skip)
            have H' := zp.mk H
            clear H
            go_wp2
            go_meet
            case rel => exact ⟨_, (false), (by first | rfl | (simp; done) | (simp [*]; done)), H', ⟨by have := HJ13.out; have := HK2.out; first | omega | exact Nat.le_refl _⟩, ⟨by (with_reducible repeat (first | refine zf ?_ _ | refine zi ?_ | refine zg ?_ _)); exact BK237.out⟩, ⟨by (with_reducible repeat (first | refine zf ?_ _ | refine zi ?_ | refine zg ?_ _)); exact BK240.out⟩, ⟨by repeat (first | (with_reducible first | exact HB.out | apply zc | apply za | apply zb | refine zh ?_ GE237.out | refine zh ?_ GE240.out) | exact HB.out)⟩⟩
          case rest =>
           clear HC34
           try clear c1
           try clear c2
           try clear c2b0
           try clear c2b1
           try clear p2
           try clear q2
           try clear hx2
           try clear qi2
           try clear c3
           try clear c3b0
           try clear c3b1
           try clear c3b2
           try clear c4
           try clear c4b0
           try clear c4b1
           try clear c5
           try clear c5b0
           try clear c5b1
           try clear p6
           try clear c18
           try clear c20
           try clear c20b0
           try clear c20b1
           try clear c21
           try clear c21b0
           try clear c21b1
           try clear p23
           try clear q23
           try clear hx23
           try clear qi23
           try clear p24
           try clear q24
           try clear hx24
           try clear c25
           try clear c28
           try clear c31
           try clear c31b0
           try clear c32
           try clear c32b0
           try clear c33
           try clear c33b0
           try clear c35
           try clear c35b0
           try clear c37
           try clear c37b0
           try clear c38
           try clear c38b0
           try clear c39
           try clear hcz11_0
           try clear hcz11_1
           try clear hcz11_2
           try clear hcz11_3
           try clear hcz11_4
           try clear hcz11_5
           try clear hcz13_0
           try clear hcz13_1
           try clear hcz13_2
           try clear hcz13_3
           try clear hcz13_4
           try clear hcz13_5
           try clear hcz16_0
           try clear hcz16_1
           try clear hcz16_2
           try clear hcz16_3
           try clear hcz16_4
           try clear hcz16_5
           try clear hcz26_0
           try clear hcz26_1
           try clear hcz26_2
           try clear hcz26_3
           try clear hcz26_4
           try clear hcz26_5
           try clear hcz29_0
           try clear hcz29_1
           try clear hcz30_0
           try clear hcz30_1
           try clear hcz30_2
           try clear hcz30_3
           try clear hcz30_4
           try clear hcz30_5
           try clear hcz40_0
           try clear hcz40_1
           try clear hcz40_2
           try clear hcz40_3
           try clear hcz40_4
           try clear hcz40_5
           try clear hcz9_0
           try clear hcz9_1
           try clear hcz9_2
           try clear hcz9_3
           try clear hcz9_4
           try clear hcz9_5
           try clear hfz11_0
           try clear hfz11_1
           try clear hfz11_2
           try clear hfz11_3
           try clear hfz11_4
           try clear hfz11_5
           try clear hfz13_0
           try clear hfz13_1
           try clear hfz13_2
           try clear hfz13_3
           try clear hfz13_4
           try clear hfz13_5
           try clear hfz16_0
           try clear hfz16_1
           try clear hfz16_2
           try clear hfz16_3
           try clear hfz16_4
           try clear hfz16_5
           try clear hfz26_0
           try clear hfz26_1
           try clear hfz26_2
           try clear hfz26_3
           try clear hfz26_4
           try clear hfz26_5
           try clear hfz29_0
           try clear hfz29_1
           try clear hfz30_0
           try clear hfz30_1
           try clear hfz30_2
           try clear hfz30_3
           try clear hfz30_4
           try clear hfz30_5
           try clear hfz40_0
           try clear hfz40_1
           try clear hfz40_2
           try clear hfz40_3
           try clear hfz40_4
           try clear hfz40_5
           try clear hfz9_0
           try clear hfz9_1
           try clear hfz9_2
           try clear hfz9_3
           try clear hfz9_4
           try clear hfz9_5
           try clear hx239_0
           try clear hx241_0
           try clear hx242_0
           try clear p2
           try clear p23
           try clear p239
           try clear p241
           try clear p242
           try clear q2
           try clear q23
           try clear q239
           try clear q241
           try clear q242
           obtain ⟨kq, x74_33, rfl, HA, HJ33, BK237, BK240, HB⟩ := hcut
           cases kq with
           | zero => exact absurd HA.out (by simp [impl_isAgg.j2])
           | succ kj33 =>
            have H := HA.out
            clear HA
            simp only [impl_isAgg.j2] at H
            by_cases c41 : x74_33 = true
            ·subst c41
             have H1 : (some false) = some r := by rw [if_pos rfl] at H; exact H
             clear H
             have H := H1
             clear H1
             obtain rfl := Option.some.inj H
             go_wp2
             go_ret
             exact ⟨by first | rfl | (simp [errW_none, errW_some] <;> rfl) | (simp [*, errW_none, errW_some] <;> rfl), by repeat (first | (with_reducible first | exact HB.out | apply zc | apply za | apply zb | refine zh ?_ GE237.out | refine zh ?_ GE240.out) | exact HB.out)⟩
            ·replace c41 := Bool.eq_false_iff.mpr c41
             subst c41
             have H1 : ((impl_WideOf.f (rd l0_5 x58_2)).bind fun bt243 => ((impl_WideNeg.f bt243.1 bt243.2).bind fun bt245 => ((impl_WideAdd.f x241000_2 x241001_2 bt245.1 bt245.2).bind fun bt247 => (impl_isAgg.l0 kj33 l0_5 (l0_5.length : Int) (wrap64 (x58_2 + 1)) a0_0 a0_1 a0_2 a0_3 a0_4 l0_5 bt247.1 bt247.2)))) = some r := by rw [if_neg (show ¬ (false = true) by decide)] at H; exact H
             clear H
             have H := H1
             clear H1
             replace H := Option.bind_eq_some_iff.mp H
             obtain ⟨⟨t243, t244⟩, A420, H⟩ := H
             replace H : ((impl_WideNeg.f t243 t244).bind fun bt245 => ((impl_WideAdd.f x241000_2 x241001_2 bt245.1 bt245.2).bind fun bt247 => (impl_isAgg.l0 kj33 l0_5 (l0_5.length : Int) (wrap64 (x58_2 + 1)) a0_0 a0_1 a0_2 a0_3 a0_4 l0_5 bt247.1 bt247.2))) = some r := H
             have A42 := zp.mk A420
             clear A420
             replace H := Option.bind_eq_some_iff.mp H
             obtain ⟨⟨t245, t246⟩, A430, H⟩ := H
             replace H : ((impl_WideAdd.f x241000_2 x241001_2 t245 t246).bind fun bt247 => (impl_isAgg.l0 kj33 l0_5 (l0_5.length : Int) (wrap64 (x58_2 + 1)) a0_0 a0_1 a0_2 a0_3 a0_4 l0_5 bt247.1 bt247.2)) = some r := H
             have A43 := zp.mk A430
             clear A430
             replace H := Option.bind_eq_some_iff.mp H
             obtain ⟨⟨t247, t248⟩, A440, H⟩ := H
             replace H : (impl_isAgg.l0 kj33 l0_5 (l0_5.length : Int) (wrap64 (x58_2 + 1)) a0_0 a0_1 a0_2 a0_3 a0_4 l0_5 t247 t248) = some r := H
             have A44 := zp.mk A440
             clear A440
             have H' := zp.mk H
             clear H
             try go_wp2
             have n0_ := zp.mk (zi BK237.out)
             have n1_ := zp.mk (zi BK240.out)
             have n2_ := zp.mk (zb HB.out)
             clear BK237
             clear BK240
             clear HB
             have BK237 := n0_
             have BK240 := n1_
             have HB := n2_
             clear n0_ n1_ n2_
             refine start_ (n := 6) (S := fun w' => w'.cell? ⟨gb240, 0, none⟩ = some (.int .i64 x241000_2) ∧ w'.cell? ⟨gb240, 1, none⟩ = some (.int .u64 x241001_2)) (ds := [5]) #[false, false, false, false, false, false] (by kernel_rfl) rfl rfl ⟨(ze BK240.out 0).trans rfl, (ze BK240.out 1).trans rfl⟩ (fun hHeld => ?_)
             generalize wc.drew = w45 at BK237 BK240 HB hHeld ⊢
             refine pure_ (i := 1) (N := some 76) (v := ?_) (a' := ?_) #[false, true, false, false, false, false] rfl rfl (by kernel_rfl) (fun _ _ _ h => h) (Or.inl ⟨by rfl, ?_⟩) ?_ ?_
             rotate_left
             ·intro w'
              go_simp
              with_reducible rfl
             rotate_left
             ·simp only [Act.put, List.setIfInBounds_toArray, List.set_cons_zero, List.set_cons_succ, i64_w, i32_w]
              rfl
             refine take_ (i := 0) (N := some 75) (v := ?_) (a' := ?_) #[true, true, false, false, false, false] rfl rfl (by kernel_rfl) (fun _ _ _ h => h) (Or.inl ⟨by rfl, ?_⟩) hHeld ?_ ?_
             rotate_left
             ·rintro w' ⟨s0, s1⟩
              go_simp
              with_reducible rfl
             rotate_left
             ·simp only [Act.put, List.setIfInBounds_toArray, List.set_cons_zero, List.set_cons_succ, i64_w, i32_w]
              rfl
             refine one_ (i := 2) (N := some 77) #[true, true, true, false, false, false] rfl rfl (by kernel_rfl) (by decide) (fun K hK => ?_)
             refine goes_ Try.func49 (by kernel_rfl) rfl #[.int .i64 (rd l0_5 x58_2)] (by rfl) rfl rfl (by (try simp only [List.map_toArray, List.map_cons, List.map_nil]); first | done | rfl | (simp only [List.length_drop, List.length_take]; rfl)) ?_
             with_reducible refine (impl_WideOf.calls (rd l0_5 x58_2) t243 t244 _ A42.out).mono ?_
             rintro e w46 ⟨rfl, hb⟩
             refine ⟨_, rfl, ?_⟩
             have n0_ := zp.mk (zl (g := gb237) (o := .cells #[.int .i64 a0_0, .int .i64 a0_1, .int .u64 a0_2, .int .i64 a0_3, .int .i64 a0_4, .slice (some ad241) l0_5.length c0_5] 32 (0, 0)) (by (with_reducible repeat (first | refine zf ?_ _ | refine zi ?_ | refine zg ?_ _)); exact BK237.out) hb)
             have n1_ := zp.mk (zl (g := gb240) (o := .cells #[.int .i64 x241000_2, .int .u64 x241001_2] 30 (0, 0)) (by (with_reducible repeat (first | refine zf ?_ _ | refine zi ?_ | refine zg ?_ _)); exact BK240.out) hb)
             have n2_ := zp.mk (zj (by repeat (first | (with_reducible first | exact HB.out | apply zc | apply za | apply zb | refine zh ?_ GE237.out | refine zh ?_ GE240.out) | exact HB.out)) hb)
             clear BK237
             clear BK240
             clear HB
             have BK237 := n0_
             have BK240 := n1_
             have HB := n2_
             clear n0_ n1_ n2_
             (try clear hb)
             (try clear hb2)
             (try clear hk)
             (try clear hi)
             refine hK.out _ _ ⟨(ze BK240.out 0).trans rfl, (ze BK240.out 1).trans rfl⟩ (fun hHeld => ?_)
             clear hK K
             refine norm_ (a' := ?_) ?_ ?_
             rotate_left
             ·show Act.put _ (some 77) _ = _
              simp only [Act.put, List.setIfInBounds_toArray, List.set_cons_zero, List.set_cons_succ, i64_w, i32_w]
              rfl
             refine one_ (i := 3) (N := some 78) #[true, true, true, true, false, false] rfl rfl (by kernel_rfl) (by decide) (fun K hK => ?_)
             refine goes_ Try.func48 (by kernel_rfl) rfl #[.agg #[.int .i64 t243, .int .u64 t244]] (by rfl) rfl rfl (by (try simp only [List.map_toArray, List.map_cons, List.map_nil]); first | done | rfl | (simp only [List.length_drop, List.length_take]; rfl)) ?_
             with_reducible refine (impl_WideNeg.calls t243 t244 t245 t246 _ A43.out).mono ?_
             rintro e w47 ⟨rfl, hb⟩
             refine ⟨_, rfl, ?_⟩
             have n0_ := zp.mk (zl (g := gb237) (o := .cells #[.int .i64 a0_0, .int .i64 a0_1, .int .u64 a0_2, .int .i64 a0_3, .int .i64 a0_4, .slice (some ad241) l0_5.length c0_5] 32 (0, 0)) (by (with_reducible repeat (first | refine zf ?_ _ | refine zi ?_ | refine zg ?_ _)); exact BK237.out) hb)
             have n1_ := zp.mk (zl (g := gb240) (o := .cells #[.int .i64 x241000_2, .int .u64 x241001_2] 30 (0, 0)) (by (with_reducible repeat (first | refine zf ?_ _ | refine zi ?_ | refine zg ?_ _)); exact BK240.out) hb)
             have n2_ := zp.mk (zj (by repeat (first | (with_reducible first | exact HB.out | apply zc | apply za | apply zb | refine zh ?_ GE237.out | refine zh ?_ GE240.out) | exact HB.out)) hb)
             clear BK237
             clear BK240
             clear HB
             have BK237 := n0_
             have BK240 := n1_
             have HB := n2_
             clear n0_ n1_ n2_
             (try clear hb)
             (try clear hb2)
             (try clear hk)
             (try clear hi)
             refine hK.out _ _ ⟨(ze BK240.out 0).trans rfl, (ze BK240.out 1).trans rfl⟩ (fun hHeld => ?_)
             clear hK K
             refine norm_ (a' := ?_) ?_ ?_
             rotate_left
             ·show Act.put _ (some 78) _ = _
              simp only [Act.put, List.setIfInBounds_toArray, List.set_cons_zero, List.set_cons_succ, i64_w, i32_w]
              rfl
             refine one_ (i := 4) (N := some 79) #[true, true, true, true, true, false] rfl rfl (by kernel_rfl) (by decide) (fun K hK => ?_)
             refine goes_ Try.func47 (by kernel_rfl) rfl #[.agg #[.int .i64 x241000_2, .int .u64 x241001_2], .agg #[.int .i64 t245, .int .u64 t246]] (by rfl) rfl rfl (by (try simp only [List.map_toArray, List.map_cons, List.map_nil]); first | done | rfl | (simp only [List.length_drop, List.length_take]; rfl)) ?_
             with_reducible refine (impl_WideAdd.calls x241000_2 x241001_2 t245 t246 t247 t248 _ A44.out).mono ?_
             rintro e w48 ⟨rfl, hb⟩
             refine ⟨_, rfl, ?_⟩
             have n0_ := zp.mk (zl (g := gb237) (o := .cells #[.int .i64 a0_0, .int .i64 a0_1, .int .u64 a0_2, .int .i64 a0_3, .int .i64 a0_4, .slice (some ad241) l0_5.length c0_5] 32 (0, 0)) (by (with_reducible repeat (first | refine zf ?_ _ | refine zi ?_ | refine zg ?_ _)); exact BK237.out) hb)
             have n1_ := zp.mk (zl (g := gb240) (o := .cells #[.int .i64 x241000_2, .int .u64 x241001_2] 30 (0, 0)) (by (with_reducible repeat (first | refine zf ?_ _ | refine zi ?_ | refine zg ?_ _)); exact BK240.out) hb)
             have n2_ := zp.mk (zj (by repeat (first | (with_reducible first | exact HB.out | apply zc | apply za | apply zb | refine zh ?_ GE237.out | refine zh ?_ GE240.out) | exact HB.out)) hb)
             clear BK237
             clear BK240
             clear HB
             have BK237 := n0_
             have BK240 := n1_
             have HB := n2_
             clear n0_ n1_ n2_
             (try clear hb)
             (try clear hb2)
             (try clear hk)
             (try clear hi)
             refine hK.out _ _ ⟨(ze BK240.out 0).trans rfl, (ze BK240.out 1).trans rfl⟩ (fun hHeld => ?_)
             clear hK K
             refine norm_ (a' := ?_) ?_ ?_
             rotate_left
             ·show Act.put _ (some 79) _ = _
              simp only [Act.put, List.setIfInBounds_toArray, List.set_cons_zero, List.set_cons_succ, i64_w, i32_w]
              rfl
             refine last_ (i := 5) (N := none) #[true, true, true, true, true, true] rfl rfl (by kernel_rfl) (by decide) (fun K hK => ?_)
             have hs49 : w48.cell? ⟨gb240, 0, none⟩ = some (.int .i64 x241000_2) := (ze BK240.out 0).trans rfl
             have hfs49 := zd BK240.out 0
             have hns49_0 := NB237_240.out
             have hms49_0 := NB240_237.out
             have hs50 : w48.cell? ⟨gb240, 1, none⟩ = some (.int .u64 x241001_2) := (ze BK240.out 1).trans rfl
             have hfs50 := zd BK240.out 1
             have hns50_0 := NB237_240.out
             have hms50_0 := NB240_237.out
             refine skip_ (w1 := ?_) (by rfl) rfl ?_ ?_
             rotate_left
             ·go_simp
              rfl
             refine hK.out _ _ ?_
             clear hK K
             refine done_ (by kernel_rfl) ?_
             try go_wp2
             go_roundg kj33
             case measure => have := HJ13.out; have := HK2.out; have := HJ33.out; omega
             case rel => exact ⟨(wrap64 (x58_2 + 1)), (t247), (t248), (by first | rfl | (simp; done) | (simp [*]; done)), H', ⟨by have := HJ13.out; have := HK2.out; have := HJ33.out; omega⟩, ⟨by (with_reducible repeat (first | refine zf ?_ _ | refine zi ?_ | refine zg ?_ _)); refine blk_far ?_ NB237_240.out _; (with_reducible repeat (first | refine zf ?_ _ | refine zi ?_ | refine zg ?_ _)); refine blk_far ?_ NB237_240.out _; (with_reducible repeat (first | refine zf ?_ _ | refine zi ?_ | refine zg ?_ _)); exact BK237.out⟩, ⟨by (with_reducible repeat (first | refine zf ?_ _ | refine zi ?_ | refine zg ?_ _)); refine blk_put (cs := #[.int .i64 t247, .int .u64 x241001_2]) ?_ 1 _ rfl; (with_reducible repeat (first | refine zf ?_ _ | refine zi ?_ | refine zg ?_ _)); refine blk_put (cs := #[.int .i64 x241000_2, .int .u64 x241001_2]) ?_ 0 _ rfl; (with_reducible repeat (first | refine zf ?_ _ | refine zi ?_ | refine zg ?_ _)); exact BK240.out⟩, ⟨by repeat (first | (with_reducible first | exact HB.out | apply zc | apply za | apply zb | refine zh ?_ GE237.out | refine zh ?_ GE240.out) | exact HB.out)⟩⟩
         ·rw [if_neg c33] at H
          exact absurd H (by simp)
        ·rw [if_neg c32] at H
         exact absurd H (by simp)
       ·rw [if_neg c31] at H
        have c31b0 : decide (x58_2 < (l0_5.length : Int)) = false := decide_eq_false c31
        clear c31
        obtain ⟨ji51, hji51⟩ : ∃ j_ : Int, (wrap64 ((l0_5.length : Int) - 1)) = j_ := ⟨_, rfl⟩
        replace H : (if 0 ≤ (ji51) then (if (ji51) < (l0_5.length : Int) then (if a0_0 ≤ 4 then (if a0_3 = (rd l0_5 (ji51)) then (some (x241000_2 == 0 && (x241001_2 == 0))) else (some false)) else ((impl_WideOf.f a0_3).bind fun bt250 => ((impl_WideNeg.f bt250.1 bt250.2).bind fun bt252 => ((impl_WideAdd.f x241000_2 x241001_2 bt252.1 bt252.2).bind fun bt254 => (if a0_3 ≤ (rd l0_5 (ji51)) then ((impl_wideTimes.f k2 a0_3 (wrap64 ((wrap64 (a0_0 - 4)) - 1))).bind fun bt256 => ((impl_WideCmp.f k2 bt256.1 bt256.2 bt254.1 bt254.2).bind fun t258 => (if t258 ≤ 0 then ((impl_wideTimes.f k2 (rd l0_5 (ji51)) (wrap64 ((wrap64 (a0_0 - 4)) - 1))).bind fun bt259 => ((impl_WideCmp.f k2 bt254.1 bt254.2 bt259.1 bt259.2).bind fun t261 => (some (decide (t261 ≤ 0))))) else (some false)))) else (some false)))))) else (none)) else (none)) = some r := by first | (rw [hji51] at H; exact H) | (simp only [hji51] at H ⊢; exact H)
        have hji51w : (IntKind.i64.wrap ((l0_5.length : Int) - 1)) = ji51 := (i64_w _).trans hji51
        by_cases c52 : 0 ≤ (ji51)
        ·rw [if_pos c52] at H
         have c52b0 : decide (0 ≤ (ji51)) = true := decide_eq_true c52
         clear c52
         by_cases c53 : (ji51) < (l0_5.length : Int)
         ·rw [if_pos c53] at H
          have c53b0 : decide ((ji51) < (l0_5.length : Int)) = true := decide_eq_true c53
          clear c53
          by_cases c54 : a0_0 ≤ 4
          ·rw [if_pos c54] at H
           have c54b0 : decide (a0_0 ≤ 4) = true := decide_eq_true c54
           clear c54
           by_cases c55 : a0_3 = (rd l0_5 (ji51))
           ·rw [if_pos c55] at H
            have c55b0 : (a0_3 == (rd l0_5 (ji51))) = true := beq_iff_eq.mpr c55
            have c55b1 : (a0_3 != (rd l0_5 (ji51))) = false := bne_eq_false_iff_eq.mpr c55
            clear c55
            obtain rfl := Option.some.inj H
            have hnb56 := NB237_240.out
            have hnc56 := NB240_237.out
            have hcz57_0 : wr.cell? ⟨gb237, 0, none⟩ = some (.int .i64 a0_0) := (ze BK237.out 0).trans rfl
            have hcz57_1 : wr.cell? ⟨gb237, 1, none⟩ = some (.int .i64 a0_1) := (ze BK237.out 1).trans rfl
            have hcz57_2 : wr.cell? ⟨gb237, 2, none⟩ = some (.int .u64 a0_2) := (ze BK237.out 2).trans rfl
            have hcz57_3 : wr.cell? ⟨gb237, 3, none⟩ = some (.int .i64 a0_3) := (ze BK237.out 3).trans rfl
            have hcz57_4 : wr.cell? ⟨gb237, 4, none⟩ = some (.int .i64 a0_4) := (ze BK237.out 4).trans rfl
            have hcz57_5 : wr.cell? ⟨gb237, 5, none⟩ = some (.slice A0_5 l0_5.length c0_5) := (ze BK237.out 5).trans rfl
            have hfz57_0 := zd BK237.out 0
            have hfz57_1 := zd BK237.out 1
            have hfz57_2 := zd BK237.out 2
            have hfz57_3 := zd BK237.out 3
            have hfz57_4 := zd BK237.out 4
            have hfz57_5 := zd BK237.out 5
            have p249 : 0 ≤ ((ji51) : Int) := of_decide_eq_true (by first | (with_reducible assumption) | assumption)
            have q249 : (ji51) < (l0_5.length : Int) := of_decide_eq_true (by first | (with_reducible assumption) | assumption)
            obtain ⟨ad249, e249, hx249_0⟩ := Kd.at_int HR0_5.out (ji51) p249 q249
            cases e249
            replace hx249_0 := (HB.out.cell (World.block_lt_of_cell? w _ hx249_0)).trans hx249_0
            replace p249 := eq_true p249
            replace q249 := eq_true q249
            have hcz58_0 : wr.cell? ⟨gb240, 0, none⟩ = some (.int .i64 x241000_2) := (ze BK240.out 0).trans rfl
            have hcz58_1 : wr.cell? ⟨gb240, 1, none⟩ = some (.int .u64 x241001_2) := (ze BK240.out 1).trans rfl
            have hfz58_0 := zd BK240.out 0
            have hfz58_1 := zd BK240.out 1
            go_wp2
            go_ret
            exact ⟨by first | rfl | (simp [errW_none, errW_some] <;> rfl) | (simp only [← hji51]; first | rfl | (simp [errW_none, errW_some] <;> rfl)) | (simp [*, errW_none, errW_some] <;> rfl), by repeat (first | (with_reducible first | exact HB.out | apply zc | apply za | apply zb | refine zh ?_ GE237.out | refine zh ?_ GE240.out) | exact HB.out)⟩
           ·rw [if_neg c55] at H
            have c55b0 : (a0_3 == (rd l0_5 (ji51))) = false := beq_eq_false_iff_ne.mpr c55
            have c55b1 : (a0_3 != (rd l0_5 (ji51))) = true := bne_iff_ne.mpr c55
            obtain rfl := Option.some.inj H
            have hnb59 := NB237_240.out
            have hnc59 := NB240_237.out
            have hcz60_0 : wr.cell? ⟨gb237, 0, none⟩ = some (.int .i64 a0_0) := (ze BK237.out 0).trans rfl
            have hcz60_1 : wr.cell? ⟨gb237, 1, none⟩ = some (.int .i64 a0_1) := (ze BK237.out 1).trans rfl
            have hcz60_2 : wr.cell? ⟨gb237, 2, none⟩ = some (.int .u64 a0_2) := (ze BK237.out 2).trans rfl
            have hcz60_3 : wr.cell? ⟨gb237, 3, none⟩ = some (.int .i64 a0_3) := (ze BK237.out 3).trans rfl
            have hcz60_4 : wr.cell? ⟨gb237, 4, none⟩ = some (.int .i64 a0_4) := (ze BK237.out 4).trans rfl
            have hcz60_5 : wr.cell? ⟨gb237, 5, none⟩ = some (.slice A0_5 l0_5.length c0_5) := (ze BK237.out 5).trans rfl
            have hfz60_0 := zd BK237.out 0
            have hfz60_1 := zd BK237.out 1
            have hfz60_2 := zd BK237.out 2
            have hfz60_3 := zd BK237.out 3
            have hfz60_4 := zd BK237.out 4
            have hfz60_5 := zd BK237.out 5
            have p249 : 0 ≤ ((ji51) : Int) := of_decide_eq_true (by first | (with_reducible assumption) | assumption)
            have q249 : (ji51) < (l0_5.length : Int) := of_decide_eq_true (by first | (with_reducible assumption) | assumption)
            obtain ⟨ad249, e249, hx249_0⟩ := Kd.at_int HR0_5.out (ji51) p249 q249
            cases e249
            replace hx249_0 := (HB.out.cell (World.block_lt_of_cell? w _ hx249_0)).trans hx249_0
            replace p249 := eq_true p249
            replace q249 := eq_true q249
            go_wp2
            go_ret
            exact ⟨by first | rfl | (simp [errW_none, errW_some] <;> rfl) | (simp only [← hji51]; first | rfl | (simp [errW_none, errW_some] <;> rfl)) | (simp [*, errW_none, errW_some] <;> rfl), by repeat (first | (with_reducible first | exact HB.out | apply zc | apply za | apply zb | refine zh ?_ GE237.out | refine zh ?_ GE240.out) | exact HB.out)⟩
          ·rw [if_neg c54] at H
           have c54b0 : decide (a0_0 ≤ 4) = false := decide_eq_false c54
           clear c54
           replace H := Option.bind_eq_some_iff.mp H
           obtain ⟨⟨t250, t251⟩, A610, H⟩ := H
           replace H : ((impl_WideNeg.f t250 t251).bind fun bt252 => ((impl_WideAdd.f x241000_2 x241001_2 bt252.1 bt252.2).bind fun bt254 => (if a0_3 ≤ (rd l0_5 (ji51)) then ((impl_wideTimes.f k2 a0_3 (wrap64 ((wrap64 (a0_0 - 4)) - 1))).bind fun bt256 => ((impl_WideCmp.f k2 bt256.1 bt256.2 bt254.1 bt254.2).bind fun t258 => (if t258 ≤ 0 then ((impl_wideTimes.f k2 (rd l0_5 (ji51)) (wrap64 ((wrap64 (a0_0 - 4)) - 1))).bind fun bt259 => ((impl_WideCmp.f k2 bt254.1 bt254.2 bt259.1 bt259.2).bind fun t261 => (some (decide (t261 ≤ 0))))) else (some false)))) else (some false)))) = some r := H
           have A61 := zp.mk A610
           clear A610
           replace H := Option.bind_eq_some_iff.mp H
           obtain ⟨⟨t252, t253⟩, A620, H⟩ := H
           replace H : ((impl_WideAdd.f x241000_2 x241001_2 t252 t253).bind fun bt254 => (if a0_3 ≤ (rd l0_5 (ji51)) then ((impl_wideTimes.f k2 a0_3 (wrap64 ((wrap64 (a0_0 - 4)) - 1))).bind fun bt256 => ((impl_WideCmp.f k2 bt256.1 bt256.2 bt254.1 bt254.2).bind fun t258 => (if t258 ≤ 0 then ((impl_wideTimes.f k2 (rd l0_5 (ji51)) (wrap64 ((wrap64 (a0_0 - 4)) - 1))).bind fun bt259 => ((impl_WideCmp.f k2 bt254.1 bt254.2 bt259.1 bt259.2).bind fun t261 => (some (decide (t261 ≤ 0))))) else (some false)))) else (some false))) = some r := H
           have A62 := zp.mk A620
           clear A620
           replace H := Option.bind_eq_some_iff.mp H
           obtain ⟨⟨t254, t255⟩, A630, H⟩ := H
           replace H : (if a0_3 ≤ (rd l0_5 (ji51)) then ((impl_wideTimes.f k2 a0_3 (wrap64 ((wrap64 (a0_0 - 4)) - 1))).bind fun bt256 => ((impl_WideCmp.f k2 bt256.1 bt256.2 t254 t255).bind fun t258 => (if t258 ≤ 0 then ((impl_wideTimes.f k2 (rd l0_5 (ji51)) (wrap64 ((wrap64 (a0_0 - 4)) - 1))).bind fun bt259 => ((impl_WideCmp.f k2 t254 t255 bt259.1 bt259.2).bind fun t261 => (some (decide (t261 ≤ 0))))) else (some false)))) else (some false)) = some r := H
           have A63 := zp.mk A630
           clear A630
           by_cases c64 : a0_3 ≤ (rd l0_5 (ji51))
           ·rw [if_pos c64] at H
            have c64b0 : decide (a0_3 ≤ (rd l0_5 (ji51))) = true := decide_eq_true c64
            clear c64
            replace H := Option.bind_eq_some_iff.mp H
            obtain ⟨⟨t256, t257⟩, A650, H⟩ := H
            replace H : ((impl_WideCmp.f k2 t256 t257 t254 t255).bind fun t258 => (if t258 ≤ 0 then ((impl_wideTimes.f k2 (rd l0_5 (ji51)) (wrap64 ((wrap64 (a0_0 - 4)) - 1))).bind fun bt259 => ((impl_WideCmp.f k2 t254 t255 bt259.1 bt259.2).bind fun t261 => (some (decide (t261 ≤ 0))))) else (some false))) = some r := H
            have A65 := zp.mk A650
            clear A650
            replace H := Option.bind_eq_some_iff.mp H
            obtain ⟨t258, A660, H⟩ := H
            replace H : (if t258 ≤ 0 then ((impl_wideTimes.f k2 (rd l0_5 (ji51)) (wrap64 ((wrap64 (a0_0 - 4)) - 1))).bind fun bt259 => ((impl_WideCmp.f k2 t254 t255 bt259.1 bt259.2).bind fun t261 => (some (decide (t261 ≤ 0))))) else (some false)) = some r := H
            have A66 := zp.mk A660
            clear A660
            by_cases c67 : t258 ≤ 0
            ·rw [if_pos c67] at H
             have c67b0 : decide (t258 ≤ 0) = true := decide_eq_true c67
             clear c67
             replace H := Option.bind_eq_some_iff.mp H
             obtain ⟨⟨t259, t260⟩, A680, H⟩ := H
             replace H : ((impl_WideCmp.f k2 t254 t255 t259 t260).bind fun t261 => (some (decide (t261 ≤ 0)))) = some r := H
             have A68 := zp.mk A680
             clear A680
             replace H := Option.bind_eq_some_iff.mp H
             obtain ⟨t261, A690, H⟩ := H
             replace H : (some (decide (t261 ≤ 0))) = some r := H
             have A69 := zp.mk A690
             clear A690
             obtain rfl := Option.some.inj H
             have hnb70 := NB237_240.out
             have hnc70 := NB240_237.out
             have hcz71_0 : wr.cell? ⟨gb237, 0, none⟩ = some (.int .i64 a0_0) := (ze BK237.out 0).trans rfl
             have hcz71_1 : wr.cell? ⟨gb237, 1, none⟩ = some (.int .i64 a0_1) := (ze BK237.out 1).trans rfl
             have hcz71_2 : wr.cell? ⟨gb237, 2, none⟩ = some (.int .u64 a0_2) := (ze BK237.out 2).trans rfl
             have hcz71_3 : wr.cell? ⟨gb237, 3, none⟩ = some (.int .i64 a0_3) := (ze BK237.out 3).trans rfl
             have hcz71_4 : wr.cell? ⟨gb237, 4, none⟩ = some (.int .i64 a0_4) := (ze BK237.out 4).trans rfl
             have hcz71_5 : wr.cell? ⟨gb237, 5, none⟩ = some (.slice A0_5 l0_5.length c0_5) := (ze BK237.out 5).trans rfl
             have hfz71_0 := zd BK237.out 0
             have hfz71_1 := zd BK237.out 1
             have hfz71_2 := zd BK237.out 2
             have hfz71_3 := zd BK237.out 3
             have hfz71_4 := zd BK237.out 4
             have hfz71_5 := zd BK237.out 5
             have p249 : 0 ≤ ((ji51) : Int) := of_decide_eq_true (by first | (with_reducible assumption) | assumption)
             have q249 : (ji51) < (l0_5.length : Int) := of_decide_eq_true (by first | (with_reducible assumption) | assumption)
             obtain ⟨ad249, e249, hx249_0⟩ := Kd.at_int HR0_5.out (ji51) p249 q249
             cases e249
             replace hx249_0 := (HB.out.cell (World.block_lt_of_cell? w _ hx249_0)).trans hx249_0
             replace p249 := eq_true p249
             replace q249 := eq_true q249
             try go_wp2
             have n0_ := zp.mk (zi BK237.out)
             have n1_ := zp.mk (zi BK240.out)
             have n2_ := zp.mk (zb HB.out)
             clear BK237
             clear BK240
             clear HB
             have BK237 := n0_
             have BK240 := n1_
             have HB := n2_
             clear n0_ n1_ n2_
             refine start_ (n := 7) (S := fun w' => w'.cell? ⟨gb240, 0, none⟩ = some (.int .i64 x241000_2) ∧ w'.cell? ⟨gb240, 1, none⟩ = some (.int .u64 x241001_2) ∧ w'.cell? ⟨gb237, 0, none⟩ = some (.int .i64 a0_0) ∧ w'.cell? ⟨gb237, 1, none⟩ = some (.int .i64 a0_1) ∧ w'.cell? ⟨gb237, 2, none⟩ = some (.int .u64 a0_2) ∧ w'.cell? ⟨gb237, 3, none⟩ = some (.int .i64 a0_3) ∧ w'.cell? ⟨gb237, 4, none⟩ = some (.int .i64 a0_4) ∧ w'.cell? ⟨gb237, 5, none⟩ = some (.slice (some ad249) l0_5.length c0_5)) (ds := [6]) #[false, false, false, false, false, false, false] (by kernel_rfl) rfl rfl ⟨(ze BK240.out 0).trans rfl, (ze BK240.out 1).trans rfl, (ze BK237.out 0).trans rfl, (ze BK237.out 1).trans rfl, (ze BK237.out 2).trans rfl, (ze BK237.out 3).trans rfl, (ze BK237.out 4).trans rfl, (ze BK237.out 5).trans rfl⟩ (fun hHeld => ?_)
             generalize wr.drew = w72 at BK237 BK240 HB hHeld ⊢
             refine pure_ (i := 1) (N := some 106) (v := ?_) (a' := ?_) #[false, true, false, false, false, false, false] rfl rfl (by kernel_rfl) (fun _ _ _ h => h) (Or.inl ⟨by rfl, ?_⟩) ?_ ?_
             rotate_left
             ·intro w'
              go_simp
              with_reducible rfl
             rotate_left
             ·simp only [Act.put, List.setIfInBounds_toArray, List.set_cons_zero, List.set_cons_succ, i64_w, i32_w]
              rfl
             refine take_ (i := 0) (N := some 105) (v := ?_) (a' := ?_) #[true, true, false, false, false, false, false] rfl rfl (by kernel_rfl) (fun _ _ _ h => h) (Or.inl ⟨by rfl, ?_⟩) hHeld ?_ ?_
             rotate_left
             ·rintro w' ⟨s0, s1, s2, s3, s4, s5, s6, s7⟩
              go_simp
              with_reducible rfl
             rotate_left
             ·simp only [Act.put, List.setIfInBounds_toArray, List.set_cons_zero, List.set_cons_succ, i64_w, i32_w]
              rfl
             refine take_ (i := 2) (N := some 107) (v := ?_) (a' := ?_) #[true, true, true, false, false, false, false] rfl rfl (by kernel_rfl) (fun _ _ _ h => h) (Or.inl ⟨by rfl, ?_⟩) hHeld ?_ ?_
             rotate_left
             ·rintro w' ⟨s0, s1, s2, s3, s4, s5, s6, s7⟩
              go_simp
              with_reducible rfl
             rotate_left
             ·simp only [Act.put, List.setIfInBounds_toArray, List.set_cons_zero, List.set_cons_succ, i64_w, i32_w]
              rfl
             refine one_ (i := 3) (N := some 108) #[true, true, true, true, false, false, false] rfl rfl (by kernel_rfl) (by decide) (fun K hK => ?_)
             refine goes_ Try.func49 (by kernel_rfl) rfl #[.int .i64 a0_3] (by rfl) rfl rfl (by (try simp only [List.map_toArray, List.map_cons, List.map_nil]); first | done | rfl | (simp only [List.length_drop, List.length_take]; rfl)) ?_
             with_reducible refine (impl_WideOf.calls a0_3 t250 t251 _ A61.out).mono ?_
             rintro e w73 ⟨rfl, hb⟩
             refine ⟨_, rfl, ?_⟩
             have n0_ := zp.mk (zl (g := gb237) (o := .cells #[.int .i64 a0_0, .int .i64 a0_1, .int .u64 a0_2, .int .i64 a0_3, .int .i64 a0_4, .slice (some ad249) l0_5.length c0_5] 32 (0, 0)) (by (with_reducible repeat (first | refine zf ?_ _ | refine zi ?_ | refine zg ?_ _)); exact BK237.out) hb)
             have n1_ := zp.mk (zl (g := gb240) (o := .cells #[.int .i64 x241000_2, .int .u64 x241001_2] 30 (0, 0)) (by (with_reducible repeat (first | refine zf ?_ _ | refine zi ?_ | refine zg ?_ _)); exact BK240.out) hb)
             have n2_ := zp.mk (zj (by repeat (first | (with_reducible first | exact HB.out | apply zc | apply za | apply zb | refine zh ?_ GE237.out | refine zh ?_ GE240.out) | exact HB.out)) hb)
             clear BK237
             clear BK240
             clear HB
             have BK237 := n0_
             have BK240 := n1_
             have HB := n2_
             clear n0_ n1_ n2_
             (try clear hb)
             (try clear hb2)
             (try clear hk)
             (try clear hi)
             refine hK.out _ _ ⟨(ze BK240.out 0).trans rfl, (ze BK240.out 1).trans rfl, (ze BK237.out 0).trans rfl, (ze BK237.out 1).trans rfl, (ze BK237.out 2).trans rfl, (ze BK237.out 3).trans rfl, (ze BK237.out 4).trans rfl, (ze BK237.out 5).trans rfl⟩ (fun hHeld => ?_)
             clear hK K
             refine norm_ (a' := ?_) ?_ ?_
             rotate_left
             ·show Act.put _ (some 108) _ = _
              simp only [Act.put, List.setIfInBounds_toArray, List.set_cons_zero, List.set_cons_succ, i64_w, i32_w]
              rfl
             refine one_ (i := 4) (N := some 109) #[true, true, true, true, true, false, false] rfl rfl (by kernel_rfl) (by decide) (fun K hK => ?_)
             refine goes_ Try.func48 (by kernel_rfl) rfl #[.agg #[.int .i64 t250, .int .u64 t251]] (by rfl) rfl rfl (by (try simp only [List.map_toArray, List.map_cons, List.map_nil]); first | done | rfl | (simp only [List.length_drop, List.length_take]; rfl)) ?_
             with_reducible refine (impl_WideNeg.calls t250 t251 t252 t253 _ A62.out).mono ?_
             rintro e w74 ⟨rfl, hb⟩
             refine ⟨_, rfl, ?_⟩
             have n0_ := zp.mk (zl (g := gb237) (o := .cells #[.int .i64 a0_0, .int .i64 a0_1, .int .u64 a0_2, .int .i64 a0_3, .int .i64 a0_4, .slice (some ad249) l0_5.length c0_5] 32 (0, 0)) (by (with_reducible repeat (first | refine zf ?_ _ | refine zi ?_ | refine zg ?_ _)); exact BK237.out) hb)
             have n1_ := zp.mk (zl (g := gb240) (o := .cells #[.int .i64 x241000_2, .int .u64 x241001_2] 30 (0, 0)) (by (with_reducible repeat (first | refine zf ?_ _ | refine zi ?_ | refine zg ?_ _)); exact BK240.out) hb)
             have n2_ := zp.mk (zj (by repeat (first | (with_reducible first | exact HB.out | apply zc | apply za | apply zb | refine zh ?_ GE237.out | refine zh ?_ GE240.out) | exact HB.out)) hb)
             clear BK237
             clear BK240
             clear HB
             have BK237 := n0_
             have BK240 := n1_
             have HB := n2_
             clear n0_ n1_ n2_
             (try clear hb)
             (try clear hb2)
             (try clear hk)
             (try clear hi)
             refine hK.out _ _ ⟨(ze BK240.out 0).trans rfl, (ze BK240.out 1).trans rfl, (ze BK237.out 0).trans rfl, (ze BK237.out 1).trans rfl, (ze BK237.out 2).trans rfl, (ze BK237.out 3).trans rfl, (ze BK237.out 4).trans rfl, (ze BK237.out 5).trans rfl⟩ (fun hHeld => ?_)
             clear hK K
             refine norm_ (a' := ?_) ?_ ?_
             rotate_left
             ·show Act.put _ (some 109) _ = _
              simp only [Act.put, List.setIfInBounds_toArray, List.set_cons_zero, List.set_cons_succ, i64_w, i32_w]
              rfl
             refine one_ (i := 5) (N := some 110) #[true, true, true, true, true, true, false] rfl rfl (by kernel_rfl) (by decide) (fun K hK => ?_)
             refine goes_ Try.func47 (by kernel_rfl) rfl #[.agg #[.int .i64 x241000_2, .int .u64 x241001_2], .agg #[.int .i64 t252, .int .u64 t253]] (by rfl) rfl rfl (by (try simp only [List.map_toArray, List.map_cons, List.map_nil]); first | done | rfl | (simp only [List.length_drop, List.length_take]; rfl)) ?_
             with_reducible refine (impl_WideAdd.calls x241000_2 x241001_2 t252 t253 t254 t255 _ A63.out).mono ?_
             rintro e w75 ⟨rfl, hb⟩
             refine ⟨_, rfl, ?_⟩
             have n0_ := zp.mk (zl (g := gb237) (o := .cells #[.int .i64 a0_0, .int .i64 a0_1, .int .u64 a0_2, .int .i64 a0_3, .int .i64 a0_4, .slice (some ad249) l0_5.length c0_5] 32 (0, 0)) (by (with_reducible repeat (first | refine zf ?_ _ | refine zi ?_ | refine zg ?_ _)); exact BK237.out) hb)
             have n1_ := zp.mk (zl (g := gb240) (o := .cells #[.int .i64 x241000_2, .int .u64 x241001_2] 30 (0, 0)) (by (with_reducible repeat (first | refine zf ?_ _ | refine zi ?_ | refine zg ?_ _)); exact BK240.out) hb)
             have n2_ := zp.mk (zj (by repeat (first | (with_reducible first | exact HB.out | apply zc | apply za | apply zb | refine zh ?_ GE237.out | refine zh ?_ GE240.out) | exact HB.out)) hb)
             clear BK237
             clear BK240
             clear HB
             have BK237 := n0_
             have BK240 := n1_
             have HB := n2_
             clear n0_ n1_ n2_
             (try clear hb)
             (try clear hb2)
             (try clear hk)
             (try clear hi)
             refine hK.out _ _ ⟨(ze BK240.out 0).trans rfl, (ze BK240.out 1).trans rfl, (ze BK237.out 0).trans rfl, (ze BK237.out 1).trans rfl, (ze BK237.out 2).trans rfl, (ze BK237.out 3).trans rfl, (ze BK237.out 4).trans rfl, (ze BK237.out 5).trans rfl⟩ (fun hHeld => ?_)
             clear hK K
             refine norm_ (a' := ?_) ?_ ?_
             rotate_left
             ·show Act.put _ (some 110) _ = _
              simp only [Act.put, List.setIfInBounds_toArray, List.set_cons_zero, List.set_cons_succ, i64_w, i32_w]
              rfl
             refine last_ (i := 6) (N := none) #[true, true, true, true, true, true, true] rfl rfl (by kernel_rfl) (by decide) (fun K hK => ?_)
             have hs76 : w75.cell? ⟨gb240, 0, none⟩ = some (.int .i64 x241000_2) := (ze BK240.out 0).trans rfl
             have hfs76 := zd BK240.out 0
             have hns76_0 := NB237_240.out
             have hms76_0 := NB240_237.out
             have hs77 : w75.cell? ⟨gb240, 1, none⟩ = some (.int .u64 x241001_2) := (ze BK240.out 1).trans rfl
             have hfs77 := zd BK240.out 1
             have hns77_0 := NB237_240.out
             have hms77_0 := NB240_237.out
             refine skip_ (w1 := ?_) (by rfl) rfl ?_ ?_
             rotate_left
             ·go_simp
              rfl
             refine hK.out _ _ ?_
             clear hK K
             refine done_ (by kernel_rfl) ?_
             try go_wp2
             have n0_ : zp (((w75.setCell ⟨gb240, 0, none⟩ (.int .i64 t254)).setCell ⟨gb240, 1, none⟩ (.int .u64 t255)).heap[gb237]? = some (.cells #[.int .i64 a0_0, .int .i64 a0_1, .int .u64 a0_2, .int .i64 a0_3, .int .i64 a0_4, .slice (some ad249) l0_5.length c0_5] 32 (0, 0))) := ⟨by (with_reducible repeat (first | refine zf ?_ _ | refine zi ?_ | refine zg ?_ _)); refine blk_far ?_ NB237_240.out _; (with_reducible repeat (first | refine zf ?_ _ | refine zi ?_ | refine zg ?_ _)); refine blk_far ?_ NB237_240.out _; (with_reducible repeat (first | refine zf ?_ _ | refine zi ?_ | refine zg ?_ _)); exact BK237.out⟩
             have n1_ : zp (((w75.setCell ⟨gb240, 0, none⟩ (.int .i64 t254)).setCell ⟨gb240, 1, none⟩ (.int .u64 t255)).heap[gb240]? = some (.cells #[.int .i64 t254, .int .u64 t255] 30 (0, 0))) := ⟨by (with_reducible repeat (first | refine zf ?_ _ | refine zi ?_ | refine zg ?_ _)); refine blk_put (cs := #[.int .i64 t254, .int .u64 x241001_2]) ?_ 1 _ rfl; (with_reducible repeat (first | refine zf ?_ _ | refine zi ?_ | refine zg ?_ _)); refine blk_put (cs := #[.int .i64 x241000_2, .int .u64 x241001_2]) ?_ 0 _ rfl; (with_reducible repeat (first | refine zf ?_ _ | refine zi ?_ | refine zg ?_ _)); exact BK240.out⟩
             have n2_ : zp (Below w.heap.size w ((w75.setCell ⟨gb240, 0, none⟩ (.int .i64 t254)).setCell ⟨gb240, 1, none⟩ (.int .u64 t255))) := ⟨by repeat (first | (with_reducible first | exact HB.out | apply zc | apply za | apply zb | refine zh ?_ GE237.out | refine zh ?_ GE240.out) | exact HB.out)⟩
             (try clear BK237)
             (try clear BK240)
             (try clear HB)
             generalize ((w75.setCell ⟨gb240, 0, none⟩ (.int .i64 t254)).setCell ⟨gb240, 1, none⟩ (.int .u64 t255)) = w78 at n0_ n1_ n2_ ⊢
             have BK237 := n0_
             have BK240 := n1_
             have HB := n2_
             clear n0_ n1_ n2_
             have n0_ := zp.mk (zi BK237.out)
             have n1_ := zp.mk (zi BK240.out)
             have n2_ := zp.mk (zb HB.out)
             clear BK237
             clear BK240
             clear HB
             have BK237 := n0_
             have BK240 := n1_
             have HB := n2_
             clear n0_ n1_ n2_
             refine start_ (n := 22) (S := fun w' => w'.cell? ⟨gb237, 0, none⟩ = some (.int .i64 a0_0) ∧ w'.cell? ⟨gb237, 1, none⟩ = some (.int .i64 a0_1) ∧ w'.cell? ⟨gb237, 2, none⟩ = some (.int .u64 a0_2) ∧ w'.cell? ⟨gb237, 3, none⟩ = some (.int .i64 a0_3) ∧ w'.cell? ⟨gb237, 4, none⟩ = some (.int .i64 a0_4) ∧ w'.cell? ⟨gb237, 5, none⟩ = some (.slice (some ad249) l0_5.length c0_5) ∧ w'.cell? ⟨gb240, 0, none⟩ = some (.int .i64 t254) ∧ w'.cell? ⟨gb240, 1, none⟩ = some (.int .u64 t255)) (ds := []) #[false, false, false, false, false, false, false, false, false, false, false, false, false, false, false, false, false, false, false, false, false, false] (by kernel_rfl) rfl rfl ⟨(ze BK237.out 0).trans rfl, (ze BK237.out 1).trans rfl, (ze BK237.out 2).trans rfl, (ze BK237.out 3).trans rfl, (ze BK237.out 4).trans rfl, (ze BK237.out 5).trans rfl, (ze BK240.out 0).trans rfl, (ze BK240.out 1).trans rfl⟩ (fun hHeld => ?_); refine with_tabW impl_isAgg.tab18 impl_isAgg.bits18 (fun HT_ HW_ => ?_)
             generalize w78.drew = w79 at BK237 BK240 HB hHeld ⊢
             refine pure_ (i := 0) (N := some 111) (v := ?_) (a' := ?_) #[true, false, false, false, false, false, false, false, false, false, false, false, false, false, false, false, false, false, false, false, false, false] rfl rfl (any_of HT_.out (by kernel_rfl)) (fun _ _ _ h => h) (Or.inl ⟨by rfl, ?_⟩) ?_ ?_
             rotate_left
             ·intro w'
              go_simp
              with_reducible rfl
             rotate_left
             ·simp only [Act.put, List.setIfInBounds_toArray, List.set_cons_zero, List.set_cons_succ, i64_w, i32_w]
              rfl
             refine pure_ (i := 2) (N := some 113) (v := ?_) (a' := ?_) #[true, false, true, false, false, false, false, false, false, false, false, false, false, false, false, false, false, false, false, false, false, false] rfl rfl (any_of HT_.out (by kernel_rfl)) (fun _ _ _ h => h) (Or.inl ⟨by rfl, ?_⟩) ?_ ?_
             rotate_left
             ·intro w'
              go_simp
              with_reducible rfl
             rotate_left
             ·simp only [Act.put, List.setIfInBounds_toArray, List.set_cons_zero, List.set_cons_succ, i64_w, i32_w]
              rfl
             refine take_ (i := 1) (N := some 112) (v := ?_) (a' := ?_) #[true, true, true, false, false, false, false, false, false, false, false, false, false, false, false, false, false, false, false, false, false, false] rfl rfl (take_ofW HT_.out HW_.out (by kernel_rfl)) (fun _ _ _ h => h) (Or.inl ⟨by rfl, ?_⟩) hHeld ?_ ?_
             rotate_left
             ·rintro w' ⟨s0, s1, s2, s3, s4, s5, s6, s7⟩
              go_simp
              with_reducible rfl
             rotate_left
             ·simp only [Act.put, List.setIfInBounds_toArray, List.set_cons_zero, List.set_cons_succ, i64_w, i32_w]
              rfl
             refine pure_ (i := 3) (N := some 114) (v := ?_) (a' := ?_) #[true, true, true, true, false, false, false, false, false, false, false, false, false, false, false, false, false, false, false, false, false, false] rfl rfl (any_of HT_.out (by kernel_rfl)) (fun _ _ _ h => h) (Or.inl ⟨by rfl, ?_⟩) ?_ ?_
             rotate_left
             ·intro w'
              go_simp
              with_reducible rfl
             rotate_left
             ·simp only [Act.put, List.setIfInBounds_toArray, List.set_cons_zero, List.set_cons_succ, i64_w, i32_w]
              rfl
             refine pure_ (i := 4) (N := some 115) (v := ?_) (a' := ?_) #[true, true, true, true, true, false, false, false, false, false, false, false, false, false, false, false, false, false, false, false, false, false] rfl rfl (any_of HT_.out (by kernel_rfl)) (fun _ _ _ h => h) (Or.inl ⟨by rfl, ?_⟩) ?_ ?_
             rotate_left
             ·intro w'
              go_simp
              with_reducible rfl
             rotate_left
             ·simp only [Act.put, List.setIfInBounds_toArray, List.set_cons_zero, List.set_cons_succ, i64_w, i32_w]
              rfl
             refine pure_ (i := 5) (N := some 116) (v := ?_) (a' := ?_) #[true, true, true, true, true, true, false, false, false, false, false, false, false, false, false, false, false, false, false, false, false, false] rfl rfl (any_of HT_.out (by kernel_rfl)) (fun _ _ _ h => h) (Or.inl ⟨by rfl, ?_⟩) ?_ ?_
             rotate_left
             ·intro w'
              go_simp
              with_reducible rfl
             rotate_left
             ·simp only [Act.put, List.setIfInBounds_toArray, List.set_cons_zero, List.set_cons_succ, i64_w, i32_w]
              rfl
             refine pure_ (i := 7) (N := some 118) (v := ?_) (a' := ?_) #[true, true, true, true, true, true, false, true, false, false, false, false, false, false, false, false, false, false, false, false, false, false] rfl rfl (any_of HT_.out (by kernel_rfl)) (fun _ _ _ h => h) (Or.inl ⟨by rfl, ?_⟩) ?_ ?_
             rotate_left
             ·intro w'
              go_simp
              with_reducible rfl
             rotate_left
             ·simp only [Act.put, List.setIfInBounds_toArray, List.set_cons_zero, List.set_cons_succ, i64_w, i32_w]
              rfl
             refine take_ (i := 6) (N := some 117) (v := ?_) (a' := ?_) #[true, true, true, true, true, true, true, true, false, false, false, false, false, false, false, false, false, false, false, false, false, false] rfl rfl (take_ofW HT_.out HW_.out (by kernel_rfl)) (fun _ _ _ h => h) (Or.inl ⟨by rfl, ?_⟩) hHeld ?_ ?_
             rotate_left
             ·rintro w' ⟨s0, s1, s2, s3, s4, s5, s6, s7⟩
              go_simp
              with_reducible rfl
             rotate_left
             ·simp only [Act.put, List.setIfInBounds_toArray, List.set_cons_zero, List.set_cons_succ, i64_w, i32_w]
              rfl
             refine take_ (i := 9) (N := some 120) (v := ?_) (a' := ?_) #[true, true, true, true, true, true, true, true, false, true, false, false, false, false, false, false, false, false, false, false, false, false] rfl rfl (take_ofW HT_.out HW_.out (by kernel_rfl)) (fun _ _ _ h => h) (Or.inl ⟨by rfl, ?_⟩) hHeld ?_ ?_
             rotate_left
             ·rintro w' ⟨s0, s1, s2, s3, s4, s5, s6, s7⟩
              go_simp
              with_reducible rfl
             rotate_left
             ·simp only [Act.put, List.setIfInBounds_toArray, List.set_cons_zero, List.set_cons_succ, i64_w, i32_w]
              rfl
             refine one_ (i := 8) (N := some 119) #[true, true, true, true, true, true, true, true, true, true, false, false, false, false, false, false, false, false, false, false, false, false] rfl rfl (one_of HT_.out (by kernel_rfl)) (by decide) (fun K hK => ?_)
             refine goes_ Try.func51 (by kernel_rfl) rfl #[.int .i64 a0_3, .int .i64 (wrap64 ((wrap64 (a0_0 - 4)) - 1))] (by rfl) rfl rfl (by (try simp only [List.map_toArray, List.map_cons, List.map_nil]); first | done | rfl | (simp only [List.length_drop, List.length_take]; rfl)) ?_
             with_reducible refine (impl_wideTimes.calls k2 a0_3 (wrap64 ((wrap64 (a0_0 - 4)) - 1)) t256 t257 _ A65.out).mono ?_
             rintro e w80 ⟨rfl, hb⟩
             refine ⟨_, rfl, ?_⟩
             have n0_ := zp.mk (zl (g := gb237) (o := .cells #[.int .i64 a0_0, .int .i64 a0_1, .int .u64 a0_2, .int .i64 a0_3, .int .i64 a0_4, .slice (some ad249) l0_5.length c0_5] 32 (0, 0)) (by (with_reducible repeat (first | refine zf ?_ _ | refine zi ?_ | refine zg ?_ _)); exact BK237.out) hb)
             have n1_ := zp.mk (zl (g := gb240) (o := .cells #[.int .i64 t254, .int .u64 t255] 30 (0, 0)) (by (with_reducible repeat (first | refine zf ?_ _ | refine zi ?_ | refine zg ?_ _)); exact BK240.out) hb)
             have n2_ := zp.mk (zj (by repeat (first | (with_reducible first | exact HB.out | apply zc | apply za | apply zb | refine zh ?_ GE237.out | refine zh ?_ GE240.out) | exact HB.out)) hb)
             clear BK237
             clear BK240
             clear HB
             have BK237 := n0_
             have BK240 := n1_
             have HB := n2_
             clear n0_ n1_ n2_
             (try clear hb)
             (try clear hb2)
             (try clear hk)
             (try clear hi)
             refine hK.out _ _ ⟨(ze BK237.out 0).trans rfl, (ze BK237.out 1).trans rfl, (ze BK237.out 2).trans rfl, (ze BK237.out 3).trans rfl, (ze BK237.out 4).trans rfl, (ze BK237.out 5).trans rfl, (ze BK240.out 0).trans rfl, (ze BK240.out 1).trans rfl⟩ (fun hHeld => ?_)
             clear hK K
             refine norm_ (a' := ?_) ?_ ?_
             rotate_left
             ·show Act.put _ (some 119) _ = _
              simp only [Act.put, List.setIfInBounds_toArray, List.set_cons_zero, List.set_cons_succ, i64_w, i32_w]
              rfl
             refine one_ (i := 10) (N := some 121) #[true, true, true, true, true, true, true, true, true, true, true, false, false, false, false, false, false, false, false, false, false, false] rfl rfl (one_of HT_.out (by kernel_rfl)) (by decide) (fun K hK => ?_)
             refine goes_ Try.func50 (by kernel_rfl) rfl #[.agg #[.int .i64 t256, .int .u64 t257], .agg #[.int .i64 t254, .int .u64 t255]] (by rfl) rfl rfl (by (try simp only [List.map_toArray, List.map_cons, List.map_nil]); first | done | rfl | (simp only [List.length_drop, List.length_take]; rfl)) ?_
             with_reducible refine (impl_WideCmp.calls k2 t256 t257 t254 t255 t258 _ A66.out).mono ?_
             rintro e w81 ⟨rfl, hb⟩
             refine ⟨_, rfl, ?_⟩
             have n0_ := zp.mk (zl (g := gb237) (o := .cells #[.int .i64 a0_0, .int .i64 a0_1, .int .u64 a0_2, .int .i64 a0_3, .int .i64 a0_4, .slice (some ad249) l0_5.length c0_5] 32 (0, 0)) (by (with_reducible repeat (first | refine zf ?_ _ | refine zi ?_ | refine zg ?_ _)); exact BK237.out) hb)
             have n1_ := zp.mk (zl (g := gb240) (o := .cells #[.int .i64 t254, .int .u64 t255] 30 (0, 0)) (by (with_reducible repeat (first | refine zf ?_ _ | refine zi ?_ | refine zg ?_ _)); exact BK240.out) hb)
             have n2_ := zp.mk (zj (by repeat (first | (with_reducible first | exact HB.out | apply zc | apply za | apply zb | refine zh ?_ GE237.out | refine zh ?_ GE240.out) | exact HB.out)) hb)
             clear BK237
             clear BK240
             clear HB
             have BK237 := n0_
             have BK240 := n1_
             have HB := n2_
             clear n0_ n1_ n2_
             (try clear hb)
             (try clear hb2)
             (try clear hk)
             (try clear hi)
             refine hK.out _ _ ⟨(ze BK237.out 0).trans rfl, (ze BK237.out 1).trans rfl, (ze BK237.out 2).trans rfl, (ze BK237.out 3).trans rfl, (ze BK237.out 4).trans rfl, (ze BK237.out 5).trans rfl, (ze BK240.out 0).trans rfl, (ze BK240.out 1).trans rfl⟩ (fun hHeld => ?_)
             clear hK K
             refine norm_ (a' := ?_) ?_ ?_
             rotate_left
             ·show Act.put _ (some 121) _ = _
              simp only [Act.put, List.setIfInBounds_toArray, List.set_cons_zero, List.set_cons_succ, i64_w, i32_w]
              rfl
             refine pure_ (i := 11) (N := some 122) (v := ?_) (a' := ?_) #[true, true, true, true, true, true, true, true, true, true, true, true, false, false, false, false, false, false, false, false, false, false] rfl rfl (any_of HT_.out (by kernel_rfl)) (fun _ _ _ h => h) (Or.inl ⟨by rfl, ?_⟩) ?_ ?_
             rotate_left
             ·intro w'
              go_simp
              with_reducible rfl
             rotate_left
             ·simp only [Act.put, List.setIfInBounds_toArray, List.set_cons_zero, List.set_cons_succ, i64_w, i32_w]
              rfl
             refine pure_ (i := 12) (N := some 123) (v := ?_) (a' := ?_) #[true, true, true, true, true, true, true, true, true, true, true, true, true, false, false, false, false, false, false, false, false, false] rfl rfl (any_of HT_.out (by kernel_rfl)) (fun _ _ _ h => h) (Or.inl ⟨by rfl, ?_⟩) ?_ ?_
             rotate_left
             ·intro w'
              go_simp
              with_reducible rfl
             rotate_left
             ·simp only [Act.put, List.setIfInBounds_toArray, List.set_cons_zero, List.set_cons_succ, i64_w, i32_w]
              rfl
             refine pure_ (i := 13) (N := some 124) (v := ?_) (a' := ?_) #[true, true, true, true, true, true, true, true, true, true, true, true, true, true, false, false, false, false, false, false, false, false] rfl rfl (any_of HT_.out (by kernel_rfl)) (fun _ _ _ h => h) (Or.inl ⟨by rfl, ?_⟩) ?_ ?_
             rotate_left
             ·intro w'
              go_simp
              with_reducible rfl
             rotate_left
             ·simp only [Act.put, List.setIfInBounds_toArray, List.set_cons_zero, List.set_cons_succ, i64_w, i32_w]
              rfl
             refine pure_ (i := 15) (N := some 126) (v := ?_) (a' := ?_) #[true, true, true, true, true, true, true, true, true, true, true, true, true, true, false, true, false, false, false, false, false, false] rfl rfl (any_of HT_.out (by kernel_rfl)) (fun _ _ _ h => h) (Or.inl ⟨by rfl, ?_⟩) ?_ ?_
             rotate_left
             ·intro w'
              go_simp
              with_reducible rfl
             rotate_left
             ·simp only [Act.put, List.setIfInBounds_toArray, List.set_cons_zero, List.set_cons_succ, i64_w, i32_w]
              rfl
             refine pure_ (i := 16) (N := some 127) (v := ?_) (a' := ?_) #[true, true, true, true, true, true, true, true, true, true, true, true, true, true, false, true, true, false, false, false, false, false] rfl rfl (any_of HT_.out (by kernel_rfl)) (fun _ _ _ h => h) (Or.inl ⟨by rfl, ?_⟩) ?_ ?_
             rotate_left
             ·intro w'
              go_simp
              with_reducible rfl
             rotate_left
             ·simp only [Act.put, List.setIfInBounds_toArray, List.set_cons_zero, List.set_cons_succ, i64_w, i32_w]
              rfl
             refine take_ (i := 14) (N := some 125) (v := ?_) (a' := ?_) #[true, true, true, true, true, true, true, true, true, true, true, true, true, true, true, true, true, false, false, false, false, false] rfl rfl (take_ofW HT_.out HW_.out (by kernel_rfl)) (fun _ _ _ h => h) (Or.inl ⟨by rfl, ?_⟩) hHeld ?_ ?_
             rotate_left
             ·rintro w' ⟨s0, s1, s2, s3, s4, s5, s6, s7⟩
              go_simp
              with_reducible rfl
             rotate_left
             ·simp only [Act.put, List.setIfInBounds_toArray, List.set_cons_zero, List.set_cons_succ, i64_w, i32_w]
              rfl
             refine one_ (i := 17) (N := some 128) #[true, true, true, true, true, true, true, true, true, true, true, true, true, true, true, true, true, true, false, false, false, false] rfl rfl (one_of HT_.out (by kernel_rfl)) (by decide) (fun K hK => ?_)
             refine goes_ Try.func51 (by kernel_rfl) rfl #[.int .i64 (rd l0_5 (ji51)), .int .i64 (wrap64 ((wrap64 (a0_0 - 4)) - 1))] (by rfl) rfl rfl (by (try simp only [List.map_toArray, List.map_cons, List.map_nil]); first | done | (simp only [hji51]; rfl) | rfl | (simp only [List.length_drop, List.length_take]; rfl)) ?_
             with_reducible refine (impl_wideTimes.calls k2 (rd l0_5 (ji51)) (wrap64 ((wrap64 (a0_0 - 4)) - 1)) t259 t260 _ A68.out).mono ?_
             rintro e w82 ⟨rfl, hb⟩
             refine ⟨_, rfl, ?_⟩
             have n0_ := zp.mk (zl (g := gb237) (o := .cells #[.int .i64 a0_0, .int .i64 a0_1, .int .u64 a0_2, .int .i64 a0_3, .int .i64 a0_4, .slice (some ad249) l0_5.length c0_5] 32 (0, 0)) (by (with_reducible repeat (first | refine zf ?_ _ | refine zi ?_ | refine zg ?_ _)); exact BK237.out) hb)
             have n1_ := zp.mk (zl (g := gb240) (o := .cells #[.int .i64 t254, .int .u64 t255] 30 (0, 0)) (by (with_reducible repeat (first | refine zf ?_ _ | refine zi ?_ | refine zg ?_ _)); exact BK240.out) hb)
             have n2_ := zp.mk (zj (by repeat (first | (with_reducible first | exact HB.out | apply zc | apply za | apply zb | refine zh ?_ GE237.out | refine zh ?_ GE240.out) | exact HB.out)) hb)
             clear BK237
             clear BK240
             clear HB
             have BK237 := n0_
             have BK240 := n1_
             have HB := n2_
             clear n0_ n1_ n2_
             (try clear hb)
             (try clear hb2)
             (try clear hk)
             (try clear hi)
             refine hK.out _ _ ⟨(ze BK237.out 0).trans rfl, (ze BK237.out 1).trans rfl, (ze BK237.out 2).trans rfl, (ze BK237.out 3).trans rfl, (ze BK237.out 4).trans rfl, (ze BK237.out 5).trans rfl, (ze BK240.out 0).trans rfl, (ze BK240.out 1).trans rfl⟩ (fun hHeld => ?_)
             clear hK K
             refine norm_ (a' := ?_) ?_ ?_
             rotate_left
             ·show Act.put _ (some 128) _ = _
              simp only [Act.put, List.setIfInBounds_toArray, List.set_cons_zero, List.set_cons_succ, i64_w, i32_w]
              rfl
             refine one_ (i := 18) (N := some 129) #[true, true, true, true, true, true, true, true, true, true, true, true, true, true, true, true, true, true, true, false, false, false] rfl rfl (one_of HT_.out (by kernel_rfl)) (by decide) (fun K hK => ?_)
             refine goes_ Try.func50 (by kernel_rfl) rfl #[.agg #[.int .i64 t254, .int .u64 t255], .agg #[.int .i64 t259, .int .u64 t260]] (by rfl) rfl rfl (by (try simp only [List.map_toArray, List.map_cons, List.map_nil]); first | done | rfl | (simp only [List.length_drop, List.length_take]; rfl)) ?_
             with_reducible refine (impl_WideCmp.calls k2 t254 t255 t259 t260 t261 _ A69.out).mono ?_
             rintro e w83 ⟨rfl, hb⟩
             refine ⟨_, rfl, ?_⟩
             have n0_ := zp.mk (zl (g := gb237) (o := .cells #[.int .i64 a0_0, .int .i64 a0_1, .int .u64 a0_2, .int .i64 a0_3, .int .i64 a0_4, .slice (some ad249) l0_5.length c0_5] 32 (0, 0)) (by (with_reducible repeat (first | refine zf ?_ _ | refine zi ?_ | refine zg ?_ _)); exact BK237.out) hb)
             have n1_ := zp.mk (zl (g := gb240) (o := .cells #[.int .i64 t254, .int .u64 t255] 30 (0, 0)) (by (with_reducible repeat (first | refine zf ?_ _ | refine zi ?_ | refine zg ?_ _)); exact BK240.out) hb)
             have n2_ := zp.mk (zj (by repeat (first | (with_reducible first | exact HB.out | apply zc | apply za | apply zb | refine zh ?_ GE237.out | refine zh ?_ GE240.out) | exact HB.out)) hb)
             clear BK237
             clear BK240
             clear HB
             have BK237 := n0_
             have BK240 := n1_
             have HB := n2_
             clear n0_ n1_ n2_
             (try clear hb)
             (try clear hb2)
             (try clear hk)
             (try clear hi)
             refine hK.out _ _ ⟨(ze BK237.out 0).trans rfl, (ze BK237.out 1).trans rfl, (ze BK237.out 2).trans rfl, (ze BK237.out 3).trans rfl, (ze BK237.out 4).trans rfl, (ze BK237.out 5).trans rfl, (ze BK240.out 0).trans rfl, (ze BK240.out 1).trans rfl⟩ (fun hHeld => ?_)
             clear hK K
             refine norm_ (a' := ?_) ?_ ?_
             rotate_left
             ·show Act.put _ (some 129) _ = _
              simp only [Act.put, List.setIfInBounds_toArray, List.set_cons_zero, List.set_cons_succ, i64_w, i32_w]
              rfl
             refine pure_ (i := 19) (N := some 130) (v := ?_) (a' := ?_) #[true, true, true, true, true, true, true, true, true, true, true, true, true, true, true, true, true, true, true, true, false, false] rfl rfl (any_of HT_.out (by kernel_rfl)) (fun _ _ _ h => h) (Or.inl ⟨by rfl, ?_⟩) ?_ ?_
             rotate_left
             ·intro w'
              go_simp
              with_reducible rfl
             rotate_left
             ·simp only [Act.put, List.setIfInBounds_toArray, List.set_cons_zero, List.set_cons_succ, i64_w, i32_w]
              rfl
             refine pure_ (i := 20) (N := some 131) (v := ?_) (a' := ?_) #[true, true, true, true, true, true, true, true, true, true, true, true, true, true, true, true, true, true, true, true, true, false] rfl rfl (any_of HT_.out (by kernel_rfl)) (fun _ _ _ h => h) (Or.inl ⟨by rfl, ?_⟩) ?_ ?_
             rotate_left
             ·intro w'
              go_simp
              with_reducible rfl
             rotate_left
             ·simp only [Act.put, List.setIfInBounds_toArray, List.set_cons_zero, List.set_cons_succ, i64_w, i32_w]
              rfl
             refine pure_ (i := 21) (N := some 2) (v := ?_) (a' := ?_) #[true, true, true, true, true, true, true, true, true, true, true, true, true, true, true, true, true, true, true, true, true, true] rfl rfl (any_of HT_.out (by kernel_rfl)) (fun _ _ _ h => h) (Or.inl ⟨by rfl, ?_⟩) ?_ ?_
             rotate_left
             ·intro w'
              go_simp
              with_reducible rfl
             rotate_left
             ·simp only [Act.put, List.setIfInBounds_toArray, List.set_cons_zero, List.set_cons_succ, i64_w, i32_w]
              rfl
             refine done_ (done_of HT_.out (by kernel_rfl)) ?_
             try go_wp2
             go_ret
             exact ⟨by first | rfl | (simp [errW_none, errW_some] <;> rfl) | (simp only [← hji51]; first | rfl | (simp [errW_none, errW_some] <;> rfl)) | (simp [*, errW_none, errW_some] <;> rfl), by repeat (first | (with_reducible first | exact HB.out | apply zc | apply za | apply zb | refine zh ?_ GE237.out | refine zh ?_ GE240.out) | exact HB.out)⟩
            ·rw [if_neg c67] at H
             have c67b0 : decide (t258 ≤ 0) = false := decide_eq_false c67
             clear c67
             obtain rfl := Option.some.inj H
             have hnb84 := NB237_240.out
             have hnc84 := NB240_237.out
             have hcz85_0 : wr.cell? ⟨gb237, 0, none⟩ = some (.int .i64 a0_0) := (ze BK237.out 0).trans rfl
             have hcz85_1 : wr.cell? ⟨gb237, 1, none⟩ = some (.int .i64 a0_1) := (ze BK237.out 1).trans rfl
             have hcz85_2 : wr.cell? ⟨gb237, 2, none⟩ = some (.int .u64 a0_2) := (ze BK237.out 2).trans rfl
             have hcz85_3 : wr.cell? ⟨gb237, 3, none⟩ = some (.int .i64 a0_3) := (ze BK237.out 3).trans rfl
             have hcz85_4 : wr.cell? ⟨gb237, 4, none⟩ = some (.int .i64 a0_4) := (ze BK237.out 4).trans rfl
             have hcz85_5 : wr.cell? ⟨gb237, 5, none⟩ = some (.slice A0_5 l0_5.length c0_5) := (ze BK237.out 5).trans rfl
             have hfz85_0 := zd BK237.out 0
             have hfz85_1 := zd BK237.out 1
             have hfz85_2 := zd BK237.out 2
             have hfz85_3 := zd BK237.out 3
             have hfz85_4 := zd BK237.out 4
             have hfz85_5 := zd BK237.out 5
             have p249 : 0 ≤ ((ji51) : Int) := of_decide_eq_true (by first | (with_reducible assumption) | assumption)
             have q249 : (ji51) < (l0_5.length : Int) := of_decide_eq_true (by first | (with_reducible assumption) | assumption)
             obtain ⟨ad249, e249, hx249_0⟩ := Kd.at_int HR0_5.out (ji51) p249 q249
             cases e249
             replace hx249_0 := (HB.out.cell (World.block_lt_of_cell? w _ hx249_0)).trans hx249_0
             replace p249 := eq_true p249
             replace q249 := eq_true q249
             try go_wp2
             have n0_ := zp.mk (zi BK237.out)
             have n1_ := zp.mk (zi BK240.out)
             have n2_ := zp.mk (zb HB.out)
             clear BK237
             clear BK240
             clear HB
             have BK237 := n0_
             have BK240 := n1_
             have HB := n2_
             clear n0_ n1_ n2_
             refine start_ (n := 7) (S := fun w' => w'.cell? ⟨gb240, 0, none⟩ = some (.int .i64 x241000_2) ∧ w'.cell? ⟨gb240, 1, none⟩ = some (.int .u64 x241001_2) ∧ w'.cell? ⟨gb237, 0, none⟩ = some (.int .i64 a0_0) ∧ w'.cell? ⟨gb237, 1, none⟩ = some (.int .i64 a0_1) ∧ w'.cell? ⟨gb237, 2, none⟩ = some (.int .u64 a0_2) ∧ w'.cell? ⟨gb237, 3, none⟩ = some (.int .i64 a0_3) ∧ w'.cell? ⟨gb237, 4, none⟩ = some (.int .i64 a0_4) ∧ w'.cell? ⟨gb237, 5, none⟩ = some (.slice (some ad249) l0_5.length c0_5)) (ds := [6]) #[false, false, false, false, false, false, false] (by kernel_rfl) rfl rfl ⟨(ze BK240.out 0).trans rfl, (ze BK240.out 1).trans rfl, (ze BK237.out 0).trans rfl, (ze BK237.out 1).trans rfl, (ze BK237.out 2).trans rfl, (ze BK237.out 3).trans rfl, (ze BK237.out 4).trans rfl, (ze BK237.out 5).trans rfl⟩ (fun hHeld => ?_)
             generalize wr.drew = w86 at BK237 BK240 HB hHeld ⊢
             refine pure_ (i := 1) (N := some 106) (v := ?_) (a' := ?_) #[false, true, false, false, false, false, false] rfl rfl (by kernel_rfl) (fun _ _ _ h => h) (Or.inl ⟨by rfl, ?_⟩) ?_ ?_
             rotate_left
             ·intro w'
              go_simp
              with_reducible rfl
             rotate_left
             ·simp only [Act.put, List.setIfInBounds_toArray, List.set_cons_zero, List.set_cons_succ, i64_w, i32_w]
              rfl
             refine take_ (i := 0) (N := some 105) (v := ?_) (a' := ?_) #[true, true, false, false, false, false, false] rfl rfl (by kernel_rfl) (fun _ _ _ h => h) (Or.inl ⟨by rfl, ?_⟩) hHeld ?_ ?_
             rotate_left
             ·rintro w' ⟨s0, s1, s2, s3, s4, s5, s6, s7⟩
              go_simp
              with_reducible rfl
             rotate_left
             ·simp only [Act.put, List.setIfInBounds_toArray, List.set_cons_zero, List.set_cons_succ, i64_w, i32_w]
              rfl
             refine take_ (i := 2) (N := some 107) (v := ?_) (a' := ?_) #[true, true, true, false, false, false, false] rfl rfl (by kernel_rfl) (fun _ _ _ h => h) (Or.inl ⟨by rfl, ?_⟩) hHeld ?_ ?_
             rotate_left
             ·rintro w' ⟨s0, s1, s2, s3, s4, s5, s6, s7⟩
              go_simp
              with_reducible rfl
             rotate_left
             ·simp only [Act.put, List.setIfInBounds_toArray, List.set_cons_zero, List.set_cons_succ, i64_w, i32_w]
              rfl
             refine one_ (i := 3) (N := some 108) #[true, true, true, true, false, false, false] rfl rfl (by kernel_rfl) (by decide) (fun K hK => ?_)
             refine goes_ Try.func49 (by kernel_rfl) rfl #[.int .i64 a0_3] (by rfl) rfl rfl (by (try simp only [List.map_toArray, List.map_cons, List.map_nil]); first | done | rfl | (simp only [List.length_drop, List.length_take]; rfl)) ?_
             with_reducible refine (impl_WideOf.calls a0_3 t250 t251 _ A61.out).mono ?_
             rintro e w87 ⟨rfl, hb⟩
             refine ⟨_, rfl, ?_⟩
             have n0_ := zp.mk (zl (g := gb237) (o := .cells #[.int .i64 a0_0, .int .i64 a0_1, .int .u64 a0_2, .int .i64 a0_3, .int .i64 a0_4, .slice (some ad249) l0_5.length c0_5] 32 (0, 0)) (by (with_reducible repeat (first | refine zf ?_ _ | refine zi ?_ | refine zg ?_ _)); exact BK237.out) hb)
             have n1_ := zp.mk (zl (g := gb240) (o := .cells #[.int .i64 x241000_2, .int .u64 x241001_2] 30 (0, 0)) (by (with_reducible repeat (first | refine zf ?_ _ | refine zi ?_ | refine zg ?_ _)); exact BK240.out) hb)
             have n2_ := zp.mk (zj (by repeat (first | (with_reducible first | exact HB.out | apply zc | apply za | apply zb | refine zh ?_ GE237.out | refine zh ?_ GE240.out) | exact HB.out)) hb)
             clear BK237
             clear BK240
             clear HB
             have BK237 := n0_
             have BK240 := n1_
             have HB := n2_
             clear n0_ n1_ n2_
             (try clear hb)
             (try clear hb2)
             (try clear hk)
             (try clear hi)
             refine hK.out _ _ ⟨(ze BK240.out 0).trans rfl, (ze BK240.out 1).trans rfl, (ze BK237.out 0).trans rfl, (ze BK237.out 1).trans rfl, (ze BK237.out 2).trans rfl, (ze BK237.out 3).trans rfl, (ze BK237.out 4).trans rfl, (ze BK237.out 5).trans rfl⟩ (fun hHeld => ?_)
             clear hK K
             refine norm_ (a' := ?_) ?_ ?_
             rotate_left
             ·show Act.put _ (some 108) _ = _
              simp only [Act.put, List.setIfInBounds_toArray, List.set_cons_zero, List.set_cons_succ, i64_w, i32_w]
              rfl
             refine one_ (i := 4) (N := some 109) #[true, true, true, true, true, false, false] rfl rfl (by kernel_rfl) (by decide) (fun K hK => ?_)
             refine goes_ Try.func48 (by kernel_rfl) rfl #[.agg #[.int .i64 t250, .int .u64 t251]] (by rfl) rfl rfl (by (try simp only [List.map_toArray, List.map_cons, List.map_nil]); first | done | rfl | (simp only [List.length_drop, List.length_take]; rfl)) ?_
             with_reducible refine (impl_WideNeg.calls t250 t251 t252 t253 _ A62.out).mono ?_
             rintro e w88 ⟨rfl, hb⟩
             refine ⟨_, rfl, ?_⟩
             have n0_ := zp.mk (zl (g := gb237) (o := .cells #[.int .i64 a0_0, .int .i64 a0_1, .int .u64 a0_2, .int .i64 a0_3, .int .i64 a0_4, .slice (some ad249) l0_5.length c0_5] 32 (0, 0)) (by (with_reducible repeat (first | refine zf ?_ _ | refine zi ?_ | refine zg ?_ _)); exact BK237.out) hb)
             have n1_ := zp.mk (zl (g := gb240) (o := .cells #[.int .i64 x241000_2, .int .u64 x241001_2] 30 (0, 0)) (by (with_reducible repeat (first | refine zf ?_ _ | refine zi ?_ | refine zg ?_ _)); exact BK240.out) hb)
             have n2_ := zp.mk (zj (by repeat (first | (with_reducible first | exact HB.out | apply zc | apply za | apply zb | refine zh ?_ GE237.out | refine zh ?_ GE240.out) | exact HB.out)) hb)
             clear BK237
             clear BK240
             clear HB
             have BK237 := n0_
             have BK240 := n1_
             have HB := n2_
             clear n0_ n1_ n2_
             (try clear hb)
             (try clear hb2)
             (try clear hk)
             (try clear hi)
             refine hK.out _ _ ⟨(ze BK240.out 0).trans rfl, (ze BK240.out 1).trans rfl, (ze BK237.out 0).trans rfl, (ze BK237.out 1).trans rfl, (ze BK237.out 2).trans rfl, (ze BK237.out 3).trans rfl, (ze BK237.out 4).trans rfl, (ze BK237.out 5).trans rfl⟩ (fun hHeld => ?_)
             clear hK K
             refine norm_ (a' := ?_) ?_ ?_
             rotate_left
             ·show Act.put _ (some 109) _ = _
              simp only [Act.put, List.setIfInBounds_toArray, List.set_cons_zero, List.set_cons_succ, i64_w, i32_w]
              rfl
             refine one_ (i := 5) (N := some 110) #[true, true, true, true, true, true, false] rfl rfl (by kernel_rfl) (by decide) (fun K hK => ?_)
             refine goes_ Try.func47 (by kernel_rfl) rfl #[.agg #[.int .i64 x241000_2, .int .u64 x241001_2], .agg #[.int .i64 t252, .int .u64 t253]] (by rfl) rfl rfl (by (try simp only [List.map_toArray, List.map_cons, List.map_nil]); first | done | rfl | (simp only [List.length_drop, List.length_take]; rfl)) ?_
             with_reducible refine (impl_WideAdd.calls x241000_2 x241001_2 t252 t253 t254 t255 _ A63.out).mono ?_
             rintro e w89 ⟨rfl, hb⟩
             refine ⟨_, rfl, ?_⟩
             have n0_ := zp.mk (zl (g := gb237) (o := .cells #[.int .i64 a0_0, .int .i64 a0_1, .int .u64 a0_2, .int .i64 a0_3, .int .i64 a0_4, .slice (some ad249) l0_5.length c0_5] 32 (0, 0)) (by (with_reducible repeat (first | refine zf ?_ _ | refine zi ?_ | refine zg ?_ _)); exact BK237.out) hb)
             have n1_ := zp.mk (zl (g := gb240) (o := .cells #[.int .i64 x241000_2, .int .u64 x241001_2] 30 (0, 0)) (by (with_reducible repeat (first | refine zf ?_ _ | refine zi ?_ | refine zg ?_ _)); exact BK240.out) hb)
             have n2_ := zp.mk (zj (by repeat (first | (with_reducible first | exact HB.out | apply zc | apply za | apply zb | refine zh ?_ GE237.out | refine zh ?_ GE240.out) | exact HB.out)) hb)
             clear BK237
             clear BK240
             clear HB
             have BK237 := n0_
             have BK240 := n1_
             have HB := n2_
             clear n0_ n1_ n2_
             (try clear hb)
             (try clear hb2)
             (try clear hk)
             (try clear hi)
             refine hK.out _ _ ⟨(ze BK240.out 0).trans rfl, (ze BK240.out 1).trans rfl, (ze BK237.out 0).trans rfl, (ze BK237.out 1).trans rfl, (ze BK237.out 2).trans rfl, (ze BK237.out 3).trans rfl, (ze BK237.out 4).trans rfl, (ze BK237.out 5).trans rfl⟩ (fun hHeld => ?_)
             clear hK K
             refine norm_ (a' := ?_) ?_ ?_
             rotate_left
             ·show Act.put _ (some 110) _ = _
              simp only [Act.put, List.setIfInBounds_toArray, List.set_cons_zero, List.set_cons_succ, i64_w, i32_w]
              rfl
             refine last_ (i := 6) (N := none) #[true, true, true, true, true, true, true] rfl rfl (by kernel_rfl) (by decide) (fun K hK => ?_)
             have hs90 : w89.cell? ⟨gb240, 0, none⟩ = some (.int .i64 x241000_2) := (ze BK240.out 0).trans rfl
             have hfs90 := zd BK240.out 0
             have hns90_0 := NB237_240.out
             have hms90_0 := NB240_237.out
             have hs91 : w89.cell? ⟨gb240, 1, none⟩ = some (.int .u64 x241001_2) := (ze BK240.out 1).trans rfl
             have hfs91 := zd BK240.out 1
             have hns91_0 := NB237_240.out
             have hms91_0 := NB240_237.out
             refine skip_ (w1 := ?_) (by rfl) rfl ?_ ?_
             rotate_left
             ·go_simp
              rfl
             refine hK.out _ _ ?_
             clear hK K
             refine done_ (by kernel_rfl) ?_
             try go_wp2
             have n0_ : zp (((w89.setCell ⟨gb240, 0, none⟩ (.int .i64 t254)).setCell ⟨gb240, 1, none⟩ (.int .u64 t255)).heap[gb237]? = some (.cells #[.int .i64 a0_0, .int .i64 a0_1, .int .u64 a0_2, .int .i64 a0_3, .int .i64 a0_4, .slice (some ad249) l0_5.length c0_5] 32 (0, 0))) := ⟨by (with_reducible repeat (first | refine zf ?_ _ | refine zi ?_ | refine zg ?_ _)); refine blk_far ?_ NB237_240.out _; (with_reducible repeat (first | refine zf ?_ _ | refine zi ?_ | refine zg ?_ _)); refine blk_far ?_ NB237_240.out _; (with_reducible repeat (first | refine zf ?_ _ | refine zi ?_ | refine zg ?_ _)); exact BK237.out⟩
             have n1_ : zp (((w89.setCell ⟨gb240, 0, none⟩ (.int .i64 t254)).setCell ⟨gb240, 1, none⟩ (.int .u64 t255)).heap[gb240]? = some (.cells #[.int .i64 t254, .int .u64 t255] 30 (0, 0))) := ⟨by (with_reducible repeat (first | refine zf ?_ _ | refine zi ?_ | refine zg ?_ _)); refine blk_put (cs := #[.int .i64 t254, .int .u64 x241001_2]) ?_ 1 _ rfl; (with_reducible repeat (first | refine zf ?_ _ | refine zi ?_ | refine zg ?_ _)); refine blk_put (cs := #[.int .i64 x241000_2, .int .u64 x241001_2]) ?_ 0 _ rfl; (with_reducible repeat (first | refine zf ?_ _ | refine zi ?_ | refine zg ?_ _)); exact BK240.out⟩
             have n2_ : zp (Below w.heap.size w ((w89.setCell ⟨gb240, 0, none⟩ (.int .i64 t254)).setCell ⟨gb240, 1, none⟩ (.int .u64 t255))) := ⟨by repeat (first | (with_reducible first | exact HB.out | apply zc | apply za | apply zb | refine zh ?_ GE237.out | refine zh ?_ GE240.out) | exact HB.out)⟩
             (try clear BK237)
             (try clear BK240)
             (try clear HB)
             generalize ((w89.setCell ⟨gb240, 0, none⟩ (.int .i64 t254)).setCell ⟨gb240, 1, none⟩ (.int .u64 t255)) = w92 at n0_ n1_ n2_ ⊢
             have BK237 := n0_
             have BK240 := n1_
             have HB := n2_
             clear n0_ n1_ n2_
             have n0_ := zp.mk (zi BK237.out)
             have n1_ := zp.mk (zi BK240.out)
             have n2_ := zp.mk (zb HB.out)
             clear BK237
             clear BK240
             clear HB
             have BK237 := n0_
             have BK240 := n1_
             have HB := n2_
             clear n0_ n1_ n2_
             refine start_ (n := 22) (S := fun w' => w'.cell? ⟨gb237, 0, none⟩ = some (.int .i64 a0_0) ∧ w'.cell? ⟨gb237, 1, none⟩ = some (.int .i64 a0_1) ∧ w'.cell? ⟨gb237, 2, none⟩ = some (.int .u64 a0_2) ∧ w'.cell? ⟨gb237, 3, none⟩ = some (.int .i64 a0_3) ∧ w'.cell? ⟨gb237, 4, none⟩ = some (.int .i64 a0_4) ∧ w'.cell? ⟨gb237, 5, none⟩ = some (.slice (some ad249) l0_5.length c0_5) ∧ w'.cell? ⟨gb240, 0, none⟩ = some (.int .i64 t254) ∧ w'.cell? ⟨gb240, 1, none⟩ = some (.int .u64 t255)) (ds := []) #[false, false, false, false, false, false, false, false, false, false, false, false, false, false, false, false, false, false, false, false, false, false] (by kernel_rfl) rfl rfl ⟨(ze BK237.out 0).trans rfl, (ze BK237.out 1).trans rfl, (ze BK237.out 2).trans rfl, (ze BK237.out 3).trans rfl, (ze BK237.out 4).trans rfl, (ze BK237.out 5).trans rfl, (ze BK240.out 0).trans rfl, (ze BK240.out 1).trans rfl⟩ (fun hHeld => ?_); refine with_tabW impl_isAgg.tab18 impl_isAgg.bits18 (fun HT_ HW_ => ?_)
             generalize w92.drew = w93 at BK237 BK240 HB hHeld ⊢
             refine pure_ (i := 0) (N := some 111) (v := ?_) (a' := ?_) #[true, false, false, false, false, false, false, false, false, false, false, false, false, false, false, false, false, false, false, false, false, false] rfl rfl (any_of HT_.out (by kernel_rfl)) (fun _ _ _ h => h) (Or.inl ⟨by rfl, ?_⟩) ?_ ?_
             rotate_left
             ·intro w'
              go_simp
              with_reducible rfl
             rotate_left
             ·simp only [Act.put, List.setIfInBounds_toArray, List.set_cons_zero, List.set_cons_succ, i64_w, i32_w]
              rfl
             refine pure_ (i := 2) (N := some 113) (v := ?_) (a' := ?_) #[true, false, true, false, false, false, false, false, false, false, false, false, false, false, false, false, false, false, false, false, false, false] rfl rfl (any_of HT_.out (by kernel_rfl)) (fun _ _ _ h => h) (Or.inl ⟨by rfl, ?_⟩) ?_ ?_
             rotate_left
             ·intro w'
              go_simp
              with_reducible rfl
             rotate_left
             ·simp only [Act.put, List.setIfInBounds_toArray, List.set_cons_zero, List.set_cons_succ, i64_w, i32_w]
              rfl
             refine take_ (i := 1) (N := some 112) (v := ?_) (a' := ?_) #[true, true, true, false, false, false, false, false, false, false, false, false, false, false, false, false, false, false, false, false, false, false] rfl rfl (take_ofW HT_.out HW_.out (by kernel_rfl)) (fun _ _ _ h => h) (Or.inl ⟨by rfl, ?_⟩) hHeld ?_ ?_
             rotate_left
             ·rintro w' ⟨s0, s1, s2, s3, s4, s5, s6, s7⟩
              go_simp
              with_reducible rfl
             rotate_left
             ·simp only [Act.put, List.setIfInBounds_toArray, List.set_cons_zero, List.set_cons_succ, i64_w, i32_w]
              rfl
             refine pure_ (i := 3) (N := some 114) (v := ?_) (a' := ?_) #[true, true, true, true, false, false, false, false, false, false, false, false, false, false, false, false, false, false, false, false, false, false] rfl rfl (any_of HT_.out (by kernel_rfl)) (fun _ _ _ h => h) (Or.inl ⟨by rfl, ?_⟩) ?_ ?_
             rotate_left
             ·intro w'
              go_simp
              with_reducible rfl
             rotate_left
             ·simp only [Act.put, List.setIfInBounds_toArray, List.set_cons_zero, List.set_cons_succ, i64_w, i32_w]
              rfl
             refine pure_ (i := 4) (N := some 115) (v := ?_) (a' := ?_) #[true, true, true, true, true, false, false, false, false, false, false, false, false, false, false, false, false, false, false, false, false, false] rfl rfl (any_of HT_.out (by kernel_rfl)) (fun _ _ _ h => h) (Or.inl ⟨by rfl, ?_⟩) ?_ ?_
             rotate_left
             ·intro w'
              go_simp
              with_reducible rfl
             rotate_left
             ·simp only [Act.put, List.setIfInBounds_toArray, List.set_cons_zero, List.set_cons_succ, i64_w, i32_w]
              rfl
             refine pure_ (i := 5) (N := some 116) (v := ?_) (a' := ?_) #[true, true, true, true, true, true, false, false, false, false, false, false, false, false, false, false, false, false, false, false, false, false] rfl rfl (any_of HT_.out (by kernel_rfl)) (fun _ _ _ h => h) (Or.inl ⟨by rfl, ?_⟩) ?_ ?_
             rotate_left
             ·intro w'
              go_simp
              with_reducible rfl
             rotate_left
             ·simp only [Act.put, List.setIfInBounds_toArray, List.set_cons_zero, List.set_cons_succ, i64_w, i32_w]
              rfl
             refine pure_ (i := 7) (N := some 118) (v := ?_) (a' := ?_) #[true, true, true, true, true, true, false, true, false, false, false, false, false, false, false, false, false, false, false, false, false, false] rfl rfl (any_of HT_.out (by kernel_rfl)) (fun _ _ _ h => h) (Or.inl ⟨by rfl, ?_⟩) ?_ ?_
             rotate_left
             ·intro w'
              go_simp
              with_reducible rfl
             rotate_left
             ·simp only [Act.put, List.setIfInBounds_toArray, List.set_cons_zero, List.set_cons_succ, i64_w, i32_w]
              rfl
             refine take_ (i := 6) (N := some 117) (v := ?_) (a' := ?_) #[true, true, true, true, true, true, true, true, false, false, false, false, false, false, false, false, false, false, false, false, false, false] rfl rfl (take_ofW HT_.out HW_.out (by kernel_rfl)) (fun _ _ _ h => h) (Or.inl ⟨by rfl, ?_⟩) hHeld ?_ ?_
             rotate_left
             ·rintro w' ⟨s0, s1, s2, s3, s4, s5, s6, s7⟩
              go_simp
              with_reducible rfl
             rotate_left
             ·simp only [Act.put, List.setIfInBounds_toArray, List.set_cons_zero, List.set_cons_succ, i64_w, i32_w]
              rfl
             refine take_ (i := 9) (N := some 120) (v := ?_) (a' := ?_) #[true, true, true, true, true, true, true, true, false, true, false, false, false, false, false, false, false, false, false, false, false, false] rfl rfl (take_ofW HT_.out HW_.out (by kernel_rfl)) (fun _ _ _ h => h) (Or.inl ⟨by rfl, ?_⟩) hHeld ?_ ?_
             rotate_left
             ·rintro w' ⟨s0, s1, s2, s3, s4, s5, s6, s7⟩
              go_simp
              with_reducible rfl
             rotate_left
             ·simp only [Act.put, List.setIfInBounds_toArray, List.set_cons_zero, List.set_cons_succ, i64_w, i32_w]
              rfl
             refine one_ (i := 8) (N := some 119) #[true, true, true, true, true, true, true, true, true, true, false, false, false, false, false, false, false, false, false, false, false, false] rfl rfl (one_of HT_.out (by kernel_rfl)) (by decide) (fun K hK => ?_)
             refine goes_ Try.func51 (by kernel_rfl) rfl #[.int .i64 a0_3, .int .i64 (wrap64 ((wrap64 (a0_0 - 4)) - 1))] (by rfl) rfl rfl (by (try simp only [List.map_toArray, List.map_cons, List.map_nil]); first | done | rfl | (simp only [List.length_drop, List.length_take]; rfl)) ?_
             with_reducible refine (impl_wideTimes.calls k2 a0_3 (wrap64 ((wrap64 (a0_0 - 4)) - 1)) t256 t257 _ A65.out).mono ?_
             rintro e w94 ⟨rfl, hb⟩
             refine ⟨_, rfl, ?_⟩
             have n0_ := zp.mk (zl (g := gb237) (o := .cells #[.int .i64 a0_0, .int .i64 a0_1, .int .u64 a0_2, .int .i64 a0_3, .int .i64 a0_4, .slice (some ad249) l0_5.length c0_5] 32 (0, 0)) (by (with_reducible repeat (first | refine zf ?_ _ | refine zi ?_ | refine zg ?_ _)); exact BK237.out) hb)
             have n1_ := zp.mk (zl (g := gb240) (o := .cells #[.int .i64 t254, .int .u64 t255] 30 (0, 0)) (by (with_reducible repeat (first | refine zf ?_ _ | refine zi ?_ | refine zg ?_ _)); exact BK240.out) hb)
             have n2_ := zp.mk (zj (by repeat (first | (with_reducible first | exact HB.out | apply zc | apply za | apply zb | refine zh ?_ GE237.out | refine zh ?_ GE240.out) | exact HB.out)) hb)
             clear BK237
             clear BK240
             clear HB
             have BK237 := n0_
             have BK240 := n1_
             have HB := n2_
             clear n0_ n1_ n2_
             (try clear hb)
             (try clear hb2)
             (try clear hk)
             (try clear hi)
             refine hK.out _ _ ⟨(ze BK237.out 0).trans rfl, (ze BK237.out 1).trans rfl, (ze BK237.out 2).trans rfl, (ze BK237.out 3).trans rfl, (ze BK237.out 4).trans rfl, (ze BK237.out 5).trans rfl, (ze BK240.out 0).trans rfl, (ze BK240.out 1).trans rfl⟩ (fun hHeld => ?_)
             clear hK K
             refine norm_ (a' := ?_) ?_ ?_
             rotate_left
             ·show Act.put _ (some 119) _ = _
              simp only [Act.put, List.setIfInBounds_toArray, List.set_cons_zero, List.set_cons_succ, i64_w, i32_w]
              rfl
             refine one_ (i := 10) (N := some 121) #[true, true, true, true, true, true, true, true, true, true, true, false, false, false, false, false, false, false, false, false, false, false] rfl rfl (one_of HT_.out (by kernel_rfl)) (by decide) (fun K hK => ?_)
             refine goes_ Try.func50 (by kernel_rfl) rfl #[.agg #[.int .i64 t256, .int .u64 t257], .agg #[.int .i64 t254, .int .u64 t255]] (by rfl) rfl rfl (by (try simp only [List.map_toArray, List.map_cons, List.map_nil]); first | done | rfl | (simp only [List.length_drop, List.length_take]; rfl)) ?_
             with_reducible refine (impl_WideCmp.calls k2 t256 t257 t254 t255 t258 _ A66.out).mono ?_
             rintro e w95 ⟨rfl, hb⟩
             refine ⟨_, rfl, ?_⟩
             have n0_ := zp.mk (zl (g := gb237) (o := .cells #[.int .i64 a0_0, .int .i64 a0_1, .int .u64 a0_2, .int .i64 a0_3, .int .i64 a0_4, .slice (some ad249) l0_5.length c0_5] 32 (0, 0)) (by (with_reducible repeat (first | refine zf ?_ _ | refine zi ?_ | refine zg ?_ _)); exact BK237.out) hb)
             have n1_ := zp.mk (zl (g := gb240) (o := .cells #[.int .i64 t254, .int .u64 t255] 30 (0, 0)) (by (with_reducible repeat (first | refine zf ?_ _ | refine zi ?_ | refine zg ?_ _)); exact BK240.out) hb)
             have n2_ := zp.mk (zj (by repeat (first | (with_reducible first | exact HB.out | apply zc | apply za | apply zb | refine zh ?_ GE237.out | refine zh ?_ GE240.out) | exact HB.out)) hb)
             clear BK237
             clear BK240
             clear HB
             have BK237 := n0_
             have BK240 := n1_
             have HB := n2_
             clear n0_ n1_ n2_
             (try clear hb)
             (try clear hb2)
             (try clear hk)
             (try clear hi)
             refine hK.out _ _ ⟨(ze BK237.out 0).trans rfl, (ze BK237.out 1).trans rfl, (ze BK237.out 2).trans rfl, (ze BK237.out 3).trans rfl, (ze BK237.out 4).trans rfl, (ze BK237.out 5).trans rfl, (ze BK240.out 0).trans rfl, (ze BK240.out 1).trans rfl⟩ (fun hHeld => ?_)
             clear hK K
             refine norm_ (a' := ?_) ?_ ?_
             rotate_left
             ·show Act.put _ (some 121) _ = _
              simp only [Act.put, List.setIfInBounds_toArray, List.set_cons_zero, List.set_cons_succ, i64_w, i32_w]
              rfl
             refine pure_ (i := 11) (N := some 122) (v := ?_) (a' := ?_) #[true, true, true, true, true, true, true, true, true, true, true, true, false, false, false, false, false, false, false, false, false, false] rfl rfl (any_of HT_.out (by kernel_rfl)) (fun _ _ _ h => h) (Or.inl ⟨by rfl, ?_⟩) ?_ ?_
             rotate_left
             ·intro w'
              go_simp
              with_reducible rfl
             rotate_left
             ·simp only [Act.put, List.setIfInBounds_toArray, List.set_cons_zero, List.set_cons_succ, i64_w, i32_w]
              rfl
             refine pure_ (i := 12) (N := some 123) (v := ?_) (a' := ?_) #[true, true, true, true, true, true, true, true, true, true, true, true, true, false, false, false, false, false, false, false, false, false] rfl rfl (any_of HT_.out (by kernel_rfl)) (fun _ _ _ h => h) (Or.inl ⟨by rfl, ?_⟩) ?_ ?_
             rotate_left
             ·intro w'
              go_simp
              with_reducible rfl
             rotate_left
             ·simp only [Act.put, List.setIfInBounds_toArray, List.set_cons_zero, List.set_cons_succ, i64_w, i32_w]
              rfl
             refine pure_ (i := 13) (N := some 124) (v := ?_) (a' := ?_) #[true, true, true, true, true, true, true, true, true, true, true, true, true, true, false, false, false, false, false, false, false, false] rfl rfl (any_of HT_.out (by kernel_rfl)) (fun _ _ _ h => h) (Or.inl ⟨by rfl, ?_⟩) ?_ ?_
             rotate_left
             ·intro w'
              go_simp
              with_reducible rfl
             rotate_left
             ·simp only [Act.put, List.setIfInBounds_toArray, List.set_cons_zero, List.set_cons_succ, i64_w, i32_w]
              rfl
             refine pure_ (i := 14) (N := some 125) (v := undef) (a' := ?_) #[true, true, true, true, true, true, true, true, true, true, true, true, true, true, true, false, false, false, false, false, false, false] rfl rfl (any_of HT_.out (by kernel_rfl)) (fun _ _ _ h => h) (Or.inr ⟨by rfl, rfl⟩) ?_ ?_
             rotate_left
             ·simp only [Act.put, List.setIfInBounds_toArray, List.set_cons_zero, List.set_cons_succ, i64_w, i32_w]
              rfl
             refine pure_ (i := 15) (N := some 126) (v := undef) (a' := ?_) #[true, true, true, true, true, true, true, true, true, true, true, true, true, true, true, true, false, false, false, false, false, false] rfl rfl (any_of HT_.out (by kernel_rfl)) (fun _ _ _ h => h) (Or.inr ⟨by rfl, rfl⟩) ?_ ?_
             rotate_left
             ·simp only [Act.put, List.setIfInBounds_toArray, List.set_cons_zero, List.set_cons_succ, i64_w, i32_w]
              rfl
             refine pure_ (i := 16) (N := some 127) (v := undef) (a' := ?_) #[true, true, true, true, true, true, true, true, true, true, true, true, true, true, true, true, true, false, false, false, false, false] rfl rfl (any_of HT_.out (by kernel_rfl)) (fun _ _ _ h => h) (Or.inr ⟨by rfl, rfl⟩) ?_ ?_
             rotate_left
             ·simp only [Act.put, List.setIfInBounds_toArray, List.set_cons_zero, List.set_cons_succ, i64_w, i32_w]
              rfl
             refine pure_ (i := 17) (N := some 128) (v := undef) (a' := ?_) #[true, true, true, true, true, true, true, true, true, true, true, true, true, true, true, true, true, true, false, false, false, false] rfl rfl (any_of HT_.out (by kernel_rfl)) (fun _ _ _ h => h) (Or.inr ⟨by rfl, rfl⟩) ?_ ?_
             rotate_left
             ·simp only [Act.put, List.setIfInBounds_toArray, List.set_cons_zero, List.set_cons_succ, i64_w, i32_w]
              rfl
             refine pure_ (i := 18) (N := some 129) (v := undef) (a' := ?_) #[true, true, true, true, true, true, true, true, true, true, true, true, true, true, true, true, true, true, true, false, false, false] rfl rfl (any_of HT_.out (by kernel_rfl)) (fun _ _ _ h => h) (Or.inr ⟨by rfl, rfl⟩) ?_ ?_
             rotate_left
             ·simp only [Act.put, List.setIfInBounds_toArray, List.set_cons_zero, List.set_cons_succ, i64_w, i32_w]
              rfl
             refine pure_ (i := 19) (N := some 130) (v := undef) (a' := ?_) #[true, true, true, true, true, true, true, true, true, true, true, true, true, true, true, true, true, true, true, true, false, false] rfl rfl (any_of HT_.out (by kernel_rfl)) (fun _ _ _ h => h) (Or.inr ⟨by rfl, rfl⟩) ?_ ?_
             rotate_left
             ·simp only [Act.put, List.setIfInBounds_toArray, List.set_cons_zero, List.set_cons_succ, i64_w, i32_w]
              rfl
             refine pure_ (i := 20) (N := some 131) (v := ?_) (a' := ?_) #[true, true, true, true, true, true, true, true, true, true, true, true, true, true, true, true, true, true, true, true, true, false] rfl rfl (any_of HT_.out (by kernel_rfl)) (fun _ _ _ h => h) (Or.inl ⟨by rfl, ?_⟩) ?_ ?_
             rotate_left
             ·intro w'
              go_simp
              with_reducible rfl
             rotate_left
             ·simp only [Act.put, List.setIfInBounds_toArray, List.set_cons_zero, List.set_cons_succ, i64_w, i32_w]
              rfl
             refine pure_ (i := 21) (N := some 2) (v := ?_) (a' := ?_) #[true, true, true, true, true, true, true, true, true, true, true, true, true, true, true, true, true, true, true, true, true, true] rfl rfl (any_of HT_.out (by kernel_rfl)) (fun _ _ _ h => h) (Or.inl ⟨by rfl, ?_⟩) ?_ ?_
             rotate_left
             ·intro w'
              go_simp
              with_reducible rfl
             rotate_left
             ·simp only [Act.put, List.setIfInBounds_toArray, List.set_cons_zero, List.set_cons_succ, i64_w, i32_w]
              rfl
             refine done_ (done_of HT_.out (by kernel_rfl)) ?_
             try go_wp2
             go_ret
             exact ⟨by first | rfl | (simp [errW_none, errW_some] <;> rfl) | (simp only [← hji51]; first | rfl | (simp [errW_none, errW_some] <;> rfl)) | (simp [*, errW_none, errW_some] <;> rfl), by repeat (first | (with_reducible first | exact HB.out | apply zc | apply za | apply zb | refine zh ?_ GE237.out | refine zh ?_ GE240.out) | exact HB.out)⟩
           ·rw [if_neg c64] at H
            have c64b0 : decide (a0_3 ≤ (rd l0_5 (ji51))) = false := decide_eq_false c64
            clear c64
            obtain rfl := Option.some.inj H
            have hnb96 := NB237_240.out
            have hnc96 := NB240_237.out
            have hcz97_0 : wr.cell? ⟨gb237, 0, none⟩ = some (.int .i64 a0_0) := (ze BK237.out 0).trans rfl
            have hcz97_1 : wr.cell? ⟨gb237, 1, none⟩ = some (.int .i64 a0_1) := (ze BK237.out 1).trans rfl
            have hcz97_2 : wr.cell? ⟨gb237, 2, none⟩ = some (.int .u64 a0_2) := (ze BK237.out 2).trans rfl
            have hcz97_3 : wr.cell? ⟨gb237, 3, none⟩ = some (.int .i64 a0_3) := (ze BK237.out 3).trans rfl
            have hcz97_4 : wr.cell? ⟨gb237, 4, none⟩ = some (.int .i64 a0_4) := (ze BK237.out 4).trans rfl
            have hcz97_5 : wr.cell? ⟨gb237, 5, none⟩ = some (.slice A0_5 l0_5.length c0_5) := (ze BK237.out 5).trans rfl
            have hfz97_0 := zd BK237.out 0
            have hfz97_1 := zd BK237.out 1
            have hfz97_2 := zd BK237.out 2
            have hfz97_3 := zd BK237.out 3
            have hfz97_4 := zd BK237.out 4
            have hfz97_5 := zd BK237.out 5
            have p249 : 0 ≤ ((ji51) : Int) := of_decide_eq_true (by first | (with_reducible assumption) | assumption)
            have q249 : (ji51) < (l0_5.length : Int) := of_decide_eq_true (by first | (with_reducible assumption) | assumption)
            obtain ⟨ad249, e249, hx249_0⟩ := Kd.at_int HR0_5.out (ji51) p249 q249
            cases e249
            replace hx249_0 := (HB.out.cell (World.block_lt_of_cell? w _ hx249_0)).trans hx249_0
            replace p249 := eq_true p249
            replace q249 := eq_true q249
            try go_wp2
            have n0_ := zp.mk (zi BK237.out)
            have n1_ := zp.mk (zi BK240.out)
            have n2_ := zp.mk (zb HB.out)
            clear BK237
            clear BK240
            clear HB
            have BK237 := n0_
            have BK240 := n1_
            have HB := n2_
            clear n0_ n1_ n2_
            refine start_ (n := 7) (S := fun w' => w'.cell? ⟨gb240, 0, none⟩ = some (.int .i64 x241000_2) ∧ w'.cell? ⟨gb240, 1, none⟩ = some (.int .u64 x241001_2) ∧ w'.cell? ⟨gb237, 0, none⟩ = some (.int .i64 a0_0) ∧ w'.cell? ⟨gb237, 1, none⟩ = some (.int .i64 a0_1) ∧ w'.cell? ⟨gb237, 2, none⟩ = some (.int .u64 a0_2) ∧ w'.cell? ⟨gb237, 3, none⟩ = some (.int .i64 a0_3) ∧ w'.cell? ⟨gb237, 4, none⟩ = some (.int .i64 a0_4) ∧ w'.cell? ⟨gb237, 5, none⟩ = some (.slice (some ad249) l0_5.length c0_5)) (ds := [6]) #[false, false, false, false, false, false, false] (by kernel_rfl) rfl rfl ⟨(ze BK240.out 0).trans rfl, (ze BK240.out 1).trans rfl, (ze BK237.out 0).trans rfl, (ze BK237.out 1).trans rfl, (ze BK237.out 2).trans rfl, (ze BK237.out 3).trans rfl, (ze BK237.out 4).trans rfl, (ze BK237.out 5).trans rfl⟩ (fun hHeld => ?_)
            generalize wr.drew = w98 at BK237 BK240 HB hHeld ⊢
            refine pure_ (i := 1) (N := some 106) (v := ?_) (a' := ?_) #[false, true, false, false, false, false, false] rfl rfl (by kernel_rfl) (fun _ _ _ h => h) (Or.inl ⟨by rfl, ?_⟩) ?_ ?_
            rotate_left
            ·intro w'
             go_simp
             with_reducible rfl
            rotate_left
            ·simp only [Act.put, List.setIfInBounds_toArray, List.set_cons_zero, List.set_cons_succ, i64_w, i32_w]
             rfl
            refine take_ (i := 0) (N := some 105) (v := ?_) (a' := ?_) #[true, true, false, false, false, false, false] rfl rfl (by kernel_rfl) (fun _ _ _ h => h) (Or.inl ⟨by rfl, ?_⟩) hHeld ?_ ?_
            rotate_left
            ·rintro w' ⟨s0, s1, s2, s3, s4, s5, s6, s7⟩
             go_simp
             with_reducible rfl
            rotate_left
            ·simp only [Act.put, List.setIfInBounds_toArray, List.set_cons_zero, List.set_cons_succ, i64_w, i32_w]
             rfl
            refine take_ (i := 2) (N := some 107) (v := ?_) (a' := ?_) #[true, true, true, false, false, false, false] rfl rfl (by kernel_rfl) (fun _ _ _ h => h) (Or.inl ⟨by rfl, ?_⟩) hHeld ?_ ?_
            rotate_left
            ·rintro w' ⟨s0, s1, s2, s3, s4, s5, s6, s7⟩
             go_simp
             with_reducible rfl
            rotate_left
            ·simp only [Act.put, List.setIfInBounds_toArray, List.set_cons_zero, List.set_cons_succ, i64_w, i32_w]
             rfl
            refine one_ (i := 3) (N := some 108) #[true, true, true, true, false, false, false] rfl rfl (by kernel_rfl) (by decide) (fun K hK => ?_)
            refine goes_ Try.func49 (by kernel_rfl) rfl #[.int .i64 a0_3] (by rfl) rfl rfl (by (try simp only [List.map_toArray, List.map_cons, List.map_nil]); first | done | rfl | (simp only [List.length_drop, List.length_take]; rfl)) ?_
            with_reducible refine (impl_WideOf.calls a0_3 t250 t251 _ A61.out).mono ?_
            rintro e w99 ⟨rfl, hb⟩
            refine ⟨_, rfl, ?_⟩
            have n0_ := zp.mk (zl (g := gb237) (o := .cells #[.int .i64 a0_0, .int .i64 a0_1, .int .u64 a0_2, .int .i64 a0_3, .int .i64 a0_4, .slice (some ad249) l0_5.length c0_5] 32 (0, 0)) (by (with_reducible repeat (first | refine zf ?_ _ | refine zi ?_ | refine zg ?_ _)); exact BK237.out) hb)
            have n1_ := zp.mk (zl (g := gb240) (o := .cells #[.int .i64 x241000_2, .int .u64 x241001_2] 30 (0, 0)) (by (with_reducible repeat (first | refine zf ?_ _ | refine zi ?_ | refine zg ?_ _)); exact BK240.out) hb)
            have n2_ := zp.mk (zj (by repeat (first | (with_reducible first | exact HB.out | apply zc | apply za | apply zb | refine zh ?_ GE237.out | refine zh ?_ GE240.out) | exact HB.out)) hb)
            clear BK237
            clear BK240
            clear HB
            have BK237 := n0_
            have BK240 := n1_
            have HB := n2_
            clear n0_ n1_ n2_
            (try clear hb)
            (try clear hb2)
            (try clear hk)
            (try clear hi)
            refine hK.out _ _ ⟨(ze BK240.out 0).trans rfl, (ze BK240.out 1).trans rfl, (ze BK237.out 0).trans rfl, (ze BK237.out 1).trans rfl, (ze BK237.out 2).trans rfl, (ze BK237.out 3).trans rfl, (ze BK237.out 4).trans rfl, (ze BK237.out 5).trans rfl⟩ (fun hHeld => ?_)
            clear hK K
            refine norm_ (a' := ?_) ?_ ?_
            rotate_left
            ·show Act.put _ (some 108) _ = _
             simp only [Act.put, List.setIfInBounds_toArray, List.set_cons_zero, List.set_cons_succ, i64_w, i32_w]
             rfl
            refine one_ (i := 4) (N := some 109) #[true, true, true, true, true, false, false] rfl rfl (by kernel_rfl) (by decide) (fun K hK => ?_)
            refine goes_ Try.func48 (by kernel_rfl) rfl #[.agg #[.int .i64 t250, .int .u64 t251]] (by rfl) rfl rfl (by (try simp only [List.map_toArray, List.map_cons, List.map_nil]); first | done | rfl | (simp only [List.length_drop, List.length_take]; rfl)) ?_
            with_reducible refine (impl_WideNeg.calls t250 t251 t252 t253 _ A62.out).mono ?_
            rintro e w100 ⟨rfl, hb⟩
            refine ⟨_, rfl, ?_⟩
            have n0_ := zp.mk (zl (g := gb237) (o := .cells #[.int .i64 a0_0, .int .i64 a0_1, .int .u64 a0_2, .int .i64 a0_3, .int .i64 a0_4, .slice (some ad249) l0_5.length c0_5] 32 (0, 0)) (by (with_reducible repeat (first | refine zf ?_ _ | refine zi ?_ | refine zg ?_ _)); exact BK237.out) hb)
            have n1_ := zp.mk (zl (g := gb240) (o := .cells #[.int .i64 x241000_2, .int .u64 x241001_2] 30 (0, 0)) (by (with_reducible repeat (first | refine zf ?_ _ | refine zi ?_ | refine zg ?_ _)); exact BK240.out) hb)
            have n2_ := zp.mk (zj (by repeat (first | (with_reducible first | exact HB.out | apply zc | apply za | apply zb | refine zh ?_ GE237.out | refine zh ?_ GE240.out) | exact HB.out)) hb)
            clear BK237
            clear BK240
            clear HB
            have BK237 := n0_
            have BK240 := n1_
            have HB := n2_
            clear n0_ n1_ n2_
            (try clear hb)
            (try clear hb2)
            (try clear hk)
            (try clear hi)
            refine hK.out _ _ ⟨(ze BK240.out 0).trans rfl, (ze BK240.out 1).trans rfl, (ze BK237.out 0).trans rfl, (ze BK237.out 1).trans rfl, (ze BK237.out 2).trans rfl, (ze BK237.out 3).trans rfl, (ze BK237.out 4).trans rfl, (ze BK237.out 5).trans rfl⟩ (fun hHeld => ?_)
            clear hK K
            refine norm_ (a' := ?_) ?_ ?_
            rotate_left
            ·show Act.put _ (some 109) _ = _
             simp only [Act.put, List.setIfInBounds_toArray, List.set_cons_zero, List.set_cons_succ, i64_w, i32_w]
             rfl
            refine one_ (i := 5) (N := some 110) #[true, true, true, true, true, true, false] rfl rfl (by kernel_rfl) (by decide) (fun K hK => ?_)
            refine goes_ Try.func47 (by kernel_rfl) rfl #[.agg #[.int .i64 x241000_2, .int .u64 x241001_2], .agg #[.int .i64 t252, .int .u64 t253]] (by rfl) rfl rfl (by (try simp only [List.map_toArray, List.map_cons, List.map_nil]); first | done | rfl | (simp only [List.length_drop, List.length_take]; rfl)) ?_
            with_reducible refine (impl_WideAdd.calls x241000_2 x241001_2 t252 t253 t254 t255 _ A63.out).mono ?_
            rintro e w101 ⟨rfl, hb⟩
            refine ⟨_, rfl, ?_⟩
            have n0_ := zp.mk (zl (g := gb237) (o := .cells #[.int .i64 a0_0, .int .i64 a0_1, .int .u64 a0_2, .int .i64 a0_3, .int .i64 a0_4, .slice (some ad249) l0_5.length c0_5] 32 (0, 0)) (by (with_reducible repeat (first | refine zf ?_ _ | refine zi ?_ | refine zg ?_ _)); exact BK237.out) hb)
            have n1_ := zp.mk (zl (g := gb240) (o := .cells #[.int .i64 x241000_2, .int .u64 x241001_2] 30 (0, 0)) (by (with_reducible repeat (first | refine zf ?_ _ | refine zi ?_ | refine zg ?_ _)); exact BK240.out) hb)
            have n2_ := zp.mk (zj (by repeat (first | (with_reducible first | exact HB.out | apply zc | apply za | apply zb | refine zh ?_ GE237.out | refine zh ?_ GE240.out) | exact HB.out)) hb)
            clear BK237
            clear BK240
            clear HB
            have BK237 := n0_
            have BK240 := n1_
            have HB := n2_
            clear n0_ n1_ n2_
            (try clear hb)
            (try clear hb2)
            (try clear hk)
            (try clear hi)
            refine hK.out _ _ ⟨(ze BK240.out 0).trans rfl, (ze BK240.out 1).trans rfl, (ze BK237.out 0).trans rfl, (ze BK237.out 1).trans rfl, (ze BK237.out 2).trans rfl, (ze BK237.out 3).trans rfl, (ze BK237.out 4).trans rfl, (ze BK237.out 5).trans rfl⟩ (fun hHeld => ?_)
            clear hK K
            refine norm_ (a' := ?_) ?_ ?_
            rotate_left
            ·show Act.put _ (some 110) _ = _
             simp only [Act.put, List.setIfInBounds_toArray, List.set_cons_zero, List.set_cons_succ, i64_w, i32_w]
             rfl
            refine last_ (i := 6) (N := none) #[true, true, true, true, true, true, true] rfl rfl (by kernel_rfl) (by decide) (fun K hK => ?_)
            have hs102 : w101.cell? ⟨gb240, 0, none⟩ = some (.int .i64 x241000_2) := (ze BK240.out 0).trans rfl
            have hfs102 := zd BK240.out 0
            have hns102_0 := NB237_240.out
            have hms102_0 := NB240_237.out
            have hs103 : w101.cell? ⟨gb240, 1, none⟩ = some (.int .u64 x241001_2) := (ze BK240.out 1).trans rfl
            have hfs103 := zd BK240.out 1
            have hns103_0 := NB237_240.out
            have hms103_0 := NB240_237.out
            refine skip_ (w1 := ?_) (by rfl) rfl ?_ ?_
            rotate_left
            ·go_simp
             rfl
            refine hK.out _ _ ?_
            clear hK K
            refine done_ (by kernel_rfl) ?_
            try go_wp2
            have n0_ : zp (((w101.setCell ⟨gb240, 0, none⟩ (.int .i64 t254)).setCell ⟨gb240, 1, none⟩ (.int .u64 t255)).heap[gb237]? = some (.cells #[.int .i64 a0_0, .int .i64 a0_1, .int .u64 a0_2, .int .i64 a0_3, .int .i64 a0_4, .slice (some ad249) l0_5.length c0_5] 32 (0, 0))) := ⟨by (with_reducible repeat (first | refine zf ?_ _ | refine zi ?_ | refine zg ?_ _)); refine blk_far ?_ NB237_240.out _; (with_reducible repeat (first | refine zf ?_ _ | refine zi ?_ | refine zg ?_ _)); refine blk_far ?_ NB237_240.out _; (with_reducible repeat (first | refine zf ?_ _ | refine zi ?_ | refine zg ?_ _)); exact BK237.out⟩
            have n1_ : zp (((w101.setCell ⟨gb240, 0, none⟩ (.int .i64 t254)).setCell ⟨gb240, 1, none⟩ (.int .u64 t255)).heap[gb240]? = some (.cells #[.int .i64 t254, .int .u64 t255] 30 (0, 0))) := ⟨by (with_reducible repeat (first | refine zf ?_ _ | refine zi ?_ | refine zg ?_ _)); refine blk_put (cs := #[.int .i64 t254, .int .u64 x241001_2]) ?_ 1 _ rfl; (with_reducible repeat (first | refine zf ?_ _ | refine zi ?_ | refine zg ?_ _)); refine blk_put (cs := #[.int .i64 x241000_2, .int .u64 x241001_2]) ?_ 0 _ rfl; (with_reducible repeat (first | refine zf ?_ _ | refine zi ?_ | refine zg ?_ _)); exact BK240.out⟩
            have n2_ : zp (Below w.heap.size w ((w101.setCell ⟨gb240, 0, none⟩ (.int .i64 t254)).setCell ⟨gb240, 1, none⟩ (.int .u64 t255))) := ⟨by repeat (first | (with_reducible first | exact HB.out | apply zc | apply za | apply zb | refine zh ?_ GE237.out | refine zh ?_ GE240.out) | exact HB.out)⟩
            (try clear BK237)
            (try clear BK240)
            (try clear HB)
            generalize ((w101.setCell ⟨gb240, 0, none⟩ (.int .i64 t254)).setCell ⟨gb240, 1, none⟩ (.int .u64 t255)) = w104 at n0_ n1_ n2_ ⊢
            have BK237 := n0_
            have BK240 := n1_
            have HB := n2_
            clear n0_ n1_ n2_
            have n0_ := zp.mk (zi BK237.out)
            have n1_ := zp.mk (zi BK240.out)
            have n2_ := zp.mk (zb HB.out)
            clear BK237
            clear BK240
            clear HB
            have BK237 := n0_
            have BK240 := n1_
            have HB := n2_
            clear n0_ n1_ n2_
            refine start_ (n := 22) (S := fun w' => w'.cell? ⟨gb237, 0, none⟩ = some (.int .i64 a0_0) ∧ w'.cell? ⟨gb237, 1, none⟩ = some (.int .i64 a0_1) ∧ w'.cell? ⟨gb237, 2, none⟩ = some (.int .u64 a0_2) ∧ w'.cell? ⟨gb237, 3, none⟩ = some (.int .i64 a0_3) ∧ w'.cell? ⟨gb237, 4, none⟩ = some (.int .i64 a0_4) ∧ w'.cell? ⟨gb237, 5, none⟩ = some (.slice (some ad249) l0_5.length c0_5)) (ds := []) #[false, false, false, false, false, false, false, false, false, false, false, false, false, false, false, false, false, false, false, false, false, false] (by kernel_rfl) rfl rfl ⟨(ze BK237.out 0).trans rfl, (ze BK237.out 1).trans rfl, (ze BK237.out 2).trans rfl, (ze BK237.out 3).trans rfl, (ze BK237.out 4).trans rfl, (ze BK237.out 5).trans rfl⟩ (fun hHeld => ?_); refine with_tabW impl_isAgg.tab18 impl_isAgg.bits18 (fun HT_ HW_ => ?_)
            generalize w104.drew = w105 at BK237 BK240 HB hHeld ⊢
            refine pure_ (i := 0) (N := some 111) (v := ?_) (a' := ?_) #[true, false, false, false, false, false, false, false, false, false, false, false, false, false, false, false, false, false, false, false, false, false] rfl rfl (any_of HT_.out (by kernel_rfl)) (fun _ _ _ h => h) (Or.inl ⟨by rfl, ?_⟩) ?_ ?_
            rotate_left
            ·intro w'
             go_simp
             with_reducible rfl
            rotate_left
            ·simp only [Act.put, List.setIfInBounds_toArray, List.set_cons_zero, List.set_cons_succ, i64_w, i32_w]
             rfl
            refine pure_ (i := 2) (N := some 113) (v := ?_) (a' := ?_) #[true, false, true, false, false, false, false, false, false, false, false, false, false, false, false, false, false, false, false, false, false, false] rfl rfl (any_of HT_.out (by kernel_rfl)) (fun _ _ _ h => h) (Or.inl ⟨by rfl, ?_⟩) ?_ ?_
            rotate_left
            ·intro w'
             go_simp
             with_reducible rfl
            rotate_left
            ·simp only [Act.put, List.setIfInBounds_toArray, List.set_cons_zero, List.set_cons_succ, i64_w, i32_w]
             rfl
            refine take_ (i := 1) (N := some 112) (v := ?_) (a' := ?_) #[true, true, true, false, false, false, false, false, false, false, false, false, false, false, false, false, false, false, false, false, false, false] rfl rfl (take_ofW HT_.out HW_.out (by kernel_rfl)) (fun _ _ _ h => h) (Or.inl ⟨by rfl, ?_⟩) hHeld ?_ ?_
            rotate_left
            ·rintro w' ⟨s0, s1, s2, s3, s4, s5⟩
             go_simp
             with_reducible rfl
            rotate_left
            ·simp only [Act.put, List.setIfInBounds_toArray, List.set_cons_zero, List.set_cons_succ, i64_w, i32_w]
             rfl
            refine pure_ (i := 3) (N := some 114) (v := ?_) (a' := ?_) #[true, true, true, true, false, false, false, false, false, false, false, false, false, false, false, false, false, false, false, false, false, false] rfl rfl (any_of HT_.out (by kernel_rfl)) (fun _ _ _ h => h) (Or.inl ⟨by rfl, ?_⟩) ?_ ?_
            rotate_left
            ·intro w'
             go_simp
             with_reducible rfl
            rotate_left
            ·simp only [Act.put, List.setIfInBounds_toArray, List.set_cons_zero, List.set_cons_succ, i64_w, i32_w]
             rfl
            refine pure_ (i := 4) (N := some 115) (v := ?_) (a' := ?_) #[true, true, true, true, true, false, false, false, false, false, false, false, false, false, false, false, false, false, false, false, false, false] rfl rfl (any_of HT_.out (by kernel_rfl)) (fun _ _ _ h => h) (Or.inl ⟨by rfl, ?_⟩) ?_ ?_
            rotate_left
            ·intro w'
             go_simp
             with_reducible rfl
            rotate_left
            ·simp only [Act.put, List.setIfInBounds_toArray, List.set_cons_zero, List.set_cons_succ, i64_w, i32_w]
             rfl
            refine pure_ (i := 5) (N := some 116) (v := undef) (a' := ?_) #[true, true, true, true, true, true, false, false, false, false, false, false, false, false, false, false, false, false, false, false, false, false] rfl rfl (any_of HT_.out (by kernel_rfl)) (fun _ _ _ h => h) (Or.inr ⟨by rfl, rfl⟩) ?_ ?_
            rotate_left
            ·simp only [Act.put, List.setIfInBounds_toArray, List.set_cons_zero, List.set_cons_succ, i64_w, i32_w]
             rfl
            refine pure_ (i := 6) (N := some 117) (v := undef) (a' := ?_) #[true, true, true, true, true, true, true, false, false, false, false, false, false, false, false, false, false, false, false, false, false, false] rfl rfl (any_of HT_.out (by kernel_rfl)) (fun _ _ _ h => h) (Or.inr ⟨by rfl, rfl⟩) ?_ ?_
            rotate_left
            ·simp only [Act.put, List.setIfInBounds_toArray, List.set_cons_zero, List.set_cons_succ, i64_w, i32_w]
             rfl
            refine pure_ (i := 7) (N := some 118) (v := undef) (a' := ?_) #[true, true, true, true, true, true, true, true, false, false, false, false, false, false, false, false, false, false, false, false, false, false] rfl rfl (any_of HT_.out (by kernel_rfl)) (fun _ _ _ h => h) (Or.inr ⟨by rfl, rfl⟩) ?_ ?_
            rotate_left
            ·simp only [Act.put, List.setIfInBounds_toArray, List.set_cons_zero, List.set_cons_succ, i64_w, i32_w]
             rfl
            refine pure_ (i := 8) (N := some 119) (v := undef) (a' := ?_) #[true, true, true, true, true, true, true, true, true, false, false, false, false, false, false, false, false, false, false, false, false, false] rfl rfl (any_of HT_.out (by kernel_rfl)) (fun _ _ _ h => h) (Or.inr ⟨by rfl, rfl⟩) ?_ ?_
            rotate_left
            ·simp only [Act.put, List.setIfInBounds_toArray, List.set_cons_zero, List.set_cons_succ, i64_w, i32_w]
             rfl
            refine pure_ (i := 9) (N := some 120) (v := undef) (a' := ?_) #[true, true, true, true, true, true, true, true, true, true, false, false, false, false, false, false, false, false, false, false, false, false] rfl rfl (any_of HT_.out (by kernel_rfl)) (fun _ _ _ h => h) (Or.inr ⟨by rfl, rfl⟩) ?_ ?_
            rotate_left
            ·simp only [Act.put, List.setIfInBounds_toArray, List.set_cons_zero, List.set_cons_succ, i64_w, i32_w]
             rfl
            refine pure_ (i := 10) (N := some 121) (v := undef) (a' := ?_) #[true, true, true, true, true, true, true, true, true, true, true, false, false, false, false, false, false, false, false, false, false, false] rfl rfl (any_of HT_.out (by kernel_rfl)) (fun _ _ _ h => h) (Or.inr ⟨by rfl, rfl⟩) ?_ ?_
            rotate_left
            ·simp only [Act.put, List.setIfInBounds_toArray, List.set_cons_zero, List.set_cons_succ, i64_w, i32_w]
             rfl
            refine pure_ (i := 11) (N := some 122) (v := undef) (a' := ?_) #[true, true, true, true, true, true, true, true, true, true, true, true, false, false, false, false, false, false, false, false, false, false] rfl rfl (any_of HT_.out (by kernel_rfl)) (fun _ _ _ h => h) (Or.inr ⟨by rfl, rfl⟩) ?_ ?_
            rotate_left
            ·simp only [Act.put, List.setIfInBounds_toArray, List.set_cons_zero, List.set_cons_succ, i64_w, i32_w]
             rfl
            refine pure_ (i := 12) (N := some 123) (v := ?_) (a' := ?_) #[true, true, true, true, true, true, true, true, true, true, true, true, true, false, false, false, false, false, false, false, false, false] rfl rfl (any_of HT_.out (by kernel_rfl)) (fun _ _ _ h => h) (Or.inl ⟨by rfl, ?_⟩) ?_ ?_
            rotate_left
            ·intro w'
             go_simp
             with_reducible rfl
            rotate_left
            ·simp only [Act.put, List.setIfInBounds_toArray, List.set_cons_zero, List.set_cons_succ, i64_w, i32_w]
             rfl
            refine pure_ (i := 13) (N := some 124) (v := ?_) (a' := ?_) #[true, true, true, true, true, true, true, true, true, true, true, true, true, true, false, false, false, false, false, false, false, false] rfl rfl (any_of HT_.out (by kernel_rfl)) (fun _ _ _ h => h) (Or.inl ⟨by rfl, ?_⟩) ?_ ?_
            rotate_left
            ·intro w'
             go_simp
             with_reducible rfl
            rotate_left
            ·simp only [Act.put, List.setIfInBounds_toArray, List.set_cons_zero, List.set_cons_succ, i64_w, i32_w]
             rfl
            refine pure_ (i := 14) (N := some 125) (v := undef) (a' := ?_) #[true, true, true, true, true, true, true, true, true, true, true, true, true, true, true, false, false, false, false, false, false, false] rfl rfl (any_of HT_.out (by kernel_rfl)) (fun _ _ _ h => h) (Or.inr ⟨by rfl, rfl⟩) ?_ ?_
            rotate_left
            ·simp only [Act.put, List.setIfInBounds_toArray, List.set_cons_zero, List.set_cons_succ, i64_w, i32_w]
             rfl
            refine pure_ (i := 15) (N := some 126) (v := undef) (a' := ?_) #[true, true, true, true, true, true, true, true, true, true, true, true, true, true, true, true, false, false, false, false, false, false] rfl rfl (any_of HT_.out (by kernel_rfl)) (fun _ _ _ h => h) (Or.inr ⟨by rfl, rfl⟩) ?_ ?_
            rotate_left
            ·simp only [Act.put, List.setIfInBounds_toArray, List.set_cons_zero, List.set_cons_succ, i64_w, i32_w]
             rfl
            refine pure_ (i := 16) (N := some 127) (v := undef) (a' := ?_) #[true, true, true, true, true, true, true, true, true, true, true, true, true, true, true, true, true, false, false, false, false, false] rfl rfl (any_of HT_.out (by kernel_rfl)) (fun _ _ _ h => h) (Or.inr ⟨by rfl, rfl⟩) ?_ ?_
            rotate_left
            ·simp only [Act.put, List.setIfInBounds_toArray, List.set_cons_zero, List.set_cons_succ, i64_w, i32_w]
             rfl
            refine pure_ (i := 17) (N := some 128) (v := undef) (a' := ?_) #[true, true, true, true, true, true, true, true, true, true, true, true, true, true, true, true, true, true, false, false, false, false] rfl rfl (any_of HT_.out (by kernel_rfl)) (fun _ _ _ h => h) (Or.inr ⟨by rfl, rfl⟩) ?_ ?_
            rotate_left
            ·simp only [Act.put, List.setIfInBounds_toArray, List.set_cons_zero, List.set_cons_succ, i64_w, i32_w]
             rfl
            refine pure_ (i := 18) (N := some 129) (v := undef) (a' := ?_) #[true, true, true, true, true, true, true, true, true, true, true, true, true, true, true, true, true, true, true, false, false, false] rfl rfl (any_of HT_.out (by kernel_rfl)) (fun _ _ _ h => h) (Or.inr ⟨by rfl, rfl⟩) ?_ ?_
            rotate_left
            ·simp only [Act.put, List.setIfInBounds_toArray, List.set_cons_zero, List.set_cons_succ, i64_w, i32_w]
             rfl
            refine pure_ (i := 19) (N := some 130) (v := undef) (a' := ?_) #[true, true, true, true, true, true, true, true, true, true, true, true, true, true, true, true, true, true, true, true, false, false] rfl rfl (any_of HT_.out (by kernel_rfl)) (fun _ _ _ h => h) (Or.inr ⟨by rfl, rfl⟩) ?_ ?_
            rotate_left
            ·simp only [Act.put, List.setIfInBounds_toArray, List.set_cons_zero, List.set_cons_succ, i64_w, i32_w]
             rfl
            refine pure_ (i := 20) (N := some 131) (v := ?_) (a' := ?_) #[true, true, true, true, true, true, true, true, true, true, true, true, true, true, true, true, true, true, true, true, true, false] rfl rfl (any_of HT_.out (by kernel_rfl)) (fun _ _ _ h => h) (Or.inl ⟨by rfl, ?_⟩) ?_ ?_
            rotate_left
            ·intro w'
             go_simp
             with_reducible rfl
            rotate_left
            ·simp only [Act.put, List.setIfInBounds_toArray, List.set_cons_zero, List.set_cons_succ, i64_w, i32_w]
             rfl
            refine pure_ (i := 21) (N := some 2) (v := ?_) (a' := ?_) #[true, true, true, true, true, true, true, true, true, true, true, true, true, true, true, true, true, true, true, true, true, true] rfl rfl (any_of HT_.out (by kernel_rfl)) (fun _ _ _ h => h) (Or.inl ⟨by rfl, ?_⟩) ?_ ?_
            rotate_left
            ·intro w'
             go_simp
             with_reducible rfl
            rotate_left
            ·simp only [Act.put, List.setIfInBounds_toArray, List.set_cons_zero, List.set_cons_succ, i64_w, i32_w]
             rfl
            refine done_ (done_of HT_.out (by kernel_rfl)) ?_
            try go_wp2
            go_ret
            exact ⟨by first | rfl | (simp [errW_none, errW_some] <;> rfl) | (simp only [← hji51]; first | rfl | (simp [errW_none, errW_some] <;> rfl)) | (simp [*, errW_none, errW_some] <;> rfl), by repeat (first | (with_reducible first | exact HB.out | apply zc | apply za | apply zb | refine zh ?_ GE237.out | refine zh ?_ GE240.out) | exact HB.out)⟩
         ·rw [if_neg c53] at H
          exact absurd H (by simp)
        ·rw [if_neg c52] at H
         exact absurd H (by simp)

end Go.Proofs.Ytnnahpmnkpmopaa.QFnExactAggOk
