/- Proved: calls of the program come to the answers of the plain Lean functions that stand beside them. Each contract names its conditions. (Written by a program of this session, over the printer of the kit.) -/
import Derived.Test.YtnnahpmnkpmopaaZAggDoneQFnExactAggDonex0
import Derived.Test.YtnnahpmnkpmopaaZAggDoneQFnExactAggDonex1
import Derived.Test.YtnnahpmnkpmopaaZAggDoneQFnExactAggDonex7
import Derived.Test.YtnnahpmnkpmopaaZAggDoneQFnExactAggDonex8
namespace Go.Proofs.Ytnnahpmnkpmopaa.QFnExactAggDone
open Go.RowKit Go.Proofs.YtnnahpmnkpmopaaW.PrintWords Go.Proofs.YtnnahpmnkpmopaaW.PrintLast Go.Proofs.YtnnahpmnkpmopaaW.PrintMore
attribute [local go_sem] max2_int min2_int max_two min_two max_three min_three max_four min_four   -- for this text's walks alone
set_option linter.unusedVariables false
set_option linter.unusedSimpArgs false

attribute [local go_sem high] eqA30
/-! ### impl_isAgg: function 34 -/
mutual
def impl_isAgg.j0 : Nat → Bool → Int → Int → Int → Int → Int → List Int → Option (Bool)
 | 0, _, _, _, _, _, _, _ => none
 | k + 1, x52, x330000, x330001, x330002, x330003, x330004, x330005 => if x52 = true then (some false) else (impl_isAgg.l0 k x330005 (x330005.length : Int) 0 x330000 x330001 x330002 x330003 x330004 x330005 x330001 x330002)
def impl_isAgg.l0 : Nat → List Int → Int → Int → Int → Int → Int → Int → Int → List Int → Int → Int → Option (Bool)
 | 0, _, _, _, _, _, _, _, _, _, _, _ => none
 | k + 1, x56, x57, x58, x330000, x330001, x330002, x330003, x330004, x330005, x333000, x333001 => if x58 < x57 then (if 0 ≤ x58 then (if x58 < (x56.length : Int) then (if x58 > 0 then (if 0 ≤ (wrap64 (x58 - 1)) then (if (wrap64 (x58 - 1)) < (x330005.length : Int) then (impl_isAgg.j2 k (rd x56 x58) x56 x57 x58 (decide ((rd x56 x58) > (rd x330005 (wrap64 (x58 - 1))))) x330000 x330001 x330002 x330003 x330004 x330005 x333000 x333001) else (none)) else (none)) else (impl_isAgg.j2 k (rd x56 x58) x56 x57 x58 false x330000 x330001 x330002 x330003 x330004 x330005 x333000 x333001)) else (none)) else (none)) else (if 0 ≤ (wrap64 ((x330005.length : Int) - 1)) then (if (wrap64 ((x330005.length : Int) - 1)) < (x330005.length : Int) then (if x330000 ≤ 4 then (if x330003 = (rd x330005 (wrap64 ((x330005.length : Int) - 1))) then (some (x333000 == 0 && (x333001 == 0))) else (some false)) else ((impl_WideOf.f x330003).bind fun bt342 => ((impl_WideNeg.f bt342.1 bt342.2).bind fun bt344 => ((impl_WideAdd.f x333000 x333001 bt344.1 bt344.2).bind fun bt346 => (if x330003 ≤ (rd x330005 (wrap64 ((x330005.length : Int) - 1))) then ((impl_wideTimes.f k x330003 (wrap64 ((wrap64 (x330000 - 4)) - 1))).bind fun bt348 => ((impl_WideCmp.f k bt348.1 bt348.2 bt346.1 bt346.2).bind fun t350 => (if t350 ≤ 0 then ((impl_wideTimes.f k (rd x330005 (wrap64 ((x330005.length : Int) - 1))) (wrap64 ((wrap64 (x330000 - 4)) - 1))).bind fun bt351 => ((impl_WideCmp.f k bt346.1 bt346.2 bt351.1 bt351.2).bind fun t353 => (some (decide (t353 ≤ 0))))) else (some false)))) else (some false)))))) else (none)) else (none))
def impl_isAgg.j2 : Nat → Int → List Int → Int → Int → Bool → Int → Int → Int → Int → Int → List Int → Int → Int → Option (Bool)
 | 0, _, _, _, _, _, _, _, _, _, _, _, _, _ => none
 | k + 1, x5, x56, x57, x58, x74, x330000, x330001, x330002, x330003, x330004, x330005, x333000, x333001 => if x74 = true then (some false) else ((impl_WideOf.f x5).bind fun bt335 => ((impl_WideNeg.f bt335.1 bt335.2).bind fun bt337 => ((impl_WideAdd.f x333000 x333001 bt337.1 bt337.2).bind fun bt339 => (impl_isAgg.l0 k x56 x57 (wrap64 (x58 + 1)) x330000 x330001 x330002 x330003 x330004 x330005 bt339.1 bt339.2))))
end
def impl_isAgg.f (k : Nat) (a0_0 : Int) (a0_1 : Int) (a0_2 : Int) (a0_3 : Int) (a0_4 : Int) (l0_5 : List Int) : Option (Bool) := if a0_0 = 0 then (if (a0_1 == 0 && (a0_2 == 0)) = true then (if a0_3 = 0 then (if a0_4 = 0 then (some ((l0_5.length : Int) == 0)) else (some false)) else (some false)) else (some false)) else ((impl_in.f a0_0 1 1000000).bind fun t330 => (if t330 = true then (if (l0_5.length : Int) = (mn a0_0 4) then (if 0 < (l0_5.length : Int) then (impl_isAgg.j0 k ((rd l0_5 0) != a0_4) a0_0 a0_1 a0_2 a0_3 a0_4 l0_5) else (none)) else (impl_isAgg.j0 k true a0_0 a0_1 a0_2 a0_3 a0_4 l0_5)) else (impl_isAgg.j0 k true a0_0 a0_1 a0_2 a0_3 a0_4 l0_5)))
def impl_isAgg.T3 : Bool × List (List Nat × List Nat) := (true, [([], []), ([0], [0]), ([1], [1]), ([2], [2]), ([3, 2], [3]), ([4], [4]), ([5, 4], [4, 5]), ([6, 4], [4, 6]), ([4], [4]), ([8, 4], [4, 8]), ([9, 4], [4, 9]), ([7, 10, 4], [4, 7, 10]), ([4, 11], [4, 11]), ([12, 4], [12]), ([13], [13]), ([14, 13], [13, 14]), ([15, 13], [13, 15]), ([16, 13], [13, 16]), ([13], [13]), ([18, 13], [13, 18]), ([17, 19, 13], [13, 17, 19]), ([13, 20], [13, 20])])
def impl_isAgg.B3 : List Nat := [0, 1, 3, 7, 15, 31, 63, 127, 31, 287, 799, 2047, 4095, 8191, 16383, 32767, 65535, 131071, 16383, 278527, 1048575, 2097151]
theorem impl_isAgg.tab3 : rtab .any (opsOf Try.f34 3) = impl_isAgg.T3 := by kernel_rfl
theorem impl_isAgg.bits3 : waitsOk impl_isAgg.T3.2 impl_isAgg.B3 = true := by kernel_rfl
def impl_isAgg.T18 : Bool × List (List Nat × List Nat) := (true, [([], []), ([0], [0]), ([], []), ([1, 2], [1, 2]), ([3], [3]), ([4], [4]), ([5, 4], [4, 5]), ([4], [4]), ([6, 7, 4, 4], [4, 6, 7]), ([4], [4]), ([8, 9, 8, 4], [4, 8, 9]), ([10, 4], [4, 10]), ([4, 11], [4, 11]), ([12, 10], [12]), ([13], [13]), ([13], [13]), ([13], [13]), ([15, 16, 13, 13], [13, 15, 16]), ([14, 17, 17, 13], [13, 14, 17]), ([18, 13], [13, 18]), ([13, 19], [13, 19]), ([20, 18, 0, 1, 2, 3, 4, 5, 6, 7, 8, 9, 10, 11, 12, 13, 14, 15, 16, 17, 18, 19, 20], [20])])
def impl_isAgg.B18 : List Nat := [0, 1, 0, 7, 15, 31, 63, 31, 255, 31, 1023, 2047, 4095, 8191, 16383, 16383, 16383, 114687, 262143, 524287, 1048575, 2097151]
theorem impl_isAgg.tab18 : rtab .any (opsOf Try.f34 18) = impl_isAgg.T18 := by kernel_rfl
theorem impl_isAgg.bits18 : waitsOk impl_isAgg.T18.2 impl_isAgg.B18 = true := by kernel_rfl
set_option maxHeartbeats 8000000 in
set_option maxRecDepth 100000 in
theorem impl_isAgg.calls (k : Nat) (a0_0 : Int) (a0_1 : Int) (a0_2 : Int) (a0_3 : Int) (a0_4 : Int) (A0_5 : Option Addr) (c0_5 : Nat) (l0_5 : List Int) (r : Bool) (w : World) (hr0_5 : Kd.C (Kd.int .i64) w A0_5 l0_5.length l0_5) (hc0_5 : l0_5.length ≤ c0_5) (h : impl_isAgg.f k a0_0 a0_1 a0_2 a0_3 a0_4 l0_5 = some r) :
  Calls Try.prog 34 #[.agg #[.int .i64 a0_0, .int .i64 a0_1, .int .u64 a0_2, .int .i64 a0_3, .int .i64 a0_4, .slice A0_5 l0_5.length c0_5]] w fun e w' => e = .returned (.bool r) ∧ Below w.heap.size w w' := by
 have hu32 := Try.underlying32
 have hu30 := Try.underlying30
 have HR0_5 := zp.mk hr0_5
 have HC0_5 := zp.mk hc0_5
 clear hr0_5 hc0_5
 have HB := zp.mk (Below.refl w.heap.size w)
 have H : (if a0_0 = 0 then (if (a0_1 == 0 && (a0_2 == 0)) = true then (if a0_3 = 0 then (if a0_4 = 0 then (some ((l0_5.length : Int) == 0)) else (some false)) else (some false)) else (some false)) else ((impl_in.f a0_0 1 1000000).bind fun t330 => (if t330 = true then (if (l0_5.length : Int) = (mn a0_0 4) then (if 0 < (l0_5.length : Int) then (impl_isAgg.j0 k ((rd l0_5 0) != a0_4) a0_0 a0_1 a0_2 a0_3 a0_4 l0_5) else (none)) else (impl_isAgg.j0 k true a0_0 a0_1 a0_2 a0_3 a0_4 l0_5)) else (impl_isAgg.j0 k true a0_0 a0_1 a0_2 a0_3 a0_4 l0_5)))) = some r := h
 clear h
 by_cases c2 : a0_0 = 0
 ·rw [if_pos c2] at H
  have c2b0 : (a0_0 == 0) = true := beq_iff_eq.mpr c2
  have c2b1 : (a0_0 != 0) = false := bne_eq_false_iff_eq.mpr c2
  clear c2
  by_cases c3 : (a0_1 == 0 && (a0_2 == 0)) = true
  ·rw [if_pos c3] at H
   have c3b0 : (a0_1 == 0 && (a0_2 == 0)) = true := c3
   (try (have c3b1 : decide (a0_1 = 0 && (a0_2 == 0)) = true := by simpa using c3))
   (try (have c3b2 : (a0_1 == 0 && (a0_2 == 0)) = true := by simpa using c3))
   clear c3
   by_cases c4 : a0_3 = 0
   ·rw [if_pos c4] at H
    have c4b0 : (a0_3 == 0) = true := beq_iff_eq.mpr c4
    have c4b1 : (a0_3 != 0) = false := bne_eq_false_iff_eq.mpr c4
    clear c4
    by_cases c5 : a0_4 = 0
    ·rw [if_pos c5] at H
     have c5b0 : (a0_4 == 0) = true := beq_iff_eq.mpr c5
     have c5b1 : (a0_4 != 0) = false := bne_eq_false_iff_eq.mpr c5
     clear c5
     obtain rfl := Option.some.inj H
     go_enter Try.func34, Try.ntmps34
     go_wp2_with (first | ((with_reducible refine zo (N := 1) rfl ?_); (try (refine gate_guard (by rfl) ?_; dsimp only)); refine zm ?hg (N := 1) ?hd (cs := #[.int .i64 a0_0, .int .i64 a0_1, .int .u64 a0_2, .int .i64 a0_3, .int .i64 a0_4, .slice A0_5 l0_5.length c0_5]) (t := 32) ?hr ?_; (case hd => rfl); (case hg => rfl); (case hr => first | (go_simp; done) | (go_simp; rfl)); intro gb329 hg w6 hbox hb; have BK329 := zp.mk (hbox); have GW329 := zp.mk ((zv3 (zv6 HB.out) hg)); have GE329 := zp.mk ((zv3 (zv6 HB.out) hg)); replace HB := zp.mk (zj (zv6 HB.out) hb); clear hb hbox hg; have y7_0 := zt0 BK329.out; have y7_1 := zt1 BK329.out; have y7_2 := zt2 BK329.out; have y7_3 := zt3 BK329.out; have y7_4 := zt4 BK329.out; have y7_5 := zt5 BK329.out; have u7_0 := zd BK329.out 0; have u7_1 := zd BK329.out 1; have u7_2 := zd BK329.out 2; have u7_3 := zd BK329.out 3; have u7_4 := zd BK329.out 4; have u7_5 := zd BK329.out 5))
     go_ret
     exact ⟨by first | rfl | (simp [errW_none, errW_some] <;> rfl) | (simp [*, errW_none, errW_some] <;> rfl), zv7 HB.out⟩
    ·rw [if_neg c5] at H
     have c5b0 : (a0_4 == 0) = false := beq_eq_false_iff_ne.mpr c5
     have c5b1 : (a0_4 != 0) = true := bne_iff_ne.mpr c5
     obtain rfl := Option.some.inj H
     go_enter Try.func34, Try.ntmps34
     go_wp2_with (first | ((with_reducible refine zo (N := 1) rfl ?_); (try (refine gate_guard (by rfl) ?_; dsimp only)); refine zm ?hg (N := 1) ?hd (cs := #[.int .i64 a0_0, .int .i64 a0_1, .int .u64 a0_2, .int .i64 a0_3, .int .i64 a0_4, .slice A0_5 l0_5.length c0_5]) (t := 32) ?hr ?_; (case hd => rfl); (case hg => rfl); (case hr => first | (go_simp; done) | (go_simp; rfl)); intro gb329 hg w8 hbox hb; have BK329 := zp.mk (hbox); have GW329 := zp.mk ((zv3 (zv6 HB.out) hg)); have GE329 := zp.mk ((zv3 (zv6 HB.out) hg)); replace HB := zp.mk (zj (zv6 HB.out) hb); clear hb hbox hg; have y9_0 := zt0 BK329.out; have y9_1 := zt1 BK329.out; have y9_2 := zt2 BK329.out; have y9_3 := zt3 BK329.out; have y9_4 := zt4 BK329.out; have y9_5 := zt5 BK329.out; have u9_0 := zd BK329.out 0; have u9_1 := zd BK329.out 1; have u9_2 := zd BK329.out 2; have u9_3 := zd BK329.out 3; have u9_4 := zd BK329.out 4; have u9_5 := zd BK329.out 5))
     go_ret
     exact ⟨by first | rfl | (simp [errW_none, errW_some] <;> rfl) | (simp [*, errW_none, errW_some] <;> rfl), zv7 HB.out⟩
   ·rw [if_neg c4] at H
    have c4b0 : (a0_3 == 0) = false := beq_eq_false_iff_ne.mpr c4
    have c4b1 : (a0_3 != 0) = true := bne_iff_ne.mpr c4
    obtain rfl := Option.some.inj H
    go_enter Try.func34, Try.ntmps34
    go_wp2_with (first | ((with_reducible refine zo (N := 1) rfl ?_); (try (refine gate_guard (by rfl) ?_; dsimp only)); refine zm ?hg (N := 1) ?hd (cs := #[.int .i64 a0_0, .int .i64 a0_1, .int .u64 a0_2, .int .i64 a0_3, .int .i64 a0_4, .slice A0_5 l0_5.length c0_5]) (t := 32) ?hr ?_; (case hd => rfl); (case hg => rfl); (case hr => first | (go_simp; done) | (go_simp; rfl)); intro gb329 hg w10 hbox hb; have BK329 := zp.mk (hbox); have GW329 := zp.mk ((zv3 (zv6 HB.out) hg)); have GE329 := zp.mk ((zv3 (zv6 HB.out) hg)); replace HB := zp.mk (zj (zv6 HB.out) hb); clear hb hbox hg; have y11_0 := zt0 BK329.out; have y11_1 := zt1 BK329.out; have y11_2 := zt2 BK329.out; have y11_3 := zt3 BK329.out; have y11_4 := zt4 BK329.out; have y11_5 := zt5 BK329.out; have u11_0 := zd BK329.out 0; have u11_1 := zd BK329.out 1; have u11_2 := zd BK329.out 2; have u11_3 := zd BK329.out 3; have u11_4 := zd BK329.out 4; have u11_5 := zd BK329.out 5))
    go_ret
    exact ⟨by first | rfl | (simp [errW_none, errW_some] <;> rfl) | (simp [*, errW_none, errW_some] <;> rfl), zv7 HB.out⟩
  ·rw [if_neg c3] at H
   have c3b0 : (a0_1 == 0 && (a0_2 == 0)) = false := by simpa using c3
   (try (have c3b1 : decide (a0_1 = 0 && (a0_2 == 0)) = false := by simpa using c3))
   (try (have c3b2 : (a0_1 == 0 && (a0_2 == 0)) = false := by simpa using c3))
   (try (have c3b3 : ¬ (a0_1 = 0 && (a0_2 == 0)) := by simpa using c3))
   clear c3
   obtain rfl := Option.some.inj H
   go_enter Try.func34, Try.ntmps34
   go_wp2_with (first | ((with_reducible refine zo (N := 1) rfl ?_); (try (refine gate_guard (by rfl) ?_; dsimp only)); refine zm ?hg (N := 1) ?hd (cs := #[.int .i64 a0_0, .int .i64 a0_1, .int .u64 a0_2, .int .i64 a0_3, .int .i64 a0_4, .slice A0_5 l0_5.length c0_5]) (t := 32) ?hr ?_; (case hd => rfl); (case hg => rfl); (case hr => first | (go_simp; done) | (go_simp; rfl)); intro gb329 hg w12 hbox hb; have BK329 := zp.mk (hbox); have GW329 := zp.mk ((zv3 (zv6 HB.out) hg)); have GE329 := zp.mk ((zv3 (zv6 HB.out) hg)); replace HB := zp.mk (zj (zv6 HB.out) hb); clear hb hbox hg; have y13_0 := zt0 BK329.out; have y13_1 := zt1 BK329.out; have y13_2 := zt2 BK329.out; have y13_3 := zt3 BK329.out; have y13_4 := zt4 BK329.out; have y13_5 := zt5 BK329.out; have u13_0 := zd BK329.out 0; have u13_1 := zd BK329.out 1; have u13_2 := zd BK329.out 2; have u13_3 := zd BK329.out 3; have u13_4 := zd BK329.out 4; have u13_5 := zd BK329.out 5))
   go_ret
   exact ⟨by first | rfl | (simp [errW_none, errW_some] <;> rfl) | (simp [*, errW_none, errW_some] <;> rfl), zv7 HB.out⟩
 ·rw [if_neg c2] at H
  have c2b0 : (a0_0 == 0) = false := beq_eq_false_iff_ne.mpr c2
  have c2b1 : (a0_0 != 0) = true := bne_iff_ne.mpr c2
  have HC14 := zp.mk H
  clear H
  go_enter Try.func34, Try.ntmps34
  go_upto_region 3 with (first | ((with_reducible refine zo (N := 1) rfl ?_); (try (refine gate_guard (by rfl) ?_; dsimp only)); refine zm ?hg (N := 1) ?hd (cs := #[.int .i64 a0_0, .int .i64 a0_1, .int .u64 a0_2, .int .i64 a0_3, .int .i64 a0_4, .slice A0_5 l0_5.length c0_5]) (t := 32) ?hr ?_; (case hd => rfl); (case hg => rfl); (case hr => first | (go_simp; done) | (go_simp; rfl)); intro gb329 hg w15 hbox hb; have BK329 := zp.mk (hbox); have GW329 := zp.mk ((zv3 (zv6 HB.out) hg)); have GE329 := zp.mk ((zv3 (zv6 HB.out) hg)); replace HB := zp.mk (zj (zv6 HB.out) hb); clear hb hbox hg; have y16_0 := zt0 BK329.out; have y16_1 := zt1 BK329.out; have y16_2 := zt2 BK329.out; have y16_3 := zt3 BK329.out; have y16_4 := zt4 BK329.out; have y16_5 := zt5 BK329.out; have u16_0 := zd BK329.out 0; have u16_1 := zd BK329.out 1; have u16_2 := zd BK329.out 2; have u16_3 := zd BK329.out 3; have u16_4 := zd BK329.out 4; have u16_5 := zd BK329.out 5))
  (try simp only [Act.put, zs1, zs2, zs3])
  go_cut [52] (fun v52 wc => ∃ (kq : Nat) (x52_13 : Bool), v52 = .bool x52_13 ∧ zp (impl_isAgg.j0 kq x52_13 a0_0 a0_1 a0_2 a0_3 a0_4 l0_5 = some r) ∧ zp (kq ≤ k) ∧ zp (wc.heap[gb329]? = some (.cells #[.int .i64 a0_0, .int .i64 a0_1, .int .u64 a0_2, .int .i64 a0_3, .int .i64 a0_4, (.slice A0_5 l0_5.length c0_5)] 32 (0, 0))) ∧ zp (Below w.heap.size w wc))
  case first =>
   have H := HC14.out
   clear HC14
   replace H := zs4 H
   obtain ⟨t330, A170, H⟩ := H
   replace H : (if t330 = true then (if (l0_5.length : Int) = (mn a0_0 4) then (if 0 < (l0_5.length : Int) then (impl_isAgg.j0 k ((rd l0_5 0) != a0_4) a0_0 a0_1 a0_2 a0_3 a0_4 l0_5) else (none)) else (impl_isAgg.j0 k true a0_0 a0_1 a0_2 a0_3 a0_4 l0_5)) else (impl_isAgg.j0 k true a0_0 a0_1 a0_2 a0_3 a0_4 l0_5)) = some r := H
   have A17 := zp.mk A170
   clear A170
   by_cases c18 : t330 = true
   ·subst c18
    have H1 : (if (l0_5.length : Int) = (mn a0_0 4) then (if 0 < (l0_5.length : Int) then (impl_isAgg.j0 k ((rd l0_5 0) != a0_4) a0_0 a0_1 a0_2 a0_3 a0_4 l0_5) else (none)) else (impl_isAgg.j0 k true a0_0 a0_1 a0_2 a0_3 a0_4 l0_5)) = some r := by rw [if_pos rfl] at H; exact H
    clear H
    have H := H1
    clear H1
    obtain ⟨ji19, hji19⟩ : ∃ j_ : Int, (mn a0_0 4) = j_ := ⟨_, rfl⟩
    replace H : (if (l0_5.length : Int) = (ji19) then (if 0 < (l0_5.length : Int) then (impl_isAgg.j0 k ((rd l0_5 0) != a0_4) a0_0 a0_1 a0_2 a0_3 a0_4 l0_5) else (none)) else (impl_isAgg.j0 k true a0_0 a0_1 a0_2 a0_3 a0_4 l0_5)) = some r := by first | (rw [hji19] at H; exact H) | (simp only [hji19] at H ⊢; exact H)
    (try rw [hji19] at A17)
    (try (have hji19h : ji19 ≤ 4 := by (rw [← hji19]; unfold mn; (repeat' split) <;> omega)))
    (try (have hji19g : ji19 ≤ 64 := by omega))
    have hji19_ : (if 4 < a0_0 then 4 else a0_0) = ji19 := hji19
    by_cases c20 : (l0_5.length : Int) = (ji19)
    ·rw [if_pos c20] at H
     have c20b0 : ((l0_5.length : Int) == (ji19)) = true := beq_iff_eq.mpr c20
     have c20b1 : ((l0_5.length : Int) != (ji19)) = false := bne_eq_false_iff_eq.mpr c20
     clear c20
     (first | rw [c20b0] | (simp only [i64_w, i32_w]; rw [c20b0]) | skip)
     by_cases c21 : 0 < (l0_5.length : Int)
     ·rw [if_pos c21] at H
      have c21b0 : decide (0 < (l0_5.length : Int)) = true := decide_eq_true c21
      have c21b1 : decide (0 < l0_5.length) = true := decide_eq_true (by omega)
      clear c21
      have H' := zp.mk H
      clear H
      try go_wp2
      replace BK329 := zp.mk (zi BK329.out)
      replace HB := zp.mk (zb HB.out)
      have p331 : 0 ≤ (0 : Int) := (by omega)
      have q331 : 0 < (l0_5.length : Int) := of_decide_eq_true (by first | (with_reducible assumption) | assumption)
      obtain ⟨ad331, e331, hx331_0⟩ := Kd.at_int HR0_5.out 0 p331 q331
      have hw331_0 := hx331_0
      (try rw [show ((0 : Int)).toNat = 0 from rfl] at hw331_0)
      (try rw [show 0 * 1 = 0 from rfl] at hw331_0)
      (try rw [Addr.add_zero'] at hw331_0)
      cases e331
      have qi331 : (0 < l0_5.length) = True := eq_true (by omega)
      (try rw [show ((0 : Int)).toNat = 0 from rfl] at hx331_0)
      (try rw [Addr.add_zero'] at hx331_0)
      replace hx331_0 := (HB.out.cell (World.block_lt_of_cell? w _ hx331_0)).trans hx331_0
      replace p331 := eq_true p331
      replace q331 := eq_true q331
      refine start_ (n := 22) (S := fun w' => w'.cell? ⟨gb329, 0, none⟩ = some (.int .i64 a0_0) ∧ w'.cell? ⟨gb329, 1, none⟩ = some (.int .i64 a0_1) ∧ w'.cell? ⟨gb329, 2, none⟩ = some (.int .u64 a0_2) ∧ w'.cell? ⟨gb329, 3, none⟩ = some (.int .i64 a0_3) ∧ w'.cell? ⟨gb329, 4, none⟩ = some (.int .i64 a0_4) ∧ w'.cell? ⟨gb329, 5, none⟩ = some (.slice (some ad331) l0_5.length c0_5) ∧ w'.cell? ad331 = some (.int .i64 (rd l0_5 0))) (ds := []) #[false, false, false, false, false, false, false, false, false, false, false, false, false, false, false, false, false, false, false, false, false, false] (by kernel_rfl) rfl rfl ⟨(ze BK329.out 0).trans rfl, (ze BK329.out 1).trans rfl, (ze BK329.out 2).trans rfl, (ze BK329.out 3).trans rfl, (ze BK329.out 4).trans rfl, (ze BK329.out 5).trans rfl, ((HB.out.cell (World.block_lt_of_cell? w _ hw331_0)).trans hw331_0)⟩ (fun hHeld => ?_); refine with_tabW impl_isAgg.tab3 impl_isAgg.bits3 (fun HT_ HW_ => ?_)
      generalize w15.drew = w22 at BK329 HB hx331_0 hHeld ⊢
      refine pure_ (i := 0) (N := some 31) (v := ?_) (a' := ?_) #[true, false, false, false, false, false, false, false, false, false, false, false, false, false, false, false, false, false, false, false, false, false] rfl rfl (any_of HT_.out (by kernel_rfl)) (fun _ _ _ h => h) (Or.inl ⟨by rfl, ?_⟩) ?_ ?_
      rotate_left
      ·intro w'
       go_simp
       with_reducible rfl
      rotate_left
      ·simp only [Act.put, zs1, zs2, zs3, i64_w, i32_w]
       rfl
      refine take_ (i := 1) (N := some 32) (v := ?_) (a' := ?_) #[true, true, false, false, false, false, false, false, false, false, false, false, false, false, false, false, false, false, false, false, false, false] rfl rfl (take_ofW HT_.out HW_.out (by kernel_rfl)) (fun _ _ _ h => h) (Or.inl ⟨by rfl, ?_⟩) hHeld ?_ ?_
      rotate_left
      ·rintro w' ⟨s0, s1, s2, s3, s4, s5, s6⟩
       go_simp
       with_reducible rfl
      rotate_left
      ·simp only [Act.put, zs1, zs2, zs3, i64_w, i32_w]
       rfl
      refine one_ (i := 2) (N := some 33) #[true, true, true, false, false, false, false, false, false, false, false, false, false, false, false, false, false, false, false, false, false, false] rfl rfl (one_of HT_.out (by kernel_rfl)) (by decide) (fun K hK => ?_)
      refine goes_ Try.func46 (by kernel_rfl) rfl #[.int .i64 a0_0, .int .i64 1, .int .i64 1000000] (by rfl) rfl rfl (by (try simp only [List.map_toArray, List.map_cons, List.map_nil]); first | done | rfl | (simp only [List.length_drop, List.length_take]; rfl)) ?_
      with_reducible refine (impl_in.calls a0_0 1 1000000 true _ A17.out).mono ?_
      rintro e w' ⟨rfl, ⟨nd, rfl⟩⟩
      refine ⟨_, rfl, ?_⟩
      refine hK.out _ _ ⟨(ze BK329.out 0).trans rfl, (ze BK329.out 1).trans rfl, (ze BK329.out 2).trans rfl, (ze BK329.out 3).trans rfl, (ze BK329.out 4).trans rfl, (ze BK329.out 5).trans rfl, ((HB.out.cell (World.block_lt_of_cell? w _ hw331_0)).trans hw331_0)⟩ (fun hHeld => ?_)
      clear hK K
      refine norm_ (a' := ?_) ?_ ?_
      rotate_left
      ·show Act.put _ (some 33) _ = _
       simp only [Act.put, zs1, zs2, zs3, i64_w, i32_w]
       rfl
      refine pure_ (i := 3) (N := some 34) (v := ?_) (a' := ?_) #[true, true, true, true, false, false, false, false, false, false, false, false, false, false, false, false, false, false, false, false, false, false] rfl rfl (any_of HT_.out (by kernel_rfl)) (fun _ _ _ h => h) (Or.inl ⟨by rfl, ?_⟩) ?_ ?_
      rotate_left
      ·intro w'
       go_simp
       with_reducible rfl
      rotate_left
      ·simp only [Act.put, zs1, zs2, zs3, i64_w, i32_w]
       rfl
      refine pure_ (i := 4) (N := some 35) (v := ?_) (a' := ?_) #[true, true, true, true, true, false, false, false, false, false, false, false, false, false, false, false, false, false, false, false, false, false] rfl rfl (any_of HT_.out (by kernel_rfl)) (fun _ _ _ h => h) (Or.inl ⟨by rfl, ?_⟩) ?_ ?_
      rotate_left
      ·intro w'
       go_simp
       with_reducible rfl
      rotate_left
      ·simp only [Act.put, zs1, zs2, zs3, i64_w, i32_w]
       rfl
      refine pure_ (i := 5) (N := some 36) (v := ?_) (a' := ?_) #[true, true, true, true, true, true, false, false, false, false, false, false, false, false, false, false, false, false, false, false, false, false] rfl rfl (any_of HT_.out (by kernel_rfl)) (fun _ _ _ h => h) (Or.inl ⟨by rfl, ?_⟩) ?_ ?_
      rotate_left
      ·intro w'
       go_simp
       with_reducible rfl
      rotate_left
      ·simp only [Act.put, zs1, zs2, zs3, i64_w, i32_w]
       rfl
      refine pure_ (i := 8) (N := some 39) (v := ?_) (a' := ?_) #[true, true, true, true, true, true, false, false, true, false, false, false, false, false, false, false, false, false, false, false, false, false] rfl rfl (any_of HT_.out (by kernel_rfl)) (fun _ _ _ h => h) (Or.inl ⟨by rfl, ?_⟩) ?_ ?_
      rotate_left
      ·intro w'
       go_simp
       with_reducible rfl
      rotate_left
      ·simp only [Act.put, zs1, zs2, zs3, i64_w, i32_w]
       rfl
      refine take_ (i := 6) (N := some 37) (v := ?_) (a' := ?_) #[true, true, true, true, true, true, true, false, true, false, false, false, false, false, false, false, false, false, false, false, false, false] rfl rfl (take_ofW HT_.out HW_.out (by kernel_rfl)) (fun _ _ _ h => h) (Or.inl ⟨by rfl, ?_⟩) hHeld ?_ ?_
      rotate_left
      ·rintro w' ⟨s0, s1, s2, s3, s4, s5, s6⟩
       go_simp
       with_reducible rfl
      rotate_left
      ·simp only [Act.put, zs1, zs2, zs3, i64_w, i32_w]
       rfl
      refine pure_ (i := 7) (N := some 38) (v := ?_) (a' := ?_) #[true, true, true, true, true, true, true, true, true, false, false, false, false, false, false, false, false, false, false, false, false, false] rfl rfl (any_of HT_.out (by kernel_rfl)) (fun _ _ _ h => h) (Or.inl ⟨by rfl, ?_⟩) ?_ ?_
      rotate_left
      ·intro w'
       go_simp
       with_reducible rfl
      rotate_left
      ·simp only [Act.put, zs1, zs2, zs3, i64_w, i32_w]
       rfl
      refine take_ (i := 9) (N := some 40) (v := ?_) (a' := ?_) #[true, true, true, true, true, true, true, true, true, true, false, false, false, false, false, false, false, false, false, false, false, false] rfl rfl (take_ofW HT_.out HW_.out (by kernel_rfl)) (fun _ _ _ h => h) (Or.inl ⟨by rfl, ?_⟩) hHeld ?_ ?_
      rotate_left
      ·rintro w' ⟨s0, s1, s2, s3, s4, s5, s6⟩
       go_simp
       with_reducible rfl
      rotate_left
      ·simp only [Act.put, zs1, zs2, zs3, i64_w, i32_w]
       rfl
      refine pure_ (i := 10) (N := some 41) (v := ?_) (a' := ?_) #[true, true, true, true, true, true, true, true, true, true, true, false, false, false, false, false, false, false, false, false, false, false] rfl rfl (any_of HT_.out (by kernel_rfl)) (fun _ _ _ h => h) (Or.inl ⟨by rfl, ?_⟩) ?_ ?_
      rotate_left
      ·intro w'
       go_simp
       with_reducible rfl
      rotate_left
      ·simp only [Act.put, zs1, zs2, zs3, i64_w, i32_w]
       rfl
      refine pure_ (i := 11) (N := some 42) (v := ?_) (a' := ?_) #[true, true, true, true, true, true, true, true, true, true, true, true, false, false, false, false, false, false, false, false, false, false] rfl rfl (any_of HT_.out (by kernel_rfl)) (fun _ _ _ h => h) (Or.inl ⟨by rfl, ?_⟩) ?_ ?_
      rotate_left
      ·intro w'
       go_simp
       with_reducible rfl
      rotate_left
      ·simp only [Act.put, zs1, zs2, zs3, i64_w, i32_w]
       rfl
      refine pure_ (i := 12) (N := some 43) (v := ?_) (a' := ?_) #[true, true, true, true, true, true, true, true, true, true, true, true, true, false, false, false, false, false, false, false, false, false] rfl rfl (any_of HT_.out (by kernel_rfl)) (fun _ _ _ h => h) (Or.inl ⟨by rfl, ?_⟩) ?_ ?_
      rotate_left
      ·intro w'
       go_simp
       with_reducible rfl
      rotate_left
      ·simp only [Act.put, zs1, zs2, zs3, i64_w, i32_w]
       rfl
      refine pure_ (i := 13) (N := some 44) (v := ?_) (a' := ?_) #[true, true, true, true, true, true, true, true, true, true, true, true, true, true, false, false, false, false, false, false, false, false] rfl rfl (any_of HT_.out (by kernel_rfl)) (fun _ _ _ h => h) (Or.inl ⟨by rfl, ?_⟩) ?_ ?_
      rotate_left
      ·intro w'
       go_simp
       with_reducible rfl
      rotate_left
      ·simp only [Act.put, zs1, zs2, zs3, i64_w, i32_w]
       rfl
      refine pure_ (i := 14) (N := some 45) (v := ?_) (a' := ?_) #[true, true, true, true, true, true, true, true, true, true, true, true, true, true, true, false, false, false, false, false, false, false] rfl rfl (any_of HT_.out (by kernel_rfl)) (fun _ _ _ h => h) (Or.inl ⟨by rfl, ?_⟩) ?_ ?_
      rotate_left
      ·intro w'
       go_simp
       with_reducible rfl
      rotate_left
      ·simp only [Act.put, zs1, zs2, zs3, i64_w, i32_w]
       rfl
      refine pure_ (i := 18) (N := some 49) (v := ?_) (a' := ?_) #[true, true, true, true, true, true, true, true, true, true, true, true, true, true, true, false, false, false, true, false, false, false] rfl rfl (any_of HT_.out (by kernel_rfl)) (fun _ _ _ h => h) (Or.inl ⟨by rfl, ?_⟩) ?_ ?_
      rotate_left
      ·intro w'
       go_simp
       with_reducible rfl
      rotate_left
      ·simp only [Act.put, zs1, zs2, zs3, i64_w, i32_w]
       rfl
      refine take_ (i := 15) (N := some 46) (v := ?_) (a' := ?_) #[true, true, true, true, true, true, true, true, true, true, true, true, true, true, true, true, false, false, true, false, false, false] rfl rfl (take_ofW HT_.out HW_.out (by kernel_rfl)) (fun _ _ _ h => h) (Or.inl ⟨by rfl, ?_⟩) hHeld ?_ ?_
      rotate_left
      ·rintro w' ⟨s0, s1, s2, s3, s4, s5, s6⟩
       go_simp
       with_reducible rfl
      rotate_left
      ·simp only [Act.put, zs1, zs2, zs3, i64_w, i32_w]
       rfl
      refine pure_ (i := 16) (N := some 47) (v := ?_) (a' := ?_) #[true, true, true, true, true, true, true, true, true, true, true, true, true, true, true, true, true, false, true, false, false, false] rfl rfl (any_of HT_.out (by kernel_rfl)) (fun _ _ _ h => h) (Or.inl ⟨by rfl, ?_⟩) ?_ ?_
      rotate_left
      ·intro w'
       go_simp
       with_reducible rfl
      rotate_left
      ·simp only [Act.put, zs1, zs2, zs3, i64_w, i32_w]
       rfl
      refine take_ (i := 17) (N := some 48) (v := ?_) (a' := ?_) #[true, true, true, true, true, true, true, true, true, true, true, true, true, true, true, true, true, true, true, false, false, false] rfl rfl (take_ofW HT_.out HW_.out (by kernel_rfl)) (fun _ _ _ h => h) (Or.inl ⟨by rfl, ?_⟩) hHeld ?_ ?_
      rotate_left
      ·rintro w' ⟨s0, s1, s2, s3, s4, s5, s6⟩
       go_simp
       with_reducible rfl
      rotate_left
      ·simp only [Act.put, zs1, zs2, zs3, i64_w, i32_w]
       rfl
      refine take_ (i := 19) (N := some 50) (v := ?_) (a' := ?_) #[true, true, true, true, true, true, true, true, true, true, true, true, true, true, true, true, true, true, true, true, false, false] rfl rfl (take_ofW HT_.out HW_.out (by kernel_rfl)) (fun _ _ _ h => h) (Or.inl ⟨by rfl, ?_⟩) hHeld ?_ ?_
      rotate_left
      ·rintro w' ⟨s0, s1, s2, s3, s4, s5, s6⟩
       go_simp
       with_reducible rfl
      rotate_left
      ·simp only [Act.put, zs1, zs2, zs3, i64_w, i32_w]
       rfl
      refine pure_ (i := 20) (N := some 51) (v := ?_) (a' := ?_) #[true, true, true, true, true, true, true, true, true, true, true, true, true, true, true, true, true, true, true, true, true, false] rfl rfl (any_of HT_.out (by kernel_rfl)) (fun _ _ _ h => h) (Or.inl ⟨by rfl, ?_⟩) ?_ ?_
      rotate_left
      ·intro w'
       go_simp
       with_reducible rfl
      rotate_left
      ·simp only [Act.put, zs1, zs2, zs3, i64_w, i32_w]
       rfl
      refine pure_ (i := 21) (N := some 52) (v := ?_) (a' := ?_) #[true, true, true, true, true, true, true, true, true, true, true, true, true, true, true, true, true, true, true, true, true, true] rfl rfl (any_of HT_.out (by kernel_rfl)) (fun _ _ _ h => h) (Or.inl ⟨by rfl, ?_⟩) ?_ ?_
      rotate_left
      ·intro w'
       go_simp
       with_reducible rfl
      rotate_left
      ·simp only [Act.put, zs1, zs2, zs3, i64_w, i32_w]
       rfl
      refine done_ (done_of HT_.out (by kernel_rfl)) ?_
      try go_wp2
      go_meet
      case rel => exact ⟨_, (((rd l0_5 0) != a0_4)), (by first | rfl | (simp; done) | (simp [*]; done)), H', ⟨by first | omega | exact Nat.le_refl _⟩, ⟨zv8 BK329.out⟩, ⟨zv7 HB.out⟩⟩
     ·rw [if_neg c21] at H
      exact absurd H (by simp)
    ·rw [if_neg c20] at H
     have c20b0 : ((l0_5.length : Int) == (ji19)) = false := beq_eq_false_iff_ne.mpr c20
     have c20b1 : ((l0_5.length : Int) != (ji19)) = true := bne_iff_ne.mpr c20
     (first | rw [c20b0] | (simp only [i64_w, i32_w]; rw [c20b0]) | skip)
     have H' := zp.mk H
     clear H
     try go_wp2
     replace BK329 := zp.mk (zi BK329.out)
     replace HB := zp.mk (zb HB.out)
     refine start_ (n := 22) (S := fun w' => w'.cell? ⟨gb329, 0, none⟩ = some (.int .i64 a0_0) ∧ w'.cell? ⟨gb329, 1, none⟩ = some (.int .i64 a0_1) ∧ w'.cell? ⟨gb329, 2, none⟩ = some (.int .u64 a0_2) ∧ w'.cell? ⟨gb329, 3, none⟩ = some (.int .i64 a0_3) ∧ w'.cell? ⟨gb329, 4, none⟩ = some (.int .i64 a0_4) ∧ w'.cell? ⟨gb329, 5, none⟩ = some (.slice A0_5 l0_5.length c0_5)) (ds := []) #[false, false, false, false, false, false, false, false, false, false, false, false, false, false, false, false, false, false, false, false, false, false] (by kernel_rfl) rfl rfl ⟨(ze BK329.out 0).trans rfl, (ze BK329.out 1).trans rfl, (ze BK329.out 2).trans rfl, (ze BK329.out 3).trans rfl, (ze BK329.out 4).trans rfl, (ze BK329.out 5).trans rfl⟩ (fun hHeld => ?_); refine with_tabW impl_isAgg.tab3 impl_isAgg.bits3 (fun HT_ HW_ => ?_)
     generalize w15.drew = w23 at BK329 HB hHeld ⊢
     refine pure_ (i := 0) (N := some 31) (v := ?_) (a' := ?_) #[true, false, false, false, false, false, false, false, false, false, false, false, false, false, false, false, false, false, false, false, false, false] rfl rfl (any_of HT_.out (by kernel_rfl)) (fun _ _ _ h => h) (Or.inl ⟨by rfl, ?_⟩) ?_ ?_
     rotate_left
     ·intro w'
      go_simp
      with_reducible rfl
     rotate_left
     ·simp only [Act.put, zs1, zs2, zs3, i64_w, i32_w]
      rfl
     refine take_ (i := 1) (N := some 32) (v := ?_) (a' := ?_) #[true, true, false, false, false, false, false, false, false, false, false, false, false, false, false, false, false, false, false, false, false, false] rfl rfl (take_ofW HT_.out HW_.out (by kernel_rfl)) (fun _ _ _ h => h) (Or.inl ⟨by rfl, ?_⟩) hHeld ?_ ?_
     rotate_left
     ·rintro w' ⟨s0, s1, s2, s3, s4, s5⟩
      go_simp
      with_reducible rfl
     rotate_left
     ·simp only [Act.put, zs1, zs2, zs3, i64_w, i32_w]
      rfl
     refine one_ (i := 2) (N := some 33) #[true, true, true, false, false, false, false, false, false, false, false, false, false, false, false, false, false, false, false, false, false, false] rfl rfl (one_of HT_.out (by kernel_rfl)) (by decide) (fun K hK => ?_)
     refine goes_ Try.func46 (by kernel_rfl) rfl #[.int .i64 a0_0, .int .i64 1, .int .i64 1000000] (by rfl) rfl rfl (by (try simp only [List.map_toArray, List.map_cons, List.map_nil]); first | done | rfl | (simp only [List.length_drop, List.length_take]; rfl)) ?_
     with_reducible refine (impl_in.calls a0_0 1 1000000 true _ A17.out).mono ?_
     rintro e w' ⟨rfl, ⟨nd, rfl⟩⟩
     refine ⟨_, rfl, ?_⟩
     refine hK.out _ _ ⟨(ze BK329.out 0).trans rfl, (ze BK329.out 1).trans rfl, (ze BK329.out 2).trans rfl, (ze BK329.out 3).trans rfl, (ze BK329.out 4).trans rfl, (ze BK329.out 5).trans rfl⟩ (fun hHeld => ?_)
     clear hK K
     refine norm_ (a' := ?_) ?_ ?_
     rotate_left
     ·show Act.put _ (some 33) _ = _
      simp only [Act.put, zs1, zs2, zs3, i64_w, i32_w]
      rfl
     refine pure_ (i := 3) (N := some 34) (v := ?_) (a' := ?_) #[true, true, true, true, false, false, false, false, false, false, false, false, false, false, false, false, false, false, false, false, false, false] rfl rfl (any_of HT_.out (by kernel_rfl)) (fun _ _ _ h => h) (Or.inl ⟨by rfl, ?_⟩) ?_ ?_
     rotate_left
     ·intro w'
      go_simp
      with_reducible rfl
     rotate_left
     ·simp only [Act.put, zs1, zs2, zs3, i64_w, i32_w]
      rfl
     refine pure_ (i := 4) (N := some 35) (v := ?_) (a' := ?_) #[true, true, true, true, true, false, false, false, false, false, false, false, false, false, false, false, false, false, false, false, false, false] rfl rfl (any_of HT_.out (by kernel_rfl)) (fun _ _ _ h => h) (Or.inl ⟨by rfl, ?_⟩) ?_ ?_
     rotate_left
     ·intro w'
      go_simp
      with_reducible rfl
     rotate_left
     ·simp only [Act.put, zs1, zs2, zs3, i64_w, i32_w]
      rfl
     refine pure_ (i := 5) (N := some 36) (v := ?_) (a' := ?_) #[true, true, true, true, true, true, false, false, false, false, false, false, false, false, false, false, false, false, false, false, false, false] rfl rfl (any_of HT_.out (by kernel_rfl)) (fun _ _ _ h => h) (Or.inl ⟨by rfl, ?_⟩) ?_ ?_
     rotate_left
     ·intro w'
      go_simp
      with_reducible rfl
     rotate_left
     ·simp only [Act.put, zs1, zs2, zs3, i64_w, i32_w]
      rfl
     refine pure_ (i := 8) (N := some 39) (v := ?_) (a' := ?_) #[true, true, true, true, true, true, false, false, true, false, false, false, false, false, false, false, false, false, false, false, false, false] rfl rfl (any_of HT_.out (by kernel_rfl)) (fun _ _ _ h => h) (Or.inl ⟨by rfl, ?_⟩) ?_ ?_
     rotate_left
     ·intro w'
      go_simp
      with_reducible rfl
     rotate_left
     ·simp only [Act.put, zs1, zs2, zs3, i64_w, i32_w]
      rfl
     refine take_ (i := 6) (N := some 37) (v := ?_) (a' := ?_) #[true, true, true, true, true, true, true, false, true, false, false, false, false, false, false, false, false, false, false, false, false, false] rfl rfl (take_ofW HT_.out HW_.out (by kernel_rfl)) (fun _ _ _ h => h) (Or.inl ⟨by rfl, ?_⟩) hHeld ?_ ?_
     rotate_left
     ·rintro w' ⟨s0, s1, s2, s3, s4, s5⟩
      go_simp
      with_reducible rfl
     rotate_left
     ·simp only [Act.put, zs1, zs2, zs3, i64_w, i32_w]
      rfl
     refine pure_ (i := 7) (N := some 38) (v := ?_) (a' := ?_) #[true, true, true, true, true, true, true, true, true, false, false, false, false, false, false, false, false, false, false, false, false, false] rfl rfl (any_of HT_.out (by kernel_rfl)) (fun _ _ _ h => h) (Or.inl ⟨by rfl, ?_⟩) ?_ ?_
     rotate_left
     ·intro w'
      go_simp
      with_reducible rfl
     rotate_left
     ·simp only [Act.put, zs1, zs2, zs3, i64_w, i32_w]
      rfl
     refine take_ (i := 9) (N := some 40) (v := ?_) (a' := ?_) #[true, true, true, true, true, true, true, true, true, true, false, false, false, false, false, false, false, false, false, false, false, false] rfl rfl (take_ofW HT_.out HW_.out (by kernel_rfl)) (fun _ _ _ h => h) (Or.inl ⟨by rfl, ?_⟩) hHeld ?_ ?_
     rotate_left
     ·rintro w' ⟨s0, s1, s2, s3, s4, s5⟩
      go_simp
      with_reducible rfl
     rotate_left
     ·simp only [Act.put, zs1, zs2, zs3, i64_w, i32_w]
      rfl
     refine pure_ (i := 10) (N := some 41) (v := ?_) (a' := ?_) #[true, true, true, true, true, true, true, true, true, true, true, false, false, false, false, false, false, false, false, false, false, false] rfl rfl (any_of HT_.out (by kernel_rfl)) (fun _ _ _ h => h) (Or.inl ⟨by rfl, ?_⟩) ?_ ?_
     rotate_left
     ·intro w'
      go_simp
      with_reducible rfl
     rotate_left
     ·simp only [Act.put, zs1, zs2, zs3, i64_w, i32_w]
      rfl
     refine pure_ (i := 11) (N := some 42) (v := ?_) (a' := ?_) #[true, true, true, true, true, true, true, true, true, true, true, true, false, false, false, false, false, false, false, false, false, false] rfl rfl (any_of HT_.out (by kernel_rfl)) (fun _ _ _ h => h) (Or.inl ⟨by rfl, ?_⟩) ?_ ?_
     rotate_left
     ·intro w'
      go_simp
      with_reducible rfl
     rotate_left
     ·simp only [Act.put, zs1, zs2, zs3, i64_w, i32_w]
      rfl
     refine pure_ (i := 12) (N := some 43) (v := ?_) (a' := ?_) #[true, true, true, true, true, true, true, true, true, true, true, true, true, false, false, false, false, false, false, false, false, false] rfl rfl (any_of HT_.out (by kernel_rfl)) (fun _ _ _ h => h) (Or.inl ⟨by rfl, ?_⟩) ?_ ?_
     rotate_left
     ·intro w'
      go_simp
      with_reducible rfl
     rotate_left
     ·simp only [Act.put, zs1, zs2, zs3, i64_w, i32_w]
      rfl
     refine pure_ (i := 13) (N := some 44) (v := ?_) (a' := ?_) #[true, true, true, true, true, true, true, true, true, true, true, true, true, true, false, false, false, false, false, false, false, false] rfl rfl (any_of HT_.out (by kernel_rfl)) (fun _ _ _ h => h) (Or.inl ⟨by rfl, ?_⟩) ?_ ?_
     rotate_left
     ·intro w'
      go_simp
      with_reducible rfl
     rotate_left
     ·simp only [Act.put, zs1, zs2, zs3, i64_w, i32_w]
      rfl
     refine pure_ (i := 14) (N := some 45) (v := undef) (a' := ?_) #[true, true, true, true, true, true, true, true, true, true, true, true, true, true, true, false, false, false, false, false, false, false] rfl rfl (any_of HT_.out (by kernel_rfl)) (fun _ _ _ h => h) (Or.inr ⟨by rfl, rfl⟩) ?_ ?_
     rotate_left
     ·simp only [Act.put, zs1, zs2, zs3, i64_w, i32_w]
      rfl
     refine pure_ (i := 15) (N := some 46) (v := undef) (a' := ?_) #[true, true, true, true, true, true, true, true, true, true, true, true, true, true, true, true, false, false, false, false, false, false] rfl rfl (any_of HT_.out (by kernel_rfl)) (fun _ _ _ h => h) (Or.inr ⟨by rfl, rfl⟩) ?_ ?_
     rotate_left
     ·simp only [Act.put, zs1, zs2, zs3, i64_w, i32_w]
      rfl
     refine pure_ (i := 16) (N := some 47) (v := undef) (a' := ?_) #[true, true, true, true, true, true, true, true, true, true, true, true, true, true, true, true, true, false, false, false, false, false] rfl rfl (any_of HT_.out (by kernel_rfl)) (fun _ _ _ h => h) (Or.inr ⟨by rfl, rfl⟩) ?_ ?_
     rotate_left
     ·simp only [Act.put, zs1, zs2, zs3, i64_w, i32_w]
      rfl
     refine pure_ (i := 17) (N := some 48) (v := undef) (a' := ?_) #[true, true, true, true, true, true, true, true, true, true, true, true, true, true, true, true, true, true, false, false, false, false] rfl rfl (any_of HT_.out (by kernel_rfl)) (fun _ _ _ h => h) (Or.inr ⟨by rfl, rfl⟩) ?_ ?_
     rotate_left
     ·simp only [Act.put, zs1, zs2, zs3, i64_w, i32_w]
      rfl
     refine pure_ (i := 18) (N := some 49) (v := undef) (a' := ?_) #[true, true, true, true, true, true, true, true, true, true, true, true, true, true, true, true, true, true, true, false, false, false] rfl rfl (any_of HT_.out (by kernel_rfl)) (fun _ _ _ h => h) (Or.inr ⟨by rfl, rfl⟩) ?_ ?_
     rotate_left
     ·simp only [Act.put, zs1, zs2, zs3, i64_w, i32_w]
      rfl
     refine pure_ (i := 19) (N := some 50) (v := undef) (a' := ?_) #[true, true, true, true, true, true, true, true, true, true, true, true, true, true, true, true, true, true, true, true, false, false] rfl rfl (any_of HT_.out (by kernel_rfl)) (fun _ _ _ h => h) (Or.inr ⟨by rfl, rfl⟩) ?_ ?_
     rotate_left
     ·simp only [Act.put, zs1, zs2, zs3, i64_w, i32_w]
      rfl
     refine pure_ (i := 20) (N := some 51) (v := undef) (a' := ?_) #[true, true, true, true, true, true, true, true, true, true, true, true, true, true, true, true, true, true, true, true, true, false] rfl rfl (any_of HT_.out (by kernel_rfl)) (fun _ _ _ h => h) (Or.inr ⟨by rfl, rfl⟩) ?_ ?_
     rotate_left
     ·simp only [Act.put, zs1, zs2, zs3, i64_w, i32_w]
      rfl
     refine pure_ (i := 21) (N := some 52) (v := ?_) (a' := ?_) #[true, true, true, true, true, true, true, true, true, true, true, true, true, true, true, true, true, true, true, true, true, true] rfl rfl (any_of HT_.out (by kernel_rfl)) (fun _ _ _ h => h) (Or.inl ⟨by rfl, ?_⟩) ?_ ?_
     rotate_left
     ·intro w'
      go_simp
      with_reducible rfl
     rotate_left
     ·simp only [Act.put, zs1, zs2, zs3, i64_w, i32_w]
      rfl
     refine done_ (done_of HT_.out (by kernel_rfl)) ?_
     try go_wp2
     go_meet
     case rel => exact ⟨_, (true), (by first | rfl | (simp; done) | (simp [*]; done)), H', ⟨by first | omega | exact Nat.le_refl _⟩, ⟨zv8 BK329.out⟩, ⟨zv7 HB.out⟩⟩
   ·replace c18 := Bool.eq_false_iff.mpr c18
    subst c18
    have H1 : (impl_isAgg.j0 k true a0_0 a0_1 a0_2 a0_3 a0_4 l0_5) = some r := by rw [if_neg (show ¬ (false = true) by decide)] at H; exact H
    clear H
    have H := H1
    clear H1
    have H' := zp.mk H
    clear H
    try go_wp2
    replace BK329 := zp.mk (zi BK329.out)
    replace HB := zp.mk (zb HB.out)
    refine start_ (n := 22) (S := fun w' => w'.cell? ⟨gb329, 0, none⟩ = some (.int .i64 a0_0) ∧ w'.cell? ⟨gb329, 1, none⟩ = some (.int .i64 a0_1) ∧ w'.cell? ⟨gb329, 2, none⟩ = some (.int .u64 a0_2) ∧ w'.cell? ⟨gb329, 3, none⟩ = some (.int .i64 a0_3) ∧ w'.cell? ⟨gb329, 4, none⟩ = some (.int .i64 a0_4) ∧ w'.cell? ⟨gb329, 5, none⟩ = some (.slice A0_5 l0_5.length c0_5)) (ds := []) #[false, false, false, false, false, false, false, false, false, false, false, false, false, false, false, false, false, false, false, false, false, false] (by kernel_rfl) rfl rfl ⟨(ze BK329.out 0).trans rfl, (ze BK329.out 1).trans rfl, (ze BK329.out 2).trans rfl, (ze BK329.out 3).trans rfl, (ze BK329.out 4).trans rfl, (ze BK329.out 5).trans rfl⟩ (fun hHeld => ?_); refine with_tabW impl_isAgg.tab3 impl_isAgg.bits3 (fun HT_ HW_ => ?_)
    generalize w15.drew = w24 at BK329 HB hHeld ⊢
    refine pure_ (i := 0) (N := some 31) (v := ?_) (a' := ?_) #[true, false, false, false, false, false, false, false, false, false, false, false, false, false, false, false, false, false, false, false, false, false] rfl rfl (any_of HT_.out (by kernel_rfl)) (fun _ _ _ h => h) (Or.inl ⟨by rfl, ?_⟩) ?_ ?_
    rotate_left
    ·intro w'
     go_simp
     with_reducible rfl
    rotate_left
    ·simp only [Act.put, zs1, zs2, zs3, i64_w, i32_w]
     rfl
    refine take_ (i := 1) (N := some 32) (v := ?_) (a' := ?_) #[true, true, false, false, false, false, false, false, false, false, false, false, false, false, false, false, false, false, false, false, false, false] rfl rfl (take_ofW HT_.out HW_.out (by kernel_rfl)) (fun _ _ _ h => h) (Or.inl ⟨by rfl, ?_⟩) hHeld ?_ ?_
    rotate_left
    ·rintro w' ⟨s0, s1, s2, s3, s4, s5⟩
     go_simp
     with_reducible rfl
    rotate_left
    ·simp only [Act.put, zs1, zs2, zs3, i64_w, i32_w]
     rfl
    refine one_ (i := 2) (N := some 33) #[true, true, true, false, false, false, false, false, false, false, false, false, false, false, false, false, false, false, false, false, false, false] rfl rfl (one_of HT_.out (by kernel_rfl)) (by decide) (fun K hK => ?_)
    refine goes_ Try.func46 (by kernel_rfl) rfl #[.int .i64 a0_0, .int .i64 1, .int .i64 1000000] (by rfl) rfl rfl (by (try simp only [List.map_toArray, List.map_cons, List.map_nil]); first | done | rfl | (simp only [List.length_drop, List.length_take]; rfl)) ?_
    with_reducible refine (impl_in.calls a0_0 1 1000000 false _ A17.out).mono ?_
    rintro e w' ⟨rfl, ⟨nd, rfl⟩⟩
    refine ⟨_, rfl, ?_⟩
    refine hK.out _ _ ⟨(ze BK329.out 0).trans rfl, (ze BK329.out 1).trans rfl, (ze BK329.out 2).trans rfl, (ze BK329.out 3).trans rfl, (ze BK329.out 4).trans rfl, (ze BK329.out 5).trans rfl⟩ (fun hHeld => ?_)
    clear hK K
    refine norm_ (a' := ?_) ?_ ?_
    rotate_left
    ·show Act.put _ (some 33) _ = _
     simp only [Act.put, zs1, zs2, zs3, i64_w, i32_w]
     rfl
    refine pure_ (i := 3) (N := some 34) (v := ?_) (a' := ?_) #[true, true, true, true, false, false, false, false, false, false, false, false, false, false, false, false, false, false, false, false, false, false] rfl rfl (any_of HT_.out (by kernel_rfl)) (fun _ _ _ h => h) (Or.inl ⟨by rfl, ?_⟩) ?_ ?_
    rotate_left
    ·intro w'
     go_simp
     with_reducible rfl
    rotate_left
    ·simp only [Act.put, zs1, zs2, zs3, i64_w, i32_w]
     rfl
    refine pure_ (i := 4) (N := some 35) (v := ?_) (a' := ?_) #[true, true, true, true, true, false, false, false, false, false, false, false, false, false, false, false, false, false, false, false, false, false] rfl rfl (any_of HT_.out (by kernel_rfl)) (fun _ _ _ h => h) (Or.inl ⟨by rfl, ?_⟩) ?_ ?_
    rotate_left
    ·intro w'
     go_simp
     with_reducible rfl
    rotate_left
    ·simp only [Act.put, zs1, zs2, zs3, i64_w, i32_w]
     rfl
    refine pure_ (i := 5) (N := some 36) (v := undef) (a' := ?_) #[true, true, true, true, true, true, false, false, false, false, false, false, false, false, false, false, false, false, false, false, false, false] rfl rfl (any_of HT_.out (by kernel_rfl)) (fun _ _ _ h => h) (Or.inr ⟨by rfl, rfl⟩) ?_ ?_
    rotate_left
    ·simp only [Act.put, zs1, zs2, zs3, i64_w, i32_w]
     rfl
    refine pure_ (i := 6) (N := some 37) (v := undef) (a' := ?_) #[true, true, true, true, true, true, true, false, false, false, false, false, false, false, false, false, false, false, false, false, false, false] rfl rfl (any_of HT_.out (by kernel_rfl)) (fun _ _ _ h => h) (Or.inr ⟨by rfl, rfl⟩) ?_ ?_
    rotate_left
    ·simp only [Act.put, zs1, zs2, zs3, i64_w, i32_w]
     rfl
    refine pure_ (i := 7) (N := some 38) (v := undef) (a' := ?_) #[true, true, true, true, true, true, true, true, false, false, false, false, false, false, false, false, false, false, false, false, false, false] rfl rfl (any_of HT_.out (by kernel_rfl)) (fun _ _ _ h => h) (Or.inr ⟨by rfl, rfl⟩) ?_ ?_
    rotate_left
    ·simp only [Act.put, zs1, zs2, zs3, i64_w, i32_w]
     rfl
    refine pure_ (i := 8) (N := some 39) (v := undef) (a' := ?_) #[true, true, true, true, true, true, true, true, true, false, false, false, false, false, false, false, false, false, false, false, false, false] rfl rfl (any_of HT_.out (by kernel_rfl)) (fun _ _ _ h => h) (Or.inr ⟨by rfl, rfl⟩) ?_ ?_
    rotate_left
    ·simp only [Act.put, zs1, zs2, zs3, i64_w, i32_w]
     rfl
    refine pure_ (i := 9) (N := some 40) (v := undef) (a' := ?_) #[true, true, true, true, true, true, true, true, true, true, false, false, false, false, false, false, false, false, false, false, false, false] rfl rfl (any_of HT_.out (by kernel_rfl)) (fun _ _ _ h => h) (Or.inr ⟨by rfl, rfl⟩) ?_ ?_
    rotate_left
    ·simp only [Act.put, zs1, zs2, zs3, i64_w, i32_w]
     rfl
    refine pure_ (i := 10) (N := some 41) (v := undef) (a' := ?_) #[true, true, true, true, true, true, true, true, true, true, true, false, false, false, false, false, false, false, false, false, false, false] rfl rfl (any_of HT_.out (by kernel_rfl)) (fun _ _ _ h => h) (Or.inr ⟨by rfl, rfl⟩) ?_ ?_
    rotate_left
    ·simp only [Act.put, zs1, zs2, zs3, i64_w, i32_w]
     rfl
    refine pure_ (i := 11) (N := some 42) (v := undef) (a' := ?_) #[true, true, true, true, true, true, true, true, true, true, true, true, false, false, false, false, false, false, false, false, false, false] rfl rfl (any_of HT_.out (by kernel_rfl)) (fun _ _ _ h => h) (Or.inr ⟨by rfl, rfl⟩) ?_ ?_
    rotate_left
    ·simp only [Act.put, zs1, zs2, zs3, i64_w, i32_w]
     rfl
    refine pure_ (i := 12) (N := some 43) (v := ?_) (a' := ?_) #[true, true, true, true, true, true, true, true, true, true, true, true, true, false, false, false, false, false, false, false, false, false] rfl rfl (any_of HT_.out (by kernel_rfl)) (fun _ _ _ h => h) (Or.inl ⟨by rfl, ?_⟩) ?_ ?_
    rotate_left
    ·intro w'
     go_simp
     with_reducible rfl
    rotate_left
    ·simp only [Act.put, zs1, zs2, zs3, i64_w, i32_w]
     rfl
    refine pure_ (i := 13) (N := some 44) (v := ?_) (a' := ?_) #[true, true, true, true, true, true, true, true, true, true, true, true, true, true, false, false, false, false, false, false, false, false] rfl rfl (any_of HT_.out (by kernel_rfl)) (fun _ _ _ h => h) (Or.inl ⟨by rfl, ?_⟩) ?_ ?_
    rotate_left
    ·intro w'
     go_simp
     with_reducible rfl
    rotate_left
    ·simp only [Act.put, zs1, zs2, zs3, i64_w, i32_w]
     rfl
    refine pure_ (i := 14) (N := some 45) (v := undef) (a' := ?_) #[true, true, true, true, true, true, true, true, true, true, true, true, true, true, true, false, false, false, false, false, false, false] rfl rfl (any_of HT_.out (by kernel_rfl)) (fun _ _ _ h => h) (Or.inr ⟨by rfl, rfl⟩) ?_ ?_
    rotate_left
    ·simp only [Act.put, zs1, zs2, zs3, i64_w, i32_w]
     rfl
    refine pure_ (i := 15) (N := some 46) (v := undef) (a' := ?_) #[true, true, true, true, true, true, true, true, true, true, true, true, true, true, true, true, false, false, false, false, false, false] rfl rfl (any_of HT_.out (by kernel_rfl)) (fun _ _ _ h => h) (Or.inr ⟨by rfl, rfl⟩) ?_ ?_
    rotate_left
    ·simp only [Act.put, zs1, zs2, zs3, i64_w, i32_w]
     rfl
    refine pure_ (i := 16) (N := some 47) (v := undef) (a' := ?_) #[true, true, true, true, true, true, true, true, true, true, true, true, true, true, true, true, true, false, false, false, false, false] rfl rfl (any_of HT_.out (by kernel_rfl)) (fun _ _ _ h => h) (Or.inr ⟨by rfl, rfl⟩) ?_ ?_
    rotate_left
    ·simp only [Act.put, zs1, zs2, zs3, i64_w, i32_w]
     rfl
    refine pure_ (i := 17) (N := some 48) (v := undef) (a' := ?_) #[true, true, true, true, true, true, true, true, true, true, true, true, true, true, true, true, true, true, false, false, false, false] rfl rfl (any_of HT_.out (by kernel_rfl)) (fun _ _ _ h => h) (Or.inr ⟨by rfl, rfl⟩) ?_ ?_
    rotate_left
    ·simp only [Act.put, zs1, zs2, zs3, i64_w, i32_w]
     rfl
    refine pure_ (i := 18) (N := some 49) (v := undef) (a' := ?_) #[true, true, true, true, true, true, true, true, true, true, true, true, true, true, true, true, true, true, true, false, false, false] rfl rfl (any_of HT_.out (by kernel_rfl)) (fun _ _ _ h => h) (Or.inr ⟨by rfl, rfl⟩) ?_ ?_
    rotate_left
    ·simp only [Act.put, zs1, zs2, zs3, i64_w, i32_w]
     rfl
    refine pure_ (i := 19) (N := some 50) (v := undef) (a' := ?_) #[true, true, true, true, true, true, true, true, true, true, true, true, true, true, true, true, true, true, true, true, false, false] rfl rfl (any_of HT_.out (by kernel_rfl)) (fun _ _ _ h => h) (Or.inr ⟨by rfl, rfl⟩) ?_ ?_
    rotate_left
    ·simp only [Act.put, zs1, zs2, zs3, i64_w, i32_w]
     rfl
    refine pure_ (i := 20) (N := some 51) (v := undef) (a' := ?_) #[true, true, true, true, true, true, true, true, true, true, true, true, true, true, true, true, true, true, true, true, true, false] rfl rfl (any_of HT_.out (by kernel_rfl)) (fun _ _ _ h => h) (Or.inr ⟨by rfl, rfl⟩) ?_ ?_
    rotate_left
    ·simp only [Act.put, zs1, zs2, zs3, i64_w, i32_w]
     rfl
    refine pure_ (i := 21) (N := some 52) (v := ?_) (a' := ?_) #[true, true, true, true, true, true, true, true, true, true, true, true, true, true, true, true, true, true, true, true, true, true] rfl rfl (any_of HT_.out (by kernel_rfl)) (fun _ _ _ h => h) (Or.inl ⟨by rfl, ?_⟩) ?_ ?_
    rotate_left
    ·intro w'
     go_simp
     with_reducible rfl
    rotate_left
    ·simp only [Act.put, zs1, zs2, zs3, i64_w, i32_w]
     rfl
    refine done_ (done_of HT_.out (by kernel_rfl)) ?_
    try go_wp2
    go_meet
    case rel => exact ⟨_, (true), (by first | rfl | (simp; done) | (simp [*]; done)), H', ⟨by first | omega | exact Nat.le_refl _⟩, ⟨zv8 BK329.out⟩, ⟨zv7 HB.out⟩⟩
  case rest =>
   clear HC14
   try clear c1
   try clear c2
   try clear c2b0
   try clear c2b1
   try clear p2
   try clear c3
   try clear c3b0
   try clear c3b1
   try clear c3b2
   try clear p3
   try clear q3
   try clear hx3
   try clear qi3
   try clear c4
   try clear c4b0
   try clear c4b1
   try clear c5
   try clear c5b0
   try clear c5b1
   try clear c18
   try clear c20
   try clear c20b0
   try clear c20b1
   try clear c21
   try clear c21b0
   try clear c21b1
   try clear y11_0
   try clear y11_1
   try clear y11_2
   try clear y11_3
   try clear y11_4
   try clear y11_5
   try clear y13_0
   try clear y13_1
   try clear y13_2
   try clear y13_3
   try clear y13_4
   try clear y13_5
   try clear y16_0
   try clear y16_1
   try clear y16_2
   try clear y16_3
   try clear y16_4
   try clear y16_5
   try clear y9_0
   try clear y9_1
   try clear y9_2
   try clear y9_3
   try clear y9_4
   try clear y9_5
   try clear u11_0
   try clear u11_1
   try clear u11_2
   try clear u11_3
   try clear u11_4
   try clear u11_5
   try clear u13_0
   try clear u13_1
   try clear u13_2
   try clear u13_3
   try clear u13_4
   try clear u13_5
   try clear u16_0
   try clear u16_1
   try clear u16_2
   try clear u16_3
   try clear u16_4
   try clear u16_5
   try clear u9_0
   try clear u9_1
   try clear u9_2
   try clear u9_3
   try clear u9_4
   try clear u9_5
   try clear hx331_0
   try clear p331
   try clear q331
   obtain ⟨kq, x52_13, rfl, HA, HJ13, BK329, HB⟩ := hcut
   cases kq with
   | zero => exact absurd HA.out (by simp [impl_isAgg.j0])
   | succ kj13 =>
    have H := HA.out
    clear HA
    simp only [impl_isAgg.j0] at H
    by_cases c25 : x52_13 = true
    ·subst c25
     have H1 : (some false) = some r := by rw [if_pos rfl] at H; exact H
     clear H
     have H := H1
     clear H1
     obtain rfl := Option.some.inj H
     go_wp2
     go_ret
     exact ⟨by first | rfl | (simp [errW_none, errW_some] <;> rfl) | (simp [*, errW_none, errW_some] <;> rfl), zv7 HB.out⟩
    ·replace c25 := Bool.eq_false_iff.mpr c25
     subst c25
     have H1 : (impl_isAgg.l0 kj13 l0_5 (l0_5.length : Int) 0 a0_0 a0_1 a0_2 a0_3 a0_4 l0_5 a0_1 a0_2) = some r := by rw [if_neg (show ¬ (false = true) by decide)] at H; exact H
     clear H
     have H := H1
     clear H1
     have H' := zp.mk H
     clear H
     have y26_0 := zt0 BK329.out
     have y26_1 := zt1 BK329.out
     have y26_2 := zt2 BK329.out
     have y26_3 := zt3 BK329.out
     have y26_4 := zt4 BK329.out
     have y26_5 := zt5 BK329.out
     have u26_0 := zd BK329.out 0
     have u26_1 := zd BK329.out 1
     have u26_2 := zd BK329.out 2
     have u26_3 := zd BK329.out 3
     have u26_4 := zd BK329.out 4
     have u26_5 := zd BK329.out 5
     go_wp2_with (first | ((with_reducible refine zo (N := 3) rfl ?_); (try (refine gate_guard (by rfl) ?_; dsimp only)); refine zm ?hg (N := 3) ?hd (cs := #[.int .i64 0, .int .u64 0]) (t := 30) ?hr ?_; (case hd => rfl); (case hg => rfl); (case hr => first | (go_simp; done) | (go_simp; rfl)); intro gb332 hg w27 hbox hb; have BK332 := zp.mk (hbox); have GW332 := zp.mk ((zv3 (zv7 HB.out) hg)); have GE332 := zp.mk ((zv3 (zv7 HB.out) hg)); have NB329_332 := zp.mk ((by rw [hg]; exact Nat.ne_of_lt (blk_lt (g := gb329) (o := .cells #[.int .i64 a0_0, .int .i64 a0_1, .int .u64 a0_2, .int .i64 a0_3, .int .i64 a0_4, .slice A0_5 l0_5.length c0_5] 32 (0, 0)) (zv8 BK329.out)) : gb329 ≠ gb332)); have NB332_329 := zp.mk ((by rw [hg]; exact Nat.ne_of_gt (blk_lt (g := gb329) (o := .cells #[.int .i64 a0_0, .int .i64 a0_1, .int .u64 a0_2, .int .i64 a0_3, .int .i64 a0_4, .slice A0_5 l0_5.length c0_5] 32 (0, 0)) (zv8 BK329.out)) : gb332 ≠ gb329)); replace BK329 := zp.mk (zl (zv8 BK329.out) hb); replace HB := zp.mk (zj (zv7 HB.out) hb); clear hb hbox hg; have hnb28 := NB332_329.out; have hnc28 := NB329_332.out; have y29_0 := zt0 BK332.out; have y29_1 := zt1 BK332.out; have u29_0 := zd BK332.out 0; have u29_1 := zd BK332.out 1; have y30_0 := zt0 BK329.out; have y30_1 := zt1 BK329.out; have y30_2 := zt2 BK329.out; have y30_3 := zt3 BK329.out; have y30_4 := zt4 BK329.out; have y30_5 := zt5 BK329.out; have u30_0 := zd BK329.out 0; have u30_1 := zd BK329.out 1; have u30_2 := zd BK329.out 2; have u30_3 := zd BK329.out 3; have u30_4 := zd BK329.out 4; have u30_5 := zd BK329.out 5))
     go_loopg [58] kj13 (fun kq v58 w' => ∃ (x58_2 : Int) (x333000_2 : Int) (x333001_2 : Int), v58 = .int .i64 x58_2 ∧ zp (impl_isAgg.l0 kq l0_5 (l0_5.length : Int) x58_2 a0_0 a0_1 a0_2 a0_3 a0_4 l0_5 x333000_2 x333001_2 = some r) ∧ zp (kq ≤ kj13) ∧ zp (w'.heap[gb329]? = some (.cells #[.int .i64 a0_0, .int .i64 a0_1, .int .u64 a0_2, .int .i64 a0_3, .int .i64 a0_4, (.slice A0_5 l0_5.length c0_5)] 32 (0, 0))) ∧ zp (w'.heap[gb332]? = some (.cells #[.int .i64 x333000_2, .int .u64 x333001_2] 30 (0, 0))) ∧ zp (Below w.heap.size w w'))
     case atStart => exact ⟨(0), (a0_1), (a0_2), (by first | rfl | (simp; done) | (simp [*]; done)), H', ⟨Nat.le_refl _⟩, ⟨by (with_reducible repeat (first | refine zf ?_ _ | refine zi ?_ | refine zg ?_ _)); refine blk_far ?_ NB329_332.out _; (with_reducible repeat (first | refine zf ?_ _ | refine zi ?_ | refine zg ?_ _)); refine blk_far ?_ NB329_332.out _; (with_reducible repeat (first | refine zf ?_ _ | refine zi ?_ | refine zg ?_ _)); exact BK329.out⟩, ⟨by (with_reducible repeat (first | refine zf ?_ _ | refine zi ?_ | refine zg ?_ _)); refine blk_put (cs := #[.int .i64 a0_1, .int .u64 0]) ?_ 1 _ rfl; (with_reducible repeat (first | refine zf ?_ _ | refine zi ?_ | refine zg ?_ _)); refine blk_put (cs := #[.int .i64 0, .int .u64 0]) ?_ 0 _ rfl; (with_reducible repeat (first | refine zf ?_ _ | refine zi ?_ | refine zg ?_ _)); exact BK332.out⟩, ⟨zv7 HB.out⟩⟩
     case round =>
      clear H'
      try clear c1
      try clear c2
      try clear c2b0
      try clear c2b1
      try clear p2
      try clear c3
      try clear c3b0
      try clear c3b1
      try clear c3b2
      try clear p3
      try clear q3
      try clear hx3
      try clear qi3
      try clear c4
      try clear c4b0
      try clear c4b1
      try clear c5
      try clear c5b0
      try clear c5b1
      try clear c18
      try clear c20
      try clear c20b0
      try clear c20b1
      try clear c21
      try clear c21b0
      try clear c21b1
      try clear c25
      try clear c28
      try clear y11_0
      try clear y11_1
      try clear y11_2
      try clear y11_3
      try clear y11_4
      try clear y11_5
      try clear y13_0
      try clear y13_1
      try clear y13_2
      try clear y13_3
      try clear y13_4
      try clear y13_5
      try clear y16_0
      try clear y16_1
      try clear y16_2
      try clear y16_3
      try clear y16_4
      try clear y16_5
      try clear y26_0
      try clear y26_1
      try clear y26_2
      try clear y26_3
      try clear y26_4
      try clear y26_5
      try clear y29_0
      try clear y29_1
      try clear y30_0
      try clear y30_1
      try clear y30_2
      try clear y30_3
      try clear y30_4
      try clear y30_5
      try clear y9_0
      try clear y9_1
      try clear y9_2
      try clear y9_3
      try clear y9_4
      try clear y9_5
      try clear u11_0
      try clear u11_1
      try clear u11_2
      try clear u11_3
      try clear u11_4
      try clear u11_5
      try clear u13_0
      try clear u13_1
      try clear u13_2
      try clear u13_3
      try clear u13_4
      try clear u13_5
      try clear u16_0
      try clear u16_1
      try clear u16_2
      try clear u16_3
      try clear u16_4
      try clear u16_5
      try clear u26_0
      try clear u26_1
      try clear u26_2
      try clear u26_3
      try clear u26_4
      try clear u26_5
      try clear u29_0
      try clear u29_1
      try clear u30_0
      try clear u30_1
      try clear u30_2
      try clear u30_3
      try clear u30_4
      try clear u30_5
      try clear u9_0
      try clear u9_1
      try clear u9_2
      try clear u9_3
      try clear u9_4
      try clear u9_5
      try clear hx331_0
      try clear p2
      try clear p3
      try clear p331
      try clear q3
      try clear q331
      obtain ⟨x58_2, x333000_2, x333001_2, rfl, HA, HK2, BK329, BK332, HB⟩ := hrel
      cases gk with
      | zero => exact absurd HA.out (by simp [impl_isAgg.l0])
      | succ k2 =>
       have H := HA.out
       clear HA
       simp only [impl_isAgg.l0] at H
       by_cases c31 : x58_2 < (l0_5.length : Int)
       ·rw [if_pos c31] at H
        have c31b0 : decide (x58_2 < (l0_5.length : Int)) = true := decide_eq_true c31
        clear c31
        by_cases c32 : 0 ≤ x58_2
        ·rw [if_pos c32] at H
         have c32b0 : decide (0 ≤ x58_2) = true := decide_eq_true c32
         clear c32
         by_cases c33 : x58_2 < (l0_5.length : Int)
         ·rw [if_pos c33] at H
          have c33b0 : decide (x58_2 < (l0_5.length : Int)) = true := decide_eq_true c33
          clear c33
          have HC34 := zp.mk H
          clear H
          have p333 : 0 ≤ (x58_2 : Int) := of_decide_eq_true (by first | (with_reducible assumption) | assumption)
          have q333 : x58_2 < (l0_5.length : Int) := of_decide_eq_true (by first | (with_reducible assumption) | assumption)
          obtain ⟨ad333, e333, hx333_0⟩ := Kd.at_int HR0_5.out x58_2 p333 q333
          cases e333
          replace hx333_0 := (HB.out.cell (World.block_lt_of_cell? w _ hx333_0)).trans hx333_0
          replace p333 := eq_true p333
          replace q333 := eq_true q333
          go_upto_region 9 with (fail)
          go_cut [74] (fun v74 wc => ∃ (kq : Nat) (x74_33 : Bool), v74 = .bool x74_33 ∧ zp (impl_isAgg.j2 kq (rd l0_5 x58_2) l0_5 (l0_5.length : Int) x58_2 x74_33 a0_0 a0_1 a0_2 a0_3 a0_4 l0_5 x333000_2 x333001_2 = some r) ∧ zp (kq ≤ k2) ∧ zp (wc.heap[gb329]? = some (.cells #[.int .i64 a0_0, .int .i64 a0_1, .int .u64 a0_2, .int .i64 a0_3, .int .i64 a0_4, (.slice (some ad333) l0_5.length c0_5)] 32 (0, 0))) ∧ zp (wc.heap[gb332]? = some (.cells #[.int .i64 x333000_2, .int .u64 x333001_2] 30 (0, 0))) ∧ zp (Below w.heap.size w wc))
          case first =>
           have H := HC34.out
           clear HC34
           by_cases c35 : x58_2 > 0
           ·rw [if_pos c35] at H
            have c35b0 : decide (0 < x58_2) = true := decide_eq_true c35
            clear c35
            (first | rw [c35b0] | (simp only [i64_w, i32_w]; rw [c35b0]) | skip)
            obtain ⟨ji36, hji36⟩ : ∃ j_ : Int, (wrap64 (x58_2 - 1)) = j_ := ⟨_, rfl⟩
            replace H : (if 0 ≤ (ji36) then (if (ji36) < (l0_5.length : Int) then (impl_isAgg.j2 k2 (rd l0_5 x58_2) l0_5 (l0_5.length : Int) x58_2 (decide ((rd l0_5 x58_2) > (rd l0_5 (ji36)))) a0_0 a0_1 a0_2 a0_3 a0_4 l0_5 x333000_2 x333001_2) else (none)) else (none)) = some r := by first | (rw [hji36] at H; exact H) | (simp only [hji36] at H ⊢; exact H)
            have hji36w : (IntKind.i64.wrap (x58_2 - 1)) = ji36 := (i64_w _).trans hji36
            by_cases c37 : 0 ≤ (ji36)
            ·rw [if_pos c37] at H
             have c37b0 : decide (0 ≤ (ji36)) = true := decide_eq_true c37
             clear c37
             by_cases c38 : (ji36) < (l0_5.length : Int)
             ·rw [if_pos c38] at H
              have c38b0 : decide ((ji36) < (l0_5.length : Int)) = true := decide_eq_true c38
              clear c38
              have H' := zp.mk H
              clear H
              have hnb39 := NB329_332.out
              have hnc39 := NB332_329.out
              have y40_0 := zt0 BK329.out
              have y40_1 := zt1 BK329.out
              have y40_2 := zt2 BK329.out
              have y40_3 := zt3 BK329.out
              have y40_4 := zt4 BK329.out
              have y40_5 := zt5 BK329.out
              have u40_0 := zd BK329.out 0
              have u40_1 := zd BK329.out 1
              have u40_2 := zd BK329.out 2
              have u40_3 := zd BK329.out 3
              have u40_4 := zd BK329.out 4
              have u40_5 := zd BK329.out 5
              have p334 : 0 ≤ ((ji36) : Int) := of_decide_eq_true (by first | (with_reducible assumption) | assumption)
              have q334 : (ji36) < (l0_5.length : Int) := of_decide_eq_true (by first | (with_reducible assumption) | assumption)
              obtain ⟨ad334, e334, hx334_0⟩ := Kd.at_int HR0_5.out (ji36) p334 q334
              obtain rfl : ad333 = ad334 := (by injection e334)
              replace hx334_0 := (HB.out.cell (World.block_lt_of_cell? w _ hx334_0)).trans hx334_0
              replace p334 := eq_true p334
              replace q334 := eq_true q334
              go_wp2
              go_meet
              case rel => exact ⟨_, (decide ((rd l0_5 x58_2) > (rd l0_5 (ji36)))), (by first | rfl | (simp; done) | (simp only [← hji36] <;> (first | rfl | simp)) | (simp [*]; done)), H', ⟨by have := HJ13.out; have := HK2.out; first | omega | exact Nat.le_refl _⟩, ⟨zv8 BK329.out⟩, ⟨zv8 BK332.out⟩, ⟨zv7 HB.out⟩⟩
             ·rw [if_neg c38] at H
              exact absurd H (by simp)
            ·rw [if_neg c37] at H
             exact absurd H (by simp)
           ·rw [if_neg c35] at H
            have c35b0 : decide (0 < x58_2) = false := decide_eq_false c35
            clear c35
            (first | rw [c35b0] | (simp only [i64_w, i32_w]; rw [c35b0]) | skip)
            have H' := zp.mk H
            clear H
            go_wp2
            go_meet
            case rel => exact ⟨_, (false), (by first | rfl | (simp; done) | (simp [*]; done)), H', ⟨by have := HJ13.out; have := HK2.out; first | omega | exact Nat.le_refl _⟩, ⟨zv8 BK329.out⟩, ⟨zv8 BK332.out⟩, ⟨zv7 HB.out⟩⟩
          case rest =>
           clear HC34
           try clear c1
           try clear c2
           try clear c2b0
           try clear c2b1
           try clear p2
           try clear c3
           try clear c3b0
           try clear c3b1
           try clear c3b2
           try clear p3
           try clear q3
           try clear hx3
           try clear qi3
           try clear c4
           try clear c4b0
           try clear c4b1
           try clear c5
           try clear c5b0
           try clear c5b1
           try clear p6
           try clear c18
           try clear c20
           try clear c20b0
           try clear c20b1
           try clear c21
           try clear c21b0
           try clear c21b1
           try clear c25
           try clear c28
           try clear c31
           try clear c31b0
           try clear c32
           try clear c32b0
           try clear c33
           try clear c33b0
           try clear p33
           try clear q33
           try clear hx33
           try clear c35
           try clear c35b0
           try clear c37
           try clear c37b0
           try clear c38
           try clear c38b0
           try clear c39
           try clear y11_0
           try clear y11_1
           try clear y11_2
           try clear y11_3
           try clear y11_4
           try clear y11_5
           try clear y13_0
           try clear y13_1
           try clear y13_2
           try clear y13_3
           try clear y13_4
           try clear y13_5
           try clear y16_0
           try clear y16_1
           try clear y16_2
           try clear y16_3
           try clear y16_4
           try clear y16_5
           try clear y26_0
           try clear y26_1
           try clear y26_2
           try clear y26_3
           try clear y26_4
           try clear y26_5
           try clear y29_0
           try clear y29_1
           try clear y30_0
           try clear y30_1
           try clear y30_2
           try clear y30_3
           try clear y30_4
           try clear y30_5
           try clear y40_0
           try clear y40_1
           try clear y40_2
           try clear y40_3
           try clear y40_4
           try clear y40_5
           try clear y9_0
           try clear y9_1
           try clear y9_2
           try clear y9_3
           try clear y9_4
           try clear y9_5
           try clear u11_0
           try clear u11_1
           try clear u11_2
           try clear u11_3
           try clear u11_4
           try clear u11_5
           try clear u13_0
           try clear u13_1
           try clear u13_2
           try clear u13_3
           try clear u13_4
           try clear u13_5
           try clear u16_0
           try clear u16_1
           try clear u16_2
           try clear u16_3
           try clear u16_4
           try clear u16_5
           try clear u26_0
           try clear u26_1
           try clear u26_2
           try clear u26_3
           try clear u26_4
           try clear u26_5
           try clear u29_0
           try clear u29_1
           try clear u30_0
           try clear u30_1
           try clear u30_2
           try clear u30_3
           try clear u30_4
           try clear u30_5
           try clear u40_0
           try clear u40_1
           try clear u40_2
           try clear u40_3
           try clear u40_4
           try clear u40_5
           try clear u9_0
           try clear u9_1
           try clear u9_2
           try clear u9_3
           try clear u9_4
           try clear u9_5
           try clear hx331_0
           try clear hx333_0
           try clear hx334_0
           try clear p2
           try clear p3
           try clear p331
           try clear p333
           try clear p334
           try clear q3
           try clear q331
           try clear q333
           try clear q334
           obtain ⟨kq, x74_33, rfl, HA, HJ33, BK329, BK332, HB⟩ := hcut
           cases kq with
           | zero => exact absurd HA.out (by simp [impl_isAgg.j2])
           | succ kj33 =>
            have H := HA.out
            clear HA
            simp only [impl_isAgg.j2] at H
            by_cases c41 : x74_33 = true
            ·subst c41
             have H1 : (some false) = some r := by rw [if_pos rfl] at H; exact H
             clear H
             have H := H1
             clear H1
             obtain rfl := Option.some.inj H
             go_wp2
             go_ret
             exact ⟨by first | rfl | (simp [errW_none, errW_some] <;> rfl) | (simp [*, errW_none, errW_some] <;> rfl), zv7 HB.out⟩
            ·replace c41 := Bool.eq_false_iff.mpr c41
             subst c41
             have H1 : ((impl_WideOf.f (rd l0_5 x58_2)).bind fun bt335 => ((impl_WideNeg.f bt335.1 bt335.2).bind fun bt337 => ((impl_WideAdd.f x333000_2 x333001_2 bt337.1 bt337.2).bind fun bt339 => (impl_isAgg.l0 kj33 l0_5 (l0_5.length : Int) (wrap64 (x58_2 + 1)) a0_0 a0_1 a0_2 a0_3 a0_4 l0_5 bt339.1 bt339.2)))) = some r := by rw [if_neg (show ¬ (false = true) by decide)] at H; exact H
             clear H
             have H := H1
             clear H1
             replace H := zs4 H
             obtain ⟨⟨t335, t336⟩, A420, H⟩ := H
             replace H : ((impl_WideNeg.f t335 t336).bind fun bt337 => ((impl_WideAdd.f x333000_2 x333001_2 bt337.1 bt337.2).bind fun bt339 => (impl_isAgg.l0 kj33 l0_5 (l0_5.length : Int) (wrap64 (x58_2 + 1)) a0_0 a0_1 a0_2 a0_3 a0_4 l0_5 bt339.1 bt339.2))) = some r := H
             have A42 := zp.mk A420
             clear A420
             replace H := zs4 H
             obtain ⟨⟨t337, t338⟩, A430, H⟩ := H
             replace H : ((impl_WideAdd.f x333000_2 x333001_2 t337 t338).bind fun bt339 => (impl_isAgg.l0 kj33 l0_5 (l0_5.length : Int) (wrap64 (x58_2 + 1)) a0_0 a0_1 a0_2 a0_3 a0_4 l0_5 bt339.1 bt339.2)) = some r := H
             have A43 := zp.mk A430
             clear A430
             replace H := zs4 H
             obtain ⟨⟨t339, t340⟩, A440, H⟩ := H
             replace H : (impl_isAgg.l0 kj33 l0_5 (l0_5.length : Int) (wrap64 (x58_2 + 1)) a0_0 a0_1 a0_2 a0_3 a0_4 l0_5 t339 t340) = some r := H
             have A44 := zp.mk A440
             clear A440
             have H' := zp.mk H
             clear H
             try go_wp2
             replace BK329 := zp.mk (zi BK329.out)
             replace BK332 := zp.mk (zi BK332.out)
             replace HB := zp.mk (zb HB.out)
             refine start_ (n := 6) (S := fun w' => w'.cell? ⟨gb332, 0, none⟩ = some (.int .i64 x333000_2) ∧ w'.cell? ⟨gb332, 1, none⟩ = some (.int .u64 x333001_2)) (ds := [5]) #[false, false, false, false, false, false] (by kernel_rfl) rfl rfl ⟨(ze BK332.out 0).trans rfl, (ze BK332.out 1).trans rfl⟩ (fun hHeld => ?_)
             generalize wc.drew = w45 at BK329 BK332 HB hHeld ⊢
             refine pure_ (i := 1) (N := some 76) (v := ?_) (a' := ?_) #[false, true, false, false, false, false] rfl rfl (by kernel_rfl) (fun _ _ _ h => h) (Or.inl ⟨by rfl, ?_⟩) ?_ ?_
             rotate_left
             ·intro w'
              go_simp
              with_reducible rfl
             rotate_left
             ·simp only [Act.put, zs1, zs2, zs3, i64_w, i32_w]
              rfl
             refine take_ (i := 0) (N := some 75) (v := ?_) (a' := ?_) #[true, true, false, false, false, false] rfl rfl (by kernel_rfl) (fun _ _ _ h => h) (Or.inl ⟨by rfl, ?_⟩) hHeld ?_ ?_
             rotate_left
             ·rintro w' ⟨s0, s1⟩
              go_simp
              with_reducible rfl
             rotate_left
             ·simp only [Act.put, zs1, zs2, zs3, i64_w, i32_w]
              rfl
             refine one_ (i := 2) (N := some 77) #[true, true, true, false, false, false] rfl rfl (by kernel_rfl) (by decide) (fun K hK => ?_)
             refine goes_ Try.func49 (by kernel_rfl) rfl #[.int .i64 (rd l0_5 x58_2)] (by rfl) rfl rfl (by (try simp only [List.map_toArray, List.map_cons, List.map_nil]); first | done | rfl | (simp only [List.length_drop, List.length_take]; rfl)) ?_
             with_reducible refine (impl_WideOf.calls (rd l0_5 x58_2) t335 t336 _ A42.out).mono ?_
             rintro e w46 ⟨rfl, hb⟩
             refine ⟨_, rfl, ?_⟩
             replace BK329 := zp.mk (zl (zv8 BK329.out) hb)
             replace BK332 := zp.mk (zl (zv8 BK332.out) hb)
             replace HB := zp.mk (zj (zv7 HB.out) hb)
             (try clear hb)
             (try clear hb2)
             (try clear hk)
             (try clear hi)
             refine hK.out _ _ ⟨(ze BK332.out 0).trans rfl, (ze BK332.out 1).trans rfl⟩ (fun hHeld => ?_)
             clear hK K
             refine norm_ (a' := ?_) ?_ ?_
             rotate_left
             ·show Act.put _ (some 77) _ = _
              simp only [Act.put, zs1, zs2, zs3, i64_w, i32_w]
              rfl
             refine one_ (i := 3) (N := some 78) #[true, true, true, true, false, false] rfl rfl (by kernel_rfl) (by decide) (fun K hK => ?_)
             refine goes_ Try.func48 (by kernel_rfl) rfl #[.agg #[.int .i64 t335, .int .u64 t336]] (by rfl) rfl rfl (by (try simp only [List.map_toArray, List.map_cons, List.map_nil]); first | done | rfl | (simp only [List.length_drop, List.length_take]; rfl)) ?_
             with_reducible refine (impl_WideNeg.calls t335 t336 t337 t338 _ A43.out).mono ?_
             rintro e w47 ⟨rfl, hb⟩
             refine ⟨_, rfl, ?_⟩
             replace BK329 := zp.mk (zl (zv8 BK329.out) hb)
             replace BK332 := zp.mk (zl (zv8 BK332.out) hb)
             replace HB := zp.mk (zj (zv7 HB.out) hb)
             (try clear hb)
             (try clear hb2)
             (try clear hk)
             (try clear hi)
             refine hK.out _ _ ⟨(ze BK332.out 0).trans rfl, (ze BK332.out 1).trans rfl⟩ (fun hHeld => ?_)
             clear hK K
             refine norm_ (a' := ?_) ?_ ?_
             rotate_left
             ·show Act.put _ (some 78) _ = _
              simp only [Act.put, zs1, zs2, zs3, i64_w, i32_w]
              rfl
             refine one_ (i := 4) (N := some 79) #[true, true, true, true, true, false] rfl rfl (by kernel_rfl) (by decide) (fun K hK => ?_)
             refine goes_ Try.func47 (by kernel_rfl) rfl #[.agg #[.int .i64 x333000_2, .int .u64 x333001_2], .agg #[.int .i64 t337, .int .u64 t338]] (by rfl) rfl rfl (by (try simp only [List.map_toArray, List.map_cons, List.map_nil]); first | done | rfl | (simp only [List.length_drop, List.length_take]; rfl)) ?_
             with_reducible refine (impl_WideAdd.calls x333000_2 x333001_2 t337 t338 t339 t340 _ A44.out).mono ?_
             rintro e w48 ⟨rfl, hb⟩
             refine ⟨_, rfl, ?_⟩
             replace BK329 := zp.mk (zl (zv8 BK329.out) hb)
             replace BK332 := zp.mk (zl (zv8 BK332.out) hb)
             replace HB := zp.mk (zj (zv7 HB.out) hb)
             (try clear hb)
             (try clear hb2)
             (try clear hk)
             (try clear hi)
             refine hK.out _ _ ⟨(ze BK332.out 0).trans rfl, (ze BK332.out 1).trans rfl⟩ (fun hHeld => ?_)
             clear hK K
             refine norm_ (a' := ?_) ?_ ?_
             rotate_left
             ·show Act.put _ (some 79) _ = _
              simp only [Act.put, zs1, zs2, zs3, i64_w, i32_w]
              rfl
             refine last_ (i := 5) (N := none) #[true, true, true, true, true, true] rfl rfl (by kernel_rfl) (by decide) (fun K hK => ?_)
             have hs49 : w48.cell? ⟨gb332, 0, none⟩ = some (.int .i64 x333000_2) := (ze BK332.out 0).trans rfl
             have hfs49 := zd BK332.out 0
             have hns49_0 := NB329_332.out
             have hms49_0 := NB332_329.out
             have hs50 : w48.cell? ⟨gb332, 1, none⟩ = some (.int .u64 x333001_2) := (ze BK332.out 1).trans rfl
             have hfs50 := zd BK332.out 1
             have hns50_0 := NB329_332.out
             have hms50_0 := NB332_329.out
             refine skip_ (w1 := ?_) (by rfl) rfl ?_ ?_
             rotate_left
             ·go_simp
              rfl
             refine hK.out _ _ ?_
             clear hK K
             refine done_ (by kernel_rfl) ?_
             try go_wp2
             go_roundg kj33
             case measure => have := HJ13.out; have := HK2.out; have := HJ33.out; omega
             case rel => exact ⟨(wrap64 (x58_2 + 1)), (t339), (t340), (by first | rfl | (simp; done) | (simp [*]; done)), H', ⟨by have := HJ13.out; have := HK2.out; have := HJ33.out; omega⟩, ⟨by (with_reducible repeat (first | refine zf ?_ _ | refine zi ?_ | refine zg ?_ _)); refine blk_far ?_ NB329_332.out _; (with_reducible repeat (first | refine zf ?_ _ | refine zi ?_ | refine zg ?_ _)); refine blk_far ?_ NB329_332.out _; (with_reducible repeat (first | refine zf ?_ _ | refine zi ?_ | refine zg ?_ _)); exact BK329.out⟩, ⟨by (with_reducible repeat (first | refine zf ?_ _ | refine zi ?_ | refine zg ?_ _)); refine blk_put (cs := #[.int .i64 t339, .int .u64 x333001_2]) ?_ 1 _ rfl; (with_reducible repeat (first | refine zf ?_ _ | refine zi ?_ | refine zg ?_ _)); refine blk_put (cs := #[.int .i64 x333000_2, .int .u64 x333001_2]) ?_ 0 _ rfl; (with_reducible repeat (first | refine zf ?_ _ | refine zi ?_ | refine zg ?_ _)); exact BK332.out⟩, ⟨zv7 HB.out⟩⟩
         ·rw [if_neg c33] at H
          exact absurd H (by simp)
        ·rw [if_neg c32] at H
         exact absurd H (by simp)
       ·rw [if_neg c31] at H
        have c31b0 : decide (x58_2 < (l0_5.length : Int)) = false := decide_eq_false c31
        clear c31
        obtain ⟨ji51, hji51⟩ : ∃ j_ : Int, (wrap64 ((l0_5.length : Int) - 1)) = j_ := ⟨_, rfl⟩
        replace H : (if 0 ≤ (ji51) then (if (ji51) < (l0_5.length : Int) then (if a0_0 ≤ 4 then (if a0_3 = (rd l0_5 (ji51)) then (some (x333000_2 == 0 && (x333001_2 == 0))) else (some false)) else ((impl_WideOf.f a0_3).bind fun bt342 => ((impl_WideNeg.f bt342.1 bt342.2).bind fun bt344 => ((impl_WideAdd.f x333000_2 x333001_2 bt344.1 bt344.2).bind fun bt346 => (if a0_3 ≤ (rd l0_5 (ji51)) then ((impl_wideTimes.f k2 a0_3 (wrap64 ((wrap64 (a0_0 - 4)) - 1))).bind fun bt348 => ((impl_WideCmp.f k2 bt348.1 bt348.2 bt346.1 bt346.2).bind fun t350 => (if t350 ≤ 0 then ((impl_wideTimes.f k2 (rd l0_5 (ji51)) (wrap64 ((wrap64 (a0_0 - 4)) - 1))).bind fun bt351 => ((impl_WideCmp.f k2 bt346.1 bt346.2 bt351.1 bt351.2).bind fun t353 => (some (decide (t353 ≤ 0))))) else (some false)))) else (some false)))))) else (none)) else (none)) = some r := by first | (rw [hji51] at H; exact H) | (simp only [hji51] at H ⊢; exact H)
        have hji51w : (IntKind.i64.wrap ((l0_5.length : Int) - 1)) = ji51 := (i64_w _).trans hji51
        by_cases c52 : 0 ≤ (ji51)
        ·rw [if_pos c52] at H
         have c52b0 : decide (0 ≤ (ji51)) = true := decide_eq_true c52
         clear c52
         by_cases c53 : (ji51) < (l0_5.length : Int)
         ·rw [if_pos c53] at H
          have c53b0 : decide ((ji51) < (l0_5.length : Int)) = true := decide_eq_true c53
          clear c53
          by_cases c54 : a0_0 ≤ 4
          ·rw [if_pos c54] at H
           have c54b0 : decide (a0_0 ≤ 4) = true := decide_eq_true c54
           clear c54
           by_cases c55 : a0_3 = (rd l0_5 (ji51))
           ·rw [if_pos c55] at H
            have c55b0 : (a0_3 == (rd l0_5 (ji51))) = true := beq_iff_eq.mpr c55
            have c55b1 : (a0_3 != (rd l0_5 (ji51))) = false := bne_eq_false_iff_eq.mpr c55
            clear c55
            obtain rfl := Option.some.inj H
            have hnb56 := NB329_332.out
            have hnc56 := NB332_329.out
            have y57_0 := zt0 BK329.out
            have y57_1 := zt1 BK329.out
            have y57_2 := zt2 BK329.out
            have y57_3 := zt3 BK329.out
            have y57_4 := zt4 BK329.out
            have y57_5 := zt5 BK329.out
            have u57_0 := zd BK329.out 0
            have u57_1 := zd BK329.out 1
            have u57_2 := zd BK329.out 2
            have u57_3 := zd BK329.out 3
            have u57_4 := zd BK329.out 4
            have u57_5 := zd BK329.out 5
            have p341 : 0 ≤ ((ji51) : Int) := of_decide_eq_true (by first | (with_reducible assumption) | assumption)
            have q341 : (ji51) < (l0_5.length : Int) := of_decide_eq_true (by first | (with_reducible assumption) | assumption)
            obtain ⟨ad341, e341, hx341_0⟩ := Kd.at_int HR0_5.out (ji51) p341 q341
            cases e341
            replace hx341_0 := (HB.out.cell (World.block_lt_of_cell? w _ hx341_0)).trans hx341_0
            replace p341 := eq_true p341
            replace q341 := eq_true q341
            have y58_0 := zt0 BK332.out
            have y58_1 := zt1 BK332.out
            have u58_0 := zd BK332.out 0
            have u58_1 := zd BK332.out 1
            go_wp2
            go_ret
            exact ⟨by first | rfl | (simp [errW_none, errW_some] <;> rfl) | (simp only [← hji51]; first | rfl | (simp [errW_none, errW_some] <;> rfl)) | (simp [*, errW_none, errW_some] <;> rfl), zv7 HB.out⟩
           ·rw [if_neg c55] at H
            have c55b0 : (a0_3 == (rd l0_5 (ji51))) = false := beq_eq_false_iff_ne.mpr c55
            have c55b1 : (a0_3 != (rd l0_5 (ji51))) = true := bne_iff_ne.mpr c55
            obtain rfl := Option.some.inj H
            have hnb59 := NB329_332.out
            have hnc59 := NB332_329.out
            have y60_0 := zt0 BK329.out
            have y60_1 := zt1 BK329.out
            have y60_2 := zt2 BK329.out
            have y60_3 := zt3 BK329.out
            have y60_4 := zt4 BK329.out
            have y60_5 := zt5 BK329.out
            have u60_0 := zd BK329.out 0
            have u60_1 := zd BK329.out 1
            have u60_2 := zd BK329.out 2
            have u60_3 := zd BK329.out 3
            have u60_4 := zd BK329.out 4
            have u60_5 := zd BK329.out 5
            have p341 : 0 ≤ ((ji51) : Int) := of_decide_eq_true (by first | (with_reducible assumption) | assumption)
            have q341 : (ji51) < (l0_5.length : Int) := of_decide_eq_true (by first | (with_reducible assumption) | assumption)
            obtain ⟨ad341, e341, hx341_0⟩ := Kd.at_int HR0_5.out (ji51) p341 q341
            cases e341
            replace hx341_0 := (HB.out.cell (World.block_lt_of_cell? w _ hx341_0)).trans hx341_0
            replace p341 := eq_true p341
            replace q341 := eq_true q341
            go_wp2
            go_ret
            exact ⟨by first | rfl | (simp [errW_none, errW_some] <;> rfl) | (simp only [← hji51]; first | rfl | (simp [errW_none, errW_some] <;> rfl)) | (simp [*, errW_none, errW_some] <;> rfl), zv7 HB.out⟩
          ·rw [if_neg c54] at H
           have c54b0 : decide (a0_0 ≤ 4) = false := decide_eq_false c54
           clear c54
           replace H := zs4 H
           obtain ⟨⟨t342, t343⟩, A610, H⟩ := H
           replace H : ((impl_WideNeg.f t342 t343).bind fun bt344 => ((impl_WideAdd.f x333000_2 x333001_2 bt344.1 bt344.2).bind fun bt346 => (if a0_3 ≤ (rd l0_5 (ji51)) then ((impl_wideTimes.f k2 a0_3 (wrap64 ((wrap64 (a0_0 - 4)) - 1))).bind fun bt348 => ((impl_WideCmp.f k2 bt348.1 bt348.2 bt346.1 bt346.2).bind fun t350 => (if t350 ≤ 0 then ((impl_wideTimes.f k2 (rd l0_5 (ji51)) (wrap64 ((wrap64 (a0_0 - 4)) - 1))).bind fun bt351 => ((impl_WideCmp.f k2 bt346.1 bt346.2 bt351.1 bt351.2).bind fun t353 => (some (decide (t353 ≤ 0))))) else (some false)))) else (some false)))) = some r := H
           have A61 := zp.mk A610
           clear A610
           replace H := zs4 H
           obtain ⟨⟨t344, t345⟩, A620, H⟩ := H
           replace H : ((impl_WideAdd.f x333000_2 x333001_2 t344 t345).bind fun bt346 => (if a0_3 ≤ (rd l0_5 (ji51)) then ((impl_wideTimes.f k2 a0_3 (wrap64 ((wrap64 (a0_0 - 4)) - 1))).bind fun bt348 => ((impl_WideCmp.f k2 bt348.1 bt348.2 bt346.1 bt346.2).bind fun t350 => (if t350 ≤ 0 then ((impl_wideTimes.f k2 (rd l0_5 (ji51)) (wrap64 ((wrap64 (a0_0 - 4)) - 1))).bind fun bt351 => ((impl_WideCmp.f k2 bt346.1 bt346.2 bt351.1 bt351.2).bind fun t353 => (some (decide (t353 ≤ 0))))) else (some false)))) else (some false))) = some r := H
           have A62 := zp.mk A620
           clear A620
           replace H := zs4 H
           obtain ⟨⟨t346, t347⟩, A630, H⟩ := H
           replace H : (if a0_3 ≤ (rd l0_5 (ji51)) then ((impl_wideTimes.f k2 a0_3 (wrap64 ((wrap64 (a0_0 - 4)) - 1))).bind fun bt348 => ((impl_WideCmp.f k2 bt348.1 bt348.2 t346 t347).bind fun t350 => (if t350 ≤ 0 then ((impl_wideTimes.f k2 (rd l0_5 (ji51)) (wrap64 ((wrap64 (a0_0 - 4)) - 1))).bind fun bt351 => ((impl_WideCmp.f k2 t346 t347 bt351.1 bt351.2).bind fun t353 => (some (decide (t353 ≤ 0))))) else (some false)))) else (some false)) = some r := H
           have A63 := zp.mk A630
           clear A630
           by_cases c64 : a0_3 ≤ (rd l0_5 (ji51))
           ·rw [if_pos c64] at H
            have c64b0 : decide (a0_3 ≤ (rd l0_5 (ji51))) = true := decide_eq_true c64
            clear c64
            replace H := zs4 H
            obtain ⟨⟨t348, t349⟩, A650, H⟩ := H
            replace H : ((impl_WideCmp.f k2 t348 t349 t346 t347).bind fun t350 => (if t350 ≤ 0 then ((impl_wideTimes.f k2 (rd l0_5 (ji51)) (wrap64 ((wrap64 (a0_0 - 4)) - 1))).bind fun bt351 => ((impl_WideCmp.f k2 t346 t347 bt351.1 bt351.2).bind fun t353 => (some (decide (t353 ≤ 0))))) else (some false))) = some r := H
            have A65 := zp.mk A650
            clear A650
            replace H := zs4 H
            obtain ⟨t350, A660, H⟩ := H
            replace H : (if t350 ≤ 0 then ((impl_wideTimes.f k2 (rd l0_5 (ji51)) (wrap64 ((wrap64 (a0_0 - 4)) - 1))).bind fun bt351 => ((impl_WideCmp.f k2 t346 t347 bt351.1 bt351.2).bind fun t353 => (some (decide (t353 ≤ 0))))) else (some false)) = some r := H
            have A66 := zp.mk A660
            clear A660
            by_cases c67 : t350 ≤ 0
            ·rw [if_pos c67] at H
             have c67b0 : decide (t350 ≤ 0) = true := decide_eq_true c67
             clear c67
             replace H := zs4 H
             obtain ⟨⟨t351, t352⟩, A680, H⟩ := H
             replace H : ((impl_WideCmp.f k2 t346 t347 t351 t352).bind fun t353 => (some (decide (t353 ≤ 0)))) = some r := H
             have A68 := zp.mk A680
             clear A680
             replace H := zs4 H
             obtain ⟨t353, A690, H⟩ := H
             replace H : (some (decide (t353 ≤ 0))) = some r := H
             have A69 := zp.mk A690
             clear A690
             obtain rfl := Option.some.inj H
             have hnb70 := NB329_332.out
             have hnc70 := NB332_329.out
             have y71_0 := zt0 BK329.out
             have y71_1 := zt1 BK329.out
             have y71_2 := zt2 BK329.out
             have y71_3 := zt3 BK329.out
             have y71_4 := zt4 BK329.out
             have y71_5 := zt5 BK329.out
             have u71_0 := zd BK329.out 0
             have u71_1 := zd BK329.out 1
             have u71_2 := zd BK329.out 2
             have u71_3 := zd BK329.out 3
             have u71_4 := zd BK329.out 4
             have u71_5 := zd BK329.out 5
             have p341 : 0 ≤ ((ji51) : Int) := of_decide_eq_true (by first | (with_reducible assumption) | assumption)
             have q341 : (ji51) < (l0_5.length : Int) := of_decide_eq_true (by first | (with_reducible assumption) | assumption)
             obtain ⟨ad341, e341, hx341_0⟩ := Kd.at_int HR0_5.out (ji51) p341 q341
             cases e341
             replace hx341_0 := (HB.out.cell (World.block_lt_of_cell? w _ hx341_0)).trans hx341_0
             replace p341 := eq_true p341
             replace q341 := eq_true q341
             try go_wp2
             replace BK329 := zp.mk (zi BK329.out)
             replace BK332 := zp.mk (zi BK332.out)
             replace HB := zp.mk (zb HB.out)
             refine start_ (n := 7) (S := fun w' => w'.cell? ⟨gb332, 0, none⟩ = some (.int .i64 x333000_2) ∧ w'.cell? ⟨gb332, 1, none⟩ = some (.int .u64 x333001_2) ∧ w'.cell? ⟨gb329, 0, none⟩ = some (.int .i64 a0_0) ∧ w'.cell? ⟨gb329, 1, none⟩ = some (.int .i64 a0_1) ∧ w'.cell? ⟨gb329, 2, none⟩ = some (.int .u64 a0_2) ∧ w'.cell? ⟨gb329, 3, none⟩ = some (.int .i64 a0_3) ∧ w'.cell? ⟨gb329, 4, none⟩ = some (.int .i64 a0_4) ∧ w'.cell? ⟨gb329, 5, none⟩ = some (.slice (some ad341) l0_5.length c0_5)) (ds := [6]) #[false, false, false, false, false, false, false] (by kernel_rfl) rfl rfl ⟨(ze BK332.out 0).trans rfl, (ze BK332.out 1).trans rfl, (ze BK329.out 0).trans rfl, (ze BK329.out 1).trans rfl, (ze BK329.out 2).trans rfl, (ze BK329.out 3).trans rfl, (ze BK329.out 4).trans rfl, (ze BK329.out 5).trans rfl⟩ (fun hHeld => ?_)
             generalize wr.drew = w72 at BK329 BK332 HB hHeld ⊢
             refine pure_ (i := 1) (N := some 106) (v := ?_) (a' := ?_) #[false, true, false, false, false, false, false] rfl rfl (by kernel_rfl) (fun _ _ _ h => h) (Or.inl ⟨by rfl, ?_⟩) ?_ ?_
             rotate_left
             ·intro w'
              go_simp
              with_reducible rfl
             rotate_left
             ·simp only [Act.put, zs1, zs2, zs3, i64_w, i32_w]
              rfl
             refine take_ (i := 0) (N := some 105) (v := ?_) (a' := ?_) #[true, true, false, false, false, false, false] rfl rfl (by kernel_rfl) (fun _ _ _ h => h) (Or.inl ⟨by rfl, ?_⟩) hHeld ?_ ?_
             rotate_left
             ·rintro w' ⟨s0, s1, s2, s3, s4, s5, s6, s7⟩
              go_simp
              with_reducible rfl
             rotate_left
             ·simp only [Act.put, zs1, zs2, zs3, i64_w, i32_w]
              rfl
             refine take_ (i := 2) (N := some 107) (v := ?_) (a' := ?_) #[true, true, true, false, false, false, false] rfl rfl (by kernel_rfl) (fun _ _ _ h => h) (Or.inl ⟨by rfl, ?_⟩) hHeld ?_ ?_
             rotate_left
             ·rintro w' ⟨s0, s1, s2, s3, s4, s5, s6, s7⟩
              go_simp
              with_reducible rfl
             rotate_left
             ·simp only [Act.put, zs1, zs2, zs3, i64_w, i32_w]
              rfl
             refine one_ (i := 3) (N := some 108) #[true, true, true, true, false, false, false] rfl rfl (by kernel_rfl) (by decide) (fun K hK => ?_)
             refine goes_ Try.func49 (by kernel_rfl) rfl #[.int .i64 a0_3] (by rfl) rfl rfl (by (try simp only [List.map_toArray, List.map_cons, List.map_nil]); first | done | rfl | (simp only [List.length_drop, List.length_take]; rfl)) ?_
             with_reducible refine (impl_WideOf.calls a0_3 t342 t343 _ A61.out).mono ?_
             rintro e w73 ⟨rfl, hb⟩
             refine ⟨_, rfl, ?_⟩
             replace BK329 := zp.mk (zl (zv8 BK329.out) hb)
             replace BK332 := zp.mk (zl (zv8 BK332.out) hb)
             replace HB := zp.mk (zj (zv7 HB.out) hb)
             (try clear hb)
             (try clear hb2)
             (try clear hk)
             (try clear hi)
             refine hK.out _ _ ⟨(ze BK332.out 0).trans rfl, (ze BK332.out 1).trans rfl, (ze BK329.out 0).trans rfl, (ze BK329.out 1).trans rfl, (ze BK329.out 2).trans rfl, (ze BK329.out 3).trans rfl, (ze BK329.out 4).trans rfl, (ze BK329.out 5).trans rfl⟩ (fun hHeld => ?_)
             clear hK K
             refine norm_ (a' := ?_) ?_ ?_
             rotate_left
             ·show Act.put _ (some 108) _ = _
              simp only [Act.put, zs1, zs2, zs3, i64_w, i32_w]
              rfl
             refine one_ (i := 4) (N := some 109) #[true, true, true, true, true, false, false] rfl rfl (by kernel_rfl) (by decide) (fun K hK => ?_)
             refine goes_ Try.func48 (by kernel_rfl) rfl #[.agg #[.int .i64 t342, .int .u64 t343]] (by rfl) rfl rfl (by (try simp only [List.map_toArray, List.map_cons, List.map_nil]); first | done | rfl | (simp only [List.length_drop, List.length_take]; rfl)) ?_
             with_reducible refine (impl_WideNeg.calls t342 t343 t344 t345 _ A62.out).mono ?_
             rintro e w74 ⟨rfl, hb⟩
             refine ⟨_, rfl, ?_⟩
             replace BK329 := zp.mk (zl (zv8 BK329.out) hb)
             replace BK332 := zp.mk (zl (zv8 BK332.out) hb)
             replace HB := zp.mk (zj (zv7 HB.out) hb)
             (try clear hb)
             (try clear hb2)
             (try clear hk)
             (try clear hi)
             refine hK.out _ _ ⟨(ze BK332.out 0).trans rfl, (ze BK332.out 1).trans rfl, (ze BK329.out 0).trans rfl, (ze BK329.out 1).trans rfl, (ze BK329.out 2).trans rfl, (ze BK329.out 3).trans rfl, (ze BK329.out 4).trans rfl, (ze BK329.out 5).trans rfl⟩ (fun hHeld => ?_)
             clear hK K
             refine norm_ (a' := ?_) ?_ ?_
             rotate_left
             ·show Act.put _ (some 109) _ = _
              simp only [Act.put, zs1, zs2, zs3, i64_w, i32_w]
              rfl
             refine one_ (i := 5) (N := some 110) #[true, true, true, true, true, true, false] rfl rfl (by kernel_rfl) (by decide) (fun K hK => ?_)
             refine goes_ Try.func47 (by kernel_rfl) rfl #[.agg #[.int .i64 x333000_2, .int .u64 x333001_2], .agg #[.int .i64 t344, .int .u64 t345]] (by rfl) rfl rfl (by (try simp only [List.map_toArray, List.map_cons, List.map_nil]); first | done | rfl | (simp only [List.length_drop, List.length_take]; rfl)) ?_
             with_reducible refine (impl_WideAdd.calls x333000_2 x333001_2 t344 t345 t346 t347 _ A63.out).mono ?_
             rintro e w75 ⟨rfl, hb⟩
             refine ⟨_, rfl, ?_⟩
             replace BK329 := zp.mk (zl (zv8 BK329.out) hb)
             replace BK332 := zp.mk (zl (zv8 BK332.out) hb)
             replace HB := zp.mk (zj (zv7 HB.out) hb)
             (try clear hb)
             (try clear hb2)
             (try clear hk)
             (try clear hi)
             refine hK.out _ _ ⟨(ze BK332.out 0).trans rfl, (ze BK332.out 1).trans rfl, (ze BK329.out 0).trans rfl, (ze BK329.out 1).trans rfl, (ze BK329.out 2).trans rfl, (ze BK329.out 3).trans rfl, (ze BK329.out 4).trans rfl, (ze BK329.out 5).trans rfl⟩ (fun hHeld => ?_)
             clear hK K
             refine norm_ (a' := ?_) ?_ ?_
             rotate_left
             ·show Act.put _ (some 110) _ = _
              simp only [Act.put, zs1, zs2, zs3, i64_w, i32_w]
              rfl
             refine last_ (i := 6) (N := none) #[true, true, true, true, true, true, true] rfl rfl (by kernel_rfl) (by decide) (fun K hK => ?_)
             have hs76 : w75.cell? ⟨gb332, 0, none⟩ = some (.int .i64 x333000_2) := (ze BK332.out 0).trans rfl
             have hfs76 := zd BK332.out 0
             have hns76_0 := NB329_332.out
             have hms76_0 := NB332_329.out
             have hs77 : w75.cell? ⟨gb332, 1, none⟩ = some (.int .u64 x333001_2) := (ze BK332.out 1).trans rfl
             have hfs77 := zd BK332.out 1
             have hns77_0 := NB329_332.out
             have hms77_0 := NB332_329.out
             refine skip_ (w1 := ?_) (by rfl) rfl ?_ ?_
             rotate_left
             ·go_simp
              rfl
             refine hK.out _ _ ?_
             clear hK K
             refine done_ (by kernel_rfl) ?_
             try go_wp2
             have n0_ : zp (((w75.setCell ⟨gb332, 0, none⟩ (.int .i64 t346)).setCell ⟨gb332, 1, none⟩ (.int .u64 t347)).heap[gb329]? = some (.cells #[.int .i64 a0_0, .int .i64 a0_1, .int .u64 a0_2, .int .i64 a0_3, .int .i64 a0_4, .slice (some ad341) l0_5.length c0_5] 32 (0, 0))) := ⟨by (with_reducible repeat (first | refine zf ?_ _ | refine zi ?_ | refine zg ?_ _)); refine blk_far ?_ NB329_332.out _; (with_reducible repeat (first | refine zf ?_ _ | refine zi ?_ | refine zg ?_ _)); refine blk_far ?_ NB329_332.out _; (with_reducible repeat (first | refine zf ?_ _ | refine zi ?_ | refine zg ?_ _)); exact BK329.out⟩
             have n1_ : zp (((w75.setCell ⟨gb332, 0, none⟩ (.int .i64 t346)).setCell ⟨gb332, 1, none⟩ (.int .u64 t347)).heap[gb332]? = some (.cells #[.int .i64 t346, .int .u64 t347] 30 (0, 0))) := ⟨by (with_reducible repeat (first | refine zf ?_ _ | refine zi ?_ | refine zg ?_ _)); refine blk_put (cs := #[.int .i64 t346, .int .u64 x333001_2]) ?_ 1 _ rfl; (with_reducible repeat (first | refine zf ?_ _ | refine zi ?_ | refine zg ?_ _)); refine blk_put (cs := #[.int .i64 x333000_2, .int .u64 x333001_2]) ?_ 0 _ rfl; (with_reducible repeat (first | refine zf ?_ _ | refine zi ?_ | refine zg ?_ _)); exact BK332.out⟩
             have n2_ : zp (Below w.heap.size w ((w75.setCell ⟨gb332, 0, none⟩ (.int .i64 t346)).setCell ⟨gb332, 1, none⟩ (.int .u64 t347))) := ⟨zv7 HB.out⟩
             (try clear BK329)
             (try clear BK332)
             (try clear HB)
             generalize ((w75.setCell ⟨gb332, 0, none⟩ (.int .i64 t346)).setCell ⟨gb332, 1, none⟩ (.int .u64 t347)) = w78 at n0_ n1_ n2_ ⊢
             have BK329 := n0_
             have BK332 := n1_
             have HB := n2_
             clear n0_ n1_ n2_
             replace BK329 := zp.mk (zi BK329.out)
             replace BK332 := zp.mk (zi BK332.out)
             replace HB := zp.mk (zb HB.out)
             refine start_ (n := 22) (S := fun w' => w'.cell? ⟨gb329, 0, none⟩ = some (.int .i64 a0_0) ∧ w'.cell? ⟨gb329, 1, none⟩ = some (.int .i64 a0_1) ∧ w'.cell? ⟨gb329, 2, none⟩ = some (.int .u64 a0_2) ∧ w'.cell? ⟨gb329, 3, none⟩ = some (.int .i64 a0_3) ∧ w'.cell? ⟨gb329, 4, none⟩ = some (.int .i64 a0_4) ∧ w'.cell? ⟨gb329, 5, none⟩ = some (.slice (some ad341) l0_5.length c0_5) ∧ w'.cell? ⟨gb332, 0, none⟩ = some (.int .i64 t346) ∧ w'.cell? ⟨gb332, 1, none⟩ = some (.int .u64 t347)) (ds := []) #[false, false, false, false, false, false, false, false, false, false, false, false, false, false, false, false, false, false, false, false, false, false] (by kernel_rfl) rfl rfl ⟨(ze BK329.out 0).trans rfl, (ze BK329.out 1).trans rfl, (ze BK329.out 2).trans rfl, (ze BK329.out 3).trans rfl, (ze BK329.out 4).trans rfl, (ze BK329.out 5).trans rfl, (ze BK332.out 0).trans rfl, (ze BK332.out 1).trans rfl⟩ (fun hHeld => ?_); refine with_tabW impl_isAgg.tab18 impl_isAgg.bits18 (fun HT_ HW_ => ?_)
             generalize w78.drew = w79 at BK329 BK332 HB hHeld ⊢
             refine pure_ (i := 0) (N := some 111) (v := ?_) (a' := ?_) #[true, false, false, false, false, false, false, false, false, false, false, false, false, false, false, false, false, false, false, false, false, false] rfl rfl (any_of HT_.out (by kernel_rfl)) (fun _ _ _ h => h) (Or.inl ⟨by rfl, ?_⟩) ?_ ?_
             rotate_left
             ·intro w'
              go_simp
              with_reducible rfl
             rotate_left
             ·simp only [Act.put, zs1, zs2, zs3, i64_w, i32_w]
              rfl
             refine pure_ (i := 2) (N := some 113) (v := ?_) (a' := ?_) #[true, false, true, false, false, false, false, false, false, false, false, false, false, false, false, false, false, false, false, false, false, false] rfl rfl (any_of HT_.out (by kernel_rfl)) (fun _ _ _ h => h) (Or.inl ⟨by rfl, ?_⟩) ?_ ?_
             rotate_left
             ·intro w'
              go_simp
              with_reducible rfl
             rotate_left
             ·simp only [Act.put, zs1, zs2, zs3, i64_w, i32_w]
              rfl
             refine take_ (i := 1) (N := some 112) (v := ?_) (a' := ?_) #[true, true, true, false, false, false, false, false, false, false, false, false, false, false, false, false, false, false, false, false, false, false] rfl rfl (take_ofW HT_.out HW_.out (by kernel_rfl)) (fun _ _ _ h => h) (Or.inl ⟨by rfl, ?_⟩) hHeld ?_ ?_
             rotate_left
             ·rintro w' ⟨s0, s1, s2, s3, s4, s5, s6, s7⟩
              go_simp
              with_reducible rfl
             rotate_left
             ·simp only [Act.put, zs1, zs2, zs3, i64_w, i32_w]
              rfl
             refine pure_ (i := 3) (N := some 114) (v := ?_) (a' := ?_) #[true, true, true, true, false, false, false, false, false, false, false, false, false, false, false, false, false, false, false, false, false, false] rfl rfl (any_of HT_.out (by kernel_rfl)) (fun _ _ _ h => h) (Or.inl ⟨by rfl, ?_⟩) ?_ ?_
             rotate_left
             ·intro w'
              go_simp
              with_reducible rfl
             rotate_left
             ·simp only [Act.put, zs1, zs2, zs3, i64_w, i32_w]
              rfl
             refine pure_ (i := 4) (N := some 115) (v := ?_) (a' := ?_) #[true, true, true, true, true, false, false, false, false, false, false, false, false, false, false, false, false, false, false, false, false, false] rfl rfl (any_of HT_.out (by kernel_rfl)) (fun _ _ _ h => h) (Or.inl ⟨by rfl, ?_⟩) ?_ ?_
             rotate_left
             ·intro w'
              go_simp
              with_reducible rfl
             rotate_left
             ·simp only [Act.put, zs1, zs2, zs3, i64_w, i32_w]
              rfl
             refine pure_ (i := 5) (N := some 116) (v := ?_) (a' := ?_) #[true, true, true, true, true, true, false, false, false, false, false, false, false, false, false, false, false, false, false, false, false, false] rfl rfl (any_of HT_.out (by kernel_rfl)) (fun _ _ _ h => h) (Or.inl ⟨by rfl, ?_⟩) ?_ ?_
             rotate_left
             ·intro w'
              go_simp
              with_reducible rfl
             rotate_left
             ·simp only [Act.put, zs1, zs2, zs3, i64_w, i32_w]
              rfl
             refine pure_ (i := 7) (N := some 118) (v := ?_) (a' := ?_) #[true, true, true, true, true, true, false, true, false, false, false, false, false, false, false, false, false, false, false, false, false, false] rfl rfl (any_of HT_.out (by kernel_rfl)) (fun _ _ _ h => h) (Or.inl ⟨by rfl, ?_⟩) ?_ ?_
             rotate_left
             ·intro w'
              go_simp
              with_reducible rfl
             rotate_left
             ·simp only [Act.put, zs1, zs2, zs3, i64_w, i32_w]
              rfl
             refine take_ (i := 6) (N := some 117) (v := ?_) (a' := ?_) #[true, true, true, true, true, true, true, true, false, false, false, false, false, false, false, false, false, false, false, false, false, false] rfl rfl (take_ofW HT_.out HW_.out (by kernel_rfl)) (fun _ _ _ h => h) (Or.inl ⟨by rfl, ?_⟩) hHeld ?_ ?_
             rotate_left
             ·rintro w' ⟨s0, s1, s2, s3, s4, s5, s6, s7⟩
              go_simp
              with_reducible rfl
             rotate_left
             ·simp only [Act.put, zs1, zs2, zs3, i64_w, i32_w]
              rfl
             refine take_ (i := 9) (N := some 120) (v := ?_) (a' := ?_) #[true, true, true, true, true, true, true, true, false, true, false, false, false, false, false, false, false, false, false, false, false, false] rfl rfl (take_ofW HT_.out HW_.out (by kernel_rfl)) (fun _ _ _ h => h) (Or.inl ⟨by rfl, ?_⟩) hHeld ?_ ?_
             rotate_left
             ·rintro w' ⟨s0, s1, s2, s3, s4, s5, s6, s7⟩
              go_simp
              with_reducible rfl
             rotate_left
             ·simp only [Act.put, zs1, zs2, zs3, i64_w, i32_w]
              rfl
             refine one_ (i := 8) (N := some 119) #[true, true, true, true, true, true, true, true, true, true, false, false, false, false, false, false, false, false, false, false, false, false] rfl rfl (one_of HT_.out (by kernel_rfl)) (by decide) (fun K hK => ?_)
             refine goes_ Try.func51 (by kernel_rfl) rfl #[.int .i64 a0_3, .int .i64 (wrap64 ((wrap64 (a0_0 - 4)) - 1))] (by rfl) rfl rfl (by (try simp only [List.map_toArray, List.map_cons, List.map_nil]); first | done | rfl | (simp only [List.length_drop, List.length_take]; rfl)) ?_
             with_reducible refine (impl_wideTimes.calls k2 a0_3 (wrap64 ((wrap64 (a0_0 - 4)) - 1)) t348 t349 _ A65.out).mono ?_
             rintro e w80 ⟨rfl, hb⟩
             refine ⟨_, rfl, ?_⟩
             replace BK329 := zp.mk (zl (zv8 BK329.out) hb)
             replace BK332 := zp.mk (zl (zv8 BK332.out) hb)
             replace HB := zp.mk (zj (zv7 HB.out) hb)
             (try clear hb)
             (try clear hb2)
             (try clear hk)
             (try clear hi)
             refine hK.out _ _ ⟨(ze BK329.out 0).trans rfl, (ze BK329.out 1).trans rfl, (ze BK329.out 2).trans rfl, (ze BK329.out 3).trans rfl, (ze BK329.out 4).trans rfl, (ze BK329.out 5).trans rfl, (ze BK332.out 0).trans rfl, (ze BK332.out 1).trans rfl⟩ (fun hHeld => ?_)
             clear hK K
             refine norm_ (a' := ?_) ?_ ?_
             rotate_left
             ·show Act.put _ (some 119) _ = _
              simp only [Act.put, zs1, zs2, zs3, i64_w, i32_w]
              rfl
             refine one_ (i := 10) (N := some 121) #[true, true, true, true, true, true, true, true, true, true, true, false, false, false, false, false, false, false, false, false, false, false] rfl rfl (one_of HT_.out (by kernel_rfl)) (by decide) (fun K hK => ?_)
             refine goes_ Try.func50 (by kernel_rfl) rfl #[.agg #[.int .i64 t348, .int .u64 t349], .agg #[.int .i64 t346, .int .u64 t347]] (by rfl) rfl rfl (by (try simp only [List.map_toArray, List.map_cons, List.map_nil]); first | done | rfl | (simp only [List.length_drop, List.length_take]; rfl)) ?_
             with_reducible refine (impl_WideCmp.calls k2 t348 t349 t346 t347 t350 _ A66.out).mono ?_
             rintro e w81 ⟨rfl, hb⟩
             refine ⟨_, rfl, ?_⟩
             replace BK329 := zp.mk (zl (zv8 BK329.out) hb)
             replace BK332 := zp.mk (zl (zv8 BK332.out) hb)
             replace HB := zp.mk (zj (zv7 HB.out) hb)
             (try clear hb)
             (try clear hb2)
             (try clear hk)
             (try clear hi)
             refine hK.out _ _ ⟨(ze BK329.out 0).trans rfl, (ze BK329.out 1).trans rfl, (ze BK329.out 2).trans rfl, (ze BK329.out 3).trans rfl, (ze BK329.out 4).trans rfl, (ze BK329.out 5).trans rfl, (ze BK332.out 0).trans rfl, (ze BK332.out 1).trans rfl⟩ (fun hHeld => ?_)
             clear hK K
             refine norm_ (a' := ?_) ?_ ?_
             rotate_left
             ·show Act.put _ (some 121) _ = _
              simp only [Act.put, zs1, zs2, zs3, i64_w, i32_w]
              rfl
             refine pure_ (i := 11) (N := some 122) (v := ?_) (a' := ?_) #[true, true, true, true, true, true, true, true, true, true, true, true, false, false, false, false, false, false, false, false, false, false] rfl rfl (any_of HT_.out (by kernel_rfl)) (fun _ _ _ h => h) (Or.inl ⟨by rfl, ?_⟩) ?_ ?_
             rotate_left
             ·intro w'
              go_simp
              with_reducible rfl
             rotate_left
             ·simp only [Act.put, zs1, zs2, zs3, i64_w, i32_w]
              rfl
             refine pure_ (i := 12) (N := some 123) (v := ?_) (a' := ?_) #[true, true, true, true, true, true, true, true, true, true, true, true, true, false, false, false, false, false, false, false, false, false] rfl rfl (any_of HT_.out (by kernel_rfl)) (fun _ _ _ h => h) (Or.inl ⟨by rfl, ?_⟩) ?_ ?_
             rotate_left
             ·intro w'
              go_simp
              with_reducible rfl
             rotate_left
             ·simp only [Act.put, zs1, zs2, zs3, i64_w, i32_w]
              rfl
             refine pure_ (i := 13) (N := some 124) (v := ?_) (a' := ?_) #[true, true, true, true, true, true, true, true, true, true, true, true, true, true, false, false, false, false, false, false, false, false] rfl rfl (any_of HT_.out (by kernel_rfl)) (fun _ _ _ h => h) (Or.inl ⟨by rfl, ?_⟩) ?_ ?_
             rotate_left
             ·intro w'
              go_simp
              with_reducible rfl
             rotate_left
             ·simp only [Act.put, zs1, zs2, zs3, i64_w, i32_w]
              rfl
             refine pure_ (i := 15) (N := some 126) (v := ?_) (a' := ?_) #[true, true, true, true, true, true, true, true, true, true, true, true, true, true, false, true, false, false, false, false, false, false] rfl rfl (any_of HT_.out (by kernel_rfl)) (fun _ _ _ h => h) (Or.inl ⟨by rfl, ?_⟩) ?_ ?_
             rotate_left
             ·intro w'
              go_simp
              with_reducible rfl
             rotate_left
             ·simp only [Act.put, zs1, zs2, zs3, i64_w, i32_w]
              rfl
             refine pure_ (i := 16) (N := some 127) (v := ?_) (a' := ?_) #[true, true, true, true, true, true, true, true, true, true, true, true, true, true, false, true, true, false, false, false, false, false] rfl rfl (any_of HT_.out (by kernel_rfl)) (fun _ _ _ h => h) (Or.inl ⟨by rfl, ?_⟩) ?_ ?_
             rotate_left
             ·intro w'
              go_simp
              with_reducible rfl
             rotate_left
             ·simp only [Act.put, zs1, zs2, zs3, i64_w, i32_w]
              rfl
             refine take_ (i := 14) (N := some 125) (v := ?_) (a' := ?_) #[true, true, true, true, true, true, true, true, true, true, true, true, true, true, true, true, true, false, false, false, false, false] rfl rfl (take_ofW HT_.out HW_.out (by kernel_rfl)) (fun _ _ _ h => h) (Or.inl ⟨by rfl, ?_⟩) hHeld ?_ ?_
             rotate_left
             ·rintro w' ⟨s0, s1, s2, s3, s4, s5, s6, s7⟩
              go_simp
              with_reducible rfl
             rotate_left
             ·simp only [Act.put, zs1, zs2, zs3, i64_w, i32_w]
              rfl
             refine one_ (i := 17) (N := some 128) #[true, true, true, true, true, true, true, true, true, true, true, true, true, true, true, true, true, true, false, false, false, false] rfl rfl (one_of HT_.out (by kernel_rfl)) (by decide) (fun K hK => ?_)
             refine goes_ Try.func51 (by kernel_rfl) rfl #[.int .i64 (rd l0_5 (ji51)), .int .i64 (wrap64 ((wrap64 (a0_0 - 4)) - 1))] (by rfl) rfl rfl (by (try simp only [List.map_toArray, List.map_cons, List.map_nil]); first | done | (simp only [hji51]; rfl) | rfl | (simp only [List.length_drop, List.length_take]; rfl)) ?_
             with_reducible refine (impl_wideTimes.calls k2 (rd l0_5 (ji51)) (wrap64 ((wrap64 (a0_0 - 4)) - 1)) t351 t352 _ A68.out).mono ?_
             rintro e w82 ⟨rfl, hb⟩
             refine ⟨_, rfl, ?_⟩
             replace BK329 := zp.mk (zl (zv8 BK329.out) hb)
             replace BK332 := zp.mk (zl (zv8 BK332.out) hb)
             replace HB := zp.mk (zj (zv7 HB.out) hb)
             (try clear hb)
             (try clear hb2)
             (try clear hk)
             (try clear hi)
             refine hK.out _ _ ⟨(ze BK329.out 0).trans rfl, (ze BK329.out 1).trans rfl, (ze BK329.out 2).trans rfl, (ze BK329.out 3).trans rfl, (ze BK329.out 4).trans rfl, (ze BK329.out 5).trans rfl, (ze BK332.out 0).trans rfl, (ze BK332.out 1).trans rfl⟩ (fun hHeld => ?_)
             clear hK K
             refine norm_ (a' := ?_) ?_ ?_
             rotate_left
             ·show Act.put _ (some 128) _ = _
              simp only [Act.put, zs1, zs2, zs3, i64_w, i32_w]
              rfl
             refine one_ (i := 18) (N := some 129) #[true, true, true, true, true, true, true, true, true, true, true, true, true, true, true, true, true, true, true, false, false, false] rfl rfl (one_of HT_.out (by kernel_rfl)) (by decide) (fun K hK => ?_)
             refine goes_ Try.func50 (by kernel_rfl) rfl #[.agg #[.int .i64 t346, .int .u64 t347], .agg #[.int .i64 t351, .int .u64 t352]] (by rfl) rfl rfl (by (try simp only [List.map_toArray, List.map_cons, List.map_nil]); first | done | rfl | (simp only [List.length_drop, List.length_take]; rfl)) ?_
             with_reducible refine (impl_WideCmp.calls k2 t346 t347 t351 t352 t353 _ A69.out).mono ?_
             rintro e w83 ⟨rfl, hb⟩
             refine ⟨_, rfl, ?_⟩
             replace BK329 := zp.mk (zl (zv8 BK329.out) hb)
             replace BK332 := zp.mk (zl (zv8 BK332.out) hb)
             replace HB := zp.mk (zj (zv7 HB.out) hb)
             (try clear hb)
             (try clear hb2)
             (try clear hk)
             (try clear hi)
             refine hK.out _ _ ⟨(ze BK329.out 0).trans rfl, (ze BK329.out 1).trans rfl, (ze BK329.out 2).trans rfl, (ze BK329.out 3).trans rfl, (ze BK329.out 4).trans rfl, (ze BK329.out 5).trans rfl, (ze BK332.out 0).trans rfl, (ze BK332.out 1).trans rfl⟩ (fun hHeld => ?_)
             clear hK K
             refine norm_ (a' := ?_) ?_ ?_
             rotate_left
             ·show Act.put _ (some 129) _ = _
              simp only [Act.put, zs1, zs2, zs3, i64_w, i32_w]
              rfl
             refine pure_ (i := 19) (N := some 130) (v := ?_) (a' := ?_) #[true, true, true, true, true, true, true, true, true, true, true, true, true, true, true, true, true, true, true, true, false, false] rfl rfl (any_of HT_.out (by kernel_rfl)) (fun _ _ _ h => h) (Or.inl ⟨by rfl, ?_⟩) ?_ ?_
             rotate_left
             ·intro w'
              go_simp
              with_reducible rfl
             rotate_left
             ·simp only [Act.put, zs1, zs2, zs3, i64_w, i32_w]
              rfl
             refine pure_ (i := 20) (N := some 131) (v := ?_) (a' := ?_) #[true, true, true, true, true, true, true, true, true, true, true, true, true, true, true, true, true, true, true, true, true, false] rfl rfl (any_of HT_.out (by kernel_rfl)) (fun _ _ _ h => h) (Or.inl ⟨by rfl, ?_⟩) ?_ ?_
             rotate_left
             ·intro w'
              go_simp
              with_reducible rfl
             rotate_left
             ·simp only [Act.put, zs1, zs2, zs3, i64_w, i32_w]
              rfl
             refine pure_ (i := 21) (N := some 2) (v := ?_) (a' := ?_) #[true, true, true, true, true, true, true, true, true, true, true, true, true, true, true, true, true, true, true, true, true, true] rfl rfl (any_of HT_.out (by kernel_rfl)) (fun _ _ _ h => h) (Or.inl ⟨by rfl, ?_⟩) ?_ ?_
             rotate_left
             ·intro w'
              go_simp
              with_reducible rfl
             rotate_left
             ·simp only [Act.put, zs1, zs2, zs3, i64_w, i32_w]
              rfl
             refine done_ (done_of HT_.out (by kernel_rfl)) ?_
             try go_wp2
             go_ret
             exact ⟨by first | rfl | (simp [errW_none, errW_some] <;> rfl) | (simp only [← hji51]; first | rfl | (simp [errW_none, errW_some] <;> rfl)) | (simp [*, errW_none, errW_some] <;> rfl), zv7 HB.out⟩
            ·rw [if_neg c67] at H
             have c67b0 : decide (t350 ≤ 0) = false := decide_eq_false c67
             clear c67
             obtain rfl := Option.some.inj H
             have hnb84 := NB329_332.out
             have hnc84 := NB332_329.out
             have y85_0 := zt0 BK329.out
             have y85_1 := zt1 BK329.out
             have y85_2 := zt2 BK329.out
             have y85_3 := zt3 BK329.out
             have y85_4 := zt4 BK329.out
             have y85_5 := zt5 BK329.out
             have u85_0 := zd BK329.out 0
             have u85_1 := zd BK329.out 1
             have u85_2 := zd BK329.out 2
             have u85_3 := zd BK329.out 3
             have u85_4 := zd BK329.out 4
             have u85_5 := zd BK329.out 5
             have p341 : 0 ≤ ((ji51) : Int) := of_decide_eq_true (by first | (with_reducible assumption) | assumption)
             have q341 : (ji51) < (l0_5.length : Int) := of_decide_eq_true (by first | (with_reducible assumption) | assumption)
             obtain ⟨ad341, e341, hx341_0⟩ := Kd.at_int HR0_5.out (ji51) p341 q341
             cases e341
             replace hx341_0 := (HB.out.cell (World.block_lt_of_cell? w _ hx341_0)).trans hx341_0
             replace p341 := eq_true p341
             replace q341 := eq_true q341
             try go_wp2
             replace BK329 := zp.mk (zi BK329.out)
             replace BK332 := zp.mk (zi BK332.out)
             replace HB := zp.mk (zb HB.out)
             refine start_ (n := 7) (S := fun w' => w'.cell? ⟨gb332, 0, none⟩ = some (.int .i64 x333000_2) ∧ w'.cell? ⟨gb332, 1, none⟩ = some (.int .u64 x333001_2) ∧ w'.cell? ⟨gb329, 0, none⟩ = some (.int .i64 a0_0) ∧ w'.cell? ⟨gb329, 1, none⟩ = some (.int .i64 a0_1) ∧ w'.cell? ⟨gb329, 2, none⟩ = some (.int .u64 a0_2) ∧ w'.cell? ⟨gb329, 3, none⟩ = some (.int .i64 a0_3) ∧ w'.cell? ⟨gb329, 4, none⟩ = some (.int .i64 a0_4) ∧ w'.cell? ⟨gb329, 5, none⟩ = some (.slice (some ad341) l0_5.length c0_5)) (ds := [6]) #[false, false, false, false, false, false, false] (by kernel_rfl) rfl rfl ⟨(ze BK332.out 0).trans rfl, (ze BK332.out 1).trans rfl, (ze BK329.out 0).trans rfl, (ze BK329.out 1).trans rfl, (ze BK329.out 2).trans rfl, (ze BK329.out 3).trans rfl, (ze BK329.out 4).trans rfl, (ze BK329.out 5).trans rfl⟩ (fun hHeld => ?_)
             generalize wr.drew = w86 at BK329 BK332 HB hHeld ⊢
             refine pure_ (i := 1) (N := some 106) (v := ?_) (a' := ?_) #[false, true, false, false, false, false, false] rfl rfl (by kernel_rfl) (fun _ _ _ h => h) (Or.inl ⟨by rfl, ?_⟩) ?_ ?_
             rotate_left
             ·intro w'
              go_simp
              with_reducible rfl
             rotate_left
             ·simp only [Act.put, zs1, zs2, zs3, i64_w, i32_w]
              rfl
             refine take_ (i := 0) (N := some 105) (v := ?_) (a' := ?_) #[true, true, false, false, false, false, false] rfl rfl (by kernel_rfl) (fun _ _ _ h => h) (Or.inl ⟨by rfl, ?_⟩) hHeld ?_ ?_
             rotate_left
             ·rintro w' ⟨s0, s1, s2, s3, s4, s5, s6, s7⟩
              go_simp
              with_reducible rfl
             rotate_left
             ·simp only [Act.put, zs1, zs2, zs3, i64_w, i32_w]
              rfl
             refine take_ (i := 2) (N := some 107) (v := ?_) (a' := ?_) #[true, true, true, false, false, false, false] rfl rfl (by kernel_rfl) (fun _ _ _ h => h) (Or.inl ⟨by rfl, ?_⟩) hHeld ?_ ?_
             rotate_left
             ·rintro w' ⟨s0, s1, s2, s3, s4, s5, s6, s7⟩
              go_simp
              with_reducible rfl
             rotate_left
             ·simp only [Act.put, zs1, zs2, zs3, i64_w, i32_w]
              rfl
             refine one_ (i := 3) (N := some 108) #[true, true, true, true, false, false, false] rfl rfl (by kernel_rfl) (by decide) (fun K hK => ?_)
             refine goes_ Try.func49 (by kernel_rfl) rfl #[.int .i64 a0_3] (by rfl) rfl rfl (by (try simp only [List.map_toArray, List.map_cons, List.map_nil]); first | done | rfl | (simp only [List.length_drop, List.length_take]; rfl)) ?_
             with_reducible refine (impl_WideOf.calls a0_3 t342 t343 _ A61.out).mono ?_
             rintro e w87 ⟨rfl, hb⟩
             refine ⟨_, rfl, ?_⟩
             replace BK329 := zp.mk (zl (zv8 BK329.out) hb)
             replace BK332 := zp.mk (zl (zv8 BK332.out) hb)
             replace HB := zp.mk (zj (zv7 HB.out) hb)
             (try clear hb)
             (try clear hb2)
             (try clear hk)
             (try clear hi)
             refine hK.out _ _ ⟨(ze BK332.out 0).trans rfl, (ze BK332.out 1).trans rfl, (ze BK329.out 0).trans rfl, (ze BK329.out 1).trans rfl, (ze BK329.out 2).trans rfl, (ze BK329.out 3).trans rfl, (ze BK329.out 4).trans rfl, (ze BK329.out 5).trans rfl⟩ (fun hHeld => ?_)
             clear hK K
             refine norm_ (a' := ?_) ?_ ?_
             rotate_left
             ·show Act.put _ (some 108) _ = _
              simp only [Act.put, zs1, zs2, zs3, i64_w, i32_w]
              rfl
             refine one_ (i := 4) (N := some 109) #[true, true, true, true, true, false, false] rfl rfl (by kernel_rfl) (by decide) (fun K hK => ?_)
             refine goes_ Try.func48 (by kernel_rfl) rfl #[.agg #[.int .i64 t342, .int .u64 t343]] (by rfl) rfl rfl (by (try simp only [List.map_toArray, List.map_cons, List.map_nil]); first | done | rfl | (simp only [List.length_drop, List.length_take]; rfl)) ?_
             with_reducible refine (impl_WideNeg.calls t342 t343 t344 t345 _ A62.out).mono ?_
             rintro e w88 ⟨rfl, hb⟩
             refine ⟨_, rfl, ?_⟩
             replace BK329 := zp.mk (zl (zv8 BK329.out) hb)
             replace BK332 := zp.mk (zl (zv8 BK332.out) hb)
             replace HB := zp.mk (zj (zv7 HB.out) hb)
             (try clear hb)
             (try clear hb2)
             (try clear hk)
             (try clear hi)
             refine hK.out _ _ ⟨(ze BK332.out 0).trans rfl, (ze BK332.out 1).trans rfl, (ze BK329.out 0).trans rfl, (ze BK329.out 1).trans rfl, (ze BK329.out 2).trans rfl, (ze BK329.out 3).trans rfl, (ze BK329.out 4).trans rfl, (ze BK329.out 5).trans rfl⟩ (fun hHeld => ?_)
             clear hK K
             refine norm_ (a' := ?_) ?_ ?_
             rotate_left
             ·show Act.put _ (some 109) _ = _
              simp only [Act.put, zs1, zs2, zs3, i64_w, i32_w]
              rfl
             refine one_ (i := 5) (N := some 110) #[true, true, true, true, true, true, false] rfl rfl (by kernel_rfl) (by decide) (fun K hK => ?_)
             refine goes_ Try.func47 (by kernel_rfl) rfl #[.agg #[.int .i64 x333000_2, .int .u64 x333001_2], .agg #[.int .i64 t344, .int .u64 t345]] (by rfl) rfl rfl (by (try simp only [List.map_toArray, List.map_cons, List.map_nil]); first | done | rfl | (simp only [List.length_drop, List.length_take]; rfl)) ?_
             with_reducible refine (impl_WideAdd.calls x333000_2 x333001_2 t344 t345 t346 t347 _ A63.out).mono ?_
             rintro e w89 ⟨rfl, hb⟩
             refine ⟨_, rfl, ?_⟩
             replace BK329 := zp.mk (zl (zv8 BK329.out) hb)
             replace BK332 := zp.mk (zl (zv8 BK332.out) hb)
             replace HB := zp.mk (zj (zv7 HB.out) hb)
             (try clear hb)
             (try clear hb2)
             (try clear hk)
             (try clear hi)
             refine hK.out _ _ ⟨(ze BK332.out 0).trans rfl, (ze BK332.out 1).trans rfl, (ze BK329.out 0).trans rfl, (ze BK329.out 1).trans rfl, (ze BK329.out 2).trans rfl, (ze BK329.out 3).trans rfl, (ze BK329.out 4).trans rfl, (ze BK329.out 5).trans rfl⟩ (fun hHeld => ?_)
             clear hK K
             refine norm_ (a' := ?_) ?_ ?_
             rotate_left
             ·show Act.put _ (some 110) _ = _
              simp only [Act.put, zs1, zs2, zs3, i64_w, i32_w]
              rfl
             refine last_ (i := 6) (N := none) #[true, true, true, true, true, true, true] rfl rfl (by kernel_rfl) (by decide) (fun K hK => ?_)
             have hs90 : w89.cell? ⟨gb332, 0, none⟩ = some (.int .i64 x333000_2) := (ze BK332.out 0).trans rfl
             have hfs90 := zd BK332.out 0
             have hns90_0 := NB329_332.out
             have hms90_0 := NB332_329.out
             have hs91 : w89.cell? ⟨gb332, 1, none⟩ = some (.int .u64 x333001_2) := (ze BK332.out 1).trans rfl
             have hfs91 := zd BK332.out 1
             have hns91_0 := NB329_332.out
             have hms91_0 := NB332_329.out
             refine skip_ (w1 := ?_) (by rfl) rfl ?_ ?_
             rotate_left
             ·go_simp
              rfl
             refine hK.out _ _ ?_
             clear hK K
             refine done_ (by kernel_rfl) ?_
             try go_wp2
             have n0_ : zp (((w89.setCell ⟨gb332, 0, none⟩ (.int .i64 t346)).setCell ⟨gb332, 1, none⟩ (.int .u64 t347)).heap[gb329]? = some (.cells #[.int .i64 a0_0, .int .i64 a0_1, .int .u64 a0_2, .int .i64 a0_3, .int .i64 a0_4, .slice (some ad341) l0_5.length c0_5] 32 (0, 0))) := ⟨by (with_reducible repeat (first | refine zf ?_ _ | refine zi ?_ | refine zg ?_ _)); refine blk_far ?_ NB329_332.out _; (with_reducible repeat (first | refine zf ?_ _ | refine zi ?_ | refine zg ?_ _)); refine blk_far ?_ NB329_332.out _; (with_reducible repeat (first | refine zf ?_ _ | refine zi ?_ | refine zg ?_ _)); exact BK329.out⟩
             have n1_ : zp (((w89.setCell ⟨gb332, 0, none⟩ (.int .i64 t346)).setCell ⟨gb332, 1, none⟩ (.int .u64 t347)).heap[gb332]? = some (.cells #[.int .i64 t346, .int .u64 t347] 30 (0, 0))) := ⟨by (with_reducible repeat (first | refine zf ?_ _ | refine zi ?_ | refine zg ?_ _)); refine blk_put (cs := #[.int .i64 t346, .int .u64 x333001_2]) ?_ 1 _ rfl; (with_reducible repeat (first | refine zf ?_ _ | refine zi ?_ | refine zg ?_ _)); refine blk_put (cs := #[.int .i64 x333000_2, .int .u64 x333001_2]) ?_ 0 _ rfl; (with_reducible repeat (first | refine zf ?_ _ | refine zi ?_ | refine zg ?_ _)); exact BK332.out⟩
             have n2_ : zp (Below w.heap.size w ((w89.setCell ⟨gb332, 0, none⟩ (.int .i64 t346)).setCell ⟨gb332, 1, none⟩ (.int .u64 t347))) := ⟨zv7 HB.out⟩
             (try clear BK329)
             (try clear BK332)
             (try clear HB)
             generalize ((w89.setCell ⟨gb332, 0, none⟩ (.int .i64 t346)).setCell ⟨gb332, 1, none⟩ (.int .u64 t347)) = w92 at n0_ n1_ n2_ ⊢
             have BK329 := n0_
             have BK332 := n1_
             have HB := n2_
             clear n0_ n1_ n2_
             replace BK329 := zp.mk (zi BK329.out)
             replace BK332 := zp.mk (zi BK332.out)
             replace HB := zp.mk (zb HB.out)
             refine start_ (n := 22) (S := fun w' => w'.cell? ⟨gb329, 0, none⟩ = some (.int .i64 a0_0) ∧ w'.cell? ⟨gb329, 1, none⟩ = some (.int .i64 a0_1) ∧ w'.cell? ⟨gb329, 2, none⟩ = some (.int .u64 a0_2) ∧ w'.cell? ⟨gb329, 3, none⟩ = some (.int .i64 a0_3) ∧ w'.cell? ⟨gb329, 4, none⟩ = some (.int .i64 a0_4) ∧ w'.cell? ⟨gb329, 5, none⟩ = some (.slice (some ad341) l0_5.length c0_5) ∧ w'.cell? ⟨gb332, 0, none⟩ = some (.int .i64 t346) ∧ w'.cell? ⟨gb332, 1, none⟩ = some (.int .u64 t347)) (ds := []) #[false, false, false, false, false, false, false, false, false, false, false, false, false, false, false, false, false, false, false, false, false, false] (by kernel_rfl) rfl rfl ⟨(ze BK329.out 0).trans rfl, (ze BK329.out 1).trans rfl, (ze BK329.out 2).trans rfl, (ze BK329.out 3).trans rfl, (ze BK329.out 4).trans rfl, (ze BK329.out 5).trans rfl, (ze BK332.out 0).trans rfl, (ze BK332.out 1).trans rfl⟩ (fun hHeld => ?_); refine with_tabW impl_isAgg.tab18 impl_isAgg.bits18 (fun HT_ HW_ => ?_)
             generalize w92.drew = w93 at BK329 BK332 HB hHeld ⊢
             refine pure_ (i := 0) (N := some 111) (v := ?_) (a' := ?_) #[true, false, false, false, false, false, false, false, false, false, false, false, false, false, false, false, false, false, false, false, false, false] rfl rfl (any_of HT_.out (by kernel_rfl)) (fun _ _ _ h => h) (Or.inl ⟨by rfl, ?_⟩) ?_ ?_
             rotate_left
             ·intro w'
              go_simp
              with_reducible rfl
             rotate_left
             ·simp only [Act.put, zs1, zs2, zs3, i64_w, i32_w]
              rfl
             refine pure_ (i := 2) (N := some 113) (v := ?_) (a' := ?_) #[true, false, true, false, false, false, false, false, false, false, false, false, false, false, false, false, false, false, false, false, false, false] rfl rfl (any_of HT_.out (by kernel_rfl)) (fun _ _ _ h => h) (Or.inl ⟨by rfl, ?_⟩) ?_ ?_
             rotate_left
             ·intro w'
              go_simp
              with_reducible rfl
             rotate_left
             ·simp only [Act.put, zs1, zs2, zs3, i64_w, i32_w]
              rfl
             refine take_ (i := 1) (N := some 112) (v := ?_) (a' := ?_) #[true, true, true, false, false, false, false, false, false, false, false, false, false, false, false, false, false, false, false, false, false, false] rfl rfl (take_ofW HT_.out HW_.out (by kernel_rfl)) (fun _ _ _ h => h) (Or.inl ⟨by rfl, ?_⟩) hHeld ?_ ?_
             rotate_left
             ·rintro w' ⟨s0, s1, s2, s3, s4, s5, s6, s7⟩
              go_simp
              with_reducible rfl
             rotate_left
             ·simp only [Act.put, zs1, zs2, zs3, i64_w, i32_w]
              rfl
             refine pure_ (i := 3) (N := some 114) (v := ?_) (a' := ?_) #[true, true, true, true, false, false, false, false, false, false, false, false, false, false, false, false, false, false, false, false, false, false] rfl rfl (any_of HT_.out (by kernel_rfl)) (fun _ _ _ h => h) (Or.inl ⟨by rfl, ?_⟩) ?_ ?_
             rotate_left
             ·intro w'
              go_simp
              with_reducible rfl
             rotate_left
             ·simp only [Act.put, zs1, zs2, zs3, i64_w, i32_w]
              rfl
             refine pure_ (i := 4) (N := some 115) (v := ?_) (a' := ?_) #[true, true, true, true, true, false, false, false, false, false, false, false, false, false, false, false, false, false, false, false, false, false] rfl rfl (any_of HT_.out (by kernel_rfl)) (fun _ _ _ h => h) (Or.inl ⟨by rfl, ?_⟩) ?_ ?_
             rotate_left
             ·intro w'
              go_simp
              with_reducible rfl
             rotate_left
             ·simp only [Act.put, zs1, zs2, zs3, i64_w, i32_w]
              rfl
             refine pure_ (i := 5) (N := some 116) (v := ?_) (a' := ?_) #[true, true, true, true, true, true, false, false, false, false, false, false, false, false, false, false, false, false, false, false, false, false] rfl rfl (any_of HT_.out (by kernel_rfl)) (fun _ _ _ h => h) (Or.inl ⟨by rfl, ?_⟩) ?_ ?_
             rotate_left
             ·intro w'
              go_simp
              with_reducible rfl
             rotate_left
             ·simp only [Act.put, zs1, zs2, zs3, i64_w, i32_w]
              rfl
             refine pure_ (i := 7) (N := some 118) (v := ?_) (a' := ?_) #[true, true, true, true, true, true, false, true, false, false, false, false, false, false, false, false, false, false, false, false, false, false] rfl rfl (any_of HT_.out (by kernel_rfl)) (fun _ _ _ h => h) (Or.inl ⟨by rfl, ?_⟩) ?_ ?_
             rotate_left
             ·intro w'
              go_simp
              with_reducible rfl
             rotate_left
             ·simp only [Act.put, zs1, zs2, zs3, i64_w, i32_w]
              rfl
             refine take_ (i := 6) (N := some 117) (v := ?_) (a' := ?_) #[true, true, true, true, true, true, true, true, false, false, false, false, false, false, false, false, false, false, false, false, false, false] rfl rfl (take_ofW HT_.out HW_.out (by kernel_rfl)) (fun _ _ _ h => h) (Or.inl ⟨by rfl, ?_⟩) hHeld ?_ ?_
             rotate_left
             ·rintro w' ⟨s0, s1, s2, s3, s4, s5, s6, s7⟩
              go_simp
              with_reducible rfl
             rotate_left
             ·simp only [Act.put, zs1, zs2, zs3, i64_w, i32_w]
              rfl
             refine take_ (i := 9) (N := some 120) (v := ?_) (a' := ?_) #[true, true, true, true, true, true, true, true, false, true, false, false, false, false, false, false, false, false, false, false, false, false] rfl rfl (take_ofW HT_.out HW_.out (by kernel_rfl)) (fun _ _ _ h => h) (Or.inl ⟨by rfl, ?_⟩) hHeld ?_ ?_
             rotate_left
             ·rintro w' ⟨s0, s1, s2, s3, s4, s5, s6, s7⟩
              go_simp
              with_reducible rfl
             rotate_left
             ·simp only [Act.put, zs1, zs2, zs3, i64_w, i32_w]
              rfl
             refine one_ (i := 8) (N := some 119) #[true, true, true, true, true, true, true, true, true, true, false, false, false, false, false, false, false, false, false, false, false, false] rfl rfl (one_of HT_.out (by kernel_rfl)) (by decide) (fun K hK => ?_)
             refine goes_ Try.func51 (by kernel_rfl) rfl #[.int .i64 a0_3, .int .i64 (wrap64 ((wrap64 (a0_0 - 4)) - 1))] (by rfl) rfl rfl (by (try simp only [List.map_toArray, List.map_cons, List.map_nil]); first | done | rfl | (simp only [List.length_drop, List.length_take]; rfl)) ?_
             with_reducible refine (impl_wideTimes.calls k2 a0_3 (wrap64 ((wrap64 (a0_0 - 4)) - 1)) t348 t349 _ A65.out).mono ?_
             rintro e w94 ⟨rfl, hb⟩
             refine ⟨_, rfl, ?_⟩
             replace BK329 := zp.mk (zl (zv8 BK329.out) hb)
             replace BK332 := zp.mk (zl (zv8 BK332.out) hb)
             replace HB := zp.mk (zj (zv7 HB.out) hb)
             (try clear hb)
             (try clear hb2)
             (try clear hk)
             (try clear hi)
             refine hK.out _ _ ⟨(ze BK329.out 0).trans rfl, (ze BK329.out 1).trans rfl, (ze BK329.out 2).trans rfl, (ze BK329.out 3).trans rfl, (ze BK329.out 4).trans rfl, (ze BK329.out 5).trans rfl, (ze BK332.out 0).trans rfl, (ze BK332.out 1).trans rfl⟩ (fun hHeld => ?_)
             clear hK K
             refine norm_ (a' := ?_) ?_ ?_
             rotate_left
             ·show Act.put _ (some 119) _ = _
              simp only [Act.put, zs1, zs2, zs3, i64_w, i32_w]
              rfl
             refine one_ (i := 10) (N := some 121) #[true, true, true, true, true, true, true, true, true, true, true, false, false, false, false, false, false, false, false, false, false, false] rfl rfl (one_of HT_.out (by kernel_rfl)) (by decide) (fun K hK => ?_)
             refine goes_ Try.func50 (by kernel_rfl) rfl #[.agg #[.int .i64 t348, .int .u64 t349], .agg #[.int .i64 t346, .int .u64 t347]] (by rfl) rfl rfl (by (try simp only [List.map_toArray, List.map_cons, List.map_nil]); first | done | rfl | (simp only [List.length_drop, List.length_take]; rfl)) ?_
             with_reducible refine (impl_WideCmp.calls k2 t348 t349 t346 t347 t350 _ A66.out).mono ?_
             rintro e w95 ⟨rfl, hb⟩
             refine ⟨_, rfl, ?_⟩
             replace BK329 := zp.mk (zl (zv8 BK329.out) hb)
             replace BK332 := zp.mk (zl (zv8 BK332.out) hb)
             replace HB := zp.mk (zj (zv7 HB.out) hb)
             (try clear hb)
             (try clear hb2)
             (try clear hk)
             (try clear hi)
             refine hK.out _ _ ⟨(ze BK329.out 0).trans rfl, (ze BK329.out 1).trans rfl, (ze BK329.out 2).trans rfl, (ze BK329.out 3).trans rfl, (ze BK329.out 4).trans rfl, (ze BK329.out 5).trans rfl, (ze BK332.out 0).trans rfl, (ze BK332.out 1).trans rfl⟩ (fun hHeld => ?_)
             clear hK K
             refine norm_ (a' := ?_) ?_ ?_
             rotate_left
             ·show Act.put _ (some 121) _ = _
              simp only [Act.put, zs1, zs2, zs3, i64_w, i32_w]
              rfl
             refine pure_ (i := 11) (N := some 122) (v := ?_) (a' := ?_) #[true, true, true, true, true, true, true, true, true, true, true, true, false, false, false, false, false, false, false, false, false, false] rfl rfl (any_of HT_.out (by kernel_rfl)) (fun _ _ _ h => h) (Or.inl ⟨by rfl, ?_⟩) ?_ ?_
             rotate_left
             ·intro w'
              go_simp
              with_reducible rfl
             rotate_left
             ·simp only [Act.put, zs1, zs2, zs3, i64_w, i32_w]
              rfl
             refine pure_ (i := 12) (N := some 123) (v := ?_) (a' := ?_) #[true, true, true, true, true, true, true, true, true, true, true, true, true, false, false, false, false, false, false, false, false, false] rfl rfl (any_of HT_.out (by kernel_rfl)) (fun _ _ _ h => h) (Or.inl ⟨by rfl, ?_⟩) ?_ ?_
             rotate_left
             ·intro w'
              go_simp
              with_reducible rfl
             rotate_left
             ·simp only [Act.put, zs1, zs2, zs3, i64_w, i32_w]
              rfl
             refine pure_ (i := 13) (N := some 124) (v := ?_) (a' := ?_) #[true, true, true, true, true, true, true, true, true, true, true, true, true, true, false, false, false, false, false, false, false, false] rfl rfl (any_of HT_.out (by kernel_rfl)) (fun _ _ _ h => h) (Or.inl ⟨by rfl, ?_⟩) ?_ ?_
             rotate_left
             ·intro w'
              go_simp
              with_reducible rfl
             rotate_left
             ·simp only [Act.put, zs1, zs2, zs3, i64_w, i32_w]
              rfl
             refine pure_ (i := 14) (N := some 125) (v := undef) (a' := ?_) #[true, true, true, true, true, true, true, true, true, true, true, true, true, true, true, false, false, false, false, false, false, false] rfl rfl (any_of HT_.out (by kernel_rfl)) (fun _ _ _ h => h) (Or.inr ⟨by rfl, rfl⟩) ?_ ?_
             rotate_left
             ·simp only [Act.put, zs1, zs2, zs3, i64_w, i32_w]
              rfl
             refine pure_ (i := 15) (N := some 126) (v := undef) (a' := ?_) #[true, true, true, true, true, true, true, true, true, true, true, true, true, true, true, true, false, false, false, false, false, false] rfl rfl (any_of HT_.out (by kernel_rfl)) (fun _ _ _ h => h) (Or.inr ⟨by rfl, rfl⟩) ?_ ?_
             rotate_left
             ·simp only [Act.put, zs1, zs2, zs3, i64_w, i32_w]
              rfl
             refine pure_ (i := 16) (N := some 127) (v := undef) (a' := ?_) #[true, true, true, true, true, true, true, true, true, true, true, true, true, true, true, true, true, false, false, false, false, false] rfl rfl (any_of HT_.out (by kernel_rfl)) (fun _ _ _ h => h) (Or.inr ⟨by rfl, rfl⟩) ?_ ?_
             rotate_left
             ·simp only [Act.put, zs1, zs2, zs3, i64_w, i32_w]
              rfl
             refine pure_ (i := 17) (N := some 128) (v := undef) (a' := ?_) #[true, true, true, true, true, true, true, true, true, true, true, true, true, true, true, true, true, true, false, false, false, false] rfl rfl (any_of HT_.out (by kernel_rfl)) (fun _ _ _ h => h) (Or.inr ⟨by rfl, rfl⟩) ?_ ?_
             rotate_left
             ·simp only [Act.put, zs1, zs2, zs3, i64_w, i32_w]
              rfl
             refine pure_ (i := 18) (N := some 129) (v := undef) (a' := ?_) #[true, true, true, true, true, true, true, true, true, true, true, true, true, true, true, true, true, true, true, false, false, false] rfl rfl (any_of HT_.out (by kernel_rfl)) (fun _ _ _ h => h) (Or.inr ⟨by rfl, rfl⟩) ?_ ?_
             rotate_left
             ·simp only [Act.put, zs1, zs2, zs3, i64_w, i32_w]
              rfl
             refine pure_ (i := 19) (N := some 130) (v := undef) (a' := ?_) #[true, true, true, true, true, true, true, true, true, true, true, true, true, true, true, true, true, true, true, true, false, false] rfl rfl (any_of HT_.out (by kernel_rfl)) (fun _ _ _ h => h) (Or.inr ⟨by rfl, rfl⟩) ?_ ?_
             rotate_left
             ·simp only [Act.put, zs1, zs2, zs3, i64_w, i32_w]
              rfl
             refine pure_ (i := 20) (N := some 131) (v := ?_) (a' := ?_) #[true, true, true, true, true, true, true, true, true, true, true, true, true, true, true, true, true, true, true, true, true, false] rfl rfl (any_of HT_.out (by kernel_rfl)) (fun _ _ _ h => h) (Or.inl ⟨by rfl, ?_⟩) ?_ ?_
             rotate_left
             ·intro w'
              go_simp
              with_reducible rfl
             rotate_left
             ·simp only [Act.put, zs1, zs2, zs3, i64_w, i32_w]
              rfl
             refine pure_ (i := 21) (N := some 2) (v := ?_) (a' := ?_) #[true, true, true, true, true, true, true, true, true, true, true, true, true, true, true, true, true, true, true, true, true, true] rfl rfl (any_of HT_.out (by kernel_rfl)) (fun _ _ _ h => h) (Or.inl ⟨by rfl, ?_⟩) ?_ ?_
             rotate_left
             ·intro w'
              go_simp
              with_reducible rfl
             rotate_left
             ·simp only [Act.put, zs1, zs2, zs3, i64_w, i32_w]
              rfl
             refine done_ (done_of HT_.out (by kernel_rfl)) ?_
             try go_wp2
             go_ret
             exact ⟨by first | rfl | (simp [errW_none, errW_some] <;> rfl) | (simp only [← hji51]; first | rfl | (simp [errW_none, errW_some] <;> rfl)) | (simp [*, errW_none, errW_some] <;> rfl), zv7 HB.out⟩
           ·rw [if_neg c64] at H
            have c64b0 : decide (a0_3 ≤ (rd l0_5 (ji51))) = false := decide_eq_false c64
            clear c64
            obtain rfl := Option.some.inj H
            have hnb96 := NB329_332.out
            have hnc96 := NB332_329.out
            have y97_0 := zt0 BK329.out
            have y97_1 := zt1 BK329.out
            have y97_2 := zt2 BK329.out
            have y97_3 := zt3 BK329.out
            have y97_4 := zt4 BK329.out
            have y97_5 := zt5 BK329.out
            have u97_0 := zd BK329.out 0
            have u97_1 := zd BK329.out 1
            have u97_2 := zd BK329.out 2
            have u97_3 := zd BK329.out 3
            have u97_4 := zd BK329.out 4
            have u97_5 := zd BK329.out 5
            have p341 : 0 ≤ ((ji51) : Int) := of_decide_eq_true (by first | (with_reducible assumption) | assumption)
            have q341 : (ji51) < (l0_5.length : Int) := of_decide_eq_true (by first | (with_reducible assumption) | assumption)
            obtain ⟨ad341, e341, hx341_0⟩ := Kd.at_int HR0_5.out (ji51) p341 q341
            cases e341
            replace hx341_0 := (HB.out.cell (World.block_lt_of_cell? w _ hx341_0)).trans hx341_0
            replace p341 := eq_true p341
            replace q341 := eq_true q341
            try go_wp2
            replace BK329 := zp.mk (zi BK329.out)
            replace BK332 := zp.mk (zi BK332.out)
            replace HB := zp.mk (zb HB.out)
            refine start_ (n := 7) (S := fun w' => w'.cell? ⟨gb332, 0, none⟩ = some (.int .i64 x333000_2) ∧ w'.cell? ⟨gb332, 1, none⟩ = some (.int .u64 x333001_2) ∧ w'.cell? ⟨gb329, 0, none⟩ = some (.int .i64 a0_0) ∧ w'.cell? ⟨gb329, 1, none⟩ = some (.int .i64 a0_1) ∧ w'.cell? ⟨gb329, 2, none⟩ = some (.int .u64 a0_2) ∧ w'.cell? ⟨gb329, 3, none⟩ = some (.int .i64 a0_3) ∧ w'.cell? ⟨gb329, 4, none⟩ = some (.int .i64 a0_4) ∧ w'.cell? ⟨gb329, 5, none⟩ = some (.slice (some ad341) l0_5.length c0_5)) (ds := [6]) #[false, false, false, false, false, false, false] (by kernel_rfl) rfl rfl ⟨(ze BK332.out 0).trans rfl, (ze BK332.out 1).trans rfl, (ze BK329.out 0).trans rfl, (ze BK329.out 1).trans rfl, (ze BK329.out 2).trans rfl, (ze BK329.out 3).trans rfl, (ze BK329.out 4).trans rfl, (ze BK329.out 5).trans rfl⟩ (fun hHeld => ?_)
            generalize wr.drew = w98 at BK329 BK332 HB hHeld ⊢
            refine pure_ (i := 1) (N := some 106) (v := ?_) (a' := ?_) #[false, true, false, false, false, false, false] rfl rfl (by kernel_rfl) (fun _ _ _ h => h) (Or.inl ⟨by rfl, ?_⟩) ?_ ?_
            rotate_left
            ·intro w'
             go_simp
             with_reducible rfl
            rotate_left
            ·simp only [Act.put, zs1, zs2, zs3, i64_w, i32_w]
             rfl
            refine take_ (i := 0) (N := some 105) (v := ?_) (a' := ?_) #[true, true, false, false, false, false, false] rfl rfl (by kernel_rfl) (fun _ _ _ h => h) (Or.inl ⟨by rfl, ?_⟩) hHeld ?_ ?_
            rotate_left
            ·rintro w' ⟨s0, s1, s2, s3, s4, s5, s6, s7⟩
             go_simp
             with_reducible rfl
            rotate_left
            ·simp only [Act.put, zs1, zs2, zs3, i64_w, i32_w]
             rfl
            refine take_ (i := 2) (N := some 107) (v := ?_) (a' := ?_) #[true, true, true, false, false, false, false] rfl rfl (by kernel_rfl) (fun _ _ _ h => h) (Or.inl ⟨by rfl, ?_⟩) hHeld ?_ ?_
            rotate_left
            ·rintro w' ⟨s0, s1, s2, s3, s4, s5, s6, s7⟩
             go_simp
             with_reducible rfl
            rotate_left
            ·simp only [Act.put, zs1, zs2, zs3, i64_w, i32_w]
             rfl
            refine one_ (i := 3) (N := some 108) #[true, true, true, true, false, false, false] rfl rfl (by kernel_rfl) (by decide) (fun K hK => ?_)
            refine goes_ Try.func49 (by kernel_rfl) rfl #[.int .i64 a0_3] (by rfl) rfl rfl (by (try simp only [List.map_toArray, List.map_cons, List.map_nil]); first | done | rfl | (simp only [List.length_drop, List.length_take]; rfl)) ?_
            with_reducible refine (impl_WideOf.calls a0_3 t342 t343 _ A61.out).mono ?_
            rintro e w99 ⟨rfl, hb⟩
            refine ⟨_, rfl, ?_⟩
            replace BK329 := zp.mk (zl (zv8 BK329.out) hb)
            replace BK332 := zp.mk (zl (zv8 BK332.out) hb)
            replace HB := zp.mk (zj (zv7 HB.out) hb)
            (try clear hb)
            (try clear hb2)
            (try clear hk)
            (try clear hi)
            refine hK.out _ _ ⟨(ze BK332.out 0).trans rfl, (ze BK332.out 1).trans rfl, (ze BK329.out 0).trans rfl, (ze BK329.out 1).trans rfl, (ze BK329.out 2).trans rfl, (ze BK329.out 3).trans rfl, (ze BK329.out 4).trans rfl, (ze BK329.out 5).trans rfl⟩ (fun hHeld => ?_)
            clear hK K
            refine norm_ (a' := ?_) ?_ ?_
            rotate_left
            ·show Act.put _ (some 108) _ = _
             simp only [Act.put, zs1, zs2, zs3, i64_w, i32_w]
             rfl
            refine one_ (i := 4) (N := some 109) #[true, true, true, true, true, false, false] rfl rfl (by kernel_rfl) (by decide) (fun K hK => ?_)
            refine goes_ Try.func48 (by kernel_rfl) rfl #[.agg #[.int .i64 t342, .int .u64 t343]] (by rfl) rfl rfl (by (try simp only [List.map_toArray, List.map_cons, List.map_nil]); first | done | rfl | (simp only [List.length_drop, List.length_take]; rfl)) ?_
            with_reducible refine (impl_WideNeg.calls t342 t343 t344 t345 _ A62.out).mono ?_
            rintro e w100 ⟨rfl, hb⟩
            refine ⟨_, rfl, ?_⟩
            replace BK329 := zp.mk (zl (zv8 BK329.out) hb)
            replace BK332 := zp.mk (zl (zv8 BK332.out) hb)
            replace HB := zp.mk (zj (zv7 HB.out) hb)
            (try clear hb)
            (try clear hb2)
            (try clear hk)
            (try clear hi)
            refine hK.out _ _ ⟨(ze BK332.out 0).trans rfl, (ze BK332.out 1).trans rfl, (ze BK329.out 0).trans rfl, (ze BK329.out 1).trans rfl, (ze BK329.out 2).trans rfl, (ze BK329.out 3).trans rfl, (ze BK329.out 4).trans rfl, (ze BK329.out 5).trans rfl⟩ (fun hHeld => ?_)
            clear hK K
            refine norm_ (a' := ?_) ?_ ?_
            rotate_left
            ·show Act.put _ (some 109) _ = _
             simp only [Act.put, zs1, zs2, zs3, i64_w, i32_w]
             rfl
            refine one_ (i := 5) (N := some 110) #[true, true, true, true, true, true, false] rfl rfl (by kernel_rfl) (by decide) (fun K hK => ?_)
            refine goes_ Try.func47 (by kernel_rfl) rfl #[.agg #[.int .i64 x333000_2, .int .u64 x333001_2], .agg #[.int .i64 t344, .int .u64 t345]] (by rfl) rfl rfl (by (try simp only [List.map_toArray, List.map_cons, List.map_nil]); first | done | rfl | (simp only [List.length_drop, List.length_take]; rfl)) ?_
            with_reducible refine (impl_WideAdd.calls x333000_2 x333001_2 t344 t345 t346 t347 _ A63.out).mono ?_
            rintro e w101 ⟨rfl, hb⟩
            refine ⟨_, rfl, ?_⟩
            replace BK329 := zp.mk (zl (zv8 BK329.out) hb)
            replace BK332 := zp.mk (zl (zv8 BK332.out) hb)
            replace HB := zp.mk (zj (zv7 HB.out) hb)
            (try clear hb)
            (try clear hb2)
            (try clear hk)
            (try clear hi)
            refine hK.out _ _ ⟨(ze BK332.out 0).trans rfl, (ze BK332.out 1).trans rfl, (ze BK329.out 0).trans rfl, (ze BK329.out 1).trans rfl, (ze BK329.out 2).trans rfl, (ze BK329.out 3).trans rfl, (ze BK329.out 4).trans rfl, (ze BK329.out 5).trans rfl⟩ (fun hHeld => ?_)
            clear hK K
            refine norm_ (a' := ?_) ?_ ?_
            rotate_left
            ·show Act.put _ (some 110) _ = _
             simp only [Act.put, zs1, zs2, zs3, i64_w, i32_w]
             rfl
            refine last_ (i := 6) (N := none) #[true, true, true, true, true, true, true] rfl rfl (by kernel_rfl) (by decide) (fun K hK => ?_)
            have hs102 : w101.cell? ⟨gb332, 0, none⟩ = some (.int .i64 x333000_2) := (ze BK332.out 0).trans rfl
            have hfs102 := zd BK332.out 0
            have hns102_0 := NB329_332.out
            have hms102_0 := NB332_329.out
            have hs103 : w101.cell? ⟨gb332, 1, none⟩ = some (.int .u64 x333001_2) := (ze BK332.out 1).trans rfl
            have hfs103 := zd BK332.out 1
            have hns103_0 := NB329_332.out
            have hms103_0 := NB332_329.out
            refine skip_ (w1 := ?_) (by rfl) rfl ?_ ?_
            rotate_left
            ·go_simp
             rfl
            refine hK.out _ _ ?_
            clear hK K
            refine done_ (by kernel_rfl) ?_
            try go_wp2
            have n0_ : zp (((w101.setCell ⟨gb332, 0, none⟩ (.int .i64 t346)).setCell ⟨gb332, 1, none⟩ (.int .u64 t347)).heap[gb329]? = some (.cells #[.int .i64 a0_0, .int .i64 a0_1, .int .u64 a0_2, .int .i64 a0_3, .int .i64 a0_4, .slice (some ad341) l0_5.length c0_5] 32 (0, 0))) := ⟨by (with_reducible repeat (first | refine zf ?_ _ | refine zi ?_ | refine zg ?_ _)); refine blk_far ?_ NB329_332.out _; (with_reducible repeat (first | refine zf ?_ _ | refine zi ?_ | refine zg ?_ _)); refine blk_far ?_ NB329_332.out _; (with_reducible repeat (first | refine zf ?_ _ | refine zi ?_ | refine zg ?_ _)); exact BK329.out⟩
            have n1_ : zp (((w101.setCell ⟨gb332, 0, none⟩ (.int .i64 t346)).setCell ⟨gb332, 1, none⟩ (.int .u64 t347)).heap[gb332]? = some (.cells #[.int .i64 t346, .int .u64 t347] 30 (0, 0))) := ⟨by (with_reducible repeat (first | refine zf ?_ _ | refine zi ?_ | refine zg ?_ _)); refine blk_put (cs := #[.int .i64 t346, .int .u64 x333001_2]) ?_ 1 _ rfl; (with_reducible repeat (first | refine zf ?_ _ | refine zi ?_ | refine zg ?_ _)); refine blk_put (cs := #[.int .i64 x333000_2, .int .u64 x333001_2]) ?_ 0 _ rfl; (with_reducible repeat (first | refine zf ?_ _ | refine zi ?_ | refine zg ?_ _)); exact BK332.out⟩
            have n2_ : zp (Below w.heap.size w ((w101.setCell ⟨gb332, 0, none⟩ (.int .i64 t346)).setCell ⟨gb332, 1, none⟩ (.int .u64 t347))) := ⟨zv7 HB.out⟩
            (try clear BK329)
            (try clear BK332)
            (try clear HB)
            generalize ((w101.setCell ⟨gb332, 0, none⟩ (.int .i64 t346)).setCell ⟨gb332, 1, none⟩ (.int .u64 t347)) = w104 at n0_ n1_ n2_ ⊢
            have BK329 := n0_
            have BK332 := n1_
            have HB := n2_
            clear n0_ n1_ n2_
            replace BK329 := zp.mk (zi BK329.out)
            replace BK332 := zp.mk (zi BK332.out)
            replace HB := zp.mk (zb HB.out)
            refine start_ (n := 22) (S := fun w' => w'.cell? ⟨gb329, 0, none⟩ = some (.int .i64 a0_0) ∧ w'.cell? ⟨gb329, 1, none⟩ = some (.int .i64 a0_1) ∧ w'.cell? ⟨gb329, 2, none⟩ = some (.int .u64 a0_2) ∧ w'.cell? ⟨gb329, 3, none⟩ = some (.int .i64 a0_3) ∧ w'.cell? ⟨gb329, 4, none⟩ = some (.int .i64 a0_4) ∧ w'.cell? ⟨gb329, 5, none⟩ = some (.slice (some ad341) l0_5.length c0_5)) (ds := []) #[false, false, false, false, false, false, false, false, false, false, false, false, false, false, false, false, false, false, false, false, false, false] (by kernel_rfl) rfl rfl ⟨(ze BK329.out 0).trans rfl, (ze BK329.out 1).trans rfl, (ze BK329.out 2).trans rfl, (ze BK329.out 3).trans rfl, (ze BK329.out 4).trans rfl, (ze BK329.out 5).trans rfl⟩ (fun hHeld => ?_); refine with_tabW impl_isAgg.tab18 impl_isAgg.bits18 (fun HT_ HW_ => ?_)
            generalize w104.drew = w105 at BK329 BK332 HB hHeld ⊢
            refine pure_ (i := 0) (N := some 111) (v := ?_) (a' := ?_) #[true, false, false, false, false, false, false, false, false, false, false, false, false, false, false, false, false, false, false, false, false, false] rfl rfl (any_of HT_.out (by kernel_rfl)) (fun _ _ _ h => h) (Or.inl ⟨by rfl, ?_⟩) ?_ ?_
            rotate_left
            ·intro w'
             go_simp
             with_reducible rfl
            rotate_left
            ·simp only [Act.put, zs1, zs2, zs3, i64_w, i32_w]
             rfl
            refine pure_ (i := 2) (N := some 113) (v := ?_) (a' := ?_) #[true, false, true, false, false, false, false, false, false, false, false, false, false, false, false, false, false, false, false, false, false, false] rfl rfl (any_of HT_.out (by kernel_rfl)) (fun _ _ _ h => h) (Or.inl ⟨by rfl, ?_⟩) ?_ ?_
            rotate_left
            ·intro w'
             go_simp
             with_reducible rfl
            rotate_left
            ·simp only [Act.put, zs1, zs2, zs3, i64_w, i32_w]
             rfl
            refine take_ (i := 1) (N := some 112) (v := ?_) (a' := ?_) #[true, true, true, false, false, false, false, false, false, false, false, false, false, false, false, false, false, false, false, false, false, false] rfl rfl (take_ofW HT_.out HW_.out (by kernel_rfl)) (fun _ _ _ h => h) (Or.inl ⟨by rfl, ?_⟩) hHeld ?_ ?_
            rotate_left
            ·rintro w' ⟨s0, s1, s2, s3, s4, s5⟩
             go_simp
             with_reducible rfl
            rotate_left
            ·simp only [Act.put, zs1, zs2, zs3, i64_w, i32_w]
             rfl
            refine pure_ (i := 3) (N := some 114) (v := ?_) (a' := ?_) #[true, true, true, true, false, false, false, false, false, false, false, false, false, false, false, false, false, false, false, false, false, false] rfl rfl (any_of HT_.out (by kernel_rfl)) (fun _ _ _ h => h) (Or.inl ⟨by rfl, ?_⟩) ?_ ?_
            rotate_left
            ·intro w'
             go_simp
             with_reducible rfl
            rotate_left
            ·simp only [Act.put, zs1, zs2, zs3, i64_w, i32_w]
             rfl
            refine pure_ (i := 4) (N := some 115) (v := ?_) (a' := ?_) #[true, true, true, true, true, false, false, false, false, false, false, false, false, false, false, false, false, false, false, false, false, false] rfl rfl (any_of HT_.out (by kernel_rfl)) (fun _ _ _ h => h) (Or.inl ⟨by rfl, ?_⟩) ?_ ?_
            rotate_left
            ·intro w'
             go_simp
             with_reducible rfl
            rotate_left
            ·simp only [Act.put, zs1, zs2, zs3, i64_w, i32_w]
             rfl
            refine pure_ (i := 5) (N := some 116) (v := undef) (a' := ?_) #[true, true, true, true, true, true, false, false, false, false, false, false, false, false, false, false, false, false, false, false, false, false] rfl rfl (any_of HT_.out (by kernel_rfl)) (fun _ _ _ h => h) (Or.inr ⟨by rfl, rfl⟩) ?_ ?_
            rotate_left
            ·simp only [Act.put, zs1, zs2, zs3, i64_w, i32_w]
             rfl
            refine pure_ (i := 6) (N := some 117) (v := undef) (a' := ?_) #[true, true, true, true, true, true, true, false, false, false, false, false, false, false, false, false, false, false, false, false, false, false] rfl rfl (any_of HT_.out (by kernel_rfl)) (fun _ _ _ h => h) (Or.inr ⟨by rfl, rfl⟩) ?_ ?_
            rotate_left
            ·simp only [Act.put, zs1, zs2, zs3, i64_w, i32_w]
             rfl
            refine pure_ (i := 7) (N := some 118) (v := undef) (a' := ?_) #[true, true, true, true, true, true, true, true, false, false, false, false, false, false, false, false, false, false, false, false, false, false] rfl rfl (any_of HT_.out (by kernel_rfl)) (fun _ _ _ h => h) (Or.inr ⟨by rfl, rfl⟩) ?_ ?_
            rotate_left
            ·simp only [Act.put, zs1, zs2, zs3, i64_w, i32_w]
             rfl
            refine pure_ (i := 8) (N := some 119) (v := undef) (a' := ?_) #[true, true, true, true, true, true, true, true, true, false, false, false, false, false, false, false, false, false, false, false, false, false] rfl rfl (any_of HT_.out (by kernel_rfl)) (fun _ _ _ h => h) (Or.inr ⟨by rfl, rfl⟩) ?_ ?_
            rotate_left
            ·simp only [Act.put, zs1, zs2, zs3, i64_w, i32_w]
             rfl
            refine pure_ (i := 9) (N := some 120) (v := undef) (a' := ?_) #[true, true, true, true, true, true, true, true, true, true, false, false, false, false, false, false, false, false, false, false, false, false] rfl rfl (any_of HT_.out (by kernel_rfl)) (fun _ _ _ h => h) (Or.inr ⟨by rfl, rfl⟩) ?_ ?_
            rotate_left
            ·simp only [Act.put, zs1, zs2, zs3, i64_w, i32_w]
             rfl
            refine pure_ (i := 10) (N := some 121) (v := undef) (a' := ?_) #[true, true, true, true, true, true, true, true, true, true, true, false, false, false, false, false, false, false, false, false, false, false] rfl rfl (any_of HT_.out (by kernel_rfl)) (fun _ _ _ h => h) (Or.inr ⟨by rfl, rfl⟩) ?_ ?_
            rotate_left
            ·simp only [Act.put, zs1, zs2, zs3, i64_w, i32_w]
             rfl
            refine pure_ (i := 11) (N := some 122) (v := undef) (a' := ?_) #[true, true, true, true, true, true, true, true, true, true, true, true, false, false, false, false, false, false, false, false, false, false] rfl rfl (any_of HT_.out (by kernel_rfl)) (fun _ _ _ h => h) (Or.inr ⟨by rfl, rfl⟩) ?_ ?_
            rotate_left
            ·simp only [Act.put, zs1, zs2, zs3, i64_w, i32_w]
             rfl
            refine pure_ (i := 12) (N := some 123) (v := ?_) (a' := ?_) #[true, true, true, true, true, true, true, true, true, true, true, true, true, false, false, false, false, false, false, false, false, false] rfl rfl (any_of HT_.out (by kernel_rfl)) (fun _ _ _ h => h) (Or.inl ⟨by rfl, ?_⟩) ?_ ?_
            rotate_left
            ·intro w'
             go_simp
             with_reducible rfl
            rotate_left
            ·simp only [Act.put, zs1, zs2, zs3, i64_w, i32_w]
             rfl
            refine pure_ (i := 13) (N := some 124) (v := ?_) (a' := ?_) #[true, true, true, true, true, true, true, true, true, true, true, true, true, true, false, false, false, false, false, false, false, false] rfl rfl (any_of HT_.out (by kernel_rfl)) (fun _ _ _ h => h) (Or.inl ⟨by rfl, ?_⟩) ?_ ?_
            rotate_left
            ·intro w'
             go_simp
             with_reducible rfl
            rotate_left
            ·simp only [Act.put, zs1, zs2, zs3, i64_w, i32_w]
             rfl
            refine pure_ (i := 14) (N := some 125) (v := undef) (a' := ?_) #[true, true, true, true, true, true, true, true, true, true, true, true, true, true, true, false, false, false, false, false, false, false] rfl rfl (any_of HT_.out (by kernel_rfl)) (fun _ _ _ h => h) (Or.inr ⟨by rfl, rfl⟩) ?_ ?_
            rotate_left
            ·simp only [Act.put, zs1, zs2, zs3, i64_w, i32_w]
             rfl
            refine pure_ (i := 15) (N := some 126) (v := undef) (a' := ?_) #[true, true, true, true, true, true, true, true, true, true, true, true, true, true, true, true, false, false, false, false, false, false] rfl rfl (any_of HT_.out (by kernel_rfl)) (fun _ _ _ h => h) (Or.inr ⟨by rfl, rfl⟩) ?_ ?_
            rotate_left
            ·simp only [Act.put, zs1, zs2, zs3, i64_w, i32_w]
             rfl
            refine pure_ (i := 16) (N := some 127) (v := undef) (a' := ?_) #[true, true, true, true, true, true, true, true, true, true, true, true, true, true, true, true, true, false, false, false, false, false] rfl rfl (any_of HT_.out (by kernel_rfl)) (fun _ _ _ h => h) (Or.inr ⟨by rfl, rfl⟩) ?_ ?_
            rotate_left
            ·simp only [Act.put, zs1, zs2, zs3, i64_w, i32_w]
             rfl
            refine pure_ (i := 17) (N := some 128) (v := undef) (a' := ?_) #[true, true, true, true, true, true, true, true, true, true, true, true, true, true, true, true, true, true, false, false, false, false] rfl rfl (any_of HT_.out (by kernel_rfl)) (fun _ _ _ h => h) (Or.inr ⟨by rfl, rfl⟩) ?_ ?_
            rotate_left
            ·simp only [Act.put, zs1, zs2, zs3, i64_w, i32_w]
             rfl
            refine pure_ (i := 18) (N := some 129) (v := undef) (a' := ?_) #[true, true, true, true, true, true, true, true, true, true, true, true, true, true, true, true, true, true, true, false, false, false] rfl rfl (any_of HT_.out (by kernel_rfl)) (fun _ _ _ h => h) (Or.inr ⟨by rfl, rfl⟩) ?_ ?_
            rotate_left
            ·simp only [Act.put, zs1, zs2, zs3, i64_w, i32_w]
             rfl
            refine pure_ (i := 19) (N := some 130) (v := undef) (a' := ?_) #[true, true, true, true, true, true, true, true, true, true, true, true, true, true, true, true, true, true, true, true, false, false] rfl rfl (any_of HT_.out (by kernel_rfl)) (fun _ _ _ h => h) (Or.inr ⟨by rfl, rfl⟩) ?_ ?_
            rotate_left
            ·simp only [Act.put, zs1, zs2, zs3, i64_w, i32_w]
             rfl
            refine pure_ (i := 20) (N := some 131) (v := ?_) (a' := ?_) #[true, true, true, true, true, true, true, true, true, true, true, true, true, true, true, true, true, true, true, true, true, false] rfl rfl (any_of HT_.out (by kernel_rfl)) (fun _ _ _ h => h) (Or.inl ⟨by rfl, ?_⟩) ?_ ?_
            rotate_left
            ·intro w'
             go_simp
             with_reducible rfl
            rotate_left
            ·simp only [Act.put, zs1, zs2, zs3, i64_w, i32_w]
             rfl
            refine pure_ (i := 21) (N := some 2) (v := ?_) (a' := ?_) #[true, true, true, true, true, true, true, true, true, true, true, true, true, true, true, true, true, true, true, true, true, true] rfl rfl (any_of HT_.out (by kernel_rfl)) (fun _ _ _ h => h) (Or.inl ⟨by rfl, ?_⟩) ?_ ?_
            rotate_left
            ·intro w'
             go_simp
             with_reducible rfl
            rotate_left
            ·simp only [Act.put, zs1, zs2, zs3, i64_w, i32_w]
             rfl
            refine done_ (done_of HT_.out (by kernel_rfl)) ?_
            try go_wp2
            go_ret
            exact ⟨by first | rfl | (simp [errW_none, errW_some] <;> rfl) | (simp only [← hji51]; first | rfl | (simp [errW_none, errW_some] <;> rfl)) | (simp [*, errW_none, errW_some] <;> rfl), zv7 HB.out⟩
         ·rw [if_neg c53] at H
          exact absurd H (by simp)
        ·rw [if_neg c52] at H
         exact absurd H (by simp)

end Go.Proofs.Ytnnahpmnkpmopaa.QFnExactAggDone
