/- Proved: calls of the program come to the answers of the plain Lean functions that stand beside them. Each contract names its conditions. (Written by a program of this session, over the printer of the kit.) -/
import Derived.Test.YtnnahpmnkpmopaaZAggDoneQFnExactAggDonex0
import Derived.Test.YtnnahpmnkpmopaaZAggDoneQFnExactAggDonex2
import Derived.Test.YtnnahpmnkpmopaaZAggDoneQFnExactAggDonex7
import Derived.Test.YtnnahpmnkpmopaaZAggDoneQFnExactAggDonex12
namespace Go.Proofs.Ytnnahpmnkpmopaa.QFnExactAggDone
open Go.RowKit Go.Proofs.YtnnahpmnkpmopaaW.PrintWords Go.Proofs.YtnnahpmnkpmopaaW.PrintLast Go.Proofs.YtnnahpmnkpmopaaW.PrintMore
attribute [local go_sem] max2_int min2_int max_two min_two max_three min_three max_four min_four   -- for this text's walks alone
set_option linter.unusedVariables false
set_option linter.unusedSimpArgs false

/-! ### laws_FnExactAggDone: function 4 -/
mutual
def laws_FnExactAggDone.j0 : Nat → Int → Int → List Int → Bool → List Int → Bool → Bool → Int → Int → Int → Int → Int → List Int → Int → Int → Int → Int → Int → List Int → Option (Bool)
 | 0, _, _, _, _, _, _, _, _, _, _, _, _, _, _, _, _, _, _, _ => none
 | k + 1, x0, x1, x8, x9, x11, x12, x48, x407000, x407001, x407002, x407003, x407004, x407005, x429000, x429001, x429002, x429003, x429004, x429005 => if x48 = true then (some false) else ((laws_toAgg.f k x407000 x407001 x407002 x407003 x407004 x407005).bind fun bt434 => ((laws_eqAgg.f k x429000 x429001 x429002 x429003 x429004 x429005 bt434.1 bt434.2.1 bt434.2.2.1 bt434.2.2.2.1 bt434.2.2.2.2.1 bt434.2.2.2.2.2).bind fun t442 => (if t442 = true then ((laws_markAgg.f k x429000 x429001 x429002 x429003 x429004 x429005 1).bind fun bt443 => (if bt443.1 < 0 then (laws_FnExactAggDone.j1 k x0 x1 x8 x9 x11 true x407000 x407001 x407002 x407003 x407004 x407005) else ((laws_eqIntS.f k x11 x8).bind fun t445 => (if t445 = true then (laws_FnExactAggDone.j1 k x0 x1 x8 x9 x11 (x12 != x9) x407000 x407001 x407002 x407003 x407004 x407005) else (laws_FnExactAggDone.j1 k x0 x1 x8 x9 x11 true x407000 x407001 x407002 x407003 x407004 x407005))))) else (some false))))
def laws_FnExactAggDone.j1 : Nat → Int → Int → List Int → Bool → List Int → Bool → Int → Int → Int → Int → Int → List Int → Option (Bool)
 | 0, _, _, _, _, _, _, _, _, _, _, _, _ => none
 | k + 1, x0, x1, x8, x9, x11, x69, x407000, x407001, x407002, x407003, x407004, x407005 => if x69 = true then (some false) else ((laws_markIntS.f k x11 1).bind fun bt446 => ((laws_heldIntS.f k bt446.2 1).bind fun t448 => (if t448 < 0 then (some false) else (if t448 = bt446.1 then ((laws_toAgg.f k x407000 x407001 x407002 x407003 x407004 x407005).bind fun bt449 => ((impl_AggDone.f k x0 x1 bt449.1 bt449.2.1 bt449.2.2.1 bt449.2.2.2.1 bt449.2.2.2.2.1 bt449.2.2.2.2.2).bind fun bt457 => ((laws_eqIntS.f k bt457.1 x8).bind fun t461 => (if t461 = true then (laws_FnExactAggDone.j2 k bt446.2 bt446.1 (bt457.2 != x9)) else (laws_FnExactAggDone.j2 k bt446.2 bt446.1 true))))) else (some false)))))
def laws_FnExactAggDone.j2 : Nat → List Int → Int → Bool → Option (Bool)
 | 0, _, _, _ => none
 | k + 1, x11, x14, x97 => if x97 = true then (some false) else ((laws_heldIntS.f k x11 1).bind fun t462 => (if t462 < 0 then (some false) else (if t462 = x14 then (some true) else (some false))))
end
def laws_FnExactAggDone.f (k : Nat) (a0 : Int) (a1 : Int) (a2_0 : Int) (a2_1 : Int) (a2_2 : Int) (a2_3 : Int) (a2_4 : Int) (l2_5 : List Int) : Option (Bool) := (laws_szAgg.f a2_0 a2_1 a2_2 a2_3 a2_4 l2_5 1048576).bind fun t407 => (if t407 < 0 then (some true) else ((laws_toAgg.f k a2_0 a2_1 a2_2 a2_3 a2_4 l2_5).bind fun bt408 => ((spec_AggDone.f k a0 a1 bt408.1 bt408.2.1 bt408.2.2.1 bt408.2.2.2.1 bt408.2.2.2.2.1 bt408.2.2.2.2.2).bind fun bt416 => ((laws_toAgg.f k a2_0 a2_1 a2_2 a2_3 a2_4 l2_5).bind fun bt420 => ((impl_AggDone.f k a0 a1 bt420.1 bt420.2.1 bt420.2.2.1 bt420.2.2.2.1 bt420.2.2.2.2.1 bt420.2.2.2.2.2).bind fun bt429 => ((laws_eqIntS.f k bt429.1 bt416.1).bind fun t433 => (if t433 = true then (laws_FnExactAggDone.j0 k a0 a1 bt416.1 bt416.2 bt429.1 bt429.2 (bt429.2 != bt416.2) a2_0 a2_1 a2_2 a2_3 a2_4 l2_5 bt420.1 bt420.2.1 bt420.2.2.1 bt420.2.2.2.1 bt420.2.2.2.2.1 bt420.2.2.2.2.2) else (laws_FnExactAggDone.j0 k a0 a1 bt416.1 bt416.2 bt429.1 bt429.2 true a2_0 a2_1 a2_2 a2_3 a2_4 l2_5 bt420.1 bt420.2.1 bt420.2.2.1 bt420.2.2.2.1 bt420.2.2.2.2.1 bt420.2.2.2.2.2))))))))
set_option maxHeartbeats 8000000 in
set_option maxRecDepth 100000 in
theorem laws_FnExactAggDone.calls (k : Nat) (a0 : Int) (a1 : Int) (a2_0 : Int) (a2_1 : Int) (a2_2 : Int) (a2_3 : Int) (a2_4 : Int) (A2_5 : Option Addr) (c2_5 : Nat) (l2_5 : List Int) (r : Bool) (w : World) (hr2_5 : Kd.C (Kd.int .i64) w A2_5 l2_5.length l2_5) (hc2_5 : l2_5.length ≤ c2_5) (hr_ : r = true) (h : laws_FnExactAggDone.f k a0 a1 a2_0 a2_1 a2_2 a2_3 a2_4 l2_5 = some r) :
  Calls Try.prog 4 #[.int .i64 a0, .int .i64 a1, .agg #[.int .i64 a2_0, .int .i64 a2_1, .int .u64 a2_2, .int .i64 a2_3, .int .i64 a2_4, .slice A2_5 l2_5.length c2_5]] w fun e w' => e = .returned (.bool r) ∧ Below w.heap.size w w' := by
 have hu27 := Try.underlying27
 have hu32 := Try.underlying32
 have HR2_5 := zp.mk hr2_5
 have HC2_5 := zp.mk hc2_5
 clear hr2_5 hc2_5
 have HB := zp.mk (Below.refl w.heap.size w)
 have H : ((laws_szAgg.f a2_0 a2_1 a2_2 a2_3 a2_4 l2_5 1048576).bind fun t407 => (if t407 < 0 then (some true) else ((laws_toAgg.f k a2_0 a2_1 a2_2 a2_3 a2_4 l2_5).bind fun bt408 => ((spec_AggDone.f k a0 a1 bt408.1 bt408.2.1 bt408.2.2.1 bt408.2.2.2.1 bt408.2.2.2.2.1 bt408.2.2.2.2.2).bind fun bt416 => ((laws_toAgg.f k a2_0 a2_1 a2_2 a2_3 a2_4 l2_5).bind fun bt420 => ((impl_AggDone.f k a0 a1 bt420.1 bt420.2.1 bt420.2.2.1 bt420.2.2.2.1 bt420.2.2.2.2.1 bt420.2.2.2.2.2).bind fun bt429 => ((laws_eqIntS.f k bt429.1 bt416.1).bind fun t433 => (if t433 = true then (laws_FnExactAggDone.j0 k a0 a1 bt416.1 bt416.2 bt429.1 bt429.2 (bt429.2 != bt416.2) a2_0 a2_1 a2_2 a2_3 a2_4 l2_5 bt420.1 bt420.2.1 bt420.2.2.1 bt420.2.2.2.1 bt420.2.2.2.2.1 bt420.2.2.2.2.2) else (laws_FnExactAggDone.j0 k a0 a1 bt416.1 bt416.2 bt429.1 bt429.2 true a2_0 a2_1 a2_2 a2_3 a2_4 l2_5 bt420.1 bt420.2.1 bt420.2.2.1 bt420.2.2.2.1 bt420.2.2.2.2.1 bt420.2.2.2.2.2))))))))) = some r := h
 clear h
 replace H := zs4 H
 obtain ⟨t407, A40, H⟩ := H
 replace H : (if t407 < 0 then (some true) else ((laws_toAgg.f k a2_0 a2_1 a2_2 a2_3 a2_4 l2_5).bind fun bt408 => ((spec_AggDone.f k a0 a1 bt408.1 bt408.2.1 bt408.2.2.1 bt408.2.2.2.1 bt408.2.2.2.2.1 bt408.2.2.2.2.2).bind fun bt416 => ((laws_toAgg.f k a2_0 a2_1 a2_2 a2_3 a2_4 l2_5).bind fun bt420 => ((impl_AggDone.f k a0 a1 bt420.1 bt420.2.1 bt420.2.2.1 bt420.2.2.2.1 bt420.2.2.2.2.1 bt420.2.2.2.2.2).bind fun bt429 => ((laws_eqIntS.f k bt429.1 bt416.1).bind fun t433 => (if t433 = true then (laws_FnExactAggDone.j0 k a0 a1 bt416.1 bt416.2 bt429.1 bt429.2 (bt429.2 != bt416.2) a2_0 a2_1 a2_2 a2_3 a2_4 l2_5 bt420.1 bt420.2.1 bt420.2.2.1 bt420.2.2.2.1 bt420.2.2.2.2.1 bt420.2.2.2.2.2) else (laws_FnExactAggDone.j0 k a0 a1 bt416.1 bt416.2 bt429.1 bt429.2 true a2_0 a2_1 a2_2 a2_3 a2_4 l2_5 bt420.1 bt420.2.1 bt420.2.2.1 bt420.2.2.2.1 bt420.2.2.2.2.1 bt420.2.2.2.2.2)))))))) = some r := H
 have A4 := zp.mk A40
 clear A40
 by_cases c5 : t407 < 0
 ·rw [if_pos c5] at H
  have c5b0 : decide (t407 < 0) = true := decide_eq_true c5
  clear c5
  obtain rfl := Option.some.inj H
  go_enter Try.func4, Try.ntmps4
  go_wp2_with (first | ((with_reducible refine zo (N := 5) rfl ?_); refine zm ?hg (N := 5) ?hd (cs := #[.int .i64 a2_0, .int .i64 a2_1, .int .u64 a2_2, .int .i64 a2_3, .int .i64 a2_4, .slice A2_5 l2_5.length c2_5]) (t := 27) ?hr ?_; (case hd => rfl); (case hg => rfl); (case hr => first | (go_simp; done) | (go_simp; rfl)); intro gb406 hg w6 hbox hb; have BK406 := zp.mk (hbox); have GW406 := zp.mk ((zv3 (zv6 HB.out) hg)); have GE406 := zp.mk ((zv3 (zv6 HB.out) hg)); replace HB := zp.mk (zj (zv6 HB.out) hb); clear hb hbox hg; have y7_0 := zt0 BK406.out; have y7_1 := zt1 BK406.out; have y7_2 := zt2 BK406.out; have y7_3 := zt3 BK406.out; have y7_4 := zt4 BK406.out; have y7_5 := zt5 BK406.out; have u7_0 := zd BK406.out 0; have u7_1 := zd BK406.out 1; have u7_2 := zd BK406.out 2; have u7_3 := zd BK406.out 3; have u7_4 := zd BK406.out 4; have u7_5 := zd BK406.out 5) | ((with_reducible refine zn (f := 8) rfl ?_); refine goesL_ (some 20) rfl rfl Try.func8 (by kernel_rfl) rfl #[.agg #[.int .i64 a2_0, .int .i64 a2_1, .int .u64 a2_2, .int .i64 a2_3, .int .i64 a2_4, .slice A2_5 l2_5.length c2_5], .int .i64 1048576] rfl (by (try simp only [List.map_toArray, List.map_cons, List.map_nil]); first | done | rfl | (simp only [List.length_drop, List.length_take]; rfl)) ?_; (with_reducible refine (laws_szAgg.calls a2_0 a2_1 a2_2 a2_3 a2_4 _ _ l2_5 1048576 t407 _ ?side1 ?side2 A4.out).mono ?_); (case side1 => repeat (first | exact (Kd.zs HR2_5.out HB.out) | (with_reducible refine Kd.zr ?_ _) | (with_reducible refine Kd.zq ?_ _) | (with_reducible refine Kd.C_drew ?_))); (case side2 => exact HC2_5.out); rintro e w8 ⟨rfl, hb⟩; refine ⟨_, rfl, ?_⟩; replace BK406 := zp.mk (zl (zv8 BK406.out) hb); replace HB := zp.mk (zj (zv7 HB.out) hb); (try clear hb); (try clear hb2); (try clear hk); (try clear hi)))
  go_ret
  exact ⟨by first | rfl | (simp [errW_none, errW_some] <;> rfl) | (simp [*, errW_none, errW_some] <;> rfl), zv7 HB.out⟩
 ·rw [if_neg c5] at H
  have c5b0 : decide (t407 < 0) = false := decide_eq_false c5
  clear c5
  replace H := zs4 H
  obtain ⟨⟨t408, t409, t410, t411, t412, t413⟩, A90, H⟩ := H
  replace H : ((spec_AggDone.f k a0 a1 t408 t409 t410 t411 t412 t413).bind fun bt416 => ((laws_toAgg.f k a2_0 a2_1 a2_2 a2_3 a2_4 l2_5).bind fun bt420 => ((impl_AggDone.f k a0 a1 bt420.1 bt420.2.1 bt420.2.2.1 bt420.2.2.2.1 bt420.2.2.2.2.1 bt420.2.2.2.2.2).bind fun bt429 => ((laws_eqIntS.f k bt429.1 bt416.1).bind fun t433 => (if t433 = true then (laws_FnExactAggDone.j0 k a0 a1 bt416.1 bt416.2 bt429.1 bt429.2 (bt429.2 != bt416.2) a2_0 a2_1 a2_2 a2_3 a2_4 l2_5 bt420.1 bt420.2.1 bt420.2.2.1 bt420.2.2.2.1 bt420.2.2.2.2.1 bt420.2.2.2.2.2) else (laws_FnExactAggDone.j0 k a0 a1 bt416.1 bt416.2 bt429.1 bt429.2 true a2_0 a2_1 a2_2 a2_3 a2_4 l2_5 bt420.1 bt420.2.1 bt420.2.2.1 bt420.2.2.2.1 bt420.2.2.2.2.1 bt420.2.2.2.2.2)))))) = some r := H
  have A9 := zp.mk A90
  clear A90
  replace H := zs4 H
  obtain ⟨⟨t416, t419⟩, A100, H⟩ := H
  replace H : ((laws_toAgg.f k a2_0 a2_1 a2_2 a2_3 a2_4 l2_5).bind fun bt420 => ((impl_AggDone.f k a0 a1 bt420.1 bt420.2.1 bt420.2.2.1 bt420.2.2.2.1 bt420.2.2.2.2.1 bt420.2.2.2.2.2).bind fun bt429 => ((laws_eqIntS.f k bt429.1 t416).bind fun t433 => (if t433 = true then (laws_FnExactAggDone.j0 k a0 a1 t416 t419 bt429.1 bt429.2 (bt429.2 != t419) a2_0 a2_1 a2_2 a2_3 a2_4 l2_5 bt420.1 bt420.2.1 bt420.2.2.1 bt420.2.2.2.1 bt420.2.2.2.2.1 bt420.2.2.2.2.2) else (laws_FnExactAggDone.j0 k a0 a1 t416 t419 bt429.1 bt429.2 true a2_0 a2_1 a2_2 a2_3 a2_4 l2_5 bt420.1 bt420.2.1 bt420.2.2.1 bt420.2.2.2.1 bt420.2.2.2.2.1 bt420.2.2.2.2.2))))) = some r := H
  have A10 := zp.mk A100
  clear A100
  replace H := zs4 H
  obtain ⟨⟨t420, t421, t422, t423, t424, t425⟩, A110, H⟩ := H
  replace H : ((impl_AggDone.f k a0 a1 t420 t421 t422 t423 t424 t425).bind fun bt429 => ((laws_eqIntS.f k bt429.1 t416).bind fun t433 => (if t433 = true then (laws_FnExactAggDone.j0 k a0 a1 t416 t419 bt429.1 bt429.2 (bt429.2 != t419) a2_0 a2_1 a2_2 a2_3 a2_4 l2_5 t420 t421 t422 t423 t424 t425) else (laws_FnExactAggDone.j0 k a0 a1 t416 t419 bt429.1 bt429.2 true a2_0 a2_1 a2_2 a2_3 a2_4 l2_5 t420 t421 t422 t423 t424 t425)))) = some r := H
  have A11 := zp.mk A110
  clear A110
  replace H := zs4 H
  obtain ⟨⟨t429, t432⟩, A120, H⟩ := H
  replace H : ((laws_eqIntS.f k t429 t416).bind fun t433 => (if t433 = true then (laws_FnExactAggDone.j0 k a0 a1 t416 t419 t429 t432 (t432 != t419) a2_0 a2_1 a2_2 a2_3 a2_4 l2_5 t420 t421 t422 t423 t424 t425) else (laws_FnExactAggDone.j0 k a0 a1 t416 t419 t429 t432 true a2_0 a2_1 a2_2 a2_3 a2_4 l2_5 t420 t421 t422 t423 t424 t425))) = some r := H
  have A12 := zp.mk A120
  clear A120
  have HC13 := zp.mk H
  clear H
  go_enter Try.func4, Try.ntmps4
  go_upto_region 8 with (first | ((with_reducible refine zo (N := 5) rfl ?_); refine zm ?hg (N := 5) ?hd (cs := #[.int .i64 a2_0, .int .i64 a2_1, .int .u64 a2_2, .int .i64 a2_3, .int .i64 a2_4, .slice A2_5 l2_5.length c2_5]) (t := 27) ?hr ?_; (case hd => rfl); (case hg => rfl); (case hr => first | (go_simp; done) | (go_simp; rfl)); intro gb406 hg w14 hbox hb; have BK406 := zp.mk (hbox); have GW406 := zp.mk ((zv3 (zv6 HB.out) hg)); have GE406 := zp.mk ((zv3 (zv6 HB.out) hg)); replace HB := zp.mk (zj (zv6 HB.out) hb); clear hb hbox hg; have y15_0 := zt0 BK406.out; have y15_1 := zt1 BK406.out; have y15_2 := zt2 BK406.out; have y15_3 := zt3 BK406.out; have y15_4 := zt4 BK406.out; have y15_5 := zt5 BK406.out; have u15_0 := zd BK406.out 0; have u15_1 := zd BK406.out 1; have u15_2 := zd BK406.out 2; have u15_3 := zd BK406.out 3; have u15_4 := zd BK406.out 4; have u15_5 := zd BK406.out 5) | ((with_reducible refine zn (f := 8) rfl ?_); refine goesL_ (some 20) rfl rfl Try.func8 (by kernel_rfl) rfl #[.agg #[.int .i64 a2_0, .int .i64 a2_1, .int .u64 a2_2, .int .i64 a2_3, .int .i64 a2_4, .slice A2_5 l2_5.length c2_5], .int .i64 1048576] rfl (by (try simp only [List.map_toArray, List.map_cons, List.map_nil]); first | done | rfl | (simp only [List.length_drop, List.length_take]; rfl)) ?_; (with_reducible refine (laws_szAgg.calls a2_0 a2_1 a2_2 a2_3 a2_4 _ _ l2_5 1048576 t407 _ ?side1 ?side2 A4.out).mono ?_); (case side1 => repeat (first | exact (Kd.zs HR2_5.out HB.out) | (with_reducible refine Kd.zr ?_ _) | (with_reducible refine Kd.zq ?_ _) | (with_reducible refine Kd.C_drew ?_))); (case side2 => exact HC2_5.out); rintro e w16 ⟨rfl, hb⟩; refine ⟨_, rfl, ?_⟩; replace BK406 := zp.mk (zl (zv8 BK406.out) hb); replace HB := zp.mk (zj (zv7 HB.out) hb); (try clear hb); (try clear hb2); (try clear hk); (try clear hi); have y17_0 := zt0 BK406.out; have y17_1 := zt1 BK406.out; have y17_2 := zt2 BK406.out; have y17_3 := zt3 BK406.out; have y17_4 := zt4 BK406.out; have y17_5 := zt5 BK406.out; have u17_0 := zd BK406.out 0; have u17_1 := zd BK406.out 1; have u17_2 := zd BK406.out 2; have u17_3 := zd BK406.out 3; have u17_4 := zd BK406.out 4; have u17_5 := zd BK406.out 5) | ((with_reducible refine zn (f := 10) rfl ?_); refine goesL_ (some 27) rfl rfl Try.func10 (by kernel_rfl) rfl #[.agg #[.int .i64 a2_0, .int .i64 a2_1, .int .u64 a2_2, .int .i64 a2_3, .int .i64 a2_4, .slice A2_5 l2_5.length c2_5]] rfl (by (try simp only [List.map_toArray, List.map_cons, List.map_nil]); first | done | rfl | (simp only [List.length_drop, List.length_take]; rfl)) ?_; (with_reducible refine (laws_toAgg.calls k a2_0 a2_1 a2_2 a2_3 a2_4 _ _ l2_5 t408 t409 t410 t411 t412 t413 _ ?side1 ?side2 A9.out).mono ?_); (case side1 => repeat (first | exact (Kd.zs HR2_5.out HB.out) | (with_reducible refine Kd.zr ?_ _) | (with_reducible refine Kd.zq ?_ _) | (with_reducible refine Kd.C_drew ?_))); (case side2 => exact HC2_5.out); rintro e w18 ⟨v414, rfl, ho0, hb⟩; refine ⟨_, rfl, ?_⟩; have HO415 := zp.mk (Kd.R_lower ho0 (zk (zv7 HB.out))); replace BK406 := zp.mk (zl (zv8 BK406.out) hb); replace HB := zp.mk (zj (zv7 HB.out) hb); (try clear hb); (try clear hb2); (try clear hk); (try clear hi); (try clear ho0); obtain ⟨Ao19, co19, eo19⟩ := Kd.R_slice HO415.out; subst eo19) | ((with_reducible refine zn (f := 13) rfl ?_); refine goesL_ (some 28) rfl rfl Try.func13 (by kernel_rfl) rfl #[.int .i64 a0, .int .i64 a1, .agg #[.int .i64 t408, .int .i64 t409, .int .u64 t410, .int .i64 t411, .int .i64 t412, .slice Ao19 t413.length co19]] rfl (by (try simp only [List.map_toArray, List.map_cons, List.map_nil]); first | done | rfl | (simp only [List.length_drop, List.length_take]; rfl)) ?_; (with_reducible refine (spec_AggDone.calls k a0 a1 t408 t409 t410 t411 t412 _ _ t413 t416 t419 _ ?side1 ?side2 A10.out).mono ?_); (case side1 => repeat (first | exact (Kd.R_reads' HO415.out).2.2 | (with_reducible refine Kd.zr ?_ _) | (with_reducible refine Kd.zq ?_ _) | (with_reducible refine Kd.C_drew ?_))); (case side2 => exact (Kd.R_reads' HO415.out).2.1); rintro e w20 ⟨v417, rfl, ho0, hb⟩; refine ⟨_, rfl, ?_⟩; have HO418 := zp.mk (Kd.R_lower (Kd.R_new' ho0 (Kd.R_lt (by (with_reducible repeat (first | apply Kd.R_alloc | apply Kd.R_drewN | apply Kd.R_drew)); exact HO415.out))) (zk (zv7 HB.out))); replace HO415 := zp.mk (Kd.R_elder' (by (with_reducible repeat (first | apply Kd.R_alloc | apply Kd.R_drewN | apply Kd.R_drew)); exact HO415.out) (Kd.R_base ho0) hb); replace BK406 := zp.mk (zl (zv8 BK406.out) hb); replace HB := zp.mk (zj (zv7 HB.out) hb); (try clear hb); (try clear hb2); (try clear hk); (try clear hi); (try clear ho0); have y21_0 := zt0 BK406.out; have y21_1 := zt1 BK406.out; have y21_2 := zt2 BK406.out; have y21_3 := zt3 BK406.out; have y21_4 := zt4 BK406.out; have y21_5 := zt5 BK406.out; have u21_0 := zd BK406.out 0; have u21_1 := zd BK406.out 1; have u21_2 := zd BK406.out 2; have u21_3 := zd BK406.out 3; have u21_4 := zd BK406.out 4; have u21_5 := zd BK406.out 5) | ((with_reducible refine zn (f := 10) rfl ?_); refine goesL_ (some 32) rfl rfl Try.func10 (by kernel_rfl) rfl #[.agg #[.int .i64 a2_0, .int .i64 a2_1, .int .u64 a2_2, .int .i64 a2_3, .int .i64 a2_4, .slice A2_5 l2_5.length c2_5]] rfl (by (try simp only [List.map_toArray, List.map_cons, List.map_nil]); first | done | rfl | (simp only [List.length_drop, List.length_take]; rfl)) ?_; (with_reducible refine (laws_toAgg.calls k a2_0 a2_1 a2_2 a2_3 a2_4 _ _ l2_5 t420 t421 t422 t423 t424 t425 _ ?side1 ?side2 A11.out).mono ?_); (case side1 => repeat (first | exact (Kd.zs HR2_5.out HB.out) | (with_reducible refine Kd.zr ?_ _) | (with_reducible refine Kd.zq ?_ _) | (with_reducible refine Kd.C_drew ?_))); (case side2 => exact HC2_5.out); rintro e w22 ⟨v426, rfl, ho0, hb⟩; refine ⟨_, rfl, ?_⟩; have HO427 := zp.mk (Kd.R_lower (Kd.R_new' (Kd.R_new' ho0 (Kd.R_lt (by (with_reducible repeat (first | apply Kd.R_alloc | apply Kd.R_drewN | apply Kd.R_drew)); exact HO415.out))) (Kd.R_lt (by (with_reducible repeat (first | apply Kd.R_alloc | apply Kd.R_drewN | apply Kd.R_drew)); exact HO418.out))) (zk (zv7 HB.out))); replace HO415 := zp.mk (Kd.R_elder' (by (with_reducible repeat (first | apply Kd.R_alloc | apply Kd.R_drewN | apply Kd.R_drew)); exact HO415.out) (Kd.R_base ho0) hb); replace HO418 := zp.mk (Kd.R_elder' (by (with_reducible repeat (first | apply Kd.R_alloc | apply Kd.R_drewN | apply Kd.R_drew)); exact HO418.out) (Kd.R_base ho0) hb); replace BK406 := zp.mk (zl (zv8 BK406.out) hb); replace HB := zp.mk (zj (zv7 HB.out) hb); (try clear hb); (try clear hb2); (try clear hk); (try clear hi); (try clear ho0)) | ((with_reducible refine zo (N := 10) rfl ?_); refine zm ?hg (N := 10) ?hd (cs := #[.int .i64 0, .int .i64 0, .int .u64 0, .int .i64 0, .int .i64 0, .slice none 0 0]) (t := 32) ?hr ?_; (case hd => rfl); (case hg => rfl); (case hr => first | (go_simp; done) | (go_simp; rfl)); intro gb428 hg w23 hbox hb; have BK428 := zp.mk (hbox); have GW428 := zp.mk ((zv3 (zv7 HB.out) hg)); have GE428 := zp.mk ((zv3 (zv7 HB.out) hg)); have NB406_428 := zp.mk ((by rw [hg]; exact Nat.ne_of_lt (blk_lt (g := gb406) (o := .cells #[.int .i64 a2_0, .int .i64 a2_1, .int .u64 a2_2, .int .i64 a2_3, .int .i64 a2_4, .slice A2_5 l2_5.length c2_5] 27 (0, 0)) (zv8 BK406.out)) : gb406 ≠ gb428)); have NB428_406 := zp.mk ((by rw [hg]; exact Nat.ne_of_gt (blk_lt (g := gb406) (o := .cells #[.int .i64 a2_0, .int .i64 a2_1, .int .u64 a2_2, .int .i64 a2_3, .int .i64 a2_4, .slice A2_5 l2_5.length c2_5] 27 (0, 0)) (zv8 BK406.out)) : gb428 ≠ gb406)); replace HO415 := zp.mk (Kd.R_below (by (with_reducible repeat (first | apply Kd.R_alloc | apply Kd.R_drewN | apply Kd.R_drew)); exact HO415.out) hb); replace HO418 := zp.mk (Kd.R_below (by (with_reducible repeat (first | apply Kd.R_alloc | apply Kd.R_drewN | apply Kd.R_drew)); exact HO418.out) hb); replace HO427 := zp.mk (Kd.R_below (by (with_reducible repeat (first | apply Kd.R_alloc | apply Kd.R_drewN | apply Kd.R_drew)); exact HO427.out) hb); replace BK406 := zp.mk (zl (zv8 BK406.out) hb); replace HB := zp.mk (zj (zv7 HB.out) hb); clear hb hbox hg; have hnb24 := NB428_406.out; have hnc24 := NB406_428.out; have y25_0 := zt0 BK428.out; have y25_1 := zt1 BK428.out; have y25_2 := zt2 BK428.out; have y25_3 := zt3 BK428.out; have y25_4 := zt4 BK428.out; have y25_5 := zt5 BK428.out; have u25_0 := zd BK428.out 0; have u25_1 := zd BK428.out 1; have u25_2 := zd BK428.out 2; have u25_3 := zd BK428.out 3; have u25_4 := zd BK428.out 4; have u25_5 := zd BK428.out 5; obtain ⟨Ao26, co26, eo26⟩ := Kd.R_slice HO427.out; subst eo26) | ((with_reducible refine zn (f := 14) rfl ?_); refine goesL_ (some 37) rfl rfl Try.func14 (by kernel_rfl) rfl #[.int .i64 a0, .int .i64 a1, .agg #[.int .i64 t420, .int .i64 t421, .int .u64 t422, .int .i64 t423, .int .i64 t424, .slice Ao26 t425.length co26]] rfl (by (try simp only [List.map_toArray, List.map_cons, List.map_nil]); first | done | rfl | (simp only [List.length_drop, List.length_take]; rfl)) ?_; (with_reducible refine (impl_AggDone.calls k a0 a1 t420 t421 t422 t423 t424 _ _ t425 t429 t432 _ ?side1 ?side2 A12.out).mono ?_); (case side1 => refine (Kd.R_reads' (e := 3) (base := w.heap.size) (ok := fun k_ => ((True ∧ some k_ ≠ (.slice Ao19 t413.length co19 : Value).ownBlock) ∧ some k_ ≠ (v417 : Value).ownBlock)) (n := t425.length) (c := co26) ?_).2.2; exact (by (with_reducible repeat (first | apply Kd.R_alloc | apply Kd.R_drewN | apply Kd.R_drew)); exact (Kd.R_mono (Kd.R_far (p := ⟨gb428, 5, none⟩) (Kd.R_far (p := ⟨gb428, 4, none⟩) (Kd.R_far (p := ⟨gb428, 3, none⟩) (Kd.R_far (p := ⟨gb428, 2, none⟩) (Kd.R_far (p := ⟨gb428, 1, none⟩) (Kd.R_far (p := ⟨gb428, 0, none⟩) (Kd.R_types HO427.out BK428.out (by decide)) (fun _ hk => hk.2) (.int .i64 t420)) (fun _ hk => hk.2) (.int .i64 t421)) (fun _ hk => hk.2) (.int .u64 t422)) (fun _ hk => hk.2) (.int .i64 t423)) (fun _ hk => hk.2) (.int .i64 t424)) (fun _ hk => hk.2) (.slice Ao26 t425.length co26)) (fun _ h_ => h_.1)))); (case side2 => exact (Kd.R_reads' HO427.out).2.1); rintro e w27 ⟨v430, rfl, ho0, hb⟩; refine ⟨_, rfl, ?_⟩; have HO431 := zp.mk (Kd.R_lower (Kd.R_new' (Kd.R_new' (Kd.R_new' ho0 (Kd.R_lt (by (with_reducible repeat (first | apply Kd.R_alloc | apply Kd.R_drewN | apply Kd.R_drew)); exact (Kd.R_mono (Kd.R_far (p := ⟨gb428, 5, none⟩) (Kd.R_far (p := ⟨gb428, 4, none⟩) (Kd.R_far (p := ⟨gb428, 3, none⟩) (Kd.R_far (p := ⟨gb428, 2, none⟩) (Kd.R_far (p := ⟨gb428, 1, none⟩) (Kd.R_far (p := ⟨gb428, 0, none⟩) (Kd.R_types HO415.out BK428.out (by decide)) (fun _ hk => hk.2) (.int .i64 t420)) (fun _ hk => hk.2) (.int .i64 t421)) (fun _ hk => hk.2) (.int .u64 t422)) (fun _ hk => hk.2) (.int .i64 t423)) (fun _ hk => hk.2) (.int .i64 t424)) (fun _ hk => hk.2) (.slice Ao26 t425.length co26)) (fun _ h_ => h_.1))))) (Kd.R_lt (by (with_reducible repeat (first | apply Kd.R_alloc | apply Kd.R_drewN | apply Kd.R_drew)); exact (Kd.R_mono (Kd.R_far (p := ⟨gb428, 5, none⟩) (Kd.R_far (p := ⟨gb428, 4, none⟩) (Kd.R_far (p := ⟨gb428, 3, none⟩) (Kd.R_far (p := ⟨gb428, 2, none⟩) (Kd.R_far (p := ⟨gb428, 1, none⟩) (Kd.R_far (p := ⟨gb428, 0, none⟩) (Kd.R_types HO418.out BK428.out (by decide)) (fun _ hk => hk.2) (.int .i64 t420)) (fun _ hk => hk.2) (.int .i64 t421)) (fun _ hk => hk.2) (.int .u64 t422)) (fun _ hk => hk.2) (.int .i64 t423)) (fun _ hk => hk.2) (.int .i64 t424)) (fun _ hk => hk.2) (.slice Ao26 t425.length co26)) (fun _ h_ => h_.1))))) (Kd.R_lt (by (with_reducible repeat (first | apply Kd.R_alloc | apply Kd.R_drewN | apply Kd.R_drew)); exact (Kd.R_mono (Kd.R_far (p := ⟨gb428, 5, none⟩) (Kd.R_far (p := ⟨gb428, 4, none⟩) (Kd.R_far (p := ⟨gb428, 3, none⟩) (Kd.R_far (p := ⟨gb428, 2, none⟩) (Kd.R_far (p := ⟨gb428, 1, none⟩) (Kd.R_far (p := ⟨gb428, 0, none⟩) (Kd.R_types HO427.out BK428.out (by decide)) (fun _ hk => hk.2) (.int .i64 t420)) (fun _ hk => hk.2) (.int .i64 t421)) (fun _ hk => hk.2) (.int .u64 t422)) (fun _ hk => hk.2) (.int .i64 t423)) (fun _ hk => hk.2) (.int .i64 t424)) (fun _ hk => hk.2) (.slice Ao26 t425.length co26)) (fun _ h_ => h_.1))))) (zk (zv7 HB.out))); replace HO415 := zp.mk (Kd.R_elder' (by (with_reducible repeat (first | apply Kd.R_alloc | apply Kd.R_drewN | apply Kd.R_drew)); exact (Kd.R_mono (Kd.R_far (p := ⟨gb428, 5, none⟩) (Kd.R_far (p := ⟨gb428, 4, none⟩) (Kd.R_far (p := ⟨gb428, 3, none⟩) (Kd.R_far (p := ⟨gb428, 2, none⟩) (Kd.R_far (p := ⟨gb428, 1, none⟩) (Kd.R_far (p := ⟨gb428, 0, none⟩) (Kd.R_types HO415.out BK428.out (by decide)) (fun _ hk => hk.2) (.int .i64 t420)) (fun _ hk => hk.2) (.int .i64 t421)) (fun _ hk => hk.2) (.int .u64 t422)) (fun _ hk => hk.2) (.int .i64 t423)) (fun _ hk => hk.2) (.int .i64 t424)) (fun _ hk => hk.2) (.slice Ao26 t425.length co26)) (fun _ h_ => h_.1))) (Kd.R_base ho0) hb); replace HO418 := zp.mk (Kd.R_elder' (by (with_reducible repeat (first | apply Kd.R_alloc | apply Kd.R_drewN | apply Kd.R_drew)); exact (Kd.R_mono (Kd.R_far (p := ⟨gb428, 5, none⟩) (Kd.R_far (p := ⟨gb428, 4, none⟩) (Kd.R_far (p := ⟨gb428, 3, none⟩) (Kd.R_far (p := ⟨gb428, 2, none⟩) (Kd.R_far (p := ⟨gb428, 1, none⟩) (Kd.R_far (p := ⟨gb428, 0, none⟩) (Kd.R_types HO418.out BK428.out (by decide)) (fun _ hk => hk.2) (.int .i64 t420)) (fun _ hk => hk.2) (.int .i64 t421)) (fun _ hk => hk.2) (.int .u64 t422)) (fun _ hk => hk.2) (.int .i64 t423)) (fun _ hk => hk.2) (.int .i64 t424)) (fun _ hk => hk.2) (.slice Ao26 t425.length co26)) (fun _ h_ => h_.1))) (Kd.R_base ho0) hb); replace HO427 := zp.mk (Kd.R_elder' (by (with_reducible repeat (first | apply Kd.R_alloc | apply Kd.R_drewN | apply Kd.R_drew)); exact (Kd.R_mono (Kd.R_far (p := ⟨gb428, 5, none⟩) (Kd.R_far (p := ⟨gb428, 4, none⟩) (Kd.R_far (p := ⟨gb428, 3, none⟩) (Kd.R_far (p := ⟨gb428, 2, none⟩) (Kd.R_far (p := ⟨gb428, 1, none⟩) (Kd.R_far (p := ⟨gb428, 0, none⟩) (Kd.R_types HO427.out BK428.out (by decide)) (fun _ hk => hk.2) (.int .i64 t420)) (fun _ hk => hk.2) (.int .i64 t421)) (fun _ hk => hk.2) (.int .u64 t422)) (fun _ hk => hk.2) (.int .i64 t423)) (fun _ hk => hk.2) (.int .i64 t424)) (fun _ hk => hk.2) (.slice Ao26 t425.length co26)) (fun _ h_ => h_.1))) (Kd.R_base ho0) hb); replace BK406 := zp.mk (zl (g := gb406) (o := .cells #[.int .i64 a2_0, .int .i64 a2_1, .int .u64 a2_2, .int .i64 a2_3, .int .i64 a2_4, .slice A2_5 l2_5.length c2_5] 27 (0, 0)) (by (with_reducible repeat (first | refine zf ?_ _ | refine zi ?_ | refine zg ?_ _)); refine blk_far ?_ NB406_428.out _; (with_reducible repeat (first | refine zf ?_ _ | refine zi ?_ | refine zg ?_ _)); refine blk_far ?_ NB406_428.out _; (with_reducible repeat (first | refine zf ?_ _ | refine zi ?_ | refine zg ?_ _)); refine blk_far ?_ NB406_428.out _; (with_reducible repeat (first | refine zf ?_ _ | refine zi ?_ | refine zg ?_ _)); refine blk_far ?_ NB406_428.out _; (with_reducible repeat (first | refine zf ?_ _ | refine zi ?_ | refine zg ?_ _)); refine blk_far ?_ NB406_428.out _; (with_reducible repeat (first | refine zf ?_ _ | refine zi ?_ | refine zg ?_ _)); refine blk_far ?_ NB406_428.out _; (with_reducible repeat (first | refine zf ?_ _ | refine zi ?_ | refine zg ?_ _)); exact BK406.out) hb); replace BK428 := zp.mk (zl (g := gb428) (o := .cells #[.int .i64 t420, .int .i64 t421, .int .u64 t422, .int .i64 t423, .int .i64 t424, .slice Ao26 t425.length co26] 32 (0, 0)) (by (with_reducible repeat (first | refine zf ?_ _ | refine zi ?_ | refine zg ?_ _)); refine blk_put (cs := #[.int .i64 t420, .int .i64 t421, .int .u64 t422, .int .i64 t423, .int .i64 t424, .slice none 0 0]) ?_ 5 _ rfl; (with_reducible repeat (first | refine zf ?_ _ | refine zi ?_ | refine zg ?_ _)); refine blk_put (cs := #[.int .i64 t420, .int .i64 t421, .int .u64 t422, .int .i64 t423, .int .i64 0, .slice none 0 0]) ?_ 4 _ rfl; (with_reducible repeat (first | refine zf ?_ _ | refine zi ?_ | refine zg ?_ _)); refine blk_put (cs := #[.int .i64 t420, .int .i64 t421, .int .u64 t422, .int .i64 0, .int .i64 0, .slice none 0 0]) ?_ 3 _ rfl; (with_reducible repeat (first | refine zf ?_ _ | refine zi ?_ | refine zg ?_ _)); refine blk_put (cs := #[.int .i64 t420, .int .i64 t421, .int .u64 0, .int .i64 0, .int .i64 0, .slice none 0 0]) ?_ 2 _ rfl; (with_reducible repeat (first | refine zf ?_ _ | refine zi ?_ | refine zg ?_ _)); refine blk_put (cs := #[.int .i64 t420, .int .i64 0, .int .u64 0, .int .i64 0, .int .i64 0, .slice none 0 0]) ?_ 1 _ rfl; (with_reducible repeat (first | refine zf ?_ _ | refine zi ?_ | refine zg ?_ _)); refine blk_put (cs := #[.int .i64 0, .int .i64 0, .int .u64 0, .int .i64 0, .int .i64 0, .slice none 0 0]) ?_ 0 _ rfl; (with_reducible repeat (first | refine zf ?_ _ | refine zi ?_ | refine zg ?_ _)); exact BK428.out) hb); replace HB := zp.mk (zj (zv7 HB.out) hb); (try clear hb); (try clear hb2); (try clear hk); (try clear hi); (try clear ho0)))
  (try simp only [Act.put, zs1, zs2, zs3])
  go_cut [48] (fun v48 wc => ∃ (kq : Nat) (x48_12 : Bool), v48 = .bool x48_12 ∧ zp (laws_FnExactAggDone.j0 kq a0 a1 t416 t419 t429 t432 x48_12 a2_0 a2_1 a2_2 a2_3 a2_4 l2_5 t420 t421 t422 t423 t424 t425 = some r) ∧ zp (kq ≤ k) ∧ zp (Kd.R (Kd.int .i64) 3 wc w.heap.size (fun k_ => some k_ ≠ (v430 : Value).ownBlock ∧ some k_ ≠ ((.slice Ao26 t425.length co26) : Value).ownBlock) v417 t416) ∧ zp (Kd.R (Kd.int .i64) 3 wc w.heap.size (fun k_ => some k_ ≠ (v417 : Value).ownBlock ∧ some k_ ≠ ((.slice Ao26 t425.length co26) : Value).ownBlock) v430 t429) ∧ zp (Kd.R (Kd.int .i64) 3 wc w.heap.size (fun k_ => some k_ ≠ (v417 : Value).ownBlock ∧ some k_ ≠ (v430 : Value).ownBlock) (.slice Ao26 t425.length co26) t425) ∧ zp (wc.heap[gb406]? = some (.cells #[.int .i64 a2_0, .int .i64 a2_1, .int .u64 a2_2, .int .i64 a2_3, .int .i64 a2_4, (.slice A2_5 l2_5.length c2_5)] 27 (0, 0))) ∧ zp (wc.heap[gb428]? = some (.cells #[.int .i64 t420, .int .i64 t421, .int .u64 t422, .int .i64 t423, .int .i64 t424, (.slice Ao26 t425.length co26)] 32 (0, 0))) ∧ zp (Below w.heap.size w wc))
  case first =>
   have H := HC13.out
   clear HC13
   replace H := zs4 H
   obtain ⟨t433, A280, H⟩ := H
   replace H : (if t433 = true then (laws_FnExactAggDone.j0 k a0 a1 t416 t419 t429 t432 (t432 != t419) a2_0 a2_1 a2_2 a2_3 a2_4 l2_5 t420 t421 t422 t423 t424 t425) else (laws_FnExactAggDone.j0 k a0 a1 t416 t419 t429 t432 true a2_0 a2_1 a2_2 a2_3 a2_4 l2_5 t420 t421 t422 t423 t424 t425)) = some r := H
   have A28 := zp.mk A280
   clear A280
   by_cases c29 : t433 = true
   ·subst c29
    have H1 : (laws_FnExactAggDone.j0 k a0 a1 t416 t419 t429 t432 (t432 != t419) a2_0 a2_1 a2_2 a2_3 a2_4 l2_5 t420 t421 t422 t423 t424 t425) = some r := by rw [if_pos rfl] at H; exact H
    clear H
    have H := H1
    clear H1
    have H' := zp.mk H
    clear H
    obtain ⟨Ao30, co30, eo30⟩ := Kd.R_slice HO431.out
    subst eo30
    obtain ⟨Ao31, co31, eo31⟩ := Kd.R_slice HO418.out
    subst eo31
    go_wp2_with (first | ((with_reducible refine zn (f := 15) rfl ?_); refine goesL_ (some 42) rfl rfl Try.func15 (by kernel_rfl) rfl #[.slice Ao30 t429.length co30, .slice Ao31 t416.length co31] rfl (by (try simp only [List.map_toArray, List.map_cons, List.map_nil]); first | done | rfl | (simp only [List.length_drop, List.length_take]; rfl)) ?_; (with_reducible refine (laws_eqIntS.calls k _ _ t429 _ _ t416 true _ ?side1 ?side2 ?side3 ?side4 A28.out).mono ?_); (case side1 => repeat (first | exact (Kd.R_reads' HO431.out).2.2 | (with_reducible refine Kd.zr ?_ _) | (with_reducible refine Kd.zq ?_ _) | (with_reducible refine Kd.C_drew ?_))); (case side2 => exact (Kd.R_reads' HO431.out).2.1); (case side3 => repeat (first | exact (Kd.R_reads' HO418.out).2.2 | (with_reducible refine Kd.zr ?_ _) | (with_reducible refine Kd.zq ?_ _) | (with_reducible refine Kd.C_drew ?_))); (case side4 => exact (Kd.R_reads' HO418.out).2.1); rintro e w' ⟨rfl, ⟨nd, rfl⟩⟩; refine ⟨_, rfl, ?_⟩))
    go_meet
    case rel => exact ⟨_, ((t432 != t419)), (by first | rfl | (simp; done) | (simp [*]; done)), H', ⟨by first | omega | exact Nat.le_refl _⟩, ⟨by (with_reducible repeat (first | apply Kd.R_alloc | apply Kd.R_drewN | apply Kd.R_drew)); exact Kd.R_mono HO418.out (fun _ hk => ⟨hk.2, hk.1.2⟩)⟩, ⟨by (with_reducible repeat (first | apply Kd.R_alloc | apply Kd.R_drewN | apply Kd.R_drew)); exact Kd.R_mono HO431.out (fun _ hk => ⟨hk.1.2, hk.2⟩)⟩, ⟨by (with_reducible repeat (first | apply Kd.R_alloc | apply Kd.R_drewN | apply Kd.R_drew)); exact Kd.R_mono HO427.out (fun _ hk => ⟨hk.1.2, hk.2⟩)⟩, ⟨zv8 BK406.out⟩, ⟨zv8 BK428.out⟩, ⟨zv7 HB.out⟩⟩
   ·replace c29 := Bool.eq_false_iff.mpr c29
    subst c29
    have H1 : (laws_FnExactAggDone.j0 k a0 a1 t416 t419 t429 t432 true a2_0 a2_1 a2_2 a2_3 a2_4 l2_5 t420 t421 t422 t423 t424 t425) = some r := by rw [if_neg (show ¬ (false = true) by decide)] at H; exact H
    clear H
    have H := H1
    clear H1
    have H' := zp.mk H
    clear H
    obtain ⟨Ao32, co32, eo32⟩ := Kd.R_slice HO431.out
    subst eo32
    obtain ⟨Ao33, co33, eo33⟩ := Kd.R_slice HO418.out
    subst eo33
    go_wp2_with (first | ((with_reducible refine zn (f := 15) rfl ?_); refine goesL_ (some 42) rfl rfl Try.func15 (by kernel_rfl) rfl #[.slice Ao32 t429.length co32, .slice Ao33 t416.length co33] rfl (by (try simp only [List.map_toArray, List.map_cons, List.map_nil]); first | done | rfl | (simp only [List.length_drop, List.length_take]; rfl)) ?_; (with_reducible refine (laws_eqIntS.calls k _ _ t429 _ _ t416 false _ ?side1 ?side2 ?side3 ?side4 A28.out).mono ?_); (case side1 => repeat (first | exact (Kd.R_reads' HO431.out).2.2 | (with_reducible refine Kd.zr ?_ _) | (with_reducible refine Kd.zq ?_ _) | (with_reducible refine Kd.C_drew ?_))); (case side2 => exact (Kd.R_reads' HO431.out).2.1); (case side3 => repeat (first | exact (Kd.R_reads' HO418.out).2.2 | (with_reducible refine Kd.zr ?_ _) | (with_reducible refine Kd.zq ?_ _) | (with_reducible refine Kd.C_drew ?_))); (case side4 => exact (Kd.R_reads' HO418.out).2.1); rintro e w' ⟨rfl, ⟨nd, rfl⟩⟩; refine ⟨_, rfl, ?_⟩))
    go_meet
    case rel => exact ⟨_, (true), (by first | rfl | (simp; done) | (simp [*]; done)), H', ⟨by first | omega | exact Nat.le_refl _⟩, ⟨by (with_reducible repeat (first | apply Kd.R_alloc | apply Kd.R_drewN | apply Kd.R_drew)); exact Kd.R_mono HO418.out (fun _ hk => ⟨hk.2, hk.1.2⟩)⟩, ⟨by (with_reducible repeat (first | apply Kd.R_alloc | apply Kd.R_drewN | apply Kd.R_drew)); exact Kd.R_mono HO431.out (fun _ hk => ⟨hk.1.2, hk.2⟩)⟩, ⟨by (with_reducible repeat (first | apply Kd.R_alloc | apply Kd.R_drewN | apply Kd.R_drew)); exact Kd.R_mono HO427.out (fun _ hk => ⟨hk.1.2, hk.2⟩)⟩, ⟨zv8 BK406.out⟩, ⟨zv8 BK428.out⟩, ⟨zv7 HB.out⟩⟩
  case rest =>
   clear HC13
   try clear c1
   try clear c2
   try clear p2
   try clear c4
   try clear c5
   try clear c5b0
   try clear c8
   try clear c10
   try clear c13
   try clear c14
   try clear c15
   try clear c24
   try clear c29
   try clear y15_0
   try clear y15_1
   try clear y15_2
   try clear y15_3
   try clear y15_4
   try clear y15_5
   try clear y17_0
   try clear y17_1
   try clear y17_2
   try clear y17_3
   try clear y17_4
   try clear y17_5
   try clear y21_0
   try clear y21_1
   try clear y21_2
   try clear y21_3
   try clear y21_4
   try clear y21_5
   try clear y25_0
   try clear y25_1
   try clear y25_2
   try clear y25_3
   try clear y25_4
   try clear y25_5
   try clear y7_0
   try clear y7_1
   try clear y7_2
   try clear y7_3
   try clear y7_4
   try clear y7_5
   try clear u15_0
   try clear u15_1
   try clear u15_2
   try clear u15_3
   try clear u15_4
   try clear u15_5
   try clear u17_0
   try clear u17_1
   try clear u17_2
   try clear u17_3
   try clear u17_4
   try clear u17_5
   try clear u21_0
   try clear u21_1
   try clear u21_2
   try clear u21_3
   try clear u21_4
   try clear u21_5
   try clear u25_0
   try clear u25_1
   try clear u25_2
   try clear u25_3
   try clear u25_4
   try clear u25_5
   try clear u7_0
   try clear u7_1
   try clear u7_2
   try clear u7_3
   try clear u7_4
   try clear u7_5
   obtain ⟨kq, x48_12, rfl, HA, HJ12, HO_8, HO_11, HO_429005, BK406, BK428, HB⟩ := hcut
   cases kq with
   | zero => exact absurd HA.out (by simp [laws_FnExactAggDone.j0])
   | succ kj12 =>
    have H := HA.out
    clear HA
    simp only [laws_FnExactAggDone.j0] at H
    by_cases c34 : x48_12 = true
    ·subst c34
     have H1 : (some false) = some r := by rw [if_pos rfl] at H; exact H
     clear H
     have H := H1
     clear H1
     exact absurd ((Option.some.inj H).trans hr_) (by decide)
    ·replace c34 := Bool.eq_false_iff.mpr c34
     subst c34
     have H1 : ((laws_toAgg.f kj12 a2_0 a2_1 a2_2 a2_3 a2_4 l2_5).bind fun bt434 => ((laws_eqAgg.f kj12 t420 t421 t422 t423 t424 t425 bt434.1 bt434.2.1 bt434.2.2.1 bt434.2.2.2.1 bt434.2.2.2.2.1 bt434.2.2.2.2.2).bind fun t442 => (if t442 = true then ((laws_markAgg.f kj12 t420 t421 t422 t423 t424 t425 1).bind fun bt443 => (if bt443.1 < 0 then (laws_FnExactAggDone.j1 kj12 a0 a1 t416 t419 t429 true a2_0 a2_1 a2_2 a2_3 a2_4 l2_5) else ((laws_eqIntS.f kj12 t429 t416).bind fun t445 => (if t445 = true then (laws_FnExactAggDone.j1 kj12 a0 a1 t416 t419 t429 (t432 != t419) a2_0 a2_1 a2_2 a2_3 a2_4 l2_5) else (laws_FnExactAggDone.j1 kj12 a0 a1 t416 t419 t429 true a2_0 a2_1 a2_2 a2_3 a2_4 l2_5))))) else (some false)))) = some r := by rw [if_neg (show ¬ (false = true) by decide)] at H; exact H
     clear H
     have H := H1
     clear H1
     replace H := zs4 H
     obtain ⟨⟨t434, t435, t436, t437, t438, t439⟩, A350, H⟩ := H
     replace H : ((laws_eqAgg.f kj12 t420 t421 t422 t423 t424 t425 t434 t435 t436 t437 t438 t439).bind fun t442 => (if t442 = true then ((laws_markAgg.f kj12 t420 t421 t422 t423 t424 t425 1).bind fun bt443 => (if bt443.1 < 0 then (laws_FnExactAggDone.j1 kj12 a0 a1 t416 t419 t429 true a2_0 a2_1 a2_2 a2_3 a2_4 l2_5) else ((laws_eqIntS.f kj12 t429 t416).bind fun t445 => (if t445 = true then (laws_FnExactAggDone.j1 kj12 a0 a1 t416 t419 t429 (t432 != t419) a2_0 a2_1 a2_2 a2_3 a2_4 l2_5) else (laws_FnExactAggDone.j1 kj12 a0 a1 t416 t419 t429 true a2_0 a2_1 a2_2 a2_3 a2_4 l2_5))))) else (some false))) = some r := H
     have A35 := zp.mk A350
     clear A350
     replace H := zs4 H
     obtain ⟨t442, A360, H⟩ := H
     replace H : (if t442 = true then ((laws_markAgg.f kj12 t420 t421 t422 t423 t424 t425 1).bind fun bt443 => (if bt443.1 < 0 then (laws_FnExactAggDone.j1 kj12 a0 a1 t416 t419 t429 true a2_0 a2_1 a2_2 a2_3 a2_4 l2_5) else ((laws_eqIntS.f kj12 t429 t416).bind fun t445 => (if t445 = true then (laws_FnExactAggDone.j1 kj12 a0 a1 t416 t419 t429 (t432 != t419) a2_0 a2_1 a2_2 a2_3 a2_4 l2_5) else (laws_FnExactAggDone.j1 kj12 a0 a1 t416 t419 t429 true a2_0 a2_1 a2_2 a2_3 a2_4 l2_5))))) else (some false)) = some r := H
     have A36 := zp.mk A360
     clear A360
     by_cases c37 : t442 = true
     ·subst c37
      have H1 : ((laws_markAgg.f kj12 t420 t421 t422 t423 t424 t425 1).bind fun bt443 => (if bt443.1 < 0 then (laws_FnExactAggDone.j1 kj12 a0 a1 t416 t419 t429 true a2_0 a2_1 a2_2 a2_3 a2_4 l2_5) else ((laws_eqIntS.f kj12 t429 t416).bind fun t445 => (if t445 = true then (laws_FnExactAggDone.j1 kj12 a0 a1 t416 t419 t429 (t432 != t419) a2_0 a2_1 a2_2 a2_3 a2_4 l2_5) else (laws_FnExactAggDone.j1 kj12 a0 a1 t416 t419 t429 true a2_0 a2_1 a2_2 a2_3 a2_4 l2_5))))) = some r := by rw [if_pos rfl] at H; exact H
      clear H
      have H := H1
      clear H1
      replace H := zs4 H
      obtain ⟨⟨t443, t444⟩, A380, H⟩ := H
      replace H : (if t443 < 0 then (laws_FnExactAggDone.j1 kj12 a0 a1 t416 t419 t429 true a2_0 a2_1 a2_2 a2_3 a2_4 l2_5) else ((laws_eqIntS.f kj12 t429 t416).bind fun t445 => (if t445 = true then (laws_FnExactAggDone.j1 kj12 a0 a1 t416 t419 t429 (t432 != t419) a2_0 a2_1 a2_2 a2_3 a2_4 l2_5) else (laws_FnExactAggDone.j1 kj12 a0 a1 t416 t419 t429 true a2_0 a2_1 a2_2 a2_3 a2_4 l2_5)))) = some r := H
      have A38 := zp.mk A380
      clear A380
      have HC39 := zp.mk H
      clear H
      try go_wp2
      replace HO_8 := zp.mk (Kd.R_drew HO_8.out)
      replace HO_11 := zp.mk (Kd.R_drew HO_11.out)
      replace HO_429005 := zp.mk (Kd.R_drew HO_429005.out)
      replace BK406 := zp.mk (zi BK406.out)
      replace BK428 := zp.mk (zi BK428.out)
      replace HB := zp.mk (zb HB.out)
      refine start_ (n := 5) (S := fun w' => w'.cell? ⟨gb428, 0, none⟩ = some (.int .i64 t420) ∧ w'.cell? ⟨gb428, 1, none⟩ = some (.int .i64 t421) ∧ w'.cell? ⟨gb428, 2, none⟩ = some (.int .u64 t422) ∧ w'.cell? ⟨gb428, 3, none⟩ = some (.int .i64 t423) ∧ w'.cell? ⟨gb428, 4, none⟩ = some (.int .i64 t424) ∧ w'.cell? ⟨gb428, 5, none⟩ = some (.slice Ao26 t425.length co26) ∧ w'.cell? ⟨gb406, 0, none⟩ = some (.int .i64 a2_0) ∧ w'.cell? ⟨gb406, 1, none⟩ = some (.int .i64 a2_1) ∧ w'.cell? ⟨gb406, 2, none⟩ = some (.int .u64 a2_2) ∧ w'.cell? ⟨gb406, 3, none⟩ = some (.int .i64 a2_3) ∧ w'.cell? ⟨gb406, 4, none⟩ = some (.int .i64 a2_4) ∧ w'.cell? ⟨gb406, 5, none⟩ = some (.slice A2_5 l2_5.length c2_5)) (ds := []) #[false, false, false, false, false] (by kernel_rfl) rfl rfl ⟨(ze BK428.out 0).trans rfl, (ze BK428.out 1).trans rfl, (ze BK428.out 2).trans rfl, (ze BK428.out 3).trans rfl, (ze BK428.out 4).trans rfl, (ze BK428.out 5).trans rfl, (ze BK406.out 0).trans rfl, (ze BK406.out 1).trans rfl, (ze BK406.out 2).trans rfl, (ze BK406.out 3).trans rfl, (ze BK406.out 4).trans rfl, (ze BK406.out 5).trans rfl⟩ (fun hHeld => ?_)
      generalize wc.drew = w40 at HO_8 HO_11 HO_429005 BK406 BK428 HB hHeld ⊢
      refine take_ (i := 0) (N := some 49) (v := ?_) (a' := ?_) #[true, false, false, false, false] rfl rfl (by kernel_rfl) (fun _ _ _ h => h) (Or.inl ⟨by rfl, ?_⟩) hHeld ?_ ?_
      rotate_left
      ·rintro w' ⟨s0, s1, s2, s3, s4, s5, s6, s7, s8, s9, s10, s11⟩
       go_simp
       with_reducible rfl
      rotate_left
      ·simp only [Act.put, zs1, zs2, zs3, i64_w, i32_w]
       rfl
      refine take_ (i := 1) (N := some 50) (v := ?_) (a' := ?_) #[true, true, false, false, false] rfl rfl (by kernel_rfl) (fun _ _ _ h => h) (Or.inl ⟨by rfl, ?_⟩) hHeld ?_ ?_
      rotate_left
      ·rintro w' ⟨s0, s1, s2, s3, s4, s5, s6, s7, s8, s9, s10, s11⟩
       go_simp
       with_reducible rfl
      rotate_left
      ·simp only [Act.put, zs1, zs2, zs3, i64_w, i32_w]
       rfl
      refine one_ (i := 2) (N := some 51) #[true, true, true, false, false] rfl rfl (by kernel_rfl) (by decide) (fun K hK => ?_)
      refine goes_ Try.func10 (by kernel_rfl) rfl #[.agg #[.int .i64 a2_0, .int .i64 a2_1, .int .u64 a2_2, .int .i64 a2_3, .int .i64 a2_4, .slice A2_5 l2_5.length c2_5]] (by rfl) rfl rfl (by (try simp only [List.map_toArray, List.map_cons, List.map_nil]); first | done | rfl | (simp only [List.length_drop, List.length_take]; rfl)) ?_
      with_reducible refine (laws_toAgg.calls kj12 a2_0 a2_1 a2_2 a2_3 a2_4 _ _ l2_5 t434 t435 t436 t437 t438 t439 _ ?side1 ?side2 A35.out).mono ?_
      (case side1 => repeat (first | exact (Kd.zs HR2_5.out HB.out) | (with_reducible refine Kd.zr ?_ _) | (with_reducible refine Kd.zq ?_ _) | (with_reducible refine Kd.C_drew ?_)))
      (case side2 => exact HC2_5.out)
      rintro e w41 ⟨v440, rfl, ho0, hb⟩
      refine ⟨_, rfl, ?_⟩
      have HO441 := zp.mk (Kd.R_lower (Kd.R_new' (Kd.R_new' (Kd.R_new' ho0 (Kd.R_lt (by (with_reducible repeat (first | apply Kd.R_alloc | apply Kd.R_drewN | apply Kd.R_drew)); exact HO_8.out))) (Kd.R_lt (by (with_reducible repeat (first | apply Kd.R_alloc | apply Kd.R_drewN | apply Kd.R_drew)); exact HO_11.out))) (Kd.R_lt (by (with_reducible repeat (first | apply Kd.R_alloc | apply Kd.R_drewN | apply Kd.R_drew)); exact HO_429005.out))) (zk (zv7 HB.out)))
      replace HO_8 := zp.mk (Kd.R_elder' (by (with_reducible repeat (first | apply Kd.R_alloc | apply Kd.R_drewN | apply Kd.R_drew)); exact HO_8.out) (Kd.R_base ho0) hb)
      replace HO_11 := zp.mk (Kd.R_elder' (by (with_reducible repeat (first | apply Kd.R_alloc | apply Kd.R_drewN | apply Kd.R_drew)); exact HO_11.out) (Kd.R_base ho0) hb)
      replace HO_429005 := zp.mk (Kd.R_elder' (by (with_reducible repeat (first | apply Kd.R_alloc | apply Kd.R_drewN | apply Kd.R_drew)); exact HO_429005.out) (Kd.R_base ho0) hb)
      replace BK406 := zp.mk (zl (zv8 BK406.out) hb)
      replace BK428 := zp.mk (zl (zv8 BK428.out) hb)
      replace HB := zp.mk (zj (zv7 HB.out) hb)
      (try clear hb)
      (try clear hb2)
      (try clear hk)
      (try clear hi)
      (try clear ho0)
      obtain ⟨Ao42, co42, eo42⟩ := Kd.R_slice HO441.out
      (first | subst eo42 | (injection eo42 with f1_ f2_ f3_; have f4_ := f1_.symm; have f5_ := f3_.symm; clear f1_ f2_ f3_; subst f4_; subst f5_))
      refine hK.out _ _ ⟨(ze BK428.out 0).trans rfl, (ze BK428.out 1).trans rfl, (ze BK428.out 2).trans rfl, (ze BK428.out 3).trans rfl, (ze BK428.out 4).trans rfl, (ze BK428.out 5).trans rfl, (ze BK406.out 0).trans rfl, (ze BK406.out 1).trans rfl, (ze BK406.out 2).trans rfl, (ze BK406.out 3).trans rfl, (ze BK406.out 4).trans rfl, (ze BK406.out 5).trans rfl⟩ (fun hHeld => ?_)
      clear hK K
      refine norm_ (a' := ?_) ?_ ?_
      rotate_left
      ·show Act.put _ (some 51) _ = _
       simp only [Act.put, zs1, zs2, zs3, i64_w, i32_w]
       rfl
      refine one_ (i := 3) (N := some 52) #[true, true, true, true, false] rfl rfl (by kernel_rfl) (by decide) (fun K hK => ?_)
      refine goes_ Try.func12 (by kernel_rfl) rfl #[.agg #[.int .i64 t420, .int .i64 t421, .int .u64 t422, .int .i64 t423, .int .i64 t424, .slice Ao26 t425.length co26], .agg #[.int .i64 t434, .int .i64 t435, .int .u64 t436, .int .i64 t437, .int .i64 t438, .slice Ao42 t439.length co42]] (by rfl) rfl rfl (by (try simp only [List.map_toArray, List.map_cons, List.map_nil]); first | done | rfl | (simp only [List.length_drop, List.length_take]; rfl)) ?_
      with_reducible refine (laws_eqAgg.calls kj12 t420 t421 t422 t423 t424 _ _ t425 t434 t435 t436 t437 t438 _ _ t439 true _ ?side1 ?side2 ?side3 ?side4 A36.out).mono ?_
      (case side1 => repeat (first | exact (Kd.R_reads' HO_429005.out).2.2 | (with_reducible refine Kd.zr ?_ _) | (with_reducible refine Kd.zq ?_ _) | (with_reducible refine Kd.C_drew ?_)))
      (case side2 => exact (Kd.R_reads' HO_429005.out).2.1)
      (case side3 => repeat (first | exact (Kd.R_reads' HO441.out).2.2 | (with_reducible refine Kd.zr ?_ _) | (with_reducible refine Kd.zq ?_ _) | (with_reducible refine Kd.C_drew ?_)))
      (case side4 => exact (Kd.R_reads' HO441.out).2.1)
      rintro e w43 ⟨rfl, hb⟩
      refine ⟨_, rfl, ?_⟩
      replace HO_8 := zp.mk (Kd.R_below (by (with_reducible repeat (first | apply Kd.R_alloc | apply Kd.R_drewN | apply Kd.R_drew)); exact HO_8.out) hb)
      replace HO_11 := zp.mk (Kd.R_below (by (with_reducible repeat (first | apply Kd.R_alloc | apply Kd.R_drewN | apply Kd.R_drew)); exact HO_11.out) hb)
      replace HO_429005 := zp.mk (Kd.R_below (by (with_reducible repeat (first | apply Kd.R_alloc | apply Kd.R_drewN | apply Kd.R_drew)); exact HO_429005.out) hb)
      replace HO441 := zp.mk (Kd.R_below (by (with_reducible repeat (first | apply Kd.R_alloc | apply Kd.R_drewN | apply Kd.R_drew)); exact HO441.out) hb)
      replace BK406 := zp.mk (zl (zv8 BK406.out) hb)
      replace BK428 := zp.mk (zl (zv8 BK428.out) hb)
      replace HB := zp.mk (zj (zv7 HB.out) hb)
      (try clear hb)
      (try clear hb2)
      (try clear hk)
      (try clear hi)
      refine hK.out _ _ ⟨(ze BK428.out 0).trans rfl, (ze BK428.out 1).trans rfl, (ze BK428.out 2).trans rfl, (ze BK428.out 3).trans rfl, (ze BK428.out 4).trans rfl, (ze BK428.out 5).trans rfl, (ze BK406.out 0).trans rfl, (ze BK406.out 1).trans rfl, (ze BK406.out 2).trans rfl, (ze BK406.out 3).trans rfl, (ze BK406.out 4).trans rfl, (ze BK406.out 5).trans rfl⟩ (fun hHeld => ?_)
      clear hK K
      refine norm_ (a' := ?_) ?_ ?_
      rotate_left
      ·show Act.put _ (some 52) _ = _
       simp only [Act.put, zs1, zs2, zs3, i64_w, i32_w]
       rfl
      refine pure_ (i := 4) (N := some 53) (v := ?_) (a' := ?_) #[true, true, true, true, true] rfl rfl (by kernel_rfl) (fun _ _ _ h => h) (Or.inl ⟨by rfl, ?_⟩) ?_ ?_
      rotate_left
      ·intro w'
       go_simp
       with_reducible rfl
      rotate_left
      ·simp only [Act.put, zs1, zs2, zs3, i64_w, i32_w]
       rfl
      refine done_ (by kernel_rfl) ?_
      have hnb44 := NB428_406.out
      have hnc44 := NB406_428.out
      have y45_0 := zt0 BK428.out
      have y45_1 := zt1 BK428.out
      have y45_2 := zt2 BK428.out
      have y45_3 := zt3 BK428.out
      have y45_4 := zt4 BK428.out
      have y45_5 := zt5 BK428.out
      have u45_0 := zd BK428.out 0
      have u45_1 := zd BK428.out 1
      have u45_2 := zd BK428.out 2
      have u45_3 := zd BK428.out 3
      have u45_4 := zd BK428.out 4
      have u45_5 := zd BK428.out 5
      go_upto_region 14 with (first | ((with_reducible refine zn (f := 16) rfl ?_); refine goesL_ (some 56) rfl rfl Try.func16 (by kernel_rfl) rfl #[.agg #[.int .i64 t420, .int .i64 t421, .int .u64 t422, .int .i64 t423, .int .i64 t424, .slice Ao26 t425.length co26], .int .i64 1] rfl (by (try simp only [List.map_toArray, List.map_cons, List.map_nil]); first | done | rfl | (simp only [List.length_drop, List.length_take]; rfl)) ?_; (with_reducible refine (laws_markAgg.calls kj12 t420 t421 t422 t423 t424 (fun k_ => some k_ = (.slice Ao26 t425.length co26 : Value).ownBlock) (.slice Ao26 t425.length co26) t425 1 t443 t444 w _ ?side1 ?side2 A38.out).mono ?_); (case side1 => repeat (first | (with_reducible first | exact HB.out | apply zc | apply za | apply zb | refine zh ?_ GE406.out | refine zh ?_ GE428.out) | exact HB.out)); (case side2 => exact Kd.R_tight rfl HO_429005.out); rintro e w46 ⟨rfl, hy0, hb, hkp⟩; refine ⟨_, rfl, ?_⟩; replace HO_8 := zp.mk (Kd.R_mono (ok' := fun k_ => some k_ ≠ (v430 : Value).ownBlock ∧ some k_ ≠ (.slice Ao26 t425.length co26 : Value).ownBlock ∧ some k_ ≠ (.slice Ao42 t439.length co42 : Value).ownBlock) (Kd.R_keptB (HO_8.out) hkp (fun k_ hk_ hs_ => (hk_.1.2) hs_)) (fun k_ hk_ => ⟨hk_.1.1.1, hk_.1.1.2, hk_.1.2⟩)); replace HO_11 := zp.mk (Kd.R_mono (ok' := fun k_ => some k_ ≠ (v417 : Value).ownBlock ∧ some k_ ≠ (.slice Ao26 t425.length co26 : Value).ownBlock ∧ some k_ ≠ (.slice Ao42 t439.length co42 : Value).ownBlock) (Kd.R_keptB (HO_11.out) hkp (fun k_ hk_ hs_ => (hk_.1.2) hs_)) (fun k_ hk_ => ⟨hk_.1.1.1, hk_.1.1.2, hk_.1.2⟩)); replace BK406 := zp.mk (blk_kept (zv8 BK406.out) hkp (fun hs_ => (fun e_ => (Kd.R_ne HO_429005.out BK406.out (by decide)) e_) hs_)); replace BK428 := zp.mk (blk_kept (zv8 BK428.out) hkp (fun hs_ => (fun e_ => (Kd.R_ne HO_429005.out BK428.out (by decide)) e_) hs_)); replace HO_429005 := zp.mk (Kd.R_reok rfl hy0 (fun k_ e_ => HO_429005.out.1 k_ e_)); replace HO441 := zp.mk (Kd.R_mono (ok' := fun k_ => some k_ ≠ (v417 : Value).ownBlock ∧ some k_ ≠ (v430 : Value).ownBlock ∧ some k_ ≠ (.slice Ao26 t425.length co26 : Value).ownBlock) (Kd.R_keptB (HO441.out) hkp (fun k_ hk_ hs_ => (hk_.2) hs_)) (fun k_ hk_ => ⟨hk_.1.1.1.2, hk_.1.1.2, hk_.1.2⟩)); replace HB := zp.mk (hb); (try clear hb); (try clear hkp); (try clear hy0)))
      (try simp only [Act.put, zs1, zs2, zs3])
      go_cut [69] (fun v69 wc => ∃ (kq : Nat) (x69_38 : Bool), v69 = .bool x69_38 ∧ zp (laws_FnExactAggDone.j1 kq a0 a1 t416 t419 t429 x69_38 a2_0 a2_1 a2_2 a2_3 a2_4 l2_5 = some r) ∧ zp (kq ≤ kj12) ∧ zp (Kd.R (Kd.int .i64) 3 wc w.heap.size (fun k_ => some k_ ≠ (v430 : Value).ownBlock ∧ some k_ ≠ ((.slice Ao26 t425.length co26) : Value).ownBlock) v417 t416) ∧ zp (Kd.R (Kd.int .i64) 3 wc w.heap.size (fun k_ => some k_ ≠ (v417 : Value).ownBlock ∧ some k_ ≠ ((.slice Ao26 t425.length co26) : Value).ownBlock) v430 t429) ∧ zp (Kd.R (Kd.int .i64) 3 wc w.heap.size (fun k_ => some k_ ≠ (v417 : Value).ownBlock ∧ some k_ ≠ (v430 : Value).ownBlock) (.slice Ao26 t425.length co26) t444) ∧ zp (wc.heap[gb406]? = some (.cells #[.int .i64 a2_0, .int .i64 a2_1, .int .u64 a2_2, .int .i64 a2_3, .int .i64 a2_4, (.slice A2_5 l2_5.length c2_5)] 27 (0, 0))) ∧ zp (wc.heap[gb428]? = some (.cells #[.int .i64 t420, .int .i64 t421, .int .u64 t422, .int .i64 t423, .int .i64 t424, (.slice Ao26 t425.length co26)] 32 (0, 0))) ∧ zp (Below w.heap.size w wc))
      case first =>
       have H := HC39.out
       clear HC39
       by_cases c47 : t443 < 0
       ·rw [if_pos c47] at H
        have c47b0 : decide (t443 < 0) = true := decide_eq_true c47
        clear c47
        (first | rw [c47b0] | (simp only [i64_w, i32_w]; rw [c47b0]) | skip)
        have H' := zp.mk H
        clear H
        go_wp2
        go_meet
        case rel => exact ⟨_, (true), (by first | rfl | (simp; done) | (simp [*]; done)), H', ⟨by have := HJ12.out; first | omega | exact Nat.le_refl _⟩, ⟨by (with_reducible repeat (first | apply Kd.R_alloc | apply Kd.R_drewN | apply Kd.R_drew)); exact Kd.R_mono HO_8.out (fun _ hk => ⟨hk.1, hk.2.1⟩)⟩, ⟨by (with_reducible repeat (first | apply Kd.R_alloc | apply Kd.R_drewN | apply Kd.R_drew)); exact Kd.R_mono HO_11.out (fun _ hk => ⟨hk.1, hk.2.1⟩)⟩, ⟨by (with_reducible repeat (first | apply Kd.R_alloc | apply Kd.R_drewN | apply Kd.R_drew)); exact Kd.R_mono HO_429005.out (fun _ hk => ⟨hk.1.1, hk.1.2⟩)⟩, ⟨zv8 BK406.out⟩, ⟨zv8 BK428.out⟩, ⟨zv7 HB.out⟩⟩
       ·rw [if_neg c47] at H
        have c47b0 : decide (t443 < 0) = false := decide_eq_false c47
        clear c47
        (first | rw [c47b0] | (simp only [i64_w, i32_w]; rw [c47b0]) | skip)
        replace H := zs4 H
        obtain ⟨t445, A480, H⟩ := H
        replace H : (if t445 = true then (laws_FnExactAggDone.j1 kj12 a0 a1 t416 t419 t429 (t432 != t419) a2_0 a2_1 a2_2 a2_3 a2_4 l2_5) else (laws_FnExactAggDone.j1 kj12 a0 a1 t416 t419 t429 true a2_0 a2_1 a2_2 a2_3 a2_4 l2_5)) = some r := H
        have A48 := zp.mk A480
        clear A480
        by_cases c49 : t445 = true
        ·subst c49
         have H1 : (laws_FnExactAggDone.j1 kj12 a0 a1 t416 t419 t429 (t432 != t419) a2_0 a2_1 a2_2 a2_3 a2_4 l2_5) = some r := by rw [if_pos rfl] at H; exact H
         clear H
         have H := H1
         clear H1
         have H' := zp.mk H
         clear H
         obtain ⟨Ao50, co50, eo50⟩ := Kd.R_slice HO_11.out
         subst eo50
         obtain ⟨Ao51, co51, eo51⟩ := Kd.R_slice HO_8.out
         subst eo51
         go_wp2_with (first | (go_at_call 15; (with_reducible refine (laws_eqIntS.calls kj12 _ _ t429 _ _ t416 true _ ?side1 ?side2 ?side3 ?side4 A48.out).mono ?_); (case side1 => repeat (first | exact (Kd.R_reads' HO_11.out).2.2 | (with_reducible refine Kd.zr ?_ _) | (with_reducible refine Kd.zq ?_ _) | (with_reducible refine Kd.C_drew ?_))); (case side2 => exact (Kd.R_reads' HO_11.out).2.1); (case side3 => repeat (first | exact (Kd.R_reads' HO_8.out).2.2 | (with_reducible refine Kd.zr ?_ _) | (with_reducible refine Kd.zq ?_ _) | (with_reducible refine Kd.C_drew ?_))); (case side4 => exact (Kd.R_reads' HO_8.out).2.1); rintro e w' ⟨rfl, ⟨nd, rfl⟩⟩))
         go_meet
         case rel => exact ⟨_, ((t432 != t419)), (by first | rfl | (simp; done) | (simp [*]; done)), H', ⟨by have := HJ12.out; first | omega | exact Nat.le_refl _⟩, ⟨by (with_reducible repeat (first | apply Kd.R_alloc | apply Kd.R_drewN | apply Kd.R_drew)); exact Kd.R_mono HO_8.out (fun _ hk => ⟨hk.1, hk.2.1⟩)⟩, ⟨by (with_reducible repeat (first | apply Kd.R_alloc | apply Kd.R_drewN | apply Kd.R_drew)); exact Kd.R_mono HO_11.out (fun _ hk => ⟨hk.1, hk.2.1⟩)⟩, ⟨by (with_reducible repeat (first | apply Kd.R_alloc | apply Kd.R_drewN | apply Kd.R_drew)); exact Kd.R_mono HO_429005.out (fun _ hk => ⟨hk.1.1, hk.1.2⟩)⟩, ⟨zv8 BK406.out⟩, ⟨zv8 BK428.out⟩, ⟨zv7 HB.out⟩⟩
        ·replace c49 := Bool.eq_false_iff.mpr c49
         subst c49
         have H1 : (laws_FnExactAggDone.j1 kj12 a0 a1 t416 t419 t429 true a2_0 a2_1 a2_2 a2_3 a2_4 l2_5) = some r := by rw [if_neg (show ¬ (false = true) by decide)] at H; exact H
         clear H
         have H := H1
         clear H1
         have H' := zp.mk H
         clear H
         obtain ⟨Ao52, co52, eo52⟩ := Kd.R_slice HO_11.out
         subst eo52
         obtain ⟨Ao53, co53, eo53⟩ := Kd.R_slice HO_8.out
         subst eo53
         go_wp2_with (first | (go_at_call 15; (with_reducible refine (laws_eqIntS.calls kj12 _ _ t429 _ _ t416 false _ ?side1 ?side2 ?side3 ?side4 A48.out).mono ?_); (case side1 => repeat (first | exact (Kd.R_reads' HO_11.out).2.2 | (with_reducible refine Kd.zr ?_ _) | (with_reducible refine Kd.zq ?_ _) | (with_reducible refine Kd.C_drew ?_))); (case side2 => exact (Kd.R_reads' HO_11.out).2.1); (case side3 => repeat (first | exact (Kd.R_reads' HO_8.out).2.2 | (with_reducible refine Kd.zr ?_ _) | (with_reducible refine Kd.zq ?_ _) | (with_reducible refine Kd.C_drew ?_))); (case side4 => exact (Kd.R_reads' HO_8.out).2.1); rintro e w' ⟨rfl, ⟨nd, rfl⟩⟩))
         go_meet
         case rel => exact ⟨_, (true), (by first | rfl | (simp; done) | (simp [*]; done)), H', ⟨by have := HJ12.out; first | omega | exact Nat.le_refl _⟩, ⟨by (with_reducible repeat (first | apply Kd.R_alloc | apply Kd.R_drewN | apply Kd.R_drew)); exact Kd.R_mono HO_8.out (fun _ hk => ⟨hk.1, hk.2.1⟩)⟩, ⟨by (with_reducible repeat (first | apply Kd.R_alloc | apply Kd.R_drewN | apply Kd.R_drew)); exact Kd.R_mono HO_11.out (fun _ hk => ⟨hk.1, hk.2.1⟩)⟩, ⟨by (with_reducible repeat (first | apply Kd.R_alloc | apply Kd.R_drewN | apply Kd.R_drew)); exact Kd.R_mono HO_429005.out (fun _ hk => ⟨hk.1.1, hk.1.2⟩)⟩, ⟨zv8 BK406.out⟩, ⟨zv8 BK428.out⟩, ⟨zv7 HB.out⟩⟩
      case rest =>
       clear HC39
       try clear c1
       try clear c2
       try clear p2
       try clear c3
       try clear c4
       try clear c5
       try clear c5b0
       try clear c8
       try clear c10
       try clear c12
       try clear c13
       try clear c14
       try clear c15
       try clear c16
       try clear c24
       try clear c29
       try clear c34
       try clear c37
       try clear c44
       try clear c47
       try clear c47b0
       try clear c49
       try clear y15_0
       try clear y15_1
       try clear y15_2
       try clear y15_3
       try clear y15_4
       try clear y15_5
       try clear y17_0
       try clear y17_1
       try clear y17_2
       try clear y17_3
       try clear y17_4
       try clear y17_5
       try clear y21_0
       try clear y21_1
       try clear y21_2
       try clear y21_3
       try clear y21_4
       try clear y21_5
       try clear y25_0
       try clear y25_1
       try clear y25_2
       try clear y25_3
       try clear y25_4
       try clear y25_5
       try clear y45_0
       try clear y45_1
       try clear y45_2
       try clear y45_3
       try clear y45_4
       try clear y45_5
       try clear y7_0
       try clear y7_1
       try clear y7_2
       try clear y7_3
       try clear y7_4
       try clear y7_5
       try clear u15_0
       try clear u15_1
       try clear u15_2
       try clear u15_3
       try clear u15_4
       try clear u15_5
       try clear u17_0
       try clear u17_1
       try clear u17_2
       try clear u17_3
       try clear u17_4
       try clear u17_5
       try clear u21_0
       try clear u21_1
       try clear u21_2
       try clear u21_3
       try clear u21_4
       try clear u21_5
       try clear u25_0
       try clear u25_1
       try clear u25_2
       try clear u25_3
       try clear u25_4
       try clear u25_5
       try clear u45_0
       try clear u45_1
       try clear u45_2
       try clear u45_3
       try clear u45_4
       try clear u45_5
       try clear u7_0
       try clear u7_1
       try clear u7_2
       try clear u7_3
       try clear u7_4
       try clear u7_5
       try clear p2
       obtain ⟨kq, x69_38, rfl, HA, HJ38, HO_8, HO_11, HO_429005, BK406, BK428, HB⟩ := hcut
       have hl429005_38 := (Kd.R_reads' HO_429005.out).1
       rw [hl429005_38] at HO_429005
       (try simp only [hl429005_38])
       (try simp only [hl429005_38] at BK406)
       (try simp only [hl429005_38] at BK428)
       (try simp only [hl429005_38] at HO_8)
       (try simp only [hl429005_38] at HO_11)
       cases kq with
       | zero => exact absurd HA.out (by simp [laws_FnExactAggDone.j1])
       | succ kj38 =>
        have H := HA.out
        clear HA
        simp only [laws_FnExactAggDone.j1] at H
        by_cases c54 : x69_38 = true
        ·subst c54
         have H1 : (some false) = some r := by rw [if_pos rfl] at H; exact H
         clear H
         have H := H1
         clear H1
         exact absurd ((Option.some.inj H).trans hr_) (by decide)
        ·replace c54 := Bool.eq_false_iff.mpr c54
         subst c54
         have H1 : ((laws_markIntS.f kj38 t429 1).bind fun bt446 => ((laws_heldIntS.f kj38 bt446.2 1).bind fun t448 => (if t448 < 0 then (some false) else (if t448 = bt446.1 then ((laws_toAgg.f kj38 a2_0 a2_1 a2_2 a2_3 a2_4 l2_5).bind fun bt449 => ((impl_AggDone.f kj38 a0 a1 bt449.1 bt449.2.1 bt449.2.2.1 bt449.2.2.2.1 bt449.2.2.2.2.1 bt449.2.2.2.2.2).bind fun bt457 => ((laws_eqIntS.f kj38 bt457.1 t416).bind fun t461 => (if t461 = true then (laws_FnExactAggDone.j2 kj38 bt446.2 bt446.1 (bt457.2 != t419)) else (laws_FnExactAggDone.j2 kj38 bt446.2 bt446.1 true))))) else (some false))))) = some r := by rw [if_neg (show ¬ (false = true) by decide)] at H; exact H
         clear H
         have H := H1
         clear H1
         replace H := zs4 H
         obtain ⟨⟨t446, t447⟩, A550, H⟩ := H
         replace H : ((laws_heldIntS.f kj38 t447 1).bind fun t448 => (if t448 < 0 then (some false) else (if t448 = t446 then ((laws_toAgg.f kj38 a2_0 a2_1 a2_2 a2_3 a2_4 l2_5).bind fun bt449 => ((impl_AggDone.f kj38 a0 a1 bt449.1 bt449.2.1 bt449.2.2.1 bt449.2.2.2.1 bt449.2.2.2.2.1 bt449.2.2.2.2.2).bind fun bt457 => ((laws_eqIntS.f kj38 bt457.1 t416).bind fun t461 => (if t461 = true then (laws_FnExactAggDone.j2 kj38 t447 t446 (bt457.2 != t419)) else (laws_FnExactAggDone.j2 kj38 t447 t446 true))))) else (some false)))) = some r := H
         have A55 := zp.mk A550
         clear A550
         replace H := zs4 H
         obtain ⟨t448, A560, H⟩ := H
         replace H : (if t448 < 0 then (some false) else (if t448 = t446 then ((laws_toAgg.f kj38 a2_0 a2_1 a2_2 a2_3 a2_4 l2_5).bind fun bt449 => ((impl_AggDone.f kj38 a0 a1 bt449.1 bt449.2.1 bt449.2.2.1 bt449.2.2.2.1 bt449.2.2.2.2.1 bt449.2.2.2.2.2).bind fun bt457 => ((laws_eqIntS.f kj38 bt457.1 t416).bind fun t461 => (if t461 = true then (laws_FnExactAggDone.j2 kj38 t447 t446 (bt457.2 != t419)) else (laws_FnExactAggDone.j2 kj38 t447 t446 true))))) else (some false))) = some r := H
         have A56 := zp.mk A560
         clear A560
         by_cases c57 : t448 < 0
         ·rw [if_pos c57] at H
          have c57b0 : decide (t448 < 0) = true := decide_eq_true c57
          clear c57
          exact absurd ((Option.some.inj H).trans hr_) (by decide)
         ·rw [if_neg c57] at H
          have c57b0 : decide (t448 < 0) = false := decide_eq_false c57
          clear c57
          by_cases c58 : t448 = t446
          ·rw [if_pos c58] at H
           have c58b0 : (t448 == t446) = true := beq_iff_eq.mpr c58
           have c58b1 : (t448 != t446) = false := bne_eq_false_iff_eq.mpr c58
           clear c58
           replace H := zs4 H
           obtain ⟨⟨t449, t450, t451, t452, t453, t454⟩, A590, H⟩ := H
           replace H : ((impl_AggDone.f kj38 a0 a1 t449 t450 t451 t452 t453 t454).bind fun bt457 => ((laws_eqIntS.f kj38 bt457.1 t416).bind fun t461 => (if t461 = true then (laws_FnExactAggDone.j2 kj38 t447 t446 (bt457.2 != t419)) else (laws_FnExactAggDone.j2 kj38 t447 t446 true)))) = some r := H
           have A59 := zp.mk A590
           clear A590
           replace H := zs4 H
           obtain ⟨⟨t457, t460⟩, A600, H⟩ := H
           replace H : ((laws_eqIntS.f kj38 t457 t416).bind fun t461 => (if t461 = true then (laws_FnExactAggDone.j2 kj38 t447 t446 (t460 != t419)) else (laws_FnExactAggDone.j2 kj38 t447 t446 true))) = some r := H
           have A60 := zp.mk A600
           clear A600
           have HC61 := zp.mk H
           clear H
           obtain ⟨Ao62, co62, eo62⟩ := Kd.R_slice HO_11.out
           subst eo62
           go_upto_region 25 with (first | ((with_reducible refine zn (f := 17) rfl ?_); refine goesL_ (some 72) rfl rfl Try.func17 (by kernel_rfl) rfl #[.slice Ao62 t429.length co62, .int .i64 1] rfl (by (try simp only [List.map_toArray, List.map_cons, List.map_nil]); first | done | rfl | (simp only [List.length_drop, List.length_take]; rfl)) ?_; (with_reducible refine (laws_markIntS.calls kj38 (fun k_ => some k_ = (.slice Ao62 t429.length co62 : Value).ownBlock) (.slice Ao62 t429.length co62) t429 1 t446 t447 w _ ?side1 ?side2 A55.out).mono ?_); (case side1 => repeat (first | (with_reducible first | exact HB.out | apply zc | apply za | apply zb | refine zh ?_ GE406.out | refine zh ?_ GE428.out) | exact HB.out)); (case side2 => exact Kd.R_tight rfl HO_11.out); rintro e w63 ⟨rfl, hy0, hb, hkp⟩; refine ⟨_, rfl, ?_⟩; replace HO_8 := zp.mk (Kd.R_mono (ok' := fun k_ => some k_ ≠ (.slice Ao62 t429.length co62 : Value).ownBlock ∧ some k_ ≠ (.slice Ao26 t444.length co26 : Value).ownBlock) (Kd.R_keptB (HO_8.out) hkp (fun k_ hk_ hs_ => (hk_.1) hs_)) (fun k_ hk_ => ⟨hk_.1.1, hk_.1.2⟩)); replace HO_429005 := zp.mk (Kd.R_mono (ok' := fun k_ => some k_ ≠ (v417 : Value).ownBlock ∧ some k_ ≠ (.slice Ao62 t429.length co62 : Value).ownBlock) (Kd.R_keptB (HO_429005.out) hkp (fun k_ hk_ hs_ => (hk_.2) hs_)) (fun k_ hk_ => ⟨hk_.1.1, hk_.1.2⟩)); replace BK406 := zp.mk (blk_kept (zv8 BK406.out) hkp (fun hs_ => (fun e_ => (Kd.R_ne HO_11.out BK406.out (by decide)) e_) hs_)); replace BK428 := zp.mk (blk_kept (zv8 BK428.out) hkp (fun hs_ => (fun e_ => (Kd.R_ne HO_11.out BK428.out (by decide)) e_) hs_)); replace HO_11 := zp.mk (Kd.R_reok rfl hy0 (fun k_ e_ => HO_11.out.1 k_ e_)); replace HB := zp.mk (hb); (try clear hb); (try clear hkp); (try clear hy0)) | ((with_reducible refine zn (f := 18) rfl ?_); refine goesL_ (some 75) rfl rfl Try.func18 (by kernel_rfl) rfl #[.slice Ao62 t447.length co62, .int .i64 1] rfl (by (try simp only [List.map_toArray, List.map_cons, List.map_nil]); first | done | (rw [show t447.length = t429.length from (Kd.R_reads' HO_11.out).1.symm] <;> rfl) | rfl | (simp only [List.length_drop, List.length_take]; rfl)) ?_; (with_reducible refine (laws_heldIntS.calls kj38 _ _ t447 1 t448 _ ?side1 ?side2 A56.out).mono ?_); (case side1 => repeat (first | exact (Kd.R_reads' HO_11.out).2.2 | (with_reducible refine Kd.zr ?_ _) | (with_reducible refine Kd.zq ?_ _) | (with_reducible refine Kd.C_drew ?_))); (case side2 => rw [show t447.length = t429.length from (Kd.R_reads' HO_11.out).1.symm]; exact (Kd.R_reads' HO_11.out).2.1); rintro e w' ⟨rfl, ⟨nd, rfl⟩⟩; refine ⟨_, rfl, ?_⟩; have hnb64 := NB406_428.out; have hnc64 := NB428_406.out; have y65_0 := zt0 BK406.out; have y65_1 := zt1 BK406.out; have y65_2 := zt2 BK406.out; have y65_3 := zt3 BK406.out; have y65_4 := zt4 BK406.out; have y65_5 := zt5 BK406.out; have u65_0 := zd BK406.out 0; have u65_1 := zd BK406.out 1; have u65_2 := zd BK406.out 2; have u65_3 := zd BK406.out 3; have u65_4 := zd BK406.out 4; have u65_5 := zd BK406.out 5) | ((with_reducible refine zn (f := 10) rfl ?_); refine goesL_ (some 85) rfl rfl Try.func10 (by kernel_rfl) rfl #[.agg #[.int .i64 a2_0, .int .i64 a2_1, .int .u64 a2_2, .int .i64 a2_3, .int .i64 a2_4, .slice A2_5 l2_5.length c2_5]] rfl (by (try simp only [List.map_toArray, List.map_cons, List.map_nil]); first | done | rfl | (simp only [List.length_drop, List.length_take]; rfl)) ?_; (with_reducible refine (laws_toAgg.calls kj38 a2_0 a2_1 a2_2 a2_3 a2_4 _ _ l2_5 t449 t450 t451 t452 t453 t454 _ ?side1 ?side2 A59.out).mono ?_); (case side1 => repeat (first | exact (Kd.zs HR2_5.out (zv7 HB.out)) | (with_reducible refine Kd.zr ?_ _) | (with_reducible refine Kd.zq ?_ _) | (with_reducible refine Kd.C_drew ?_))); (case side2 => exact HC2_5.out); rintro e w66 ⟨v455, rfl, ho0, hb⟩; refine ⟨_, rfl, ?_⟩; have HO456 := zp.mk (Kd.R_lower (Kd.R_new' (Kd.R_new' (Kd.R_new' ho0 (Kd.R_lt (by (with_reducible repeat (first | apply Kd.R_alloc | apply Kd.R_drewN | apply Kd.R_drew)); exact HO_8.out))) (Kd.R_lt (by (with_reducible repeat (first | apply Kd.R_alloc | apply Kd.R_drewN | apply Kd.R_drew)); exact HO_11.out))) (Kd.R_lt (by (with_reducible repeat (first | apply Kd.R_alloc | apply Kd.R_drewN | apply Kd.R_drew)); exact HO_429005.out))) (zk (zv7 HB.out))); replace HO_8 := zp.mk (Kd.R_elder' (by (with_reducible repeat (first | apply Kd.R_alloc | apply Kd.R_drewN | apply Kd.R_drew)); exact HO_8.out) (Kd.R_base ho0) hb); replace HO_11 := zp.mk (Kd.R_elder' (by (with_reducible repeat (first | apply Kd.R_alloc | apply Kd.R_drewN | apply Kd.R_drew)); exact HO_11.out) (Kd.R_base ho0) hb); replace HO_429005 := zp.mk (Kd.R_elder' (by (with_reducible repeat (first | apply Kd.R_alloc | apply Kd.R_drewN | apply Kd.R_drew)); exact HO_429005.out) (Kd.R_base ho0) hb); replace BK406 := zp.mk (zl (zv8 BK406.out) hb); replace BK428 := zp.mk (zl (zv8 BK428.out) hb); replace HB := zp.mk (zj (zv7 HB.out) hb); (try clear hb); (try clear hb2); (try clear hk); (try clear hi); (try clear ho0); obtain ⟨Ao67, co67, eo67⟩ := Kd.R_slice HO456.out; subst eo67) | ((with_reducible refine zn (f := 14) rfl ?_); refine goesL_ (some 86) rfl rfl Try.func14 (by kernel_rfl) rfl #[.int .i64 a0, .int .i64 a1, .agg #[.int .i64 t449, .int .i64 t450, .int .u64 t451, .int .i64 t452, .int .i64 t453, .slice Ao67 t454.length co67]] rfl (by (try simp only [List.map_toArray, List.map_cons, List.map_nil]); first | done | rfl | (simp only [List.length_drop, List.length_take]; rfl)) ?_; (with_reducible refine (impl_AggDone.calls kj38 a0 a1 t449 t450 t451 t452 t453 _ _ t454 t457 t460 _ ?side1 ?side2 A60.out).mono ?_); (case side1 => repeat (first | exact (Kd.R_reads' HO456.out).2.2 | (with_reducible refine Kd.zr ?_ _) | (with_reducible refine Kd.zq ?_ _) | (with_reducible refine Kd.C_drew ?_))); (case side2 => exact (Kd.R_reads' HO456.out).2.1); rintro e w68 ⟨v458, rfl, ho0, hb⟩; refine ⟨_, rfl, ?_⟩; have HO459 := zp.mk (Kd.R_lower (Kd.R_new' (Kd.R_new' (Kd.R_new' (Kd.R_new' ho0 (Kd.R_lt (by (with_reducible repeat (first | apply Kd.R_alloc | apply Kd.R_drewN | apply Kd.R_drew)); exact HO_8.out))) (Kd.R_lt (by (with_reducible repeat (first | apply Kd.R_alloc | apply Kd.R_drewN | apply Kd.R_drew)); exact HO_11.out))) (Kd.R_lt (by (with_reducible repeat (first | apply Kd.R_alloc | apply Kd.R_drewN | apply Kd.R_drew)); exact HO_429005.out))) (Kd.R_lt (by (with_reducible repeat (first | apply Kd.R_alloc | apply Kd.R_drewN | apply Kd.R_drew)); exact HO456.out))) (zk (zv7 HB.out))); replace HO_8 := zp.mk (Kd.R_elder' (by (with_reducible repeat (first | apply Kd.R_alloc | apply Kd.R_drewN | apply Kd.R_drew)); exact HO_8.out) (Kd.R_base ho0) hb); replace HO_11 := zp.mk (Kd.R_elder' (by (with_reducible repeat (first | apply Kd.R_alloc | apply Kd.R_drewN | apply Kd.R_drew)); exact HO_11.out) (Kd.R_base ho0) hb); replace HO_429005 := zp.mk (Kd.R_elder' (by (with_reducible repeat (first | apply Kd.R_alloc | apply Kd.R_drewN | apply Kd.R_drew)); exact HO_429005.out) (Kd.R_base ho0) hb); replace HO456 := zp.mk (Kd.R_elder' (by (with_reducible repeat (first | apply Kd.R_alloc | apply Kd.R_drewN | apply Kd.R_drew)); exact HO456.out) (Kd.R_base ho0) hb); replace BK406 := zp.mk (zl (zv8 BK406.out) hb); replace BK428 := zp.mk (zl (zv8 BK428.out) hb); replace HB := zp.mk (zj (zv7 HB.out) hb); (try clear hb); (try clear hb2); (try clear hk); (try clear hi); (try clear ho0)))
           (try simp only [Act.put, zs1, zs2, zs3])
           go_cut [97] (fun v97 wc => ∃ (kq : Nat) (x97_60 : Bool), v97 = .bool x97_60 ∧ zp (laws_FnExactAggDone.j2 kq t447 t446 x97_60 = some r) ∧ zp (kq ≤ kj38) ∧ zp (Kd.R (Kd.int .i64) 3 wc w.heap.size (fun k_ => some k_ ≠ ((.slice Ao26 t444.length co26) : Value).ownBlock) (.slice Ao62 t429.length co62) t447) ∧ zp (Kd.R (Kd.int .i64) 3 wc w.heap.size (fun k_ => some k_ ≠ ((.slice Ao62 t429.length co62) : Value).ownBlock) (.slice Ao26 t444.length co26) t444) ∧ zp (wc.heap[gb406]? = some (.cells #[.int .i64 a2_0, .int .i64 a2_1, .int .u64 a2_2, .int .i64 a2_3, .int .i64 a2_4, (.slice A2_5 l2_5.length c2_5)] 27 (0, 0))) ∧ zp (wc.heap[gb428]? = some (.cells #[.int .i64 t420, .int .i64 t421, .int .u64 t422, .int .i64 t423, .int .i64 t424, (.slice Ao26 t444.length co26)] 32 (0, 0))) ∧ zp (Below w.heap.size w wc))
           case first =>
            have H := HC61.out
            clear HC61
            replace H := zs4 H
            obtain ⟨t461, A690, H⟩ := H
            replace H : (if t461 = true then (laws_FnExactAggDone.j2 kj38 t447 t446 (t460 != t419)) else (laws_FnExactAggDone.j2 kj38 t447 t446 true)) = some r := H
            have A69 := zp.mk A690
            clear A690
            by_cases c70 : t461 = true
            ·subst c70
             have H1 : (laws_FnExactAggDone.j2 kj38 t447 t446 (t460 != t419)) = some r := by rw [if_pos rfl] at H; exact H
             clear H
             have H := H1
             clear H1
             have H' := zp.mk H
             clear H
             obtain ⟨Ao71, co71, eo71⟩ := Kd.R_slice HO459.out
             subst eo71
             obtain ⟨Ao72, co72, eo72⟩ := Kd.R_slice HO_8.out
             subst eo72
             go_wp2_with (first | ((with_reducible refine zn (f := 15) rfl ?_); refine goesL_ (some 91) rfl rfl Try.func15 (by kernel_rfl) rfl #[.slice Ao71 t457.length co71, .slice Ao72 t416.length co72] rfl (by (try simp only [List.map_toArray, List.map_cons, List.map_nil]); first | done | rfl | (simp only [List.length_drop, List.length_take]; rfl)) ?_; (with_reducible refine (laws_eqIntS.calls kj38 _ _ t457 _ _ t416 true _ ?side1 ?side2 ?side3 ?side4 A69.out).mono ?_); (case side1 => repeat (first | exact (Kd.R_reads' HO459.out).2.2 | (with_reducible refine Kd.zr ?_ _) | (with_reducible refine Kd.zq ?_ _) | (with_reducible refine Kd.C_drew ?_))); (case side2 => exact (Kd.R_reads' HO459.out).2.1); (case side3 => repeat (first | exact (Kd.R_reads' HO_8.out).2.2 | (with_reducible refine Kd.zr ?_ _) | (with_reducible refine Kd.zq ?_ _) | (with_reducible refine Kd.C_drew ?_))); (case side4 => exact (Kd.R_reads' HO_8.out).2.1); rintro e w' ⟨rfl, ⟨nd, rfl⟩⟩; refine ⟨_, rfl, ?_⟩))
             go_meet
             case rel => exact ⟨_, ((t460 != t419)), (by first | rfl | (simp; done) | (simp [*]; done)), H', ⟨by have := HJ12.out; have := HJ38.out; first | omega | exact Nat.le_refl _⟩, ⟨by (try simp only [hl429005_38]); (with_reducible repeat (first | apply Kd.R_alloc | apply Kd.R_drewN | apply Kd.R_drew)); exact Kd.R_mono HO_11.out (fun _ hk => hk.1.1.2)⟩, ⟨by (try simp only [hl429005_38]); (with_reducible repeat (first | apply Kd.R_alloc | apply Kd.R_drewN | apply Kd.R_drew)); exact Kd.R_mono HO_429005.out (fun _ hk => hk.1.1.2)⟩, ⟨by (try simp only [hl429005_38]); (with_reducible repeat (first | refine zf ?_ _ | refine zi ?_ | refine zg ?_ _)); exact BK406.out⟩, ⟨by (try simp only [hl429005_38]); (with_reducible repeat (first | refine zf ?_ _ | refine zi ?_ | refine zg ?_ _)); exact BK428.out⟩, ⟨zv7 HB.out⟩⟩
            ·replace c70 := Bool.eq_false_iff.mpr c70
             subst c70
             have H1 : (laws_FnExactAggDone.j2 kj38 t447 t446 true) = some r := by rw [if_neg (show ¬ (false = true) by decide)] at H; exact H
             clear H
             have H := H1
             clear H1
             have H' := zp.mk H
             clear H
             obtain ⟨Ao73, co73, eo73⟩ := Kd.R_slice HO459.out
             subst eo73
             obtain ⟨Ao74, co74, eo74⟩ := Kd.R_slice HO_8.out
             subst eo74
             go_wp2_with (first | ((with_reducible refine zn (f := 15) rfl ?_); refine goesL_ (some 91) rfl rfl Try.func15 (by kernel_rfl) rfl #[.slice Ao73 t457.length co73, .slice Ao74 t416.length co74] rfl (by (try simp only [List.map_toArray, List.map_cons, List.map_nil]); first | done | rfl | (simp only [List.length_drop, List.length_take]; rfl)) ?_; (with_reducible refine (laws_eqIntS.calls kj38 _ _ t457 _ _ t416 false _ ?side1 ?side2 ?side3 ?side4 A69.out).mono ?_); (case side1 => repeat (first | exact (Kd.R_reads' HO459.out).2.2 | (with_reducible refine Kd.zr ?_ _) | (with_reducible refine Kd.zq ?_ _) | (with_reducible refine Kd.C_drew ?_))); (case side2 => exact (Kd.R_reads' HO459.out).2.1); (case side3 => repeat (first | exact (Kd.R_reads' HO_8.out).2.2 | (with_reducible refine Kd.zr ?_ _) | (with_reducible refine Kd.zq ?_ _) | (with_reducible refine Kd.C_drew ?_))); (case side4 => exact (Kd.R_reads' HO_8.out).2.1); rintro e w' ⟨rfl, ⟨nd, rfl⟩⟩; refine ⟨_, rfl, ?_⟩))
             go_meet
             case rel => exact ⟨_, (true), (by first | rfl | (simp; done) | (simp [*]; done)), H', ⟨by have := HJ12.out; have := HJ38.out; first | omega | exact Nat.le_refl _⟩, ⟨by (try simp only [hl429005_38]); (with_reducible repeat (first | apply Kd.R_alloc | apply Kd.R_drewN | apply Kd.R_drew)); exact Kd.R_mono HO_11.out (fun _ hk => hk.1.1.2)⟩, ⟨by (try simp only [hl429005_38]); (with_reducible repeat (first | apply Kd.R_alloc | apply Kd.R_drewN | apply Kd.R_drew)); exact Kd.R_mono HO_429005.out (fun _ hk => hk.1.1.2)⟩, ⟨by (try simp only [hl429005_38]); (with_reducible repeat (first | refine zf ?_ _ | refine zi ?_ | refine zg ?_ _)); exact BK406.out⟩, ⟨by (try simp only [hl429005_38]); (with_reducible repeat (first | refine zf ?_ _ | refine zi ?_ | refine zg ?_ _)); exact BK428.out⟩, ⟨zv7 HB.out⟩⟩
           case rest =>
            clear HC61
            try clear c1
            try clear c2
            try clear p2
            try clear c3
            try clear c4
            try clear c5
            try clear c5b0
            try clear c6
            try clear c7
            try clear c8
            try clear c10
            try clear c12
            try clear c13
            try clear c14
            try clear c15
            try clear c16
            try clear c17
            try clear c18
            try clear c24
            try clear c29
            try clear c34
            try clear c37
            try clear c44
            try clear c47
            try clear c47b0
            try clear c49
            try clear c54
            try clear c57
            try clear c57b0
            try clear c58
            try clear c58b0
            try clear c58b1
            try clear c64
            try clear c70
            try clear y15_0
            try clear y15_1
            try clear y15_2
            try clear y15_3
            try clear y15_4
            try clear y15_5
            try clear y17_0
            try clear y17_1
            try clear y17_2
            try clear y17_3
            try clear y17_4
            try clear y17_5
            try clear y21_0
            try clear y21_1
            try clear y21_2
            try clear y21_3
            try clear y21_4
            try clear y21_5
            try clear y25_0
            try clear y25_1
            try clear y25_2
            try clear y25_3
            try clear y25_4
            try clear y25_5
            try clear y45_0
            try clear y45_1
            try clear y45_2
            try clear y45_3
            try clear y45_4
            try clear y45_5
            try clear y65_0
            try clear y65_1
            try clear y65_2
            try clear y65_3
            try clear y65_4
            try clear y65_5
            try clear y7_0
            try clear y7_1
            try clear y7_2
            try clear y7_3
            try clear y7_4
            try clear y7_5
            try clear u15_0
            try clear u15_1
            try clear u15_2
            try clear u15_3
            try clear u15_4
            try clear u15_5
            try clear u17_0
            try clear u17_1
            try clear u17_2
            try clear u17_3
            try clear u17_4
            try clear u17_5
            try clear u21_0
            try clear u21_1
            try clear u21_2
            try clear u21_3
            try clear u21_4
            try clear u21_5
            try clear u25_0
            try clear u25_1
            try clear u25_2
            try clear u25_3
            try clear u25_4
            try clear u25_5
            try clear u45_0
            try clear u45_1
            try clear u45_2
            try clear u45_3
            try clear u45_4
            try clear u45_5
            try clear u65_0
            try clear u65_1
            try clear u65_2
            try clear u65_3
            try clear u65_4
            try clear u65_5
            try clear u7_0
            try clear u7_1
            try clear u7_2
            try clear u7_3
            try clear u7_4
            try clear u7_5
            try clear p2
            obtain ⟨kq, x97_60, rfl, HA, HJ60, HO_11, HO_429005, BK406, BK428, HB⟩ := hcut
            have hl11_60 := (Kd.R_reads' HO_11.out).1
            rw [hl11_60] at HO_11
            (try simp only [hl11_60])
            (try simp only [hl11_60] at BK406)
            (try simp only [hl11_60] at BK428)
            (try simp only [hl11_60] at HO_429005)
            cases kq with
            | zero => exact absurd HA.out (by simp [laws_FnExactAggDone.j2])
            | succ kj60 =>
             have H := HA.out
             clear HA
             simp only [laws_FnExactAggDone.j2] at H
             by_cases c75 : x97_60 = true
             ·subst c75
              have H1 : (some false) = some r := by rw [if_pos rfl] at H; exact H
              clear H
              have H := H1
              clear H1
              exact absurd ((Option.some.inj H).trans hr_) (by decide)
             ·replace c75 := Bool.eq_false_iff.mpr c75
              subst c75
              have H1 : ((laws_heldIntS.f kj60 t447 1).bind fun t462 => (if t462 < 0 then (some false) else (if t462 = t446 then (some true) else (some false)))) = some r := by rw [if_neg (show ¬ (false = true) by decide)] at H; exact H
              clear H
              have H := H1
              clear H1
              replace H := zs4 H
              obtain ⟨t462, A760, H⟩ := H
              replace H : (if t462 < 0 then (some false) else (if t462 = t446 then (some true) else (some false))) = some r := H
              have A76 := zp.mk A760
              clear A760
              by_cases c77 : t462 < 0
              ·rw [if_pos c77] at H
               have c77b0 : decide (t462 < 0) = true := decide_eq_true c77
               clear c77
               exact absurd ((Option.some.inj H).trans hr_) (by decide)
              ·rw [if_neg c77] at H
               have c77b0 : decide (t462 < 0) = false := decide_eq_false c77
               clear c77
               by_cases c78 : t462 = t446
               ·rw [if_pos c78] at H
                have c78b0 : (t462 == t446) = true := beq_iff_eq.mpr c78
                have c78b1 : (t462 != t446) = false := bne_eq_false_iff_eq.mpr c78
                clear c78
                obtain rfl := Option.some.inj H
                go_wp2_with (first | ((with_reducible refine zn (f := 18) rfl ?_); refine goesL_ (some 100) rfl rfl Try.func18 (by kernel_rfl) rfl #[.slice Ao62 t447.length co62, .int .i64 1] rfl (by (try simp only [List.map_toArray, List.map_cons, List.map_nil]); first | done | rfl | (simp only [List.length_drop, List.length_take]; rfl)) ?_; (with_reducible refine (laws_heldIntS.calls kj60 _ _ t447 1 t462 _ ?side1 ?side2 A76.out).mono ?_); (case side1 => repeat (first | exact (Kd.R_reads' HO_11.out).2.2 | (with_reducible refine Kd.zr ?_ _) | (with_reducible refine Kd.zq ?_ _) | (with_reducible refine Kd.C_drew ?_))); (case side2 => exact (Kd.R_reads' HO_11.out).2.1); rintro e w' ⟨rfl, ⟨nd, rfl⟩⟩; refine ⟨_, rfl, ?_⟩))
                go_ret
                exact ⟨by first | rfl | (simp [errW_none, errW_some] <;> rfl) | (simp [*, errW_none, errW_some] <;> rfl), zv7 HB.out⟩
               ·rw [if_neg c78] at H
                have c78b0 : (t462 == t446) = false := beq_eq_false_iff_ne.mpr c78
                have c78b1 : (t462 != t446) = true := bne_iff_ne.mpr c78
                exact absurd ((Option.some.inj H).trans hr_) (by decide)
          ·rw [if_neg c58] at H
           have c58b0 : (t448 == t446) = false := beq_eq_false_iff_ne.mpr c58
           have c58b1 : (t448 != t446) = true := bne_iff_ne.mpr c58
           exact absurd ((Option.some.inj H).trans hr_) (by decide)
     ·replace c37 := Bool.eq_false_iff.mpr c37
      subst c37
      have H1 : (some false) = some r := by rw [if_neg (show ¬ (false = true) by decide)] at H; exact H
      clear H
      have H := H1
      clear H1
      exact absurd ((Option.some.inj H).trans hr_) (by decide)

end Go.Proofs.Ytnnahpmnkpmopaa.QFnExactAggDone
