/- Proved: calls of the program come to the answers of the plain Lean functions that stand beside them. Each contract names its conditions. (Written by a program of this session, over the printer of the kit.) -/
import Derived.Test.YtnnahpmnkpmopaaZAggOfQFnExactAggOfx0
import Derived.Test.YtnnahpmnkpmopaaZAggOfQFnExactAggOfx1
import Derived.Test.YtnnahpmnkpmopaaZAggOfQFnExactAggOfx3
import Derived.Test.YtnnahpmnkpmopaaZAggOfQFnExactAggOfx4
namespace Go.Proofs.Ytnnahpmnkpmopaa.QFnExactAggOf
open Go.RowKit Go.Proofs.YtnnahpmnkpmopaaW.PrintWords Go.Proofs.YtnnahpmnkpmopaaW.PrintLast Go.Proofs.YtnnahpmnkpmopaaW.PrintMore
attribute [local go_sem] max2_int min2_int max_two min_two max_three min_three max_four min_four   -- for this text's walks alone
set_option linter.unusedVariables false
set_option linter.unusedSimpArgs false

/-! ### laws_heldAgg: function 24 -/
def laws_heldAgg.f (k : Nat) (a0_0 : Int) (a0_1 : Int) (a0_2 : Int) (a0_3 : Int) (a0_4 : Int) (l0_5 : List Int) (a1 : Int) : Option (Int) := (laws_heldIntS.f k l0_5 a1).bind fun t200 => (if t200 < 0 then (some (-1)) else (some t200))
set_option maxHeartbeats 8000000 in
set_option maxRecDepth 100000 in
theorem laws_heldAgg.calls (k : Nat) (a0_0 : Int) (a0_1 : Int) (a0_2 : Int) (a0_3 : Int) (a0_4 : Int) (A0_5 : Option Addr) (c0_5 : Nat) (l0_5 : List Int) (a1 : Int) (r : Int) (w : World) (hr0_5 : Kd.C (Kd.int .i64) w A0_5 l0_5.length l0_5) (hc0_5 : l0_5.length ≤ c0_5) (h : laws_heldAgg.f k a0_0 a0_1 a0_2 a0_3 a0_4 l0_5 a1 = some r) :
  Calls Try.prog 24 #[.agg #[.int .i64 a0_0, .int .i64 a0_1, .int .u64 a0_2, .int .i64 a0_3, .int .i64 a0_4, .slice A0_5 l0_5.length c0_5], .int .i64 a1] w fun e w' => e = .returned (.int .i64 r) ∧ Below w.heap.size w w' := by
 have hu32 := Try.underlying32
 have HR0_5 := zp.mk hr0_5
 have HC0_5 := zp.mk hc0_5
 clear hr0_5 hc0_5
 have HB := zp.mk (Below.refl w.heap.size w)
 have H : ((laws_heldIntS.f k l0_5 a1).bind fun t200 => (if t200 < 0 then (some (-1)) else (some t200))) = some r := h
 clear h
 replace H := zs4 H
 obtain ⟨t200, A30, H⟩ := H
 replace H : (if t200 < 0 then (some (-1)) else (some t200)) = some r := H
 have A3 := zp.mk A30
 clear A30
 by_cases c4 : t200 < 0
 ·rw [if_pos c4] at H
  have c4b0 : decide (t200 < 0) = true := decide_eq_true c4
  clear c4
  obtain rfl := Option.some.inj H
  go_enter Try.func24, Try.ntmps24
  go_wp2_with (first | ((with_reducible refine zo (N := 2) rfl ?_); refine zm ?hg (N := 2) ?hd (cs := #[.int .i64 a0_0, .int .i64 a0_1, .int .u64 a0_2, .int .i64 a0_3, .int .i64 a0_4, .slice A0_5 l0_5.length c0_5]) (t := 32) ?hr ?_; (case hd => rfl); (case hg => rfl); (case hr => first | (go_simp; done) | (go_simp; rfl)); intro gb199 hg w5 hbox hb; have BK199 := zp.mk (hbox); have GW199 := zp.mk ((zv3 (zv6 HB.out) hg)); have GE199 := zp.mk ((zv3 (zv6 HB.out) hg)); replace HB := zp.mk (zj (zv6 HB.out) hb); clear hb hbox hg; have y6_0 := zt0 BK199.out; have y6_1 := zt1 BK199.out; have y6_2 := zt2 BK199.out; have y6_3 := zt3 BK199.out; have y6_4 := zt4 BK199.out; have y6_5 := zt5 BK199.out; have u6_0 := zd BK199.out 0; have u6_1 := zd BK199.out 1; have u6_2 := zd BK199.out 2; have u6_3 := zd BK199.out 3; have u6_4 := zd BK199.out 4; have u6_5 := zd BK199.out 5) | ((with_reducible refine zn (f := 18) rfl ?_); refine goesL_ (some 8) rfl rfl Try.func18 (by kernel_rfl) rfl #[.slice A0_5 l0_5.length c0_5, .int .i64 a1] rfl (by (try simp only [List.map_toArray, List.map_cons, List.map_nil]); first | done | rfl | (simp only [List.length_drop, List.length_take]; rfl)) ?_; (with_reducible refine (laws_heldIntS.calls k _ _ l0_5 a1 t200 _ ?side1 ?side2 A3.out).mono ?_); (case side1 => repeat (first | exact (Kd.zt HR0_5.out HB.out) | (with_reducible refine Kd.zr ?_ _) | (with_reducible refine Kd.zq ?_ _) | (with_reducible refine Kd.C_drew ?_))); (case side2 => exact HC0_5.out); rintro e w' ⟨rfl, ⟨nd, rfl⟩⟩; refine ⟨_, rfl, ?_⟩))
  go_ret
  exact ⟨by first | rfl | (simp [errW_none, errW_some] <;> rfl) | (simp [*, errW_none, errW_some] <;> rfl), zv7 HB.out⟩
 ·rw [if_neg c4] at H
  have c4b0 : decide (t200 < 0) = false := decide_eq_false c4
  clear c4
  obtain rfl := Option.some.inj H
  go_enter Try.func24, Try.ntmps24
  go_wp2_with (first | ((with_reducible refine zo (N := 2) rfl ?_); refine zm ?hg (N := 2) ?hd (cs := #[.int .i64 a0_0, .int .i64 a0_1, .int .u64 a0_2, .int .i64 a0_3, .int .i64 a0_4, .slice A0_5 l0_5.length c0_5]) (t := 32) ?hr ?_; (case hd => rfl); (case hg => rfl); (case hr => first | (go_simp; done) | (go_simp; rfl)); intro gb199 hg w7 hbox hb; have BK199 := zp.mk (hbox); have GW199 := zp.mk ((zv3 (zv6 HB.out) hg)); have GE199 := zp.mk ((zv3 (zv6 HB.out) hg)); replace HB := zp.mk (zj (zv6 HB.out) hb); clear hb hbox hg; have y8_0 := zt0 BK199.out; have y8_1 := zt1 BK199.out; have y8_2 := zt2 BK199.out; have y8_3 := zt3 BK199.out; have y8_4 := zt4 BK199.out; have y8_5 := zt5 BK199.out; have u8_0 := zd BK199.out 0; have u8_1 := zd BK199.out 1; have u8_2 := zd BK199.out 2; have u8_3 := zd BK199.out 3; have u8_4 := zd BK199.out 4; have u8_5 := zd BK199.out 5) | ((with_reducible refine zn (f := 18) rfl ?_); refine goesL_ (some 8) rfl rfl Try.func18 (by kernel_rfl) rfl #[.slice A0_5 l0_5.length c0_5, .int .i64 a1] rfl (by (try simp only [List.map_toArray, List.map_cons, List.map_nil]); first | done | rfl | (simp only [List.length_drop, List.length_take]; rfl)) ?_; (with_reducible refine (laws_heldIntS.calls k _ _ l0_5 a1 t200 _ ?side1 ?side2 A3.out).mono ?_); (case side1 => repeat (first | exact (Kd.zt HR0_5.out HB.out) | (with_reducible refine Kd.zr ?_ _) | (with_reducible refine Kd.zq ?_ _) | (with_reducible refine Kd.C_drew ?_))); (case side2 => exact HC0_5.out); rintro e w' ⟨rfl, ⟨nd, rfl⟩⟩; refine ⟨_, rfl, ?_⟩))
  go_ret
  exact ⟨by first | rfl | (simp [errW_none, errW_some] <;> rfl) | (simp [*, errW_none, errW_some] <;> rfl), zv7 HB.out⟩

/-! ### laws_FnExactAggOf: function 6 -/
def laws_FnExactAggOf.j0 : Nat → List Int → Bool → Int → Int → Int → Int → Int → List Int → Int → Int → Int → Int → Int → List Int → Option (Bool)
 | 0, _, _, _, _, _, _, _, _, _, _, _, _, _, _ => none
 | k + 1, x0, x39, x213000, x213001, x213002, x213003, x213004, x213005, x225000, x225001, x225002, x225003, x225004, x225005 => if x39 = true then (some false) else ((laws_markAgg.f k x225000 x225001 x225002 x225003 x225004 x225005 1).bind fun bt233 => ((laws_heldAgg.f k x225000 x225001 x225002 x225003 x225004 bt233.2 1).bind fun t235 => (if t235 < 0 then (some false) else (if t235 = bt233.1 then ((laws_toIntS.f k x0).bind fun t236 => ((impl_AggOf.f k t236).bind fun bt239 => ((laws_eqAgg.f k bt239.1 bt239.2.1 bt239.2.2.1 bt239.2.2.2.1 bt239.2.2.2.2.1 bt239.2.2.2.2.2 x213000 x213001 x213002 x213003 x213004 x213005).bind fun t248 => (if t248 = true then ((laws_heldAgg.f k x225000 x225001 x225002 x225003 x225004 bt233.2 1).bind fun t249 => (if t249 < 0 then (some false) else (if t249 = bt233.1 then (some true) else (some false)))) else (some false))))) else (some false)))))
def laws_FnExactAggOf.f (k : Nat) (l0 : List Int) : Option (Bool) := if (l0.length : Int) > 1048576 then (some true) else ((laws_toIntS.f k l0).bind fun t201 => ((spec_AggOf.f k t201).bind fun bt204 => ((laws_toIntS.f k l0).bind fun t213 => ((impl_AggOf.f k t213).bind fun bt216 => ((laws_eqAgg.f k bt216.1 bt216.2.1 bt216.2.2.1 bt216.2.2.2.1 bt216.2.2.2.2.1 bt216.2.2.2.2.2 bt204.1 bt204.2.1 bt204.2.2.1 bt204.2.2.2.1 bt204.2.2.2.2.1 bt204.2.2.2.2.2).bind fun t225 => (if t225 = true then ((laws_toIntS.f k l0).bind fun t226 => ((laws_eqIntS.f k t213 t226).bind fun t229 => (if t229 = true then ((laws_markIntS.f k t213 1).bind fun bt230 => (if bt230.1 < 0 then (laws_FnExactAggOf.j0 k l0 true bt204.1 bt204.2.1 bt204.2.2.1 bt204.2.2.2.1 bt204.2.2.2.2.1 bt204.2.2.2.2.2 bt216.1 bt216.2.1 bt216.2.2.1 bt216.2.2.2.1 bt216.2.2.2.2.1 bt216.2.2.2.2.2) else ((laws_eqAgg.f k bt216.1 bt216.2.1 bt216.2.2.1 bt216.2.2.2.1 bt216.2.2.2.2.1 bt216.2.2.2.2.2 bt204.1 bt204.2.1 bt204.2.2.1 bt204.2.2.2.1 bt204.2.2.2.2.1 bt204.2.2.2.2.2).bind fun t232 => (laws_FnExactAggOf.j0 k l0 (!t232) bt204.1 bt204.2.1 bt204.2.2.1 bt204.2.2.2.1 bt204.2.2.2.2.1 bt204.2.2.2.2.2 bt216.1 bt216.2.1 bt216.2.2.1 bt216.2.2.2.1 bt216.2.2.2.2.1 bt216.2.2.2.2.2)))) else (some false)))) else (some false)))))))
set_option maxHeartbeats 8000000 in
set_option maxRecDepth 100000 in
theorem laws_FnExactAggOf.calls (k : Nat) (A0 : Option Addr) (c0 : Nat) (l0 : List Int) (r : Bool) (w : World) (hr0 : Kd.C (Kd.int .i64) w A0 l0.length l0) (hc0 : l0.length ≤ c0) (hr_ : r = true) (h : laws_FnExactAggOf.f k l0 = some r) :
  Calls Try.prog 6 #[.slice A0 l0.length c0] w fun e w' => e = .returned (.bool r) ∧ Below w.heap.size w w' := by
 have hu32 := Try.underlying32
 have HR0 := zp.mk hr0
 have HC0 := zp.mk hc0
 clear hr0 hc0
 have HB := zp.mk (Below.refl w.heap.size w)
 have H : (if (l0.length : Int) > 1048576 then (some true) else ((laws_toIntS.f k l0).bind fun t201 => ((spec_AggOf.f k t201).bind fun bt204 => ((laws_toIntS.f k l0).bind fun t213 => ((impl_AggOf.f k t213).bind fun bt216 => ((laws_eqAgg.f k bt216.1 bt216.2.1 bt216.2.2.1 bt216.2.2.2.1 bt216.2.2.2.2.1 bt216.2.2.2.2.2 bt204.1 bt204.2.1 bt204.2.2.1 bt204.2.2.2.1 bt204.2.2.2.2.1 bt204.2.2.2.2.2).bind fun t225 => (if t225 = true then ((laws_toIntS.f k l0).bind fun t226 => ((laws_eqIntS.f k t213 t226).bind fun t229 => (if t229 = true then ((laws_markIntS.f k t213 1).bind fun bt230 => (if bt230.1 < 0 then (laws_FnExactAggOf.j0 k l0 true bt204.1 bt204.2.1 bt204.2.2.1 bt204.2.2.2.1 bt204.2.2.2.2.1 bt204.2.2.2.2.2 bt216.1 bt216.2.1 bt216.2.2.1 bt216.2.2.2.1 bt216.2.2.2.2.1 bt216.2.2.2.2.2) else ((laws_eqAgg.f k bt216.1 bt216.2.1 bt216.2.2.1 bt216.2.2.2.1 bt216.2.2.2.2.1 bt216.2.2.2.2.2 bt204.1 bt204.2.1 bt204.2.2.1 bt204.2.2.2.1 bt204.2.2.2.2.1 bt204.2.2.2.2.2).bind fun t232 => (laws_FnExactAggOf.j0 k l0 (!t232) bt204.1 bt204.2.1 bt204.2.2.1 bt204.2.2.2.1 bt204.2.2.2.2.1 bt204.2.2.2.2.2 bt216.1 bt216.2.1 bt216.2.2.1 bt216.2.2.2.1 bt216.2.2.2.2.1 bt216.2.2.2.2.2)))) else (some false)))) else (some false)))))))) = some r := h
 clear h
 by_cases c2 : (l0.length : Int) > 1048576
 ·rw [if_pos c2] at H
  have c2b0 : decide (1048576 < (l0.length : Int)) = true := decide_eq_true c2
  have c2b1 : decide (1048576 < l0.length) = true := decide_eq_true (by omega)
  clear c2
  obtain rfl := Option.some.inj H
  go_enter Try.func6, Try.ntmps6
  go_wp2
  go_ret
  exact ⟨by first | rfl | (simp [errW_none, errW_some] <;> rfl) | (simp [*, errW_none, errW_some] <;> rfl), zv6 HB.out⟩
 ·rw [if_neg c2] at H
  have c2b0 : decide (1048576 < (l0.length : Int)) = false := decide_eq_false c2
  have c2b1 : decide (1048576 < l0.length) = false := decide_eq_false (by omega)
  clear c2
  replace H := zs4 H
  obtain ⟨t201, A30, H⟩ := H
  replace H : ((spec_AggOf.f k t201).bind fun bt204 => ((laws_toIntS.f k l0).bind fun t213 => ((impl_AggOf.f k t213).bind fun bt216 => ((laws_eqAgg.f k bt216.1 bt216.2.1 bt216.2.2.1 bt216.2.2.2.1 bt216.2.2.2.2.1 bt216.2.2.2.2.2 bt204.1 bt204.2.1 bt204.2.2.1 bt204.2.2.2.1 bt204.2.2.2.2.1 bt204.2.2.2.2.2).bind fun t225 => (if t225 = true then ((laws_toIntS.f k l0).bind fun t226 => ((laws_eqIntS.f k t213 t226).bind fun t229 => (if t229 = true then ((laws_markIntS.f k t213 1).bind fun bt230 => (if bt230.1 < 0 then (laws_FnExactAggOf.j0 k l0 true bt204.1 bt204.2.1 bt204.2.2.1 bt204.2.2.2.1 bt204.2.2.2.2.1 bt204.2.2.2.2.2 bt216.1 bt216.2.1 bt216.2.2.1 bt216.2.2.2.1 bt216.2.2.2.2.1 bt216.2.2.2.2.2) else ((laws_eqAgg.f k bt216.1 bt216.2.1 bt216.2.2.1 bt216.2.2.2.1 bt216.2.2.2.2.1 bt216.2.2.2.2.2 bt204.1 bt204.2.1 bt204.2.2.1 bt204.2.2.2.1 bt204.2.2.2.2.1 bt204.2.2.2.2.2).bind fun t232 => (laws_FnExactAggOf.j0 k l0 (!t232) bt204.1 bt204.2.1 bt204.2.2.1 bt204.2.2.2.1 bt204.2.2.2.2.1 bt204.2.2.2.2.2 bt216.1 bt216.2.1 bt216.2.2.1 bt216.2.2.2.1 bt216.2.2.2.2.1 bt216.2.2.2.2.2)))) else (some false)))) else (some false)))))) = some r := H
  have A3 := zp.mk A30
  clear A30
  replace H := zs4 H
  obtain ⟨⟨t204, t205, t206, t207, t208, t209⟩, A40, H⟩ := H
  replace H : ((laws_toIntS.f k l0).bind fun t213 => ((impl_AggOf.f k t213).bind fun bt216 => ((laws_eqAgg.f k bt216.1 bt216.2.1 bt216.2.2.1 bt216.2.2.2.1 bt216.2.2.2.2.1 bt216.2.2.2.2.2 t204 t205 t206 t207 t208 t209).bind fun t225 => (if t225 = true then ((laws_toIntS.f k l0).bind fun t226 => ((laws_eqIntS.f k t213 t226).bind fun t229 => (if t229 = true then ((laws_markIntS.f k t213 1).bind fun bt230 => (if bt230.1 < 0 then (laws_FnExactAggOf.j0 k l0 true t204 t205 t206 t207 t208 t209 bt216.1 bt216.2.1 bt216.2.2.1 bt216.2.2.2.1 bt216.2.2.2.2.1 bt216.2.2.2.2.2) else ((laws_eqAgg.f k bt216.1 bt216.2.1 bt216.2.2.1 bt216.2.2.2.1 bt216.2.2.2.2.1 bt216.2.2.2.2.2 t204 t205 t206 t207 t208 t209).bind fun t232 => (laws_FnExactAggOf.j0 k l0 (!t232) t204 t205 t206 t207 t208 t209 bt216.1 bt216.2.1 bt216.2.2.1 bt216.2.2.2.1 bt216.2.2.2.2.1 bt216.2.2.2.2.2)))) else (some false)))) else (some false))))) = some r := H
  have A4 := zp.mk A40
  clear A40
  replace H := zs4 H
  obtain ⟨t213, A50, H⟩ := H
  replace H : ((impl_AggOf.f k t213).bind fun bt216 => ((laws_eqAgg.f k bt216.1 bt216.2.1 bt216.2.2.1 bt216.2.2.2.1 bt216.2.2.2.2.1 bt216.2.2.2.2.2 t204 t205 t206 t207 t208 t209).bind fun t225 => (if t225 = true then ((laws_toIntS.f k l0).bind fun t226 => ((laws_eqIntS.f k t213 t226).bind fun t229 => (if t229 = true then ((laws_markIntS.f k t213 1).bind fun bt230 => (if bt230.1 < 0 then (laws_FnExactAggOf.j0 k l0 true t204 t205 t206 t207 t208 t209 bt216.1 bt216.2.1 bt216.2.2.1 bt216.2.2.2.1 bt216.2.2.2.2.1 bt216.2.2.2.2.2) else ((laws_eqAgg.f k bt216.1 bt216.2.1 bt216.2.2.1 bt216.2.2.2.1 bt216.2.2.2.2.1 bt216.2.2.2.2.2 t204 t205 t206 t207 t208 t209).bind fun t232 => (laws_FnExactAggOf.j0 k l0 (!t232) t204 t205 t206 t207 t208 t209 bt216.1 bt216.2.1 bt216.2.2.1 bt216.2.2.2.1 bt216.2.2.2.2.1 bt216.2.2.2.2.2)))) else (some false)))) else (some false)))) = some r := H
  have A5 := zp.mk A50
  clear A50
  replace H := zs4 H
  obtain ⟨⟨t216, t217, t218, t219, t220, t221⟩, A60, H⟩ := H
  replace H : ((laws_eqAgg.f k t216 t217 t218 t219 t220 t221 t204 t205 t206 t207 t208 t209).bind fun t225 => (if t225 = true then ((laws_toIntS.f k l0).bind fun t226 => ((laws_eqIntS.f k t213 t226).bind fun t229 => (if t229 = true then ((laws_markIntS.f k t213 1).bind fun bt230 => (if bt230.1 < 0 then (laws_FnExactAggOf.j0 k l0 true t204 t205 t206 t207 t208 t209 t216 t217 t218 t219 t220 t221) else ((laws_eqAgg.f k t216 t217 t218 t219 t220 t221 t204 t205 t206 t207 t208 t209).bind fun t232 => (laws_FnExactAggOf.j0 k l0 (!t232) t204 t205 t206 t207 t208 t209 t216 t217 t218 t219 t220 t221)))) else (some false)))) else (some false))) = some r := H
  have A6 := zp.mk A60
  clear A60
  replace H := zs4 H
  obtain ⟨t225, A70, H⟩ := H
  replace H : (if t225 = true then ((laws_toIntS.f k l0).bind fun t226 => ((laws_eqIntS.f k t213 t226).bind fun t229 => (if t229 = true then ((laws_markIntS.f k t213 1).bind fun bt230 => (if bt230.1 < 0 then (laws_FnExactAggOf.j0 k l0 true t204 t205 t206 t207 t208 t209 t216 t217 t218 t219 t220 t221) else ((laws_eqAgg.f k t216 t217 t218 t219 t220 t221 t204 t205 t206 t207 t208 t209).bind fun t232 => (laws_FnExactAggOf.j0 k l0 (!t232) t204 t205 t206 t207 t208 t209 t216 t217 t218 t219 t220 t221)))) else (some false)))) else (some false)) = some r := H
  have A7 := zp.mk A70
  clear A70
  by_cases c8 : t225 = true
  ·subst c8
   have H1 : ((laws_toIntS.f k l0).bind fun t226 => ((laws_eqIntS.f k t213 t226).bind fun t229 => (if t229 = true then ((laws_markIntS.f k t213 1).bind fun bt230 => (if bt230.1 < 0 then (laws_FnExactAggOf.j0 k l0 true t204 t205 t206 t207 t208 t209 t216 t217 t218 t219 t220 t221) else ((laws_eqAgg.f k t216 t217 t218 t219 t220 t221 t204 t205 t206 t207 t208 t209).bind fun t232 => (laws_FnExactAggOf.j0 k l0 (!t232) t204 t205 t206 t207 t208 t209 t216 t217 t218 t219 t220 t221)))) else (some false)))) = some r := by rw [if_pos rfl] at H; exact H
   clear H
   have H := H1
   clear H1
   replace H := zs4 H
   obtain ⟨t226, A90, H⟩ := H
   replace H : ((laws_eqIntS.f k t213 t226).bind fun t229 => (if t229 = true then ((laws_markIntS.f k t213 1).bind fun bt230 => (if bt230.1 < 0 then (laws_FnExactAggOf.j0 k l0 true t204 t205 t206 t207 t208 t209 t216 t217 t218 t219 t220 t221) else ((laws_eqAgg.f k t216 t217 t218 t219 t220 t221 t204 t205 t206 t207 t208 t209).bind fun t232 => (laws_FnExactAggOf.j0 k l0 (!t232) t204 t205 t206 t207 t208 t209 t216 t217 t218 t219 t220 t221)))) else (some false))) = some r := H
   have A9 := zp.mk A90
   clear A90
   replace H := zs4 H
   obtain ⟨t229, A100, H⟩ := H
   replace H : (if t229 = true then ((laws_markIntS.f k t213 1).bind fun bt230 => (if bt230.1 < 0 then (laws_FnExactAggOf.j0 k l0 true t204 t205 t206 t207 t208 t209 t216 t217 t218 t219 t220 t221) else ((laws_eqAgg.f k t216 t217 t218 t219 t220 t221 t204 t205 t206 t207 t208 t209).bind fun t232 => (laws_FnExactAggOf.j0 k l0 (!t232) t204 t205 t206 t207 t208 t209 t216 t217 t218 t219 t220 t221)))) else (some false)) = some r := H
   have A10 := zp.mk A100
   clear A100
   by_cases c11 : t229 = true
   ·subst c11
    have H1 : ((laws_markIntS.f k t213 1).bind fun bt230 => (if bt230.1 < 0 then (laws_FnExactAggOf.j0 k l0 true t204 t205 t206 t207 t208 t209 t216 t217 t218 t219 t220 t221) else ((laws_eqAgg.f k t216 t217 t218 t219 t220 t221 t204 t205 t206 t207 t208 t209).bind fun t232 => (laws_FnExactAggOf.j0 k l0 (!t232) t204 t205 t206 t207 t208 t209 t216 t217 t218 t219 t220 t221)))) = some r := by rw [if_pos rfl] at H; exact H
    clear H
    have H := H1
    clear H1
    replace H := zs4 H
    obtain ⟨⟨t230, t231⟩, A120, H⟩ := H
    replace H : (if t230 < 0 then (laws_FnExactAggOf.j0 k l0 true t204 t205 t206 t207 t208 t209 t216 t217 t218 t219 t220 t221) else ((laws_eqAgg.f k t216 t217 t218 t219 t220 t221 t204 t205 t206 t207 t208 t209).bind fun t232 => (laws_FnExactAggOf.j0 k l0 (!t232) t204 t205 t206 t207 t208 t209 t216 t217 t218 t219 t220 t221))) = some r := H
    have A12 := zp.mk A120
    clear A120
    have HC13 := zp.mk H
    clear H
    go_enter Try.func6, Try.ntmps6
    go_upto_region 12 with (first | ((with_reducible refine zn (f := 20) rfl ?_); refine goesL_ (some 14) rfl rfl Try.func20 (by kernel_rfl) rfl #[.slice A0 l0.length c0] rfl (by (try simp only [List.map_toArray, List.map_cons, List.map_nil]); first | done | rfl | (simp only [List.length_drop, List.length_take]; rfl)) ?_; (with_reducible refine (laws_toIntS.calls k _ _ l0 t201 _ ?side1 ?side2 A3.out).mono ?_); (case side1 => repeat (first | exact HR0.out | (with_reducible refine Kd.zr ?_ _) | (with_reducible refine Kd.zq ?_ _) | (with_reducible refine Kd.C_drew ?_))); (case side2 => exact HC0.out); rintro e w14 ⟨v202, rfl, ho0, hb⟩; refine ⟨_, rfl, ?_⟩; have HO203 := zp.mk (Kd.R_lower ho0 (zk (zv6 HB.out))); replace HB := zp.mk (zj (zv6 HB.out) hb); (try clear hb); (try clear hb2); (try clear hk); (try clear hi); (try clear ho0); obtain ⟨Ao15, co15, eo15⟩ := Kd.R_slice HO203.out; subst eo15) | ((with_reducible refine zn (f := 22) rfl ?_); refine goesL_ (some 15) rfl rfl Try.func22 (by kernel_rfl) rfl #[.slice Ao15 t201.length co15] rfl (by (try simp only [List.map_toArray, List.map_cons, List.map_nil]); first | done | rfl | (simp only [List.length_drop, List.length_take]; rfl)) ?_; (with_reducible refine (spec_AggOf.calls k _ _ t201 t204 t205 t206 t207 t208 t209 _ ?side1 ?side2 A4.out).mono ?_); (case side1 => repeat (first | exact (Kd.R_reads' HO203.out).2.2 | (with_reducible refine Kd.zr ?_ _) | (with_reducible refine Kd.zq ?_ _) | (with_reducible refine Kd.C_drew ?_))); (case side2 => exact (Kd.R_reads' HO203.out).2.1); rintro e w16 ⟨v210, rfl, ho0, hb⟩; refine ⟨_, rfl, ?_⟩; have HO211 := zp.mk (Kd.R_lower (Kd.R_new' ho0 (Kd.R_lt (by (with_reducible repeat (first | apply Kd.R_alloc | apply Kd.R_drewN | apply Kd.R_drew)); exact HO203.out))) (zk (zv6 HB.out))); replace HO203 := zp.mk (Kd.R_elder' (by (with_reducible repeat (first | apply Kd.R_alloc | apply Kd.R_drewN | apply Kd.R_drew)); exact HO203.out) (Kd.R_base ho0) hb); replace HB := zp.mk (zj (zv6 HB.out) hb); (try clear hb); (try clear hb2); (try clear hk); (try clear hi); (try clear ho0)) | ((with_reducible refine zo (N := 3) rfl ?_); refine zm ?hg (N := 3) ?hd (cs := #[.int .i64 0, .int .i64 0, .int .u64 0, .int .i64 0, .int .i64 0, .slice none 0 0]) (t := 32) ?hr ?_; (case hd => rfl); (case hg => rfl); (case hr => first | (go_simp; done) | (go_simp; rfl)); intro gb212 hg w17 hbox hb; have BK212 := zp.mk (hbox); have GW212 := zp.mk ((zv3 (zv6 HB.out) hg)); have GE212 := zp.mk ((zv3 (zv6 HB.out) hg)); replace HO203 := zp.mk (Kd.R_below (by (with_reducible repeat (first | apply Kd.R_alloc | apply Kd.R_drewN | apply Kd.R_drew)); exact HO203.out) hb); replace HO211 := zp.mk (Kd.R_below (by (with_reducible repeat (first | apply Kd.R_alloc | apply Kd.R_drewN | apply Kd.R_drew)); exact HO211.out) hb); replace HB := zp.mk (zj (zv6 HB.out) hb); clear hb hbox hg; have y18_0 := zt0 BK212.out; have y18_1 := zt1 BK212.out; have y18_2 := zt2 BK212.out; have y18_3 := zt3 BK212.out; have y18_4 := zt4 BK212.out; have y18_5 := zt5 BK212.out; have u18_0 := zd BK212.out 0; have u18_1 := zd BK212.out 1; have u18_2 := zd BK212.out 2; have u18_3 := zd BK212.out 3; have u18_4 := zd BK212.out 4; have u18_5 := zd BK212.out 5; obtain ⟨Ao19, co19, eo19⟩ := Kd.R_slice HO211.out; subst eo19) | ((with_reducible refine zn (f := 20) rfl ?_); refine goesL_ (some 17) rfl rfl Try.func20 (by kernel_rfl) rfl #[.slice A0 l0.length c0] rfl (by (try simp only [List.map_toArray, List.map_cons, List.map_nil]); first | done | rfl | (simp only [List.length_drop, List.length_take]; rfl)) ?_; (with_reducible refine (laws_toIntS.calls k _ _ l0 t213 _ ?side1 ?side2 A5.out).mono ?_); (case side1 => exact Kd.zt HR0.out (zv7 HB.out)); (case side2 => exact HC0.out); rintro e w20 ⟨v214, rfl, ho0, hb⟩; refine ⟨_, rfl, ?_⟩; have HO215 := zp.mk (Kd.R_lower (Kd.R_new' (Kd.R_new' ho0 (Kd.R_lt (by (with_reducible repeat (first | apply Kd.R_alloc | apply Kd.R_drewN | apply Kd.R_drew)); exact (Kd.R_mono (Kd.R_far (p := ⟨gb212, 5, none⟩) (Kd.R_far (p := ⟨gb212, 4, none⟩) (Kd.R_far (p := ⟨gb212, 3, none⟩) (Kd.R_far (p := ⟨gb212, 2, none⟩) (Kd.R_far (p := ⟨gb212, 1, none⟩) (Kd.R_far (p := ⟨gb212, 0, none⟩) (Kd.R_types HO203.out BK212.out (by decide)) (fun _ hk => hk.2) (.int .i64 t204)) (fun _ hk => hk.2) (.int .i64 t205)) (fun _ hk => hk.2) (.int .u64 t206)) (fun _ hk => hk.2) (.int .i64 t207)) (fun _ hk => hk.2) (.int .i64 t208)) (fun _ hk => hk.2) (.slice Ao19 t209.length co19)) (fun _ h_ => h_.1))))) (Kd.R_lt (by (with_reducible repeat (first | apply Kd.R_alloc | apply Kd.R_drewN | apply Kd.R_drew)); exact (Kd.R_mono (Kd.R_far (p := ⟨gb212, 5, none⟩) (Kd.R_far (p := ⟨gb212, 4, none⟩) (Kd.R_far (p := ⟨gb212, 3, none⟩) (Kd.R_far (p := ⟨gb212, 2, none⟩) (Kd.R_far (p := ⟨gb212, 1, none⟩) (Kd.R_far (p := ⟨gb212, 0, none⟩) (Kd.R_types HO211.out BK212.out (by decide)) (fun _ hk => hk.2) (.int .i64 t204)) (fun _ hk => hk.2) (.int .i64 t205)) (fun _ hk => hk.2) (.int .u64 t206)) (fun _ hk => hk.2) (.int .i64 t207)) (fun _ hk => hk.2) (.int .i64 t208)) (fun _ hk => hk.2) (.slice Ao19 t209.length co19)) (fun _ h_ => h_.1))))) (zk (zv7 HB.out))); replace HO203 := zp.mk (Kd.R_elder' (by (with_reducible repeat (first | apply Kd.R_alloc | apply Kd.R_drewN | apply Kd.R_drew)); exact (Kd.R_mono (Kd.R_far (p := ⟨gb212, 5, none⟩) (Kd.R_far (p := ⟨gb212, 4, none⟩) (Kd.R_far (p := ⟨gb212, 3, none⟩) (Kd.R_far (p := ⟨gb212, 2, none⟩) (Kd.R_far (p := ⟨gb212, 1, none⟩) (Kd.R_far (p := ⟨gb212, 0, none⟩) (Kd.R_types HO203.out BK212.out (by decide)) (fun _ hk => hk.2) (.int .i64 t204)) (fun _ hk => hk.2) (.int .i64 t205)) (fun _ hk => hk.2) (.int .u64 t206)) (fun _ hk => hk.2) (.int .i64 t207)) (fun _ hk => hk.2) (.int .i64 t208)) (fun _ hk => hk.2) (.slice Ao19 t209.length co19)) (fun _ h_ => h_.1))) (Kd.R_base ho0) hb); replace HO211 := zp.mk (Kd.R_elder' (by (with_reducible repeat (first | apply Kd.R_alloc | apply Kd.R_drewN | apply Kd.R_drew)); exact (Kd.R_mono (Kd.R_far (p := ⟨gb212, 5, none⟩) (Kd.R_far (p := ⟨gb212, 4, none⟩) (Kd.R_far (p := ⟨gb212, 3, none⟩) (Kd.R_far (p := ⟨gb212, 2, none⟩) (Kd.R_far (p := ⟨gb212, 1, none⟩) (Kd.R_far (p := ⟨gb212, 0, none⟩) (Kd.R_types HO211.out BK212.out (by decide)) (fun _ hk => hk.2) (.int .i64 t204)) (fun _ hk => hk.2) (.int .i64 t205)) (fun _ hk => hk.2) (.int .u64 t206)) (fun _ hk => hk.2) (.int .i64 t207)) (fun _ hk => hk.2) (.int .i64 t208)) (fun _ hk => hk.2) (.slice Ao19 t209.length co19)) (fun _ h_ => h_.1))) (Kd.R_base ho0) hb); replace BK212 := zp.mk (zl (g := gb212) (o := .cells #[.int .i64 t204, .int .i64 t205, .int .u64 t206, .int .i64 t207, .int .i64 t208, .slice Ao19 t209.length co19] 32 (0, 0)) (by (with_reducible repeat (first | refine zf ?_ _ | refine zi ?_ | refine zg ?_ _)); refine blk_put (cs := #[.int .i64 t204, .int .i64 t205, .int .u64 t206, .int .i64 t207, .int .i64 t208, .slice none 0 0]) ?_ 5 _ rfl; (with_reducible repeat (first | refine zf ?_ _ | refine zi ?_ | refine zg ?_ _)); refine blk_put (cs := #[.int .i64 t204, .int .i64 t205, .int .u64 t206, .int .i64 t207, .int .i64 0, .slice none 0 0]) ?_ 4 _ rfl; (with_reducible repeat (first | refine zf ?_ _ | refine zi ?_ | refine zg ?_ _)); refine blk_put (cs := #[.int .i64 t204, .int .i64 t205, .int .u64 t206, .int .i64 0, .int .i64 0, .slice none 0 0]) ?_ 3 _ rfl; (with_reducible repeat (first | refine zf ?_ _ | refine zi ?_ | refine zg ?_ _)); refine blk_put (cs := #[.int .i64 t204, .int .i64 t205, .int .u64 0, .int .i64 0, .int .i64 0, .slice none 0 0]) ?_ 2 _ rfl; (with_reducible repeat (first | refine zf ?_ _ | refine zi ?_ | refine zg ?_ _)); refine blk_put (cs := #[.int .i64 t204, .int .i64 0, .int .u64 0, .int .i64 0, .int .i64 0, .slice none 0 0]) ?_ 1 _ rfl; (with_reducible repeat (first | refine zf ?_ _ | refine zi ?_ | refine zg ?_ _)); refine blk_put (cs := #[.int .i64 0, .int .i64 0, .int .u64 0, .int .i64 0, .int .i64 0, .slice none 0 0]) ?_ 0 _ rfl; (with_reducible repeat (first | refine zf ?_ _ | refine zi ?_ | refine zg ?_ _)); exact BK212.out) hb); replace HB := zp.mk (zj (zv7 HB.out) hb); (try clear hb); (try clear hb2); (try clear hk); (try clear hi); (try clear ho0); obtain ⟨Ao21, co21, eo21⟩ := Kd.R_slice HO215.out; subst eo21) | ((with_reducible refine zn (f := 23) rfl ?_); refine goesL_ (some 19) rfl rfl Try.func23 (by kernel_rfl) rfl #[.slice Ao21 t213.length co21] rfl (by (try simp only [List.map_toArray, List.map_cons, List.map_nil]); first | done | rfl | (simp only [List.length_drop, List.length_take]; rfl)) ?_; (with_reducible refine (impl_AggOf.calls k _ _ t213 t216 t217 t218 t219 t220 t221 _ ?side1 ?side2 A6.out).mono ?_); (case side1 => repeat (first | exact (Kd.R_reads' HO215.out).2.2 | (with_reducible refine Kd.zr ?_ _) | (with_reducible refine Kd.zq ?_ _) | (with_reducible refine Kd.C_drew ?_))); (case side2 => exact (Kd.R_reads' HO215.out).2.1); rintro e w22 ⟨v222, rfl, ho0, hb⟩; refine ⟨_, rfl, ?_⟩; have HO223 := zp.mk (Kd.R_lower (Kd.R_new' (Kd.R_new' (Kd.R_new' ho0 (Kd.R_lt (by (with_reducible repeat (first | apply Kd.R_alloc | apply Kd.R_drewN | apply Kd.R_drew)); exact HO203.out))) (Kd.R_lt (by (with_reducible repeat (first | apply Kd.R_alloc | apply Kd.R_drewN | apply Kd.R_drew)); exact HO211.out))) (Kd.R_lt (by (with_reducible repeat (first | apply Kd.R_alloc | apply Kd.R_drewN | apply Kd.R_drew)); exact HO215.out))) (zk (zv7 HB.out))); replace HO203 := zp.mk (Kd.R_elder' (by (with_reducible repeat (first | apply Kd.R_alloc | apply Kd.R_drewN | apply Kd.R_drew)); exact HO203.out) (Kd.R_base ho0) hb); replace HO211 := zp.mk (Kd.R_elder' (by (with_reducible repeat (first | apply Kd.R_alloc | apply Kd.R_drewN | apply Kd.R_drew)); exact HO211.out) (Kd.R_base ho0) hb); replace HO215 := zp.mk (Kd.R_elder' (by (with_reducible repeat (first | apply Kd.R_alloc | apply Kd.R_drewN | apply Kd.R_drew)); exact HO215.out) (Kd.R_base ho0) hb); replace BK212 := zp.mk (zl (zv8 BK212.out) hb); replace HB := zp.mk (zj (zv7 HB.out) hb); (try clear hb); (try clear hb2); (try clear hk); (try clear hi); (try clear ho0)) | ((with_reducible refine zo (N := 5) rfl ?_); refine zm ?hg (N := 5) ?hd (cs := #[.int .i64 0, .int .i64 0, .int .u64 0, .int .i64 0, .int .i64 0, .slice none 0 0]) (t := 32) ?hr ?_; (case hd => rfl); (case hg => rfl); (case hr => first | (go_simp; done) | (go_simp; rfl)); intro gb224 hg w23 hbox hb; have BK224 := zp.mk (hbox); have GW224 := zp.mk ((zv3 (zv7 HB.out) hg)); have GE224 := zp.mk ((zv3 (zv7 HB.out) hg)); have NB212_224 := zp.mk ((by rw [hg]; exact Nat.ne_of_lt (blk_lt (g := gb212) (o := .cells #[.int .i64 t204, .int .i64 t205, .int .u64 t206, .int .i64 t207, .int .i64 t208, .slice Ao19 t209.length co19] 32 (0, 0)) (zv8 BK212.out)) : gb212 ≠ gb224)); have NB224_212 := zp.mk ((by rw [hg]; exact Nat.ne_of_gt (blk_lt (g := gb212) (o := .cells #[.int .i64 t204, .int .i64 t205, .int .u64 t206, .int .i64 t207, .int .i64 t208, .slice Ao19 t209.length co19] 32 (0, 0)) (zv8 BK212.out)) : gb224 ≠ gb212)); replace HO203 := zp.mk (Kd.R_below (by (with_reducible repeat (first | apply Kd.R_alloc | apply Kd.R_drewN | apply Kd.R_drew)); exact HO203.out) hb); replace HO211 := zp.mk (Kd.R_below (by (with_reducible repeat (first | apply Kd.R_alloc | apply Kd.R_drewN | apply Kd.R_drew)); exact HO211.out) hb); replace HO215 := zp.mk (Kd.R_below (by (with_reducible repeat (first | apply Kd.R_alloc | apply Kd.R_drewN | apply Kd.R_drew)); exact HO215.out) hb); replace HO223 := zp.mk (Kd.R_below (by (with_reducible repeat (first | apply Kd.R_alloc | apply Kd.R_drewN | apply Kd.R_drew)); exact HO223.out) hb); replace BK212 := zp.mk (zl (zv8 BK212.out) hb); replace HB := zp.mk (zj (zv7 HB.out) hb); clear hb hbox hg; have hnb24 := NB224_212.out; have hnc24 := NB212_224.out; have y25_0 := zt0 BK224.out; have y25_1 := zt1 BK224.out; have y25_2 := zt2 BK224.out; have y25_3 := zt3 BK224.out; have y25_4 := zt4 BK224.out; have y25_5 := zt5 BK224.out; have u25_0 := zd BK224.out 0; have u25_1 := zd BK224.out 1; have u25_2 := zd BK224.out 2; have u25_3 := zd BK224.out 3; have u25_4 := zd BK224.out 4; have u25_5 := zd BK224.out 5; obtain ⟨Ao26, co26, eo26⟩ := Kd.R_slice HO223.out; subst eo26; have y27_0 := zt0 BK212.out; have y27_1 := zt1 BK212.out; have y27_2 := zt2 BK212.out; have y27_3 := zt3 BK212.out; have y27_4 := zt4 BK212.out; have y27_5 := zt5 BK212.out; have u27_0 := zd BK212.out 0; have u27_1 := zd BK212.out 1; have u27_2 := zd BK212.out 2; have u27_3 := zd BK212.out 3; have u27_4 := zd BK212.out 4; have u27_5 := zd BK212.out 5) | ((with_reducible refine zn (f := 12) rfl ?_); refine goesL_ (some 22) rfl rfl Try.func12 (by kernel_rfl) rfl #[.agg #[.int .i64 t216, .int .i64 t217, .int .u64 t218, .int .i64 t219, .int .i64 t220, .slice Ao26 t221.length co26], .agg #[.int .i64 t204, .int .i64 t205, .int .u64 t206, .int .i64 t207, .int .i64 t208, .slice Ao19 t209.length co19]] rfl (by (try simp only [List.map_toArray, List.map_cons, List.map_nil]); first | done | rfl | (simp only [List.length_drop, List.length_take]; rfl)) ?_; (with_reducible refine (laws_eqAgg.calls k t216 t217 t218 t219 t220 _ _ t221 t204 t205 t206 t207 t208 _ _ t209 true _ ?side1 ?side2 ?side3 ?side4 A7.out).mono ?_); (case side1 => refine (Kd.R_reads' (e := 3) (base := w.heap.size) (ok := fun k_ => (((True ∧ some k_ ≠ (.slice Ao15 t201.length co15 : Value).ownBlock) ∧ some k_ ≠ (.slice Ao19 t209.length co19 : Value).ownBlock) ∧ some k_ ≠ (.slice Ao21 t213.length co21 : Value).ownBlock)) (n := t221.length) (c := co26) ?_).2.2; exact (by (with_reducible repeat (first | apply Kd.R_alloc | apply Kd.R_drewN | apply Kd.R_drew)); exact (Kd.R_mono (Kd.R_far (p := ⟨gb224, 5, none⟩) (Kd.R_far (p := ⟨gb224, 4, none⟩) (Kd.R_far (p := ⟨gb224, 3, none⟩) (Kd.R_far (p := ⟨gb224, 2, none⟩) (Kd.R_far (p := ⟨gb224, 1, none⟩) (Kd.R_far (p := ⟨gb224, 0, none⟩) (Kd.R_types HO223.out BK224.out (by decide)) (fun _ hk => hk.2) (.int .i64 t216)) (fun _ hk => hk.2) (.int .i64 t217)) (fun _ hk => hk.2) (.int .u64 t218)) (fun _ hk => hk.2) (.int .i64 t219)) (fun _ hk => hk.2) (.int .i64 t220)) (fun _ hk => hk.2) (.slice Ao26 t221.length co26)) (fun _ h_ => h_.1)))); (case side2 => exact (Kd.R_reads' HO223.out).2.1); (case side3 => refine (Kd.R_reads' (e := 3) (base := w.heap.size) (ok := fun k_ => (((True ∧ some k_ ≠ (.slice Ao15 t201.length co15 : Value).ownBlock) ∧ some k_ ≠ (.slice Ao21 t213.length co21 : Value).ownBlock) ∧ some k_ ≠ (.slice Ao26 t221.length co26 : Value).ownBlock)) (n := t209.length) (c := co19) ?_).2.2; exact (by (with_reducible repeat (first | apply Kd.R_alloc | apply Kd.R_drewN | apply Kd.R_drew)); exact (Kd.R_mono (Kd.R_far (p := ⟨gb224, 5, none⟩) (Kd.R_far (p := ⟨gb224, 4, none⟩) (Kd.R_far (p := ⟨gb224, 3, none⟩) (Kd.R_far (p := ⟨gb224, 2, none⟩) (Kd.R_far (p := ⟨gb224, 1, none⟩) (Kd.R_far (p := ⟨gb224, 0, none⟩) (Kd.R_types HO211.out BK224.out (by decide)) (fun _ hk => hk.2) (.int .i64 t216)) (fun _ hk => hk.2) (.int .i64 t217)) (fun _ hk => hk.2) (.int .u64 t218)) (fun _ hk => hk.2) (.int .i64 t219)) (fun _ hk => hk.2) (.int .i64 t220)) (fun _ hk => hk.2) (.slice Ao26 t221.length co26)) (fun _ h_ => h_.1)))); (case side4 => exact (Kd.R_reads' HO211.out).2.1); rintro e w28 ⟨rfl, hb⟩; refine ⟨_, rfl, ?_⟩; replace HO203 := zp.mk (Kd.R_below (by (with_reducible repeat (first | apply Kd.R_alloc | apply Kd.R_drewN | apply Kd.R_drew)); exact (Kd.R_mono (Kd.R_far (p := ⟨gb224, 5, none⟩) (Kd.R_far (p := ⟨gb224, 4, none⟩) (Kd.R_far (p := ⟨gb224, 3, none⟩) (Kd.R_far (p := ⟨gb224, 2, none⟩) (Kd.R_far (p := ⟨gb224, 1, none⟩) (Kd.R_far (p := ⟨gb224, 0, none⟩) (Kd.R_types HO203.out BK224.out (by decide)) (fun _ hk => hk.2) (.int .i64 t216)) (fun _ hk => hk.2) (.int .i64 t217)) (fun _ hk => hk.2) (.int .u64 t218)) (fun _ hk => hk.2) (.int .i64 t219)) (fun _ hk => hk.2) (.int .i64 t220)) (fun _ hk => hk.2) (.slice Ao26 t221.length co26)) (fun _ h_ => h_.1))) hb); replace HO211 := zp.mk (Kd.R_below (by (with_reducible repeat (first | apply Kd.R_alloc | apply Kd.R_drewN | apply Kd.R_drew)); exact (Kd.R_mono (Kd.R_far (p := ⟨gb224, 5, none⟩) (Kd.R_far (p := ⟨gb224, 4, none⟩) (Kd.R_far (p := ⟨gb224, 3, none⟩) (Kd.R_far (p := ⟨gb224, 2, none⟩) (Kd.R_far (p := ⟨gb224, 1, none⟩) (Kd.R_far (p := ⟨gb224, 0, none⟩) (Kd.R_types HO211.out BK224.out (by decide)) (fun _ hk => hk.2) (.int .i64 t216)) (fun _ hk => hk.2) (.int .i64 t217)) (fun _ hk => hk.2) (.int .u64 t218)) (fun _ hk => hk.2) (.int .i64 t219)) (fun _ hk => hk.2) (.int .i64 t220)) (fun _ hk => hk.2) (.slice Ao26 t221.length co26)) (fun _ h_ => h_.1))) hb); replace HO215 := zp.mk (Kd.R_below (by (with_reducible repeat (first | apply Kd.R_alloc | apply Kd.R_drewN | apply Kd.R_drew)); exact (Kd.R_mono (Kd.R_far (p := ⟨gb224, 5, none⟩) (Kd.R_far (p := ⟨gb224, 4, none⟩) (Kd.R_far (p := ⟨gb224, 3, none⟩) (Kd.R_far (p := ⟨gb224, 2, none⟩) (Kd.R_far (p := ⟨gb224, 1, none⟩) (Kd.R_far (p := ⟨gb224, 0, none⟩) (Kd.R_types HO215.out BK224.out (by decide)) (fun _ hk => hk.2) (.int .i64 t216)) (fun _ hk => hk.2) (.int .i64 t217)) (fun _ hk => hk.2) (.int .u64 t218)) (fun _ hk => hk.2) (.int .i64 t219)) (fun _ hk => hk.2) (.int .i64 t220)) (fun _ hk => hk.2) (.slice Ao26 t221.length co26)) (fun _ h_ => h_.1))) hb); replace HO223 := zp.mk (Kd.R_below (by (with_reducible repeat (first | apply Kd.R_alloc | apply Kd.R_drewN | apply Kd.R_drew)); exact (Kd.R_mono (Kd.R_far (p := ⟨gb224, 5, none⟩) (Kd.R_far (p := ⟨gb224, 4, none⟩) (Kd.R_far (p := ⟨gb224, 3, none⟩) (Kd.R_far (p := ⟨gb224, 2, none⟩) (Kd.R_far (p := ⟨gb224, 1, none⟩) (Kd.R_far (p := ⟨gb224, 0, none⟩) (Kd.R_types HO223.out BK224.out (by decide)) (fun _ hk => hk.2) (.int .i64 t216)) (fun _ hk => hk.2) (.int .i64 t217)) (fun _ hk => hk.2) (.int .u64 t218)) (fun _ hk => hk.2) (.int .i64 t219)) (fun _ hk => hk.2) (.int .i64 t220)) (fun _ hk => hk.2) (.slice Ao26 t221.length co26)) (fun _ h_ => h_.1))) hb); replace BK212 := zp.mk (zl (g := gb212) (o := .cells #[.int .i64 t204, .int .i64 t205, .int .u64 t206, .int .i64 t207, .int .i64 t208, .slice Ao19 t209.length co19] 32 (0, 0)) (by (with_reducible repeat (first | refine zf ?_ _ | refine zi ?_ | refine zg ?_ _)); refine blk_far ?_ NB212_224.out _; (with_reducible repeat (first | refine zf ?_ _ | refine zi ?_ | refine zg ?_ _)); refine blk_far ?_ NB212_224.out _; (with_reducible repeat (first | refine zf ?_ _ | refine zi ?_ | refine zg ?_ _)); refine blk_far ?_ NB212_224.out _; (with_reducible repeat (first | refine zf ?_ _ | refine zi ?_ | refine zg ?_ _)); refine blk_far ?_ NB212_224.out _; (with_reducible repeat (first | refine zf ?_ _ | refine zi ?_ | refine zg ?_ _)); refine blk_far ?_ NB212_224.out _; (with_reducible repeat (first | refine zf ?_ _ | refine zi ?_ | refine zg ?_ _)); refine blk_far ?_ NB212_224.out _; (with_reducible repeat (first | refine zf ?_ _ | refine zi ?_ | refine zg ?_ _)); exact BK212.out) hb); replace BK224 := zp.mk (zl (g := gb224) (o := .cells #[.int .i64 t216, .int .i64 t217, .int .u64 t218, .int .i64 t219, .int .i64 t220, .slice Ao26 t221.length co26] 32 (0, 0)) (by (with_reducible repeat (first | refine zf ?_ _ | refine zi ?_ | refine zg ?_ _)); refine blk_put (cs := #[.int .i64 t216, .int .i64 t217, .int .u64 t218, .int .i64 t219, .int .i64 t220, .slice none 0 0]) ?_ 5 _ rfl; (with_reducible repeat (first | refine zf ?_ _ | refine zi ?_ | refine zg ?_ _)); refine blk_put (cs := #[.int .i64 t216, .int .i64 t217, .int .u64 t218, .int .i64 t219, .int .i64 0, .slice none 0 0]) ?_ 4 _ rfl; (with_reducible repeat (first | refine zf ?_ _ | refine zi ?_ | refine zg ?_ _)); refine blk_put (cs := #[.int .i64 t216, .int .i64 t217, .int .u64 t218, .int .i64 0, .int .i64 0, .slice none 0 0]) ?_ 3 _ rfl; (with_reducible repeat (first | refine zf ?_ _ | refine zi ?_ | refine zg ?_ _)); refine blk_put (cs := #[.int .i64 t216, .int .i64 t217, .int .u64 0, .int .i64 0, .int .i64 0, .slice none 0 0]) ?_ 2 _ rfl; (with_reducible repeat (first | refine zf ?_ _ | refine zi ?_ | refine zg ?_ _)); refine blk_put (cs := #[.int .i64 t216, .int .i64 0, .int .u64 0, .int .i64 0, .int .i64 0, .slice none 0 0]) ?_ 1 _ rfl; (with_reducible repeat (first | refine zf ?_ _ | refine zi ?_ | refine zg ?_ _)); refine blk_put (cs := #[.int .i64 0, .int .i64 0, .int .u64 0, .int .i64 0, .int .i64 0, .slice none 0 0]) ?_ 0 _ rfl; (with_reducible repeat (first | refine zf ?_ _ | refine zi ?_ | refine zg ?_ _)); exact BK224.out) hb); replace HB := zp.mk (zj (zv7 HB.out) hb); (try clear hb); (try clear hb2); (try clear hk); (try clear hi)) | ((with_reducible refine zn (f := 20) rfl ?_); refine goesL_ (some 26) rfl rfl Try.func20 (by kernel_rfl) rfl #[.slice A0 l0.length c0] rfl (by (try simp only [List.map_toArray, List.map_cons, List.map_nil]); first | done | rfl | (simp only [List.length_drop, List.length_take]; rfl)) ?_; (with_reducible refine (laws_toIntS.calls k _ _ l0 t226 _ ?side1 ?side2 A9.out).mono ?_); (case side1 => repeat (first | exact (Kd.zt HR0.out HB.out) | (with_reducible refine Kd.zr ?_ _) | (with_reducible refine Kd.zq ?_ _) | (with_reducible refine Kd.C_drew ?_))); (case side2 => exact HC0.out); rintro e w29 ⟨v227, rfl, ho0, hb⟩; refine ⟨_, rfl, ?_⟩; have HO228 := zp.mk (Kd.R_lower (Kd.R_new' (Kd.R_new' (Kd.R_new' (Kd.R_new' ho0 (Kd.R_lt (by (with_reducible repeat (first | apply Kd.R_alloc | apply Kd.R_drewN | apply Kd.R_drew)); exact HO203.out))) (Kd.R_lt (by (with_reducible repeat (first | apply Kd.R_alloc | apply Kd.R_drewN | apply Kd.R_drew)); exact HO211.out))) (Kd.R_lt (by (with_reducible repeat (first | apply Kd.R_alloc | apply Kd.R_drewN | apply Kd.R_drew)); exact HO215.out))) (Kd.R_lt (by (with_reducible repeat (first | apply Kd.R_alloc | apply Kd.R_drewN | apply Kd.R_drew)); exact HO223.out))) (zk (zv7 HB.out))); replace HO203 := zp.mk (Kd.R_elder' (by (with_reducible repeat (first | apply Kd.R_alloc | apply Kd.R_drewN | apply Kd.R_drew)); exact HO203.out) (Kd.R_base ho0) hb); replace HO211 := zp.mk (Kd.R_elder' (by (with_reducible repeat (first | apply Kd.R_alloc | apply Kd.R_drewN | apply Kd.R_drew)); exact HO211.out) (Kd.R_base ho0) hb); replace HO215 := zp.mk (Kd.R_elder' (by (with_reducible repeat (first | apply Kd.R_alloc | apply Kd.R_drewN | apply Kd.R_drew)); exact HO215.out) (Kd.R_base ho0) hb); replace HO223 := zp.mk (Kd.R_elder' (by (with_reducible repeat (first | apply Kd.R_alloc | apply Kd.R_drewN | apply Kd.R_drew)); exact HO223.out) (Kd.R_base ho0) hb); replace BK212 := zp.mk (zl (zv8 BK212.out) hb); replace BK224 := zp.mk (zl (zv8 BK224.out) hb); replace HB := zp.mk (zj (zv7 HB.out) hb); (try clear hb); (try clear hb2); (try clear hk); (try clear hi); (try clear ho0); obtain ⟨Ao30, co30, eo30⟩ := Kd.R_slice HO228.out; subst eo30) | ((with_reducible refine zn (f := 15) rfl ?_); refine goesL_ (some 27) rfl rfl Try.func15 (by kernel_rfl) rfl #[.slice Ao21 t213.length co21, .slice Ao30 t226.length co30] rfl (by (try simp only [List.map_toArray, List.map_cons, List.map_nil]); first | done | rfl | (simp only [List.length_drop, List.length_take]; rfl)) ?_; (with_reducible refine (laws_eqIntS.calls k _ _ t213 _ _ t226 true _ ?side1 ?side2 ?side3 ?side4 A10.out).mono ?_); (case side1 => repeat (first | exact (Kd.R_reads' HO215.out).2.2 | (with_reducible refine Kd.zr ?_ _) | (with_reducible refine Kd.zq ?_ _) | (with_reducible refine Kd.C_drew ?_))); (case side2 => exact (Kd.R_reads' HO215.out).2.1); (case side3 => repeat (first | exact (Kd.R_reads' HO228.out).2.2 | (with_reducible refine Kd.zr ?_ _) | (with_reducible refine Kd.zq ?_ _) | (with_reducible refine Kd.C_drew ?_))); (case side4 => exact (Kd.R_reads' HO228.out).2.1); rintro e w' ⟨rfl, ⟨nd, rfl⟩⟩; refine ⟨_, rfl, ?_⟩) | ((with_reducible refine zn (f := 17) rfl ?_); refine goesL_ (some 31) rfl rfl Try.func17 (by kernel_rfl) rfl #[.slice Ao21 t213.length co21, .int .i64 1] rfl (by (try simp only [List.map_toArray, List.map_cons, List.map_nil]); first | done | rfl | (simp only [List.length_drop, List.length_take]; rfl)) ?_; (with_reducible refine (laws_markIntS.calls k (fun k_ => some k_ = (.slice Ao21 t213.length co21 : Value).ownBlock) (.slice Ao21 t213.length co21) t213 1 t230 t231 w _ ?side1 ?side2 A12.out).mono ?_); (case side1 => repeat (first | (with_reducible first | exact HB.out | apply zc | apply za | apply zb | refine zh ?_ GE212.out | refine zh ?_ GE224.out) | exact HB.out)); (case side2 => exact Kd.R_tight rfl HO215.out); rintro e w31 ⟨rfl, hy0, hb, hkp⟩; refine ⟨_, rfl, ?_⟩; replace HO203 := zp.mk (Kd.R_mono (ok' := fun k_ => some k_ ≠ (.slice Ao19 t209.length co19 : Value).ownBlock ∧ some k_ ≠ (.slice Ao21 t213.length co21 : Value).ownBlock ∧ some k_ ≠ (.slice Ao26 t221.length co26 : Value).ownBlock ∧ some k_ ≠ (.slice Ao30 t226.length co30 : Value).ownBlock) (Kd.R_keptB (HO203.out) hkp (fun k_ hk_ hs_ => (hk_.1.1.2) hs_)) (fun k_ hk_ => ⟨hk_.1.1.1.1.2, hk_.1.1.1.2, hk_.1.1.2, hk_.1.2⟩)); replace HO211 := zp.mk (Kd.R_mono (ok' := fun k_ => some k_ ≠ (.slice Ao15 t201.length co15 : Value).ownBlock ∧ some k_ ≠ (.slice Ao21 t213.length co21 : Value).ownBlock ∧ some k_ ≠ (.slice Ao26 t221.length co26 : Value).ownBlock ∧ some k_ ≠ (.slice Ao30 t226.length co30 : Value).ownBlock) (Kd.R_keptB (HO211.out) hkp (fun k_ hk_ hs_ => (hk_.1.1.2) hs_)) (fun k_ hk_ => ⟨hk_.1.1.1.1.2, hk_.1.1.1.2, hk_.1.1.2, hk_.1.2⟩)); replace BK212 := zp.mk (blk_kept (zv8 BK212.out) hkp (fun hs_ => (fun e_ => (Kd.R_ne HO215.out BK212.out (by decide)) e_) hs_)); replace HO223 := zp.mk (Kd.R_mono (ok' := fun k_ => some k_ ≠ (.slice Ao15 t201.length co15 : Value).ownBlock ∧ some k_ ≠ (.slice Ao19 t209.length co19 : Value).ownBlock ∧ some k_ ≠ (.slice Ao21 t213.length co21 : Value).ownBlock ∧ some k_ ≠ (.slice Ao30 t226.length co30 : Value).ownBlock) (Kd.R_keptB (HO223.out) hkp (fun k_ hk_ hs_ => (hk_.1.2) hs_)) (fun k_ hk_ => ⟨hk_.1.1.1.1.2, hk_.1.1.1.2, hk_.1.1.2, hk_.1.2⟩)); replace BK224 := zp.mk (blk_kept (zv8 BK224.out) hkp (fun hs_ => (fun e_ => (Kd.R_ne HO215.out BK224.out (by decide)) e_) hs_)); replace HO215 := zp.mk (Kd.R_reok rfl hy0 (fun k_ e_ => HO215.out.1 k_ e_)); replace HO228 := zp.mk (Kd.R_mono (ok' := fun k_ => some k_ ≠ (.slice Ao15 t201.length co15 : Value).ownBlock ∧ some k_ ≠ (.slice Ao19 t209.length co19 : Value).ownBlock ∧ some k_ ≠ (.slice Ao21 t213.length co21 : Value).ownBlock ∧ some k_ ≠ (.slice Ao26 t221.length co26 : Value).ownBlock) (Kd.R_keptB (HO228.out) hkp (fun k_ hk_ hs_ => (hk_.1.2) hs_)) (fun k_ hk_ => ⟨hk_.1.1.1.1.2, hk_.1.1.1.2, hk_.1.1.2, hk_.1.2⟩)); replace HB := zp.mk (hb); (try clear hb); (try clear hkp); (try clear hy0)))
    (try simp only [Act.put, zs1, zs2, zs3])
    go_cut [39] (fun v39 wc => ∃ (kq : Nat) (x39_12 : Bool), v39 = .bool x39_12 ∧ zp (laws_FnExactAggOf.j0 kq l0 x39_12 t204 t205 t206 t207 t208 t209 t216 t217 t218 t219 t220 t221 = some r) ∧ zp (kq ≤ k) ∧ zp (Kd.R (Kd.int .i64) 3 wc w.heap.size (fun k_ => some k_ ≠ ((.slice Ao26 t221.length co26) : Value).ownBlock) (.slice Ao19 t209.length co19) t209) ∧ zp (Kd.R (Kd.int .i64) 3 wc w.heap.size (fun k_ => some k_ ≠ ((.slice Ao19 t209.length co19) : Value).ownBlock) (.slice Ao26 t221.length co26) t221) ∧ zp (wc.heap[gb212]? = some (.cells #[.int .i64 t204, .int .i64 t205, .int .u64 t206, .int .i64 t207, .int .i64 t208, (.slice Ao19 t209.length co19)] 32 (0, 0))) ∧ zp (wc.heap[gb224]? = some (.cells #[.int .i64 t216, .int .i64 t217, .int .u64 t218, .int .i64 t219, .int .i64 t220, (.slice Ao26 t221.length co26)] 32 (0, 0))) ∧ zp (Below w.heap.size w wc))
    case first =>
     have H := HC13.out
     clear HC13
     by_cases c32 : t230 < 0
     ·rw [if_pos c32] at H
      have c32b0 : decide (t230 < 0) = true := decide_eq_true c32
      clear c32
      (first | rw [c32b0] | (simp only [i64_w, i32_w]; rw [c32b0]) | skip)
      have H' := zp.mk H
      clear H
      go_wp2
      go_meet
      case rel => exact ⟨_, (true), (by first | rfl | (simp; done) | (simp [*]; done)), H', ⟨by first | omega | exact Nat.le_refl _⟩, ⟨by (with_reducible repeat (first | apply Kd.R_alloc | apply Kd.R_drewN | apply Kd.R_drew)); exact Kd.R_mono HO211.out (fun _ hk => hk.2.2.1)⟩, ⟨by (with_reducible repeat (first | apply Kd.R_alloc | apply Kd.R_drewN | apply Kd.R_drew)); exact Kd.R_mono HO223.out (fun _ hk => hk.2.1)⟩, ⟨zv8 BK212.out⟩, ⟨zv8 BK224.out⟩, ⟨zv7 HB.out⟩⟩
     ·rw [if_neg c32] at H
      have c32b0 : decide (t230 < 0) = false := decide_eq_false c32
      clear c32
      (first | rw [c32b0] | (simp only [i64_w, i32_w]; rw [c32b0]) | skip)
      replace H := zs4 H
      obtain ⟨t232, A330, H⟩ := H
      replace H : (laws_FnExactAggOf.j0 k l0 (!t232) t204 t205 t206 t207 t208 t209 t216 t217 t218 t219 t220 t221) = some r := H
      have A33 := zp.mk A330
      clear A330
      have H' := zp.mk H
      clear H
      have hnb34 := NB224_212.out
      have hnc34 := NB212_224.out
      have y35_0 := zt0 BK224.out
      have y35_1 := zt1 BK224.out
      have y35_2 := zt2 BK224.out
      have y35_3 := zt3 BK224.out
      have y35_4 := zt4 BK224.out
      have y35_5 := zt5 BK224.out
      have u35_0 := zd BK224.out 0
      have u35_1 := zd BK224.out 1
      have u35_2 := zd BK224.out 2
      have u35_3 := zd BK224.out 3
      have u35_4 := zd BK224.out 4
      have u35_5 := zd BK224.out 5
      have y36_0 := zt0 BK212.out
      have y36_1 := zt1 BK212.out
      have y36_2 := zt2 BK212.out
      have y36_3 := zt3 BK212.out
      have y36_4 := zt4 BK212.out
      have y36_5 := zt5 BK212.out
      have u36_0 := zd BK212.out 0
      have u36_1 := zd BK212.out 1
      have u36_2 := zd BK212.out 2
      have u36_3 := zd BK212.out 3
      have u36_4 := zd BK212.out 4
      have u36_5 := zd BK212.out 5
      go_wp2_with (first | (go_at_call 12; (with_reducible refine (laws_eqAgg.calls k t216 t217 t218 t219 t220 _ _ t221 t204 t205 t206 t207 t208 _ _ t209 t232 _ ?side1 ?side2 ?side3 ?side4 A33.out).mono ?_); (case side1 => repeat (first | exact (Kd.R_reads' HO223.out).2.2 | (with_reducible refine Kd.zr ?_ _) | (with_reducible refine Kd.zq ?_ _) | (with_reducible refine Kd.C_drew ?_))); (case side2 => exact (Kd.R_reads' HO223.out).2.1); (case side3 => repeat (first | exact (Kd.R_reads' HO211.out).2.2 | (with_reducible refine Kd.zr ?_ _) | (with_reducible refine Kd.zq ?_ _) | (with_reducible refine Kd.C_drew ?_))); (case side4 => exact (Kd.R_reads' HO211.out).2.1); rintro e w37 ⟨rfl, hb⟩; replace HO203 := zp.mk (Kd.R_below (by (with_reducible repeat (first | apply Kd.R_alloc | apply Kd.R_drewN | apply Kd.R_drew)); exact HO203.out) hb); replace HO211 := zp.mk (Kd.R_below (by (with_reducible repeat (first | apply Kd.R_alloc | apply Kd.R_drewN | apply Kd.R_drew)); exact HO211.out) hb); replace HO215 := zp.mk (Kd.R_below (by (with_reducible repeat (first | apply Kd.R_alloc | apply Kd.R_drewN | apply Kd.R_drew)); exact HO215.out) hb); replace HO223 := zp.mk (Kd.R_below (by (with_reducible repeat (first | apply Kd.R_alloc | apply Kd.R_drewN | apply Kd.R_drew)); exact HO223.out) hb); replace HO228 := zp.mk (Kd.R_below (by (with_reducible repeat (first | apply Kd.R_alloc | apply Kd.R_drewN | apply Kd.R_drew)); exact HO228.out) hb); replace BK212 := zp.mk (zl (zv8 BK212.out) hb); replace BK224 := zp.mk (zl (zv8 BK224.out) hb); replace HB := zp.mk (zj (zv7 HB.out) hb); (try clear hb); (try clear hb2); (try clear hk); (try clear hi)))
      go_meet
      case rel => exact ⟨_, (!t232), (by first | rfl | (simp; done) | (simp [*]; done)), H', ⟨by first | omega | exact Nat.le_refl _⟩, ⟨by (with_reducible repeat (first | apply Kd.R_alloc | apply Kd.R_drewN | apply Kd.R_drew)); exact Kd.R_mono HO211.out (fun _ hk => hk.2.2.1)⟩, ⟨by (with_reducible repeat (first | apply Kd.R_alloc | apply Kd.R_drewN | apply Kd.R_drew)); exact Kd.R_mono HO223.out (fun _ hk => hk.2.1)⟩, ⟨zv8 BK212.out⟩, ⟨zv8 BK224.out⟩, ⟨zv7 HB.out⟩⟩
    case rest =>
     clear HC13
     try clear c1
     try clear c2
     try clear c2b0
     try clear c2b1
     try clear p2
     try clear c3
     try clear c6
     try clear c8
     try clear c11
     try clear c12
     try clear c15
     try clear c17
     try clear c20
     try clear c22
     try clear c23
     try clear c24
     try clear c32
     try clear c32b0
     try clear c34
     try clear y18_0
     try clear y18_1
     try clear y18_2
     try clear y18_3
     try clear y18_4
     try clear y18_5
     try clear y25_0
     try clear y25_1
     try clear y25_2
     try clear y25_3
     try clear y25_4
     try clear y25_5
     try clear y27_0
     try clear y27_1
     try clear y27_2
     try clear y27_3
     try clear y27_4
     try clear y27_5
     try clear y35_0
     try clear y35_1
     try clear y35_2
     try clear y35_3
     try clear y35_4
     try clear y35_5
     try clear y36_0
     try clear y36_1
     try clear y36_2
     try clear y36_3
     try clear y36_4
     try clear y36_5
     try clear u18_0
     try clear u18_1
     try clear u18_2
     try clear u18_3
     try clear u18_4
     try clear u18_5
     try clear u25_0
     try clear u25_1
     try clear u25_2
     try clear u25_3
     try clear u25_4
     try clear u25_5
     try clear u27_0
     try clear u27_1
     try clear u27_2
     try clear u27_3
     try clear u27_4
     try clear u27_5
     try clear u35_0
     try clear u35_1
     try clear u35_2
     try clear u35_3
     try clear u35_4
     try clear u35_5
     try clear u36_0
     try clear u36_1
     try clear u36_2
     try clear u36_3
     try clear u36_4
     try clear u36_5
     obtain ⟨kq, x39_12, rfl, HA, HJ12, HO_213005, HO_225005, BK212, BK224, HB⟩ := hcut
     cases kq with
     | zero => exact absurd HA.out (by simp [laws_FnExactAggOf.j0])
     | succ kj12 =>
      have H := HA.out
      clear HA
      simp only [laws_FnExactAggOf.j0] at H
      by_cases c38 : x39_12 = true
      ·subst c38
       have H1 : (some false) = some r := by rw [if_pos rfl] at H; exact H
       clear H
       have H := H1
       clear H1
       exact absurd ((Option.some.inj H).trans hr_) (by decide)
      ·replace c38 := Bool.eq_false_iff.mpr c38
       subst c38
       have H1 : ((laws_markAgg.f kj12 t216 t217 t218 t219 t220 t221 1).bind fun bt233 => ((laws_heldAgg.f kj12 t216 t217 t218 t219 t220 bt233.2 1).bind fun t235 => (if t235 < 0 then (some false) else (if t235 = bt233.1 then ((laws_toIntS.f kj12 l0).bind fun t236 => ((impl_AggOf.f kj12 t236).bind fun bt239 => ((laws_eqAgg.f kj12 bt239.1 bt239.2.1 bt239.2.2.1 bt239.2.2.2.1 bt239.2.2.2.2.1 bt239.2.2.2.2.2 t204 t205 t206 t207 t208 t209).bind fun t248 => (if t248 = true then ((laws_heldAgg.f kj12 t216 t217 t218 t219 t220 bt233.2 1).bind fun t249 => (if t249 < 0 then (some false) else (if t249 = bt233.1 then (some true) else (some false)))) else (some false))))) else (some false))))) = some r := by rw [if_neg (show ¬ (false = true) by decide)] at H; exact H
       clear H
       have H := H1
       clear H1
       replace H := zs4 H
       obtain ⟨⟨t233, t234⟩, A390, H⟩ := H
       replace H : ((laws_heldAgg.f kj12 t216 t217 t218 t219 t220 t234 1).bind fun t235 => (if t235 < 0 then (some false) else (if t235 = t233 then ((laws_toIntS.f kj12 l0).bind fun t236 => ((impl_AggOf.f kj12 t236).bind fun bt239 => ((laws_eqAgg.f kj12 bt239.1 bt239.2.1 bt239.2.2.1 bt239.2.2.2.1 bt239.2.2.2.2.1 bt239.2.2.2.2.2 t204 t205 t206 t207 t208 t209).bind fun t248 => (if t248 = true then ((laws_heldAgg.f kj12 t216 t217 t218 t219 t220 t234 1).bind fun t249 => (if t249 < 0 then (some false) else (if t249 = t233 then (some true) else (some false)))) else (some false))))) else (some false)))) = some r := H
       have A39 := zp.mk A390
       clear A390
       replace H := zs4 H
       obtain ⟨t235, A400, H⟩ := H
       replace H : (if t235 < 0 then (some false) else (if t235 = t233 then ((laws_toIntS.f kj12 l0).bind fun t236 => ((impl_AggOf.f kj12 t236).bind fun bt239 => ((laws_eqAgg.f kj12 bt239.1 bt239.2.1 bt239.2.2.1 bt239.2.2.2.1 bt239.2.2.2.2.1 bt239.2.2.2.2.2 t204 t205 t206 t207 t208 t209).bind fun t248 => (if t248 = true then ((laws_heldAgg.f kj12 t216 t217 t218 t219 t220 t234 1).bind fun t249 => (if t249 < 0 then (some false) else (if t249 = t233 then (some true) else (some false)))) else (some false))))) else (some false))) = some r := H
       have A40 := zp.mk A400
       clear A400
       by_cases c41 : t235 < 0
       ·rw [if_pos c41] at H
        have c41b0 : decide (t235 < 0) = true := decide_eq_true c41
        clear c41
        exact absurd ((Option.some.inj H).trans hr_) (by decide)
       ·rw [if_neg c41] at H
        have c41b0 : decide (t235 < 0) = false := decide_eq_false c41
        clear c41
        by_cases c42 : t235 = t233
        ·rw [if_pos c42] at H
         have c42b0 : (t235 == t233) = true := beq_iff_eq.mpr c42
         have c42b1 : (t235 != t233) = false := bne_eq_false_iff_eq.mpr c42
         clear c42
         replace H := zs4 H
         obtain ⟨t236, A430, H⟩ := H
         replace H : ((impl_AggOf.f kj12 t236).bind fun bt239 => ((laws_eqAgg.f kj12 bt239.1 bt239.2.1 bt239.2.2.1 bt239.2.2.2.1 bt239.2.2.2.2.1 bt239.2.2.2.2.2 t204 t205 t206 t207 t208 t209).bind fun t248 => (if t248 = true then ((laws_heldAgg.f kj12 t216 t217 t218 t219 t220 t234 1).bind fun t249 => (if t249 < 0 then (some false) else (if t249 = t233 then (some true) else (some false)))) else (some false)))) = some r := H
         have A43 := zp.mk A430
         clear A430
         replace H := zs4 H
         obtain ⟨⟨t239, t240, t241, t242, t243, t244⟩, A440, H⟩ := H
         replace H : ((laws_eqAgg.f kj12 t239 t240 t241 t242 t243 t244 t204 t205 t206 t207 t208 t209).bind fun t248 => (if t248 = true then ((laws_heldAgg.f kj12 t216 t217 t218 t219 t220 t234 1).bind fun t249 => (if t249 < 0 then (some false) else (if t249 = t233 then (some true) else (some false)))) else (some false))) = some r := H
         have A44 := zp.mk A440
         clear A440
         replace H := zs4 H
         obtain ⟨t248, A450, H⟩ := H
         replace H : (if t248 = true then ((laws_heldAgg.f kj12 t216 t217 t218 t219 t220 t234 1).bind fun t249 => (if t249 < 0 then (some false) else (if t249 = t233 then (some true) else (some false)))) else (some false)) = some r := H
         have A45 := zp.mk A450
         clear A450
         by_cases c46 : t248 = true
         ·subst c46
          have H1 : ((laws_heldAgg.f kj12 t216 t217 t218 t219 t220 t234 1).bind fun t249 => (if t249 < 0 then (some false) else (if t249 = t233 then (some true) else (some false)))) = some r := by rw [if_pos rfl] at H; exact H
          clear H
          have H := H1
          clear H1
          replace H := zs4 H
          obtain ⟨t249, A470, H⟩ := H
          replace H : (if t249 < 0 then (some false) else (if t249 = t233 then (some true) else (some false))) = some r := H
          have A47 := zp.mk A470
          clear A470
          by_cases c48 : t249 < 0
          ·rw [if_pos c48] at H
           have c48b0 : decide (t249 < 0) = true := decide_eq_true c48
           clear c48
           exact absurd ((Option.some.inj H).trans hr_) (by decide)
          ·rw [if_neg c48] at H
           have c48b0 : decide (t249 < 0) = false := decide_eq_false c48
           clear c48
           by_cases c49 : t249 = t233
           ·rw [if_pos c49] at H
            have c49b0 : (t249 == t233) = true := beq_iff_eq.mpr c49
            have c49b1 : (t249 != t233) = false := bne_eq_false_iff_eq.mpr c49
            clear c49
            obtain rfl := Option.some.inj H
            have hnb50 := NB224_212.out
            have hnc50 := NB212_224.out
            have y51_0 := zt0 BK224.out
            have y51_1 := zt1 BK224.out
            have y51_2 := zt2 BK224.out
            have y51_3 := zt3 BK224.out
            have y51_4 := zt4 BK224.out
            have y51_5 := zt5 BK224.out
            have u51_0 := zd BK224.out 0
            have u51_1 := zd BK224.out 1
            have u51_2 := zd BK224.out 2
            have u51_3 := zd BK224.out 3
            have u51_4 := zd BK224.out 4
            have u51_5 := zd BK224.out 5
            go_wp2_with (first | ((with_reducible refine zn (f := 16) rfl ?_); refine goesL_ (some 42) rfl rfl Try.func16 (by kernel_rfl) rfl #[.agg #[.int .i64 t216, .int .i64 t217, .int .u64 t218, .int .i64 t219, .int .i64 t220, .slice Ao26 t221.length co26], .int .i64 1] rfl (by (try simp only [List.map_toArray, List.map_cons, List.map_nil]); first | done | rfl | (simp only [List.length_drop, List.length_take]; rfl)) ?_; (with_reducible refine (laws_markAgg.calls kj12 t216 t217 t218 t219 t220 (fun k_ => some k_ = (.slice Ao26 t221.length co26 : Value).ownBlock) (.slice Ao26 t221.length co26) t221 1 t233 t234 w _ ?side1 ?side2 A39.out).mono ?_); (case side1 => repeat (first | (with_reducible first | exact HB.out | apply zc | apply za | apply zb | refine zh ?_ GE212.out | refine zh ?_ GE224.out) | exact HB.out)); (case side2 => exact Kd.R_tight rfl HO_225005.out); rintro e w52 ⟨rfl, hy0, hb, hkp⟩; refine ⟨_, rfl, ?_⟩; replace HO_213005 := zp.mk (Kd.R_mono (ok' := fun k_ => some k_ ≠ (.slice Ao26 t221.length co26 : Value).ownBlock) (Kd.R_keptB (HO_213005.out) hkp (fun k_ hk_ hs_ => (hk_) hs_)) (fun k_ hk_ => hk_.1)); replace BK212 := zp.mk (blk_kept (zv8 BK212.out) hkp (fun hs_ => (fun e_ => (Kd.R_ne HO_225005.out BK212.out (by decide)) e_) hs_)); replace BK224 := zp.mk (blk_kept (zv8 BK224.out) hkp (fun hs_ => (fun e_ => (Kd.R_ne HO_225005.out BK224.out (by decide)) e_) hs_)); replace HO_225005 := zp.mk (Kd.R_reok rfl hy0 (fun k_ e_ => HO_225005.out.1 k_ e_)); replace HB := zp.mk (hb); (try clear hb); (try clear hkp); (try clear hy0); have y53_0 := zt0 BK224.out; have y53_1 := zt1 BK224.out; have y53_2 := zt2 BK224.out; have y53_3 := zt3 BK224.out; have y53_4 := zt4 BK224.out; have y53_5 := zt5 BK224.out; have u53_0 := zd BK224.out 0; have u53_1 := zd BK224.out 1; have u53_2 := zd BK224.out 2; have u53_3 := zd BK224.out 3; have u53_4 := zd BK224.out 4; have u53_5 := zd BK224.out 5) | ((with_reducible refine zn (f := 24) rfl ?_); refine goesL_ (some 45) rfl rfl Try.func24 (by kernel_rfl) rfl #[.agg #[.int .i64 t216, .int .i64 t217, .int .u64 t218, .int .i64 t219, .int .i64 t220, .slice Ao26 t234.length co26], .int .i64 1] rfl (by (try simp only [List.map_toArray, List.map_cons, List.map_nil]); first | done | (rw [show t234.length = t221.length from (Kd.R_reads' HO_225005.out).1.symm] <;> rfl) | rfl | (simp only [List.length_drop, List.length_take]; rfl)) ?_; (with_reducible refine (laws_heldAgg.calls kj12 t216 t217 t218 t219 t220 _ _ t234 1 t235 _ ?side1 ?side2 A40.out).mono ?_); (case side1 => repeat (first | exact (Kd.R_reads' HO_225005.out).2.2 | (with_reducible refine Kd.zr ?_ _) | (with_reducible refine Kd.zq ?_ _) | (with_reducible refine Kd.C_drew ?_))); (case side2 => rw [show t234.length = t221.length from (Kd.R_reads' HO_225005.out).1.symm]; exact (Kd.R_reads' HO_225005.out).2.1); rintro e w54 ⟨rfl, hb⟩; refine ⟨_, rfl, ?_⟩; replace HO_213005 := zp.mk (Kd.R_below (by (with_reducible repeat (first | apply Kd.R_alloc | apply Kd.R_drewN | apply Kd.R_drew)); exact HO_213005.out) hb); replace HO_225005 := zp.mk (Kd.R_below (by (with_reducible repeat (first | apply Kd.R_alloc | apply Kd.R_drewN | apply Kd.R_drew)); exact HO_225005.out) hb); replace BK212 := zp.mk (zl (zv8 BK212.out) hb); replace BK224 := zp.mk (zl (zv8 BK224.out) hb); replace HB := zp.mk (zj (zv7 HB.out) hb); (try clear hb); (try clear hb2); (try clear hk); (try clear hi)) | ((with_reducible refine zn (f := 20) rfl ?_); refine goesL_ (some 52) rfl rfl Try.func20 (by kernel_rfl) rfl #[.slice A0 l0.length c0] rfl (by (try simp only [List.map_toArray, List.map_cons, List.map_nil]); first | done | rfl | (simp only [List.length_drop, List.length_take]; rfl)) ?_; (with_reducible refine (laws_toIntS.calls kj12 _ _ l0 t236 _ ?side1 ?side2 A43.out).mono ?_); (case side1 => repeat (first | exact (Kd.zt HR0.out HB.out) | (with_reducible refine Kd.zr ?_ _) | (with_reducible refine Kd.zq ?_ _) | (with_reducible refine Kd.C_drew ?_))); (case side2 => exact HC0.out); rintro e w55 ⟨v237, rfl, ho0, hb⟩; refine ⟨_, rfl, ?_⟩; have HO238 := zp.mk (Kd.R_lower (Kd.R_new' (Kd.R_new' ho0 (Kd.R_lt (by (with_reducible repeat (first | apply Kd.R_alloc | apply Kd.R_drewN | apply Kd.R_drew)); exact HO_213005.out))) (Kd.R_lt (by (with_reducible repeat (first | apply Kd.R_alloc | apply Kd.R_drewN | apply Kd.R_drew)); exact HO_225005.out))) (zk (zv7 HB.out))); replace HO_213005 := zp.mk (Kd.R_elder' (by (with_reducible repeat (first | apply Kd.R_alloc | apply Kd.R_drewN | apply Kd.R_drew)); exact HO_213005.out) (Kd.R_base ho0) hb); replace HO_225005 := zp.mk (Kd.R_elder' (by (with_reducible repeat (first | apply Kd.R_alloc | apply Kd.R_drewN | apply Kd.R_drew)); exact HO_225005.out) (Kd.R_base ho0) hb); replace BK212 := zp.mk (zl (zv8 BK212.out) hb); replace BK224 := zp.mk (zl (zv8 BK224.out) hb); replace HB := zp.mk (zj (zv7 HB.out) hb); (try clear hb); (try clear hb2); (try clear hk); (try clear hi); (try clear ho0); obtain ⟨Ao56, co56, eo56⟩ := Kd.R_slice HO238.out; subst eo56) | ((with_reducible refine zn (f := 23) rfl ?_); refine goesL_ (some 53) rfl rfl Try.func23 (by kernel_rfl) rfl #[.slice Ao56 t236.length co56] rfl (by (try simp only [List.map_toArray, List.map_cons, List.map_nil]); first | done | rfl | (simp only [List.length_drop, List.length_take]; rfl)) ?_; (with_reducible refine (impl_AggOf.calls kj12 _ _ t236 t239 t240 t241 t242 t243 t244 _ ?side1 ?side2 A44.out).mono ?_); (case side1 => repeat (first | exact (Kd.R_reads' HO238.out).2.2 | (with_reducible refine Kd.zr ?_ _) | (with_reducible refine Kd.zq ?_ _) | (with_reducible refine Kd.C_drew ?_))); (case side2 => exact (Kd.R_reads' HO238.out).2.1); rintro e w57 ⟨v245, rfl, ho0, hb⟩; refine ⟨_, rfl, ?_⟩; have HO246 := zp.mk (Kd.R_lower (Kd.R_new' (Kd.R_new' (Kd.R_new' ho0 (Kd.R_lt (by (with_reducible repeat (first | apply Kd.R_alloc | apply Kd.R_drewN | apply Kd.R_drew)); exact HO_213005.out))) (Kd.R_lt (by (with_reducible repeat (first | apply Kd.R_alloc | apply Kd.R_drewN | apply Kd.R_drew)); exact HO_225005.out))) (Kd.R_lt (by (with_reducible repeat (first | apply Kd.R_alloc | apply Kd.R_drewN | apply Kd.R_drew)); exact HO238.out))) (zk (zv7 HB.out))); replace HO_213005 := zp.mk (Kd.R_elder' (by (with_reducible repeat (first | apply Kd.R_alloc | apply Kd.R_drewN | apply Kd.R_drew)); exact HO_213005.out) (Kd.R_base ho0) hb); replace HO_225005 := zp.mk (Kd.R_elder' (by (with_reducible repeat (first | apply Kd.R_alloc | apply Kd.R_drewN | apply Kd.R_drew)); exact HO_225005.out) (Kd.R_base ho0) hb); replace HO238 := zp.mk (Kd.R_elder' (by (with_reducible repeat (first | apply Kd.R_alloc | apply Kd.R_drewN | apply Kd.R_drew)); exact HO238.out) (Kd.R_base ho0) hb); replace BK212 := zp.mk (zl (zv8 BK212.out) hb); replace BK224 := zp.mk (zl (zv8 BK224.out) hb); replace HB := zp.mk (zj (zv7 HB.out) hb); (try clear hb); (try clear hb2); (try clear hk); (try clear hi); (try clear ho0)) | ((with_reducible refine zo (N := 9) rfl ?_); refine zm ?hg (N := 9) ?hd (cs := #[.int .i64 0, .int .i64 0, .int .u64 0, .int .i64 0, .int .i64 0, .slice none 0 0]) (t := 32) ?hr ?_; (case hd => rfl); (case hg => rfl); (case hr => first | (go_simp; done) | (go_simp; rfl)); intro gb247 hg w58 hbox hb; have BK247 := zp.mk (hbox); have GW247 := zp.mk ((zv3 (zv7 HB.out) hg)); have GE247 := zp.mk ((zv3 (zv7 HB.out) hg)); have NB212_247 := zp.mk ((by rw [hg]; exact Nat.ne_of_lt (blk_lt (g := gb212) (o := .cells #[.int .i64 t204, .int .i64 t205, .int .u64 t206, .int .i64 t207, .int .i64 t208, .slice Ao19 t209.length co19] 32 (0, 0)) (zv8 BK212.out)) : gb212 ≠ gb247)); have NB247_212 := zp.mk ((by rw [hg]; exact Nat.ne_of_gt (blk_lt (g := gb212) (o := .cells #[.int .i64 t204, .int .i64 t205, .int .u64 t206, .int .i64 t207, .int .i64 t208, .slice Ao19 t209.length co19] 32 (0, 0)) (zv8 BK212.out)) : gb247 ≠ gb212)); have NB224_247 := zp.mk ((by rw [hg]; exact Nat.ne_of_lt (blk_lt (g := gb224) (o := .cells #[.int .i64 t216, .int .i64 t217, .int .u64 t218, .int .i64 t219, .int .i64 t220, .slice Ao26 t221.length co26] 32 (0, 0)) (zv8 BK224.out)) : gb224 ≠ gb247)); have NB247_224 := zp.mk ((by rw [hg]; exact Nat.ne_of_gt (blk_lt (g := gb224) (o := .cells #[.int .i64 t216, .int .i64 t217, .int .u64 t218, .int .i64 t219, .int .i64 t220, .slice Ao26 t221.length co26] 32 (0, 0)) (zv8 BK224.out)) : gb247 ≠ gb224)); replace HO_213005 := zp.mk (Kd.R_below (by (with_reducible repeat (first | apply Kd.R_alloc | apply Kd.R_drewN | apply Kd.R_drew)); exact HO_213005.out) hb); replace HO_225005 := zp.mk (Kd.R_below (by (with_reducible repeat (first | apply Kd.R_alloc | apply Kd.R_drewN | apply Kd.R_drew)); exact HO_225005.out) hb); replace HO238 := zp.mk (Kd.R_below (by (with_reducible repeat (first | apply Kd.R_alloc | apply Kd.R_drewN | apply Kd.R_drew)); exact HO238.out) hb); replace HO246 := zp.mk (Kd.R_below (by (with_reducible repeat (first | apply Kd.R_alloc | apply Kd.R_drewN | apply Kd.R_drew)); exact HO246.out) hb); replace BK212 := zp.mk (zl (zv8 BK212.out) hb); replace BK224 := zp.mk (zl (zv8 BK224.out) hb); replace HB := zp.mk (zj (zv7 HB.out) hb); clear hb hbox hg; have hnb59 := NB247_212.out; have hnc59 := NB212_247.out; have hnb60 := NB247_224.out; have hnc60 := NB224_247.out; have y61_0 := zt0 BK247.out; have y61_1 := zt1 BK247.out; have y61_2 := zt2 BK247.out; have y61_3 := zt3 BK247.out; have y61_4 := zt4 BK247.out; have y61_5 := zt5 BK247.out; have u61_0 := zd BK247.out 0; have u61_1 := zd BK247.out 1; have u61_2 := zd BK247.out 2; have u61_3 := zd BK247.out 3; have u61_4 := zd BK247.out 4; have u61_5 := zd BK247.out 5; obtain ⟨Ao62, co62, eo62⟩ := Kd.R_slice HO246.out; subst eo62; have y63_0 := zt0 BK212.out; have y63_1 := zt1 BK212.out; have y63_2 := zt2 BK212.out; have y63_3 := zt3 BK212.out; have y63_4 := zt4 BK212.out; have y63_5 := zt5 BK212.out; have u63_0 := zd BK212.out 0; have u63_1 := zd BK212.out 1; have u63_2 := zd BK212.out 2; have u63_3 := zd BK212.out 3; have u63_4 := zd BK212.out 4; have u63_5 := zd BK212.out 5) | ((with_reducible refine zn (f := 12) rfl ?_); refine goesL_ (some 56) rfl rfl Try.func12 (by kernel_rfl) rfl #[.agg #[.int .i64 t239, .int .i64 t240, .int .u64 t241, .int .i64 t242, .int .i64 t243, .slice Ao62 t244.length co62], .agg #[.int .i64 t204, .int .i64 t205, .int .u64 t206, .int .i64 t207, .int .i64 t208, .slice Ao19 t209.length co19]] rfl (by (try simp only [List.map_toArray, List.map_cons, List.map_nil]); first | done | rfl | (simp only [List.length_drop, List.length_take]; rfl)) ?_; (with_reducible refine (laws_eqAgg.calls kj12 t239 t240 t241 t242 t243 _ _ t244 t204 t205 t206 t207 t208 _ _ t209 true _ ?side1 ?side2 ?side3 ?side4 A45.out).mono ?_); (case side1 => refine (Kd.R_reads' (e := 3) (base := w.heap.size) (ok := fun k_ => (((True ∧ some k_ ≠ (.slice Ao19 t209.length co19 : Value).ownBlock) ∧ some k_ ≠ (.slice Ao26 t221.length co26 : Value).ownBlock) ∧ some k_ ≠ (.slice Ao56 t236.length co56 : Value).ownBlock)) (n := t244.length) (c := co62) ?_).2.2; exact (by (with_reducible repeat (first | apply Kd.R_alloc | apply Kd.R_drewN | apply Kd.R_drew)); exact (Kd.R_mono (Kd.R_far (p := ⟨gb247, 5, none⟩) (Kd.R_far (p := ⟨gb247, 4, none⟩) (Kd.R_far (p := ⟨gb247, 3, none⟩) (Kd.R_far (p := ⟨gb247, 2, none⟩) (Kd.R_far (p := ⟨gb247, 1, none⟩) (Kd.R_far (p := ⟨gb247, 0, none⟩) (Kd.R_types HO246.out BK247.out (by decide)) (fun _ hk => hk.2) (.int .i64 t239)) (fun _ hk => hk.2) (.int .i64 t240)) (fun _ hk => hk.2) (.int .u64 t241)) (fun _ hk => hk.2) (.int .i64 t242)) (fun _ hk => hk.2) (.int .i64 t243)) (fun _ hk => hk.2) (.slice Ao62 t244.length co62)) (fun _ h_ => h_.1)))); (case side2 => exact (Kd.R_reads' HO246.out).2.1); (case side3 => refine (Kd.R_reads' (e := 3) (base := w.heap.size) (ok := fun k_ => ((some k_ ≠ (.slice Ao26 t221.length co26 : Value).ownBlock ∧ some k_ ≠ (.slice Ao56 t236.length co56 : Value).ownBlock) ∧ some k_ ≠ (.slice Ao62 t244.length co62 : Value).ownBlock)) (n := t209.length) (c := co19) ?_).2.2; exact (by (with_reducible repeat (first | apply Kd.R_alloc | apply Kd.R_drewN | apply Kd.R_drew)); exact (Kd.R_mono (Kd.R_far (p := ⟨gb247, 5, none⟩) (Kd.R_far (p := ⟨gb247, 4, none⟩) (Kd.R_far (p := ⟨gb247, 3, none⟩) (Kd.R_far (p := ⟨gb247, 2, none⟩) (Kd.R_far (p := ⟨gb247, 1, none⟩) (Kd.R_far (p := ⟨gb247, 0, none⟩) (Kd.R_types HO_213005.out BK247.out (by decide)) (fun _ hk => hk.2) (.int .i64 t239)) (fun _ hk => hk.2) (.int .i64 t240)) (fun _ hk => hk.2) (.int .u64 t241)) (fun _ hk => hk.2) (.int .i64 t242)) (fun _ hk => hk.2) (.int .i64 t243)) (fun _ hk => hk.2) (.slice Ao62 t244.length co62)) (fun _ h_ => h_.1)))); (case side4 => exact (Kd.R_reads' HO_213005.out).2.1); rintro e w64 ⟨rfl, hb⟩; refine ⟨_, rfl, ?_⟩; replace HO_213005 := zp.mk (Kd.R_below (by (with_reducible repeat (first | apply Kd.R_alloc | apply Kd.R_drewN | apply Kd.R_drew)); exact (Kd.R_mono (Kd.R_far (p := ⟨gb247, 5, none⟩) (Kd.R_far (p := ⟨gb247, 4, none⟩) (Kd.R_far (p := ⟨gb247, 3, none⟩) (Kd.R_far (p := ⟨gb247, 2, none⟩) (Kd.R_far (p := ⟨gb247, 1, none⟩) (Kd.R_far (p := ⟨gb247, 0, none⟩) (Kd.R_types HO_213005.out BK247.out (by decide)) (fun _ hk => hk.2) (.int .i64 t239)) (fun _ hk => hk.2) (.int .i64 t240)) (fun _ hk => hk.2) (.int .u64 t241)) (fun _ hk => hk.2) (.int .i64 t242)) (fun _ hk => hk.2) (.int .i64 t243)) (fun _ hk => hk.2) (.slice Ao62 t244.length co62)) (fun _ h_ => h_.1))) hb); replace HO_225005 := zp.mk (Kd.R_below (by (with_reducible repeat (first | apply Kd.R_alloc | apply Kd.R_drewN | apply Kd.R_drew)); exact (Kd.R_mono (Kd.R_far (p := ⟨gb247, 5, none⟩) (Kd.R_far (p := ⟨gb247, 4, none⟩) (Kd.R_far (p := ⟨gb247, 3, none⟩) (Kd.R_far (p := ⟨gb247, 2, none⟩) (Kd.R_far (p := ⟨gb247, 1, none⟩) (Kd.R_far (p := ⟨gb247, 0, none⟩) (Kd.R_types HO_225005.out BK247.out (by decide)) (fun _ hk => hk.2) (.int .i64 t239)) (fun _ hk => hk.2) (.int .i64 t240)) (fun _ hk => hk.2) (.int .u64 t241)) (fun _ hk => hk.2) (.int .i64 t242)) (fun _ hk => hk.2) (.int .i64 t243)) (fun _ hk => hk.2) (.slice Ao62 t244.length co62)) (fun _ h_ => h_.1))) hb); replace HO238 := zp.mk (Kd.R_below (by (with_reducible repeat (first | apply Kd.R_alloc | apply Kd.R_drewN | apply Kd.R_drew)); exact (Kd.R_mono (Kd.R_far (p := ⟨gb247, 5, none⟩) (Kd.R_far (p := ⟨gb247, 4, none⟩) (Kd.R_far (p := ⟨gb247, 3, none⟩) (Kd.R_far (p := ⟨gb247, 2, none⟩) (Kd.R_far (p := ⟨gb247, 1, none⟩) (Kd.R_far (p := ⟨gb247, 0, none⟩) (Kd.R_types HO238.out BK247.out (by decide)) (fun _ hk => hk.2) (.int .i64 t239)) (fun _ hk => hk.2) (.int .i64 t240)) (fun _ hk => hk.2) (.int .u64 t241)) (fun _ hk => hk.2) (.int .i64 t242)) (fun _ hk => hk.2) (.int .i64 t243)) (fun _ hk => hk.2) (.slice Ao62 t244.length co62)) (fun _ h_ => h_.1))) hb); replace HO246 := zp.mk (Kd.R_below (by (with_reducible repeat (first | apply Kd.R_alloc | apply Kd.R_drewN | apply Kd.R_drew)); exact (Kd.R_mono (Kd.R_far (p := ⟨gb247, 5, none⟩) (Kd.R_far (p := ⟨gb247, 4, none⟩) (Kd.R_far (p := ⟨gb247, 3, none⟩) (Kd.R_far (p := ⟨gb247, 2, none⟩) (Kd.R_far (p := ⟨gb247, 1, none⟩) (Kd.R_far (p := ⟨gb247, 0, none⟩) (Kd.R_types HO246.out BK247.out (by decide)) (fun _ hk => hk.2) (.int .i64 t239)) (fun _ hk => hk.2) (.int .i64 t240)) (fun _ hk => hk.2) (.int .u64 t241)) (fun _ hk => hk.2) (.int .i64 t242)) (fun _ hk => hk.2) (.int .i64 t243)) (fun _ hk => hk.2) (.slice Ao62 t244.length co62)) (fun _ h_ => h_.1))) hb); replace BK212 := zp.mk (zl (g := gb212) (o := .cells #[.int .i64 t204, .int .i64 t205, .int .u64 t206, .int .i64 t207, .int .i64 t208, .slice Ao19 t209.length co19] 32 (0, 0)) (by (with_reducible repeat (first | refine zf ?_ _ | refine zi ?_ | refine zg ?_ _)); refine blk_far ?_ NB212_247.out _; (with_reducible repeat (first | refine zf ?_ _ | refine zi ?_ | refine zg ?_ _)); refine blk_far ?_ NB212_247.out _; (with_reducible repeat (first | refine zf ?_ _ | refine zi ?_ | refine zg ?_ _)); refine blk_far ?_ NB212_247.out _; (with_reducible repeat (first | refine zf ?_ _ | refine zi ?_ | refine zg ?_ _)); refine blk_far ?_ NB212_247.out _; (with_reducible repeat (first | refine zf ?_ _ | refine zi ?_ | refine zg ?_ _)); refine blk_far ?_ NB212_247.out _; (with_reducible repeat (first | refine zf ?_ _ | refine zi ?_ | refine zg ?_ _)); refine blk_far ?_ NB212_247.out _; (with_reducible repeat (first | refine zf ?_ _ | refine zi ?_ | refine zg ?_ _)); exact BK212.out) hb); replace BK224 := zp.mk (zl (g := gb224) (o := .cells #[.int .i64 t216, .int .i64 t217, .int .u64 t218, .int .i64 t219, .int .i64 t220, .slice Ao26 t221.length co26] 32 (0, 0)) (by (with_reducible repeat (first | refine zf ?_ _ | refine zi ?_ | refine zg ?_ _)); refine blk_far ?_ NB224_247.out _; (with_reducible repeat (first | refine zf ?_ _ | refine zi ?_ | refine zg ?_ _)); refine blk_far ?_ NB224_247.out _; (with_reducible repeat (first | refine zf ?_ _ | refine zi ?_ | refine zg ?_ _)); refine blk_far ?_ NB224_247.out _; (with_reducible repeat (first | refine zf ?_ _ | refine zi ?_ | refine zg ?_ _)); refine blk_far ?_ NB224_247.out _; (with_reducible repeat (first | refine zf ?_ _ | refine zi ?_ | refine zg ?_ _)); refine blk_far ?_ NB224_247.out _; (with_reducible repeat (first | refine zf ?_ _ | refine zi ?_ | refine zg ?_ _)); refine blk_far ?_ NB224_247.out _; (with_reducible repeat (first | refine zf ?_ _ | refine zi ?_ | refine zg ?_ _)); exact BK224.out) hb); replace BK247 := zp.mk (zl (g := gb247) (o := .cells #[.int .i64 t239, .int .i64 t240, .int .u64 t241, .int .i64 t242, .int .i64 t243, .slice Ao62 t244.length co62] 32 (0, 0)) (by (with_reducible repeat (first | refine zf ?_ _ | refine zi ?_ | refine zg ?_ _)); refine blk_put (cs := #[.int .i64 t239, .int .i64 t240, .int .u64 t241, .int .i64 t242, .int .i64 t243, .slice none 0 0]) ?_ 5 _ rfl; (with_reducible repeat (first | refine zf ?_ _ | refine zi ?_ | refine zg ?_ _)); refine blk_put (cs := #[.int .i64 t239, .int .i64 t240, .int .u64 t241, .int .i64 t242, .int .i64 0, .slice none 0 0]) ?_ 4 _ rfl; (with_reducible repeat (first | refine zf ?_ _ | refine zi ?_ | refine zg ?_ _)); refine blk_put (cs := #[.int .i64 t239, .int .i64 t240, .int .u64 t241, .int .i64 0, .int .i64 0, .slice none 0 0]) ?_ 3 _ rfl; (with_reducible repeat (first | refine zf ?_ _ | refine zi ?_ | refine zg ?_ _)); refine blk_put (cs := #[.int .i64 t239, .int .i64 t240, .int .u64 0, .int .i64 0, .int .i64 0, .slice none 0 0]) ?_ 2 _ rfl; (with_reducible repeat (first | refine zf ?_ _ | refine zi ?_ | refine zg ?_ _)); refine blk_put (cs := #[.int .i64 t239, .int .i64 0, .int .u64 0, .int .i64 0, .int .i64 0, .slice none 0 0]) ?_ 1 _ rfl; (with_reducible repeat (first | refine zf ?_ _ | refine zi ?_ | refine zg ?_ _)); refine blk_put (cs := #[.int .i64 0, .int .i64 0, .int .u64 0, .int .i64 0, .int .i64 0, .slice none 0 0]) ?_ 0 _ rfl; (with_reducible repeat (first | refine zf ?_ _ | refine zi ?_ | refine zg ?_ _)); exact BK247.out) hb); replace HB := zp.mk (zj (zv7 HB.out) hb); (try clear hb); (try clear hb2); (try clear hk); (try clear hi); have y65_0 := zt0 BK224.out; have y65_1 := zt1 BK224.out; have y65_2 := zt2 BK224.out; have y65_3 := zt3 BK224.out; have y65_4 := zt4 BK224.out; have y65_5 := zt5 BK224.out; have u65_0 := zd BK224.out 0; have u65_1 := zd BK224.out 1; have u65_2 := zd BK224.out 2; have u65_3 := zd BK224.out 3; have u65_4 := zd BK224.out 4; have u65_5 := zd BK224.out 5) | ((with_reducible refine zn (f := 24) rfl ?_); refine goesL_ (some 60) rfl rfl Try.func24 (by kernel_rfl) rfl #[.agg #[.int .i64 t216, .int .i64 t217, .int .u64 t218, .int .i64 t219, .int .i64 t220, .slice Ao26 t234.length co26], .int .i64 1] rfl (by (try simp only [List.map_toArray, List.map_cons, List.map_nil]); first | done | (rw [show t234.length = t221.length from (Kd.R_reads' HO_225005.out).1.symm] <;> rfl) | rfl | (simp only [List.length_drop, List.length_take]; rfl)) ?_; (with_reducible refine (laws_heldAgg.calls kj12 t216 t217 t218 t219 t220 _ _ t234 1 t249 _ ?side1 ?side2 A47.out).mono ?_); (case side1 => repeat (first | exact (Kd.R_reads' HO_225005.out).2.2 | (with_reducible refine Kd.zr ?_ _) | (with_reducible refine Kd.zq ?_ _) | (with_reducible refine Kd.C_drew ?_))); (case side2 => rw [show t234.length = t221.length from (Kd.R_reads' HO_225005.out).1.symm]; exact (Kd.R_reads' HO_225005.out).2.1); rintro e w66 ⟨rfl, hb⟩; refine ⟨_, rfl, ?_⟩; replace HO_213005 := zp.mk (Kd.R_below (by (with_reducible repeat (first | apply Kd.R_alloc | apply Kd.R_drewN | apply Kd.R_drew)); exact HO_213005.out) hb); replace HO_225005 := zp.mk (Kd.R_below (by (with_reducible repeat (first | apply Kd.R_alloc | apply Kd.R_drewN | apply Kd.R_drew)); exact HO_225005.out) hb); replace HO238 := zp.mk (Kd.R_below (by (with_reducible repeat (first | apply Kd.R_alloc | apply Kd.R_drewN | apply Kd.R_drew)); exact HO238.out) hb); replace HO246 := zp.mk (Kd.R_below (by (with_reducible repeat (first | apply Kd.R_alloc | apply Kd.R_drewN | apply Kd.R_drew)); exact HO246.out) hb); replace BK212 := zp.mk (zl (zv8 BK212.out) hb); replace BK224 := zp.mk (zl (zv8 BK224.out) hb); replace BK247 := zp.mk (zl (zv8 BK247.out) hb); replace HB := zp.mk (zj (zv7 HB.out) hb); (try clear hb); (try clear hb2); (try clear hk); (try clear hi)))
            go_ret
            exact ⟨by first | rfl | (simp [errW_none, errW_some] <;> rfl) | (simp [*, errW_none, errW_some] <;> rfl), zv7 HB.out⟩
           ·rw [if_neg c49] at H
            have c49b0 : (t249 == t233) = false := beq_eq_false_iff_ne.mpr c49
            have c49b1 : (t249 != t233) = true := bne_iff_ne.mpr c49
            exact absurd ((Option.some.inj H).trans hr_) (by decide)
         ·replace c46 := Bool.eq_false_iff.mpr c46
          subst c46
          have H1 : (some false) = some r := by rw [if_neg (show ¬ (false = true) by decide)] at H; exact H
          clear H
          have H := H1
          clear H1
          exact absurd ((Option.some.inj H).trans hr_) (by decide)
        ·rw [if_neg c42] at H
         have c42b0 : (t235 == t233) = false := beq_eq_false_iff_ne.mpr c42
         have c42b1 : (t235 != t233) = true := bne_iff_ne.mpr c42
         exact absurd ((Option.some.inj H).trans hr_) (by decide)
   ·replace c11 := Bool.eq_false_iff.mpr c11
    subst c11
    have H1 : (some false) = some r := by rw [if_neg (show ¬ (false = true) by decide)] at H; exact H
    clear H
    have H := H1
    clear H1
    exact absurd ((Option.some.inj H).trans hr_) (by decide)
  ·replace c8 := Bool.eq_false_iff.mpr c8
   subst c8
   have H1 : (some false) = some r := by rw [if_neg (show ¬ (false = true) by decide)] at H; exact H
   clear H
   have H := H1
   clear H1
   exact absurd ((Option.some.inj H).trans hr_) (by decide)

/-- THE ONE PURE STATEMENT of laws_FnExactAggOf: yours. -/
def laws_FnExactAggOf.Pure : Prop := ∀ (l0 : List Int), l0.length ≤ maxLen → l0.length * 8 ≤ 140737488351232 → (∀ x ∈ l0, (Lit.int .i64 x).wf = true) → ∃ k, laws_FnExactAggOf.f k l0 = some true
theorem laws_FnExactAggOf.walk (P : laws_FnExactAggOf.Pure) (a0 : Option Addr) (len0 cap0 : Nat) (z0 : List Int) (w : World) (w0 : (a0 = none ∧ len0 = 0 ∧ cap0 = 0 ∧ z0 = []) ∨ ∃ x, a0 = some x ∧ len0 ≤ cap0 ∧ cap0 ≤ maxLen ∧ z0.length = cap0 ∧ (∀ i, i < z0.length → w.cell? (x.add i) = some (.int .i64 (z0.getD i 0))) ∧ ∀ n ∈ z0, (Lit.int .i64 n).wf = true) (y0 : len0 * 8 ≤ 140737488351232) :
  Calls Try.prog 6 #[.slice a0 len0 cap0] w fun e w' => e = .returned (.bool true) ∧ Below w.heap.size w w' := by
 obtain ⟨l0, rfl, hr0, hm0, hw0, hc0⟩ := ReadsInt.ofRowC w0
 obtain ⟨k, h⟩ := P l0 hm0 y0 hw0
 refine (laws_FnExactAggOf.calls k _ _ l0 true w (Kd.C_of_reads (d := (0 : Int)) (h1 := fun _ => rfl) hr0) hc0 rfl h).mono ?_
 rintro e w' ⟨rfl, hd⟩
 exact ⟨rfl, hd⟩

end Go.Proofs.Ytnnahpmnkpmopaa.QFnExactAggOf
