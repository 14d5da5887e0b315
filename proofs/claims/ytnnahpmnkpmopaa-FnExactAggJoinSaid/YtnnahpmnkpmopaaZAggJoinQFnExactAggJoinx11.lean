/- Proved: calls of the program come to the answers of the plain Lean functions that stand beside them. Each contract names its conditions. (Written by a program of this session, over the printer of the kit.) -/
import Derived.Test.YtnnahpmnkpmopaaZAggJoinQFnExactAggJoinx11a
import Derived.Test.YtnnahpmnkpmopaaZAggJoinQFnExactAggJoinx0
import Derived.Test.YtnnahpmnkpmopaaZAggJoinQFnExactAggJoinx2
import Derived.Test.YtnnahpmnkpmopaaZAggJoinQFnExactAggJoinx6
import Derived.Test.YtnnahpmnkpmopaaZAggJoinQFnExactAggJoinx10
namespace Go.Proofs.Ytnnahpmnkpmopaa.QFnExactAggJoin
open Go.RowKit Go.Proofs.YtnnahpmnkpmopaaW.PrintWords Go.Proofs.YtnnahpmnkpmopaaW.PrintLast Go.Proofs.YtnnahpmnkpmopaaW.PrintMore
attribute [local go_sem] max2_int min2_int max_two min_two max_three min_three max_four min_four   -- for this text's walks alone
set_option linter.unusedVariables false
set_option linter.unusedSimpArgs false

set_option maxHeartbeats 8000000 in
set_option maxRecDepth 100000 in
theorem laws_FnExactAggJoin.calls (k : Nat) (ag : Int) (ac : Int) (ad : Int) (af : Int) (ae : Int) (ce : Option Addr) (cf : Nat) (y : List Int) (al : Int) (aj : Int) (ai : Int) (ah : Int) (ak : Int) (cq : Option Addr) (co : Nat) (ab : List Int) (r : Bool) (w : World) (fB : Kd.C (Kd.int .i64) w ce y.length y) (ga : y.length ≤ cf) (fw : Kd.C (Kd.int .i64) w cq ab.length ab) (gp : ab.length ≤ co) (hr_ : r = true) (h : laws_FnExactAggJoin.f k ag ac ad af ae y al aj ai ah ak ab = some r) :
  Calls Try.prog 7 #[.agg #[.int .i64 ag, .int .i64 ac, .int .u64 ad, .int .i64 af, .int .i64 ae, .slice ce y.length cf], .agg #[.int .i64 al, .int .i64 aj, .int .u64 ai, .int .i64 ah, .int .i64 ak, .slice cq ab.length co]] w fun e w' => e = .returned (.bool r) ∧ Below w.heap.size w w' := by
 have tF := Try.underlying27
 have tz := Try.underlying32
 have dY := zp.mk fB
 have dV := zp.mk ga
 clear fB ga
 have d4 := zp.mk fw
 have d3 := zp.mk gp
 clear fw gp
 have HB := zp.mk (Below.refl w.heap.size w)
 have H : ((laws_szAgg.f ag ac ad af ae y 1048576).bind fun dv => (if dv < 0 then (some true) else ((laws_szAgg.f al aj ai ah ak ab dv).bind fun dN => (if dN < 0 then (some true) else ((laws_toAgg.f k ag ac ad af ae y).bind fun cu => ((laws_toAgg.f k al aj ai ah ak ab).bind fun cg => ((spec_AggJoin.f k cu.1 cu.2.1 cu.2.2.1 cu.2.2.2.1 cu.2.2.2.2.1 cu.2.2.2.2.2 cg.1 cg.2.1 cg.2.2.1 cg.2.2.2.1 cg.2.2.2.2.1 cg.2.2.2.2.2).bind fun l => ((laws_toAgg.f k ag ac ad af ae y).bind fun Z => ((laws_toAgg.f k al aj ai ah ak ab).bind fun X => ((impl_AggJoin.f k Z.1 Z.2.1 Z.2.2.1 Z.2.2.2.1 Z.2.2.2.2.1 Z.2.2.2.2.2 X.1 X.2.1 X.2.2.1 X.2.2.2.1 X.2.2.2.2.1 X.2.2.2.2.2).bind fun O => ((laws_eqAgg.f k O.1 O.2.1 O.2.2.1 O.2.2.2.1 O.2.2.2.2.1 O.2.2.2.2.2.1 l.1 l.2.1 l.2.2.1 l.2.2.2.1 l.2.2.2.2.1 l.2.2.2.2.2.1).bind fun dl => (if dl = true then (laws_FnExactAggJoin.j0 k l.2.2.2.2.2.2 O.2.2.2.2.2.2 (O.2.2.2.2.2.2 != l.2.2.2.2.2.2) ag ac ad af ae y al aj ai ah ak ab l.1 l.2.1 l.2.2.1 l.2.2.2.1 l.2.2.2.2.1 l.2.2.2.2.2.1 Z.1 Z.2.1 Z.2.2.1 Z.2.2.2.1 Z.2.2.2.2.1 Z.2.2.2.2.2 X.1 X.2.1 X.2.2.1 X.2.2.2.1 X.2.2.2.2.1 X.2.2.2.2.2 O.1 O.2.1 O.2.2.1 O.2.2.2.1 O.2.2.2.2.1 O.2.2.2.2.2.1) else (laws_FnExactAggJoin.j0 k l.2.2.2.2.2.2 O.2.2.2.2.2.2 true ag ac ad af ae y al aj ai ah ak ab l.1 l.2.1 l.2.2.1 l.2.2.2.1 l.2.2.2.2.1 l.2.2.2.2.2.1 Z.1 Z.2.1 Z.2.2.1 Z.2.2.2.1 Z.2.2.2.2.1 Z.2.2.2.2.2 X.1 X.2.1 X.2.2.1 X.2.2.2.1 X.2.2.2.2.1 X.2.2.2.2.2 O.1 O.2.1 O.2.2.1 O.2.2.2.1 O.2.2.2.2.1 O.2.2.2.2.2.1))))))))))))) = some r := h
 clear h
 replace H := zs4 H
 obtain ⟨dv, oL, H⟩ := H
 replace H : (if dv < 0 then (some true) else ((laws_szAgg.f al aj ai ah ak ab dv).bind fun dN => (if dN < 0 then (some true) else ((laws_toAgg.f k ag ac ad af ae y).bind fun cu => ((laws_toAgg.f k al aj ai ah ak ab).bind fun cg => ((spec_AggJoin.f k cu.1 cu.2.1 cu.2.2.1 cu.2.2.2.1 cu.2.2.2.2.1 cu.2.2.2.2.2 cg.1 cg.2.1 cg.2.2.1 cg.2.2.2.1 cg.2.2.2.2.1 cg.2.2.2.2.2).bind fun l => ((laws_toAgg.f k ag ac ad af ae y).bind fun Z => ((laws_toAgg.f k al aj ai ah ak ab).bind fun X => ((impl_AggJoin.f k Z.1 Z.2.1 Z.2.2.1 Z.2.2.2.1 Z.2.2.2.2.1 Z.2.2.2.2.2 X.1 X.2.1 X.2.2.1 X.2.2.2.1 X.2.2.2.2.1 X.2.2.2.2.2).bind fun O => ((laws_eqAgg.f k O.1 O.2.1 O.2.2.1 O.2.2.2.1 O.2.2.2.2.1 O.2.2.2.2.2.1 l.1 l.2.1 l.2.2.1 l.2.2.2.1 l.2.2.2.2.1 l.2.2.2.2.2.1).bind fun dl => (if dl = true then (laws_FnExactAggJoin.j0 k l.2.2.2.2.2.2 O.2.2.2.2.2.2 (O.2.2.2.2.2.2 != l.2.2.2.2.2.2) ag ac ad af ae y al aj ai ah ak ab l.1 l.2.1 l.2.2.1 l.2.2.2.1 l.2.2.2.2.1 l.2.2.2.2.2.1 Z.1 Z.2.1 Z.2.2.1 Z.2.2.2.1 Z.2.2.2.2.1 Z.2.2.2.2.2 X.1 X.2.1 X.2.2.1 X.2.2.2.1 X.2.2.2.2.1 X.2.2.2.2.2 O.1 O.2.1 O.2.2.1 O.2.2.2.1 O.2.2.2.2.1 O.2.2.2.2.2.1) else (laws_FnExactAggJoin.j0 k l.2.2.2.2.2.2 O.2.2.2.2.2.2 true ag ac ad af ae y al aj ai ah ak ab l.1 l.2.1 l.2.2.1 l.2.2.2.1 l.2.2.2.2.1 l.2.2.2.2.2.1 Z.1 Z.2.1 Z.2.2.1 Z.2.2.2.1 Z.2.2.2.2.1 Z.2.2.2.2.2 X.1 X.2.1 X.2.2.1 X.2.2.2.1 X.2.2.2.2.1 X.2.2.2.2.2 O.1 O.2.1 O.2.2.1 O.2.2.2.1 O.2.2.2.2.1 O.2.2.2.2.2.1)))))))))))) = some r := H
 have A3 := zp.mk oL
 clear oL
 by_cases c4 : dv < 0
 ·rw [if_pos c4] at H
  have jl : decide (dv < 0) = true := decide_eq_true c4
  clear c4
  obtain rfl := Option.some.inj H
  go_enter Try.func7, Try.ntmps7
  go_wp2_with (first | ((with_reducible refine zo (N := 2) rfl ?_); refine zm ?hg (N := 2) ?hd (cs := #[.int .i64 ag, .int .i64 ac, .int .u64 ad, .int .i64 af, .int .i64 ae, .slice ce y.length cf]) (t := 27) ?hr ?_; (case hd => rfl); (case hg => rfl); (case hr => first | (go_simp; done) | (go_simp; rfl)); intro bc hg w5 hbox hb; have A := zp.mk (hbox); have gA := zp.mk ((zv3 (zv6 HB.out) hg)); have eg := zp.mk ((zv3 (zv6 HB.out) hg)); replace HB := zp.mk (zj (zv6 HB.out) hb); clear hb hbox hg) | ((with_reducible refine zo (N := 3) rfl ?_); refine zm ?hg (N := 3) ?hd (cs := #[.int .i64 al, .int .i64 aj, .int .u64 ai, .int .i64 ah, .int .i64 ak, .slice cq ab.length co]) (t := 27) ?hr ?_; (case hd => rfl); (case hg => rfl); (case hr => first | (go_simp; done) | (go_simp; rfl)); intro bi hg w6 hbox hb; have D := zp.mk (hbox); have fX := zp.mk ((zv3 (zv7 HB.out) hg)); have eC := zp.mk ((zv3 (zv7 HB.out) hg)); have dC := zp.mk ((by rw [hg]; exact Nat.ne_of_lt (blk_lt (g := bc) (o := .cells #[.int .i64 ag, .int .i64 ac, .int .u64 ad, .int .i64 af, .int .i64 ae, .slice ce y.length cf] 27 (0, 0)) (zv8 A.out)) : bc ≠ bi)); have dD := zp.mk ((by rw [hg]; exact Nat.ne_of_gt (blk_lt (g := bc) (o := .cells #[.int .i64 ag, .int .i64 ac, .int .u64 ad, .int .i64 af, .int .i64 ae, .slice ce y.length cf] 27 (0, 0)) (zv8 A.out)) : bi ≠ bc)); replace A := zp.mk (zl (zv8 A.out) hb); replace HB := zp.mk (zj (zv7 HB.out) hb); clear hb hbox hg; have tU := dC.out; have tO := dD.out; have ox := zt0 A.out; have oN := zt1 A.out; have oi := zt2 A.out; have nU := zt3 A.out; have nS := zt4 A.out; have nM := zt5 A.out; have jb := zd A.out 0; have je := zd A.out 1; have jc := zd A.out 2; have jo := zd A.out 3; have jr := zd A.out 4; have js := zd A.out 5) | ((with_reducible refine zn (f := 8) rfl ?_); refine goesL_ (some 19) rfl rfl Try.func8 (by kernel_rfl) rfl #[.agg #[.int .i64 ag, .int .i64 ac, .int .u64 ad, .int .i64 af, .int .i64 ae, .slice ce y.length cf], .int .i64 1048576] rfl (by (try simp only [List.map_toArray, List.map_cons, List.map_nil]); first | done | rfl | (simp only [List.length_drop, List.length_take]; rfl)) ?_; (with_reducible refine (laws_szAgg.calls ag ac ad af ae _ _ y 1048576 dv _ ?side1 ?side2 A3.out).mono ?_); (case side1 => repeat (first | exact (Kd.zt dY.out HB.out) | (with_reducible refine Kd.zr ?_ _) | (with_reducible refine Kd.zq ?_ _) | (with_reducible refine Kd.C_drew ?_))); (case side2 => exact dV.out); rintro e w9 ⟨rfl, hb⟩; refine ⟨_, rfl, ?_⟩; replace A := zp.mk (zl (zv8 A.out) hb); replace D := zp.mk (zl (zv8 D.out) hb); replace HB := zp.mk (zj (zv7 HB.out) hb); (try clear hb); (try clear hb2); (try clear hk); (try clear hi)))
  go_ret
  exact ⟨by first | rfl | (simp [errW_none, errW_some] <;> rfl) | (simp [*, errW_none, errW_some] <;> rfl), zv7 HB.out⟩
 ·rw [if_neg c4] at H
  have jl : decide (dv < 0) = false := decide_eq_false c4
  clear c4
  replace H := zs4 H
  obtain ⟨dN, ja, H⟩ := H
  replace H : (if dN < 0 then (some true) else ((laws_toAgg.f k ag ac ad af ae y).bind fun cu => ((laws_toAgg.f k al aj ai ah ak ab).bind fun cg => ((spec_AggJoin.f k cu.1 cu.2.1 cu.2.2.1 cu.2.2.2.1 cu.2.2.2.2.1 cu.2.2.2.2.2 cg.1 cg.2.1 cg.2.2.1 cg.2.2.2.1 cg.2.2.2.2.1 cg.2.2.2.2.2).bind fun l => ((laws_toAgg.f k ag ac ad af ae y).bind fun Z => ((laws_toAgg.f k al aj ai ah ak ab).bind fun X => ((impl_AggJoin.f k Z.1 Z.2.1 Z.2.2.1 Z.2.2.2.1 Z.2.2.2.2.1 Z.2.2.2.2.2 X.1 X.2.1 X.2.2.1 X.2.2.2.1 X.2.2.2.2.1 X.2.2.2.2.2).bind fun O => ((laws_eqAgg.f k O.1 O.2.1 O.2.2.1 O.2.2.2.1 O.2.2.2.2.1 O.2.2.2.2.2.1 l.1 l.2.1 l.2.2.1 l.2.2.2.1 l.2.2.2.2.1 l.2.2.2.2.2.1).bind fun dl => (if dl = true then (laws_FnExactAggJoin.j0 k l.2.2.2.2.2.2 O.2.2.2.2.2.2 (O.2.2.2.2.2.2 != l.2.2.2.2.2.2) ag ac ad af ae y al aj ai ah ak ab l.1 l.2.1 l.2.2.1 l.2.2.2.1 l.2.2.2.2.1 l.2.2.2.2.2.1 Z.1 Z.2.1 Z.2.2.1 Z.2.2.2.1 Z.2.2.2.2.1 Z.2.2.2.2.2 X.1 X.2.1 X.2.2.1 X.2.2.2.1 X.2.2.2.2.1 X.2.2.2.2.2 O.1 O.2.1 O.2.2.1 O.2.2.2.1 O.2.2.2.2.1 O.2.2.2.2.2.1) else (laws_FnExactAggJoin.j0 k l.2.2.2.2.2.2 O.2.2.2.2.2.2 true ag ac ad af ae y al aj ai ah ak ab l.1 l.2.1 l.2.2.1 l.2.2.2.1 l.2.2.2.2.1 l.2.2.2.2.2.1 Z.1 Z.2.1 Z.2.2.1 Z.2.2.2.1 Z.2.2.2.2.1 Z.2.2.2.2.2 X.1 X.2.1 X.2.2.1 X.2.2.2.1 X.2.2.2.2.1 X.2.2.2.2.2 O.1 O.2.1 O.2.2.1 O.2.2.2.1 O.2.2.2.2.1 O.2.2.2.2.2.1)))))))))) = some r := H
  have oP := zp.mk ja
  clear ja
  by_cases eZ : dN < 0
  ·rw [if_pos eZ] at H
   have fZ : decide (dN < 0) = true := decide_eq_true eZ
   clear eZ
   obtain rfl := Option.some.inj H
   go_enter Try.func7, Try.ntmps7
   go_wp2_with (first | ((with_reducible refine zo (N := 2) rfl ?_); refine zm ?hg (N := 2) ?hd (cs := #[.int .i64 ag, .int .i64 ac, .int .u64 ad, .int .i64 af, .int .i64 ae, .slice ce y.length cf]) (t := 27) ?hr ?_; (case hd => rfl); (case hg => rfl); (case hr => first | (go_simp; done) | (go_simp; rfl)); intro bc hg t3 hbox hb; have A := zp.mk (hbox); have gA := zp.mk ((zv3 (zv6 HB.out) hg)); have eg := zp.mk ((zv3 (zv6 HB.out) hg)); replace HB := zp.mk (zj (zv6 HB.out) hb); clear hb hbox hg) | ((with_reducible refine zo (N := 3) rfl ?_); refine zm ?hg (N := 3) ?hd (cs := #[.int .i64 al, .int .i64 aj, .int .u64 ai, .int .i64 ah, .int .i64 ak, .slice cq ab.length co]) (t := 27) ?hr ?_; (case hd => rfl); (case hg => rfl); (case hr => first | (go_simp; done) | (go_simp; rfl)); intro bi hg t8 hbox hb; have D := zp.mk (hbox); have fX := zp.mk ((zv3 (zv7 HB.out) hg)); have eC := zp.mk ((zv3 (zv7 HB.out) hg)); have dC := zp.mk ((by rw [hg]; exact Nat.ne_of_lt (blk_lt (g := bc) (o := .cells #[.int .i64 ag, .int .i64 ac, .int .u64 ad, .int .i64 af, .int .i64 ae, .slice ce y.length cf] 27 (0, 0)) (zv8 A.out)) : bc ≠ bi)); have dD := zp.mk ((by rw [hg]; exact Nat.ne_of_gt (blk_lt (g := bc) (o := .cells #[.int .i64 ag, .int .i64 ac, .int .u64 ad, .int .i64 af, .int .i64 ae, .slice ce y.length cf] 27 (0, 0)) (zv8 A.out)) : bi ≠ bc)); replace A := zp.mk (zl (zv8 A.out) hb); replace HB := zp.mk (zj (zv7 HB.out) hb); clear hb hbox hg; have se := dC.out; have sU := dD.out; have l5 := zt0 A.out; have jC := zt1 A.out; have mo := zt2 A.out; have ln := zt3 A.out; have ml := zt4 A.out; have jP := zt5 A.out; have lP := zd A.out 0; have lR := zd A.out 1; have ke := zd A.out 2; have lE := zd A.out 3; have kg := zd A.out 4; have jG := zd A.out 5) | ((with_reducible refine zn (f := 8) rfl ?_); refine goesL_ (some 19) rfl rfl Try.func8 (by kernel_rfl) rfl #[.agg #[.int .i64 ag, .int .i64 ac, .int .u64 ad, .int .i64 af, .int .i64 ae, .slice ce y.length cf], .int .i64 1048576] rfl (by (try simp only [List.map_toArray, List.map_cons, List.map_nil]); first | done | rfl | (simp only [List.length_drop, List.length_take]; rfl)) ?_; (with_reducible refine (laws_szAgg.calls ag ac ad af ae _ _ y 1048576 dv _ ?side1 ?side2 A3.out).mono ?_); (case side1 => repeat (first | exact (Kd.zt dY.out HB.out) | (with_reducible refine Kd.zr ?_ _) | (with_reducible refine Kd.zq ?_ _) | (with_reducible refine Kd.C_drew ?_))); (case side2 => exact dV.out); rintro e t6 ⟨rfl, hb⟩; refine ⟨_, rfl, ?_⟩; replace A := zp.mk (zl (zv8 A.out) hb); replace D := zp.mk (zl (zv8 D.out) hb); replace HB := zp.mk (zj (zv7 HB.out) hb); (try clear hb); (try clear hb2); (try clear hk); (try clear hi); have lO := zt0 D.out; have jA := zt1 D.out; have jV := zt2 D.out; have lb := zt3 D.out; have ll := zt4 D.out; have jB := zt5 D.out; have lg := zd D.out 0; have lJ := zd D.out 1; have kt := zd D.out 2; have lH := zd D.out 3; have kP := zd D.out 4; have ld := zd D.out 5) | ((with_reducible refine zn (f := 8) rfl ?_); refine goesL_ (some 24) rfl rfl Try.func8 (by kernel_rfl) rfl #[.agg #[.int .i64 al, .int .i64 aj, .int .u64 ai, .int .i64 ah, .int .i64 ak, .slice cq ab.length co], .int .i64 dv] rfl (by (try simp only [List.map_toArray, List.map_cons, List.map_nil]); first | done | rfl | (simp only [List.length_drop, List.length_take]; rfl)) ?_; (with_reducible refine (laws_szAgg.calls al aj ai ah ak _ _ ab dv dN _ ?side1 ?side2 oP.out).mono ?_); (case side1 => repeat (first | exact (Kd.zt d4.out HB.out) | (with_reducible refine Kd.zr ?_ _) | (with_reducible refine Kd.zq ?_ _) | (with_reducible refine Kd.C_drew ?_))); (case side2 => exact d3.out); rintro e tX ⟨rfl, hb⟩; refine ⟨_, rfl, ?_⟩; replace A := zp.mk (zl (zv8 A.out) hb); replace D := zp.mk (zl (zv8 D.out) hb); replace HB := zp.mk (zj (zv7 HB.out) hb); (try clear hb); (try clear hb2); (try clear hk); (try clear hi)))
   go_ret
   exact ⟨by first | rfl | (simp [errW_none, errW_some] <;> rfl) | (simp [*, errW_none, errW_some] <;> rfl), zv7 HB.out⟩
  ·rw [if_neg eZ] at H
   have fZ : decide (dN < 0) = false := decide_eq_false eZ
   clear eZ
   replace H := zs4 H
   obtain ⟨⟨ef, eb, ee, ec, ew, d7⟩, jy, H⟩ := H
   replace H : ((laws_toAgg.f k al aj ai ah ak ab).bind fun cg => ((spec_AggJoin.f k ef eb ee ec ew d7 cg.1 cg.2.1 cg.2.2.1 cg.2.2.2.1 cg.2.2.2.2.1 cg.2.2.2.2.2).bind fun l => ((laws_toAgg.f k ag ac ad af ae y).bind fun Z => ((laws_toAgg.f k al aj ai ah ak ab).bind fun X => ((impl_AggJoin.f k Z.1 Z.2.1 Z.2.2.1 Z.2.2.2.1 Z.2.2.2.2.1 Z.2.2.2.2.2 X.1 X.2.1 X.2.2.1 X.2.2.2.1 X.2.2.2.2.1 X.2.2.2.2.2).bind fun O => ((laws_eqAgg.f k O.1 O.2.1 O.2.2.1 O.2.2.2.1 O.2.2.2.2.1 O.2.2.2.2.2.1 l.1 l.2.1 l.2.2.1 l.2.2.2.1 l.2.2.2.2.1 l.2.2.2.2.2.1).bind fun dl => (if dl = true then (laws_FnExactAggJoin.j0 k l.2.2.2.2.2.2 O.2.2.2.2.2.2 (O.2.2.2.2.2.2 != l.2.2.2.2.2.2) ag ac ad af ae y al aj ai ah ak ab l.1 l.2.1 l.2.2.1 l.2.2.2.1 l.2.2.2.2.1 l.2.2.2.2.2.1 Z.1 Z.2.1 Z.2.2.1 Z.2.2.2.1 Z.2.2.2.2.1 Z.2.2.2.2.2 X.1 X.2.1 X.2.2.1 X.2.2.2.1 X.2.2.2.2.1 X.2.2.2.2.2 O.1 O.2.1 O.2.2.1 O.2.2.2.1 O.2.2.2.2.1 O.2.2.2.2.2.1) else (laws_FnExactAggJoin.j0 k l.2.2.2.2.2.2 O.2.2.2.2.2.2 true ag ac ad af ae y al aj ai ah ak ab l.1 l.2.1 l.2.2.1 l.2.2.2.1 l.2.2.2.2.1 l.2.2.2.2.2.1 Z.1 Z.2.1 Z.2.2.1 Z.2.2.2.1 Z.2.2.2.2.1 Z.2.2.2.2.2 X.1 X.2.1 X.2.2.1 X.2.2.2.1 X.2.2.2.2.1 X.2.2.2.2.2 O.1 O.2.1 O.2.2.1 O.2.2.2.1 O.2.2.2.2.1 O.2.2.2.2.2.1)))))))) = some r := H
   have rM := zp.mk jy
   clear jy
   replace H := zs4 H
   obtain ⟨⟨eN, eP, eG, eJ, eL, ea⟩, jm, H⟩ := H
   replace H : ((spec_AggJoin.f k ef eb ee ec ew d7 eN eP eG eJ eL ea).bind fun l => ((laws_toAgg.f k ag ac ad af ae y).bind fun Z => ((laws_toAgg.f k al aj ai ah ak ab).bind fun X => ((impl_AggJoin.f k Z.1 Z.2.1 Z.2.2.1 Z.2.2.2.1 Z.2.2.2.2.1 Z.2.2.2.2.2 X.1 X.2.1 X.2.2.1 X.2.2.2.1 X.2.2.2.2.1 X.2.2.2.2.2).bind fun O => ((laws_eqAgg.f k O.1 O.2.1 O.2.2.1 O.2.2.2.1 O.2.2.2.2.1 O.2.2.2.2.2.1 l.1 l.2.1 l.2.2.1 l.2.2.2.1 l.2.2.2.2.1 l.2.2.2.2.2.1).bind fun dl => (if dl = true then (laws_FnExactAggJoin.j0 k l.2.2.2.2.2.2 O.2.2.2.2.2.2 (O.2.2.2.2.2.2 != l.2.2.2.2.2.2) ag ac ad af ae y al aj ai ah ak ab l.1 l.2.1 l.2.2.1 l.2.2.2.1 l.2.2.2.2.1 l.2.2.2.2.2.1 Z.1 Z.2.1 Z.2.2.1 Z.2.2.2.1 Z.2.2.2.2.1 Z.2.2.2.2.2 X.1 X.2.1 X.2.2.1 X.2.2.2.1 X.2.2.2.2.1 X.2.2.2.2.2 O.1 O.2.1 O.2.2.1 O.2.2.2.1 O.2.2.2.2.1 O.2.2.2.2.2.1) else (laws_FnExactAggJoin.j0 k l.2.2.2.2.2.2 O.2.2.2.2.2.2 true ag ac ad af ae y al aj ai ah ak ab l.1 l.2.1 l.2.2.1 l.2.2.2.1 l.2.2.2.2.1 l.2.2.2.2.2.1 Z.1 Z.2.1 Z.2.2.1 Z.2.2.2.1 Z.2.2.2.2.1 Z.2.2.2.2.2 X.1 X.2.1 X.2.2.1 X.2.2.2.1 X.2.2.2.2.1 X.2.2.2.2.2 O.1 O.2.1 O.2.2.1 O.2.2.2.1 O.2.2.2.2.1 O.2.2.2.2.2.1))))))) = some r := H
   have rL := zp.mk jm
   clear jm
   replace H := zs4 H
   obtain ⟨⟨az, aA, aC, aD, aG, aM, aN⟩, jf, H⟩ := H
   replace H : ((laws_toAgg.f k ag ac ad af ae y).bind fun Z => ((laws_toAgg.f k al aj ai ah ak ab).bind fun X => ((impl_AggJoin.f k Z.1 Z.2.1 Z.2.2.1 Z.2.2.2.1 Z.2.2.2.2.1 Z.2.2.2.2.2 X.1 X.2.1 X.2.2.1 X.2.2.2.1 X.2.2.2.2.1 X.2.2.2.2.2).bind fun O => ((laws_eqAgg.f k O.1 O.2.1 O.2.2.1 O.2.2.2.1 O.2.2.2.2.1 O.2.2.2.2.2.1 az aA aC aD aG aM).bind fun dl => (if dl = true then (laws_FnExactAggJoin.j0 k aN O.2.2.2.2.2.2 (O.2.2.2.2.2.2 != aN) ag ac ad af ae y al aj ai ah ak ab az aA aC aD aG aM Z.1 Z.2.1 Z.2.2.1 Z.2.2.2.1 Z.2.2.2.2.1 Z.2.2.2.2.2 X.1 X.2.1 X.2.2.1 X.2.2.2.1 X.2.2.2.2.1 X.2.2.2.2.2 O.1 O.2.1 O.2.2.1 O.2.2.2.1 O.2.2.2.2.1 O.2.2.2.2.2.1) else (laws_FnExactAggJoin.j0 k aN O.2.2.2.2.2.2 true ag ac ad af ae y al aj ai ah ak ab az aA aC aD aG aM Z.1 Z.2.1 Z.2.2.1 Z.2.2.2.1 Z.2.2.2.2.1 Z.2.2.2.2.2 X.1 X.2.1 X.2.2.1 X.2.2.2.1 X.2.2.2.2.1 X.2.2.2.2.2 O.1 O.2.1 O.2.2.1 O.2.2.2.1 O.2.2.2.2.1 O.2.2.2.2.2.1)))))) = some r := H
   have sv := zp.mk jf
   clear jf
   replace H := zs4 H
   obtain ⟨⟨bA, bC, bG, bN, bP, be⟩, jk, H⟩ := H
   replace H : ((laws_toAgg.f k al aj ai ah ak ab).bind fun X => ((impl_AggJoin.f k bA bC bG bN bP be X.1 X.2.1 X.2.2.1 X.2.2.2.1 X.2.2.2.2.1 X.2.2.2.2.2).bind fun O => ((laws_eqAgg.f k O.1 O.2.1 O.2.2.1 O.2.2.2.1 O.2.2.2.2.1 O.2.2.2.2.2.1 az aA aC aD aG aM).bind fun dl => (if dl = true then (laws_FnExactAggJoin.j0 k aN O.2.2.2.2.2.2 (O.2.2.2.2.2.2 != aN) ag ac ad af ae y al aj ai ah ak ab az aA aC aD aG aM bA bC bG bN bP be X.1 X.2.1 X.2.2.1 X.2.2.2.1 X.2.2.2.2.1 X.2.2.2.2.2 O.1 O.2.1 O.2.2.1 O.2.2.2.1 O.2.2.2.2.1 O.2.2.2.2.2.1) else (laws_FnExactAggJoin.j0 k aN O.2.2.2.2.2.2 true ag ac ad af ae y al aj ai ah ak ab az aA aC aD aG aM bA bC bG bN bP be X.1 X.2.1 X.2.2.1 X.2.2.2.1 X.2.2.2.2.1 X.2.2.2.2.2 O.1 O.2.1 O.2.2.1 O.2.2.2.1 O.2.2.2.2.1 O.2.2.2.2.2.1))))) = some r := H
   have rE := zp.mk jk
   clear jk
   replace H := zs4 H
   obtain ⟨⟨bw, bx, bB, bD, bI, bd⟩, jh, H⟩ := H
   replace H : ((impl_AggJoin.f k bA bC bG bN bP be bw bx bB bD bI bd).bind fun O => ((laws_eqAgg.f k O.1 O.2.1 O.2.2.1 O.2.2.2.1 O.2.2.2.2.1 O.2.2.2.2.2.1 az aA aC aD aG aM).bind fun dl => (if dl = true then (laws_FnExactAggJoin.j0 k aN O.2.2.2.2.2.2 (O.2.2.2.2.2.2 != aN) ag ac ad af ae y al aj ai ah ak ab az aA aC aD aG aM bA bC bG bN bP be bw bx bB bD bI bd O.1 O.2.1 O.2.2.1 O.2.2.2.1 O.2.2.2.2.1 O.2.2.2.2.2.1) else (laws_FnExactAggJoin.j0 k aN O.2.2.2.2.2.2 true ag ac ad af ae y al aj ai ah ak ab az aA aC aD aG aM bA bC bG bN bP be bw bx bB bD bI bd O.1 O.2.1 O.2.2.1 O.2.2.2.1 O.2.2.2.2.1 O.2.2.2.2.2.1)))) = some r := H
   have sL := zp.mk jh
   clear jh
   replace H := zs4 H
   obtain ⟨⟨aq, ar, au, aw, ay, an, cZ⟩, jd, H⟩ := H
   replace H : ((laws_eqAgg.f k aq ar au aw ay an az aA aC aD aG aM).bind fun dl => (if dl = true then (laws_FnExactAggJoin.j0 k aN cZ (cZ != aN) ag ac ad af ae y al aj ai ah ak ab az aA aC aD aG aM bA bC bG bN bP be bw bx bB bD bI bd aq ar au aw ay an) else (laws_FnExactAggJoin.j0 k aN cZ true ag ac ad af ae y al aj ai ah ak ab az aA aC aD aG aM bA bC bG bN bP be bw bx bB bD bI bd aq ar au aw ay an))) = some r := H
   have rX := zp.mk jd
   clear jd
   have gq := zp.mk H
   clear H
   go_enter Try.func7, Try.ntmps7
   try go_wp2_with (first | ((with_reducible refine zo (N := 2) rfl ?_); refine zm ?hg (N := 2) ?hd (cs := #[.int .i64 ag, .int .i64 ac, .int .u64 ad, .int .i64 af, .int .i64 ae, .slice ce y.length cf]) (t := 27) ?hr ?_; (case hd => rfl); (case hg => rfl); (case hr => first | (go_simp; done) | (go_simp; rfl)); intro bc hg tV hbox hb; have A := zp.mk (hbox); have gA := zp.mk ((zv3 (zv6 HB.out) hg)); have eg := zp.mk ((zv3 (zv6 HB.out) hg)); replace HB := zp.mk (zj (zv6 HB.out) hb); clear hb hbox hg) | ((with_reducible refine zo (N := 3) rfl ?_); refine zm ?hg (N := 3) ?hd (cs := #[.int .i64 al, .int .i64 aj, .int .u64 ai, .int .i64 ah, .int .i64 ak, .slice cq ab.length co]) (t := 27) ?hr ?_; (case hd => rfl); (case hg => rfl); (case hr => first | (go_simp; done) | (go_simp; rfl)); intro bi hg t4 hbox hb; have D := zp.mk (hbox); have fX := zp.mk ((zv3 (zv7 HB.out) hg)); have eC := zp.mk ((zv3 (zv7 HB.out) hg)); have dC := zp.mk ((by rw [hg]; exact Nat.ne_of_lt (blk_lt (g := bc) (o := .cells #[.int .i64 ag, .int .i64 ac, .int .u64 ad, .int .i64 af, .int .i64 ae, .slice ce y.length cf] 27 (0, 0)) (zv8 A.out)) : bc ≠ bi)); have dD := zp.mk ((by rw [hg]; exact Nat.ne_of_gt (blk_lt (g := bc) (o := .cells #[.int .i64 ag, .int .i64 ac, .int .u64 ad, .int .i64 af, .int .i64 ae, .slice ce y.length cf] 27 (0, 0)) (zv8 A.out)) : bi ≠ bc)); replace A := zp.mk (zl (zv8 A.out) hb); replace HB := zp.mk (zj (zv7 HB.out) hb); clear hb hbox hg; have sf := dC.out; have tk := dD.out; have kl := zt0 A.out; have mi := zt1 A.out; have kk := zt2 A.out; have mf := zt3 A.out; have k0 := zt4 A.out; have l8 := zt5 A.out; have mc := zd A.out 0; have k4 := zd A.out 1; have lx := zd A.out 2; have jL := zd A.out 3; have j7 := zd A.out 4; have j9 := zd A.out 5) | ((with_reducible refine zn (f := 8) rfl ?_); refine goesL_ (some 19) rfl rfl Try.func8 (by kernel_rfl) rfl #[.agg #[.int .i64 ag, .int .i64 ac, .int .u64 ad, .int .i64 af, .int .i64 ae, .slice ce y.length cf], .int .i64 1048576] rfl (by (try simp only [List.map_toArray, List.map_cons, List.map_nil]); first | done | rfl | (simp only [List.length_drop, List.length_take]; rfl)) ?_; (with_reducible refine (laws_szAgg.calls ag ac ad af ae _ _ y 1048576 dv _ ?side1 ?side2 A3.out).mono ?_); (case side1 => repeat (first | exact (Kd.zt dY.out HB.out) | (with_reducible refine Kd.zr ?_ _) | (with_reducible refine Kd.zq ?_ _) | (with_reducible refine Kd.C_drew ?_))); (case side2 => exact dV.out); rintro e tZ ⟨rfl, hb⟩; refine ⟨_, rfl, ?_⟩; replace A := zp.mk (zl (zv8 A.out) hb); replace D := zp.mk (zl (zv8 D.out) hb); replace HB := zp.mk (zj (zv7 HB.out) hb); (try clear hb); (try clear hb2); (try clear hk); (try clear hi); have jW := zt0 D.out; have lc := zt1 D.out; have lK := zt2 D.out; have lf := zt3 D.out; have j3 := zt4 D.out; have lj := zt5 D.out; have lG := zd D.out 0; have kH := zd D.out 1; have lI := zd D.out 2; have km := zd D.out 3; have jF := zd D.out 4; have lZ := zd D.out 5) | ((with_reducible refine zn (f := 8) rfl ?_); refine goesL_ (some 24) rfl rfl Try.func8 (by kernel_rfl) rfl #[.agg #[.int .i64 al, .int .i64 aj, .int .u64 ai, .int .i64 ah, .int .i64 ak, .slice cq ab.length co], .int .i64 dv] rfl (by (try simp only [List.map_toArray, List.map_cons, List.map_nil]); first | done | rfl | (simp only [List.length_drop, List.length_take]; rfl)) ?_; (with_reducible refine (laws_szAgg.calls al aj ai ah ak _ _ ab dv dN _ ?side1 ?side2 oP.out).mono ?_); (case side1 => repeat (first | exact (Kd.zt d4.out HB.out) | (with_reducible refine Kd.zr ?_ _) | (with_reducible refine Kd.zq ?_ _) | (with_reducible refine Kd.C_drew ?_))); (case side2 => exact d3.out); rintro e td ⟨rfl, hb⟩; refine ⟨_, rfl, ?_⟩; replace A := zp.mk (zl (zv8 A.out) hb); replace D := zp.mk (zl (zv8 D.out) hb); replace HB := zp.mk (zj (zv7 HB.out) hb); (try clear hb); (try clear hb2); (try clear hk); (try clear hi)))
   replace A := zp.mk (zi A.out)
   replace D := zp.mk (zi D.out)
   replace HB := zp.mk (zb HB.out)
   refine start_ (n := 11) (S := fun w' => True) (ds := []) (zB 11 0) (by kernel_rfl) rfl rfl trivial (fun hHeld => ?_); refine with_tabW laws_FnExactAggJoin.tab8 laws_FnExactAggJoin.bits8 (fun HT_ HW_ => ?_)
   generalize td.drew = t9 at A D HB hHeld ⊢
   refine inv_at [0, 1, 2, 3, 4, 5, 6, 7, 8, 9, 10] (fun lY b a w' => ∃ (cR : Value) (cO : Value) (ba : Value) (am : Nat) (cE : Value) (cD : Value) (cF : Value) (ct : Value) (cG : Value) (cH : Value), a = putSel lY b [(0, 28, .agg #[.int .i64 ag, .int .i64 ac, .int .u64 ad, .int .i64 af, .int .i64 ae, .slice ce y.length cf]), (1, 29, cE), (2, 30, .agg #[.int .i64 al, .int .i64 aj, .int .u64 ai, .int .i64 ah, .int .i64 ak, .slice cq ab.length co]), (3, 31, cD), (4, 32, cF), (5, 27, ct), (6, 33, cG), (7, 34, .bool aN), (8, 6, cH), (10, 7, .bool aN)] ∧ (w'.heap[bc]? = some (.cells #[.int .i64 ag, .int .i64 ac, .int .u64 ad, .int .i64 af, .int .i64 ae, .slice ce y.length cf] 27 (0, 0))) ∧ (w'.heap[bi]? = some (.cells #[.int .i64 al, .int .i64 aj, .int .u64 ai, .int .i64 ah, .int .i64 ak, .slice cq ab.length co] 27 (0, 0))) ∧ (Below w.heap.size w w') ∧ (b 1 = true → Kd.R (Kd.int .i64) 3 w' w.heap.size (fun _ => True) cR d7) ∧ (b 3 = true → Kd.R (Kd.int .i64) 3 w' w.heap.size (fun _ => True) cO ea) ∧ (b 4 = true → Kd.R (Kd.int .i64) 3 w' w.heap.size (fun _ => True) ba aM) ∧ (b 8 = true → b 9 = false → w'.heap[am]? = some (.cells #[.int .i64 0, .int .i64 0, .int .u64 0, .int .i64 0, .int .i64 0, .slice none 0 0] 32 (0, 0))) ∧ (b 8 = true → w.heap.size ≤ am) ∧ (b 8 = true → w.heap.size ≤ am) ∧ (b 8 = true → bc ≠ am) ∧ (b 8 = true → am ≠ bc) ∧ (b 8 = true → bi ≠ am) ∧ (b 8 = true → am ≠ bi) ∧ (b 9 = true → w'.heap[am]? = some (.cells #[.int .i64 az, .int .i64 aA, .int .u64 aC, .int .i64 aD, .int .i64 aG, ba] 32 (0, 0))) ∧ (b 1 = true → (cE : Value) = .agg #[.int .i64 ef, .int .i64 eb, .int .u64 ee, .int .i64 ec, .int .i64 ew, cR]) ∧ (b 3 = true → (cD : Value) = .agg #[.int .i64 eN, .int .i64 eP, .int .u64 eG, .int .i64 eJ, .int .i64 eL, cO]) ∧ (b 4 = true → (cF : Value) = .tuple #[.agg #[.int .i64 az, .int .i64 aA, .int .u64 aC, .int .i64 aD, .int .i64 aG, ba], .bool aN]) ∧ (b 5 = true → (ct : Value) = .tuple #[.agg #[.int .i64 az, .int .i64 aA, .int .u64 aC, .int .i64 aD, .int .i64 aG, ba], .bool aN]) ∧ (b 6 = true → (cG : Value) = .agg #[.int .i64 az, .int .i64 aA, .int .u64 aC, .int .i64 aD, .int .i64 aG, ba]) ∧ (b 8 = true → (cH : Value) = .pointer (some ⟨am, 0, none⟩))) HT_.out HW_.out (by kernel_rfl) (by kernel_rfl) ?_ ?_ ?_
   ·exact ⟨.bool false, .bool false, .bool false, 0, .bool false, .bool false, .bool false, .bool false, .bool false, .bool false, by simp only [putSel, Bool.false_eq_true, if_false], A.out, D.out, HB.out, fun h_ => absurd h_ (by decide), fun h_ => absurd h_ (by decide), fun h_ => absurd h_ (by decide), fun h_ => absurd h_ (by decide), fun h_ => absurd h_ (by decide), fun h_ => absurd h_ (by decide), fun h_ => absurd h_ (by decide), fun h_ => absurd h_ (by decide), fun h_ => absurd h_ (by decide), fun h_ => absurd h_ (by decide), fun h_ => absurd h_ (by decide), fun h_ => absurd h_ (by decide), fun h_ => absurd h_ (by decide), fun h_ => absurd h_ (by decide), fun h_ => absurd h_ (by decide), fun h_ => absurd h_ (by decide), fun h_ => absurd h_ (by decide)⟩
   ·skip
    clear A D HB
    refine steps_cons ?_ ?_
    ·rintro b a w' ⟨cR, cO, ba, am, cE, cD, cF, ct, cG, cH, ha, ap, ao, Q_HB, bL, bZ, cb, aE, ca, b8, aQ, aV, a6, a9, b2, bv, bE, bU, bV, cc, bn⟩ hb_ hon hoff
     refine ⟨_, rfl, fun K hK => ?_⟩
     have e2 : a.tmps[2]? = some (.pointer (some ⟨bc, 0, none⟩)) := by rw [ha]; exact (putSel_off rfl).trans rfl
     replace ha := zp.mk ha
     have A := zp.mk ap
     have D := zp.mk ao
     have HB := zp.mk Q_HB
     have fU := zt0 A.out
     have fF := zt1 A.out
     have gs := zt2 A.out
     have gg := zt3 A.out
     have gi := zt4 A.out
     have gC := zt5 A.out
     refine value_ (w1 := w') (v := .agg #[.int .i64 ag, .int .i64 ac, .int .u64 ad, .int .i64 af, .int .i64 ae, .slice ce y.length cf]) (by rfl) rfl ?_ ?_
     ·go_simp
      (try simp only [i64_w])
      try rfl
     refine hK.out _ _ ⟨cR, cO, ba, am, cE, cD, cF, ct, cG, cH, (by rw [ha.out]; exact putSel_upk 0 hb_ rfl rfl rfl), ap, ao, Q_HB, fun av => absurd ((hoff 1 (by kernel_rfl)).symm.trans av) (by decide), fun av => absurd ((hoff 3 (by kernel_rfl)).symm.trans av) (by decide), fun av => absurd ((hoff 4 (by kernel_rfl)).symm.trans av) (by decide), aE, ca, b8, aQ, aV, a6, a9, fun av => absurd ((hoff 9 (by kernel_rfl)).symm.trans av) (by decide), fun av => absurd ((hoff 1 (by kernel_rfl)).symm.trans av) (by decide), fun av => absurd ((hoff 3 (by kernel_rfl)).symm.trans av) (by decide), fun av => absurd ((hoff 4 (by kernel_rfl)).symm.trans av) (by decide), fun av => absurd ((hoff 5 (by kernel_rfl)).symm.trans av) (by decide), fun av => absurd ((hoff 6 (by kernel_rfl)).symm.trans av) (by decide), bn⟩
    refine steps_cons ?_ ?_
    ·rintro b a w' ⟨cR, cO, ba, am, cE, cD, cF, ct, cG, cH, ha, ap, ao, Q_HB, bL, bZ, cb, aE, ca, b8, aQ, aV, a6, a9, b2, bv, bE, bU, bV, cc, bn⟩ hb_ hon hoff
     refine ⟨_, rfl, fun K hK => ?_⟩
     have ou : a.tmps[28]? = some (.agg #[.int .i64 ag, .int .i64 ac, .int .u64 ad, .int .i64 af, .int .i64 ae, .slice ce y.length cf]) := by rw [ha]; exact putSel_on (e := (0, 28, .agg #[.int .i64 ag, .int .i64 ac, .int .u64 ad, .int .i64 af, .int .i64 ae, .slice ce y.length cf])) 0 rfl rfl (hon 0 (by kernel_rfl)) rfl
     replace ha := zp.mk ha
     have A := zp.mk ap
     have D := zp.mk ao
     have HB := zp.mk Q_HB
     refine goes_ Try.func10 (by kernel_rfl) rfl #[.agg #[.int .i64 ag, .int .i64 ac, .int .u64 ad, .int .i64 af, .int .i64 ae, .slice ce y.length cf]] (by rfl) rfl rfl (by first | (simp only [List.map_toArray, List.map_cons, List.map_nil, Act.eval, Array.getD_eq_getD_getElem?, Option.getD_some, ou]; done) | (simp only [List.map_toArray, List.map_cons, List.map_nil, Act.eval, Array.getD_eq_getD_getElem?, Option.getD_some, ou]; rfl)) ?_
     with_reducible refine (laws_toAgg.calls k ag ac ad af ae _ _ y ef eb ee ec ew d7 _ ?side1 ?side2 rM.out).mono ?_
     (case side1 => repeat (first | exact (Kd.zt dY.out HB.out) | (with_reducible refine Kd.zr ?_ _) | (with_reducible refine Kd.zq ?_ _) | (with_reducible refine Kd.C_drew ?_)))
     (case side2 => exact dV.out)
     rintro e gy ⟨cR, rfl, cd, hb⟩
     refine ⟨_, rfl, ?_⟩
     have bk := zp.mk (Kd.R_lower cd (zk (zv7 HB.out)))
     replace A := zp.mk (zl (zv8 A.out) hb)
     replace D := zp.mk (zl (zv8 D.out) hb)
     replace HB := zp.mk (zj (zv7 HB.out) hb); have dR := fun (av : b 8 = true) (dI : b 9 = false) => (show gy.heap[am]? = some (.cells #[.int .i64 0, .int .i64 0, .int .u64 0, .int .i64 0, .int .i64 0, .slice none 0 0] 32 (0, 0)) from by first | exact (zl (g := am) (o := .cells #[.int .i64 0, .int .i64 0, .int .u64 0, .int .i64 0, .int .i64 0, .slice none 0 0] 32 (0, 0)) (by (with_reducible repeat (first | refine zf ?_ _ | refine zi ?_ | refine zg ?_ _)); exact (aE av dI)) hb))
     (try clear hb)
     (try clear hb2)
     (try clear hk)
     (try clear hi)
     (try clear cd)
     refine hK.out _ _ ⟨cR, cO, ba, am, (.agg #[.int .i64 ef, .int .i64 eb, .int .u64 ee, .int .i64 ec, .int .i64 ew, cR]), cD, cF, ct, cG, cH, (by rw [ha.out]; exact putSel_upk 1 hb_ rfl rfl rfl), (zv8 A.out), (zv8 D.out), (zv7 HB.out), fun _ => (by (with_reducible repeat (first | apply Kd.R_alloc | apply Kd.R_drewN | apply Kd.R_drew)); first | exact bk.out | exact Kd.R_mono bk.out (fun _ h => by simp [h])), fun av => absurd ((hoff 3 (by kernel_rfl)).symm.trans av) (by decide), fun av => absurd ((hoff 4 (by kernel_rfl)).symm.trans av) (by decide), dR, ca, b8, aQ, aV, a6, a9, fun av => absurd ((hoff 9 (by kernel_rfl)).symm.trans av) (by decide), fun _ => rfl, fun av => absurd ((hoff 3 (by kernel_rfl)).symm.trans av) (by decide), fun av => absurd ((hoff 4 (by kernel_rfl)).symm.trans av) (by decide), fun av => absurd ((hoff 5 (by kernel_rfl)).symm.trans av) (by decide), fun av => absurd ((hoff 6 (by kernel_rfl)).symm.trans av) (by decide), bn⟩
    refine steps_cons ?_ ?_
    ·rintro b a w' ⟨cR, cO, ba, am, cE, cD, cF, ct, cG, cH, ha, ap, ao, Q_HB, bL, bZ, cb, aE, ca, b8, aQ, aV, a6, a9, b2, bv, bE, bU, bV, cc, bn⟩ hb_ hon hoff
     refine ⟨_, rfl, fun K hK => ?_⟩
     have e3 : a.tmps[3]? = some (.pointer (some ⟨bi, 0, none⟩)) := by rw [ha]; exact (putSel_off rfl).trans rfl
     replace ha := zp.mk ha
     have A := zp.mk ap
     have D := zp.mk ao
     have HB := zp.mk Q_HB
     have fU := zt0 D.out
     have fF := zt1 D.out
     have gs := zt2 D.out
     have gg := zt3 D.out
     have gi := zt4 D.out
     have gC := zt5 D.out
     refine value_ (w1 := w') (v := .agg #[.int .i64 al, .int .i64 aj, .int .u64 ai, .int .i64 ah, .int .i64 ak, .slice cq ab.length co]) (by rfl) rfl ?_ ?_
     ·go_simp
      (try simp only [i64_w])
      try rfl
     refine hK.out _ _ ⟨cR, cO, ba, am, cE, cD, cF, ct, cG, cH, (by rw [ha.out]; exact putSel_upk 2 hb_ rfl rfl rfl), ap, ao, Q_HB, bL, fun av => absurd ((hoff 3 (by kernel_rfl)).symm.trans av) (by decide), fun av => absurd ((hoff 4 (by kernel_rfl)).symm.trans av) (by decide), aE, ca, b8, aQ, aV, a6, a9, fun av => absurd ((hoff 9 (by kernel_rfl)).symm.trans av) (by decide), bv, fun av => absurd ((hoff 3 (by kernel_rfl)).symm.trans av) (by decide), fun av => absurd ((hoff 4 (by kernel_rfl)).symm.trans av) (by decide), fun av => absurd ((hoff 5 (by kernel_rfl)).symm.trans av) (by decide), fun av => absurd ((hoff 6 (by kernel_rfl)).symm.trans av) (by decide), bn⟩
    refine steps_cons ?_ ?_
    ·rintro b a w' ⟨cR, cO, ba, am, cE, cD, cF, ct, cG, cH, ha, ap, ao, Q_HB, bL, bZ, cb, aE, ca, b8, aQ, aV, a6, a9, b2, bv, bE, bU, bV, cc, bn⟩ hb_ hon hoff
     refine ⟨_, rfl, fun K hK => ?_⟩
     have oK : a.tmps[30]? = some (.agg #[.int .i64 al, .int .i64 aj, .int .u64 ai, .int .i64 ah, .int .i64 ak, .slice cq ab.length co]) := by rw [ha]; exact putSel_on (e := (2, 30, .agg #[.int .i64 al, .int .i64 aj, .int .u64 ai, .int .i64 ah, .int .i64 ak, .slice cq ab.length co])) 2 rfl rfl (hon 2 (by kernel_rfl)) rfl
     replace ha := zp.mk ha
     have A := zp.mk ap
     have D := zp.mk ao
     have HB := zp.mk Q_HB
     have bk := zp.mk (bL (hon 1 (by kernel_rfl)))
     refine goes_ Try.func10 (by kernel_rfl) rfl #[.agg #[.int .i64 al, .int .i64 aj, .int .u64 ai, .int .i64 ah, .int .i64 ak, .slice cq ab.length co]] (by rfl) rfl rfl (by first | (simp only [List.map_toArray, List.map_cons, List.map_nil, Act.eval, Array.getD_eq_getD_getElem?, Option.getD_some, oK]; done) | (simp only [List.map_toArray, List.map_cons, List.map_nil, Act.eval, Array.getD_eq_getD_getElem?, Option.getD_some, oK]; rfl)) ?_
     with_reducible refine (laws_toAgg.calls k al aj ai ah ak _ _ ab eN eP eG eJ eL ea _ ?side1 ?side2 rL.out).mono ?_
     (case side1 => repeat (first | exact (Kd.zt d4.out HB.out) | (with_reducible refine Kd.zr ?_ _) | (with_reducible refine Kd.zq ?_ _) | (with_reducible refine Kd.C_drew ?_)))
     (case side2 => exact d3.out)
     rintro e sy ⟨cO, rfl, cd, hb⟩
     refine ⟨_, rfl, ?_⟩
     have bM := zp.mk (Kd.R_lower (Kd.R_new' cd (Kd.R_lt (by (with_reducible repeat (first | apply Kd.R_alloc | apply Kd.R_drewN | apply Kd.R_drew)); first | exact bk.out | exact Kd.R_mono bk.out (fun _ h => by simp [h])))) (zk (zv7 HB.out)))
     replace bk := zp.mk (Kd.R_elder' (by (with_reducible repeat (first | apply Kd.R_alloc | apply Kd.R_drewN | apply Kd.R_drew)); exact bk.out) (Kd.R_base cd) hb)
     replace A := zp.mk (zl (zv8 A.out) hb)
     replace D := zp.mk (zl (zv8 D.out) hb)
     replace HB := zp.mk (zj (zv7 HB.out) hb); have dR := fun (av : b 8 = true) (dI : b 9 = false) => (show sy.heap[am]? = some (.cells #[.int .i64 0, .int .i64 0, .int .u64 0, .int .i64 0, .int .i64 0, .slice none 0 0] 32 (0, 0)) from by first | exact (zl (g := am) (o := .cells #[.int .i64 0, .int .i64 0, .int .u64 0, .int .i64 0, .int .i64 0, .slice none 0 0] 32 (0, 0)) (by (with_reducible repeat (first | refine zf ?_ _ | refine zi ?_ | refine zg ?_ _)); exact (aE av dI)) hb))
     (try clear hb)
     (try clear hb2)
     (try clear hk)
     (try clear hi)
     (try clear cd)
     refine hK.out _ _ ⟨cR, cO, ba, am, cE, (.agg #[.int .i64 eN, .int .i64 eP, .int .u64 eG, .int .i64 eJ, .int .i64 eL, cO]), cF, ct, cG, cH, (by rw [ha.out]; exact putSel_upk 3 hb_ rfl rfl rfl), (zv8 A.out), (zv8 D.out), (zv7 HB.out), fun _ => (by (with_reducible repeat (first | apply Kd.R_alloc | apply Kd.R_drewN | apply Kd.R_drew)); exact Kd.R_mono bk.out (fun _ h => by simp [h])), fun _ => (by (with_reducible repeat (first | apply Kd.R_alloc | apply Kd.R_drewN | apply Kd.R_drew)); exact Kd.R_mono bM.out (fun _ h => by simp [h])), fun av => absurd ((hoff 4 (by kernel_rfl)).symm.trans av) (by decide), dR, ca, b8, aQ, aV, a6, a9, fun av => absurd ((hoff 9 (by kernel_rfl)).symm.trans av) (by decide), bv, fun _ => rfl, fun av => absurd ((hoff 4 (by kernel_rfl)).symm.trans av) (by decide), fun av => absurd ((hoff 5 (by kernel_rfl)).symm.trans av) (by decide), fun av => absurd ((hoff 6 (by kernel_rfl)).symm.trans av) (by decide), bn⟩
    refine steps_cons ?_ ?_
    ·rintro b a w' ⟨cR, cO, ba, am, cE, cD, cF, ct, cG, cH, ha, ap, ao, Q_HB, bL, bZ, cb, aE, ca, b8, aQ, aV, a6, a9, b2, bv, bE, bU, bV, cc, bn⟩ hb_ hon hoff
     refine ⟨_, rfl, fun K hK => ?_⟩
     have lo : a.tmps[29]? = some (cE) := by rw [ha]; exact putSel_on (e := (1, 29, cE)) 1 rfl rfl (hon 1 (by kernel_rfl)) rfl
     rw [bv (hon 1 (by kernel_rfl))] at lo
     have kD : a.tmps[31]? = some (cD) := by rw [ha]; exact putSel_on (e := (3, 31, cD)) 3 rfl rfl (hon 3 (by kernel_rfl)) rfl
     rw [bE (hon 3 (by kernel_rfl))] at kD
     replace ha := zp.mk ha
     have A := zp.mk ap
     have D := zp.mk ao
     have HB := zp.mk Q_HB
     have bk := zp.mk (bL (hon 1 (by kernel_rfl)))
     have bM := zp.mk (bZ (hon 3 (by kernel_rfl)))
     obtain ⟨jg, jw, jt⟩ := Kd.R_slice bk.out
     (first | subst jt | (injection jt with f1_ f2_ f3_; have dX := f1_.symm; have dW := f3_.symm; clear f1_ f2_ f3_; subst dX; subst dW))
     obtain ⟨jx, jn, jv⟩ := Kd.R_slice bM.out
     (first | subst jv | (injection jv with f1_ f2_ f3_; have dX := f1_.symm; have dW := f3_.symm; clear f1_ f2_ f3_; subst dX; subst dW))
     refine goes_ Try.func25 (by kernel_rfl) rfl #[.agg #[.int .i64 ef, .int .i64 eb, .int .u64 ee, .int .i64 ec, .int .i64 ew, .slice jg d7.length jw], .agg #[.int .i64 eN, .int .i64 eP, .int .u64 eG, .int .i64 eJ, .int .i64 eL, .slice jx ea.length jn]] (by rfl) rfl rfl (by first | (simp only [List.map_toArray, List.map_cons, List.map_nil, Act.eval, Array.getD_eq_getD_getElem?, Option.getD_some, lo, kD]; done) | (simp only [List.map_toArray, List.map_cons, List.map_nil, Act.eval, Array.getD_eq_getD_getElem?, Option.getD_some, lo, kD]; rfl)) ?_
     with_reducible refine (spec_AggJoin.calls k ef eb ee ec ew _ _ d7 eN eP eG eJ eL _ _ ea az aA aC aD aG aM aN _ ?side1 ?side2 ?side3 ?side4 sv.out).mono ?_
     (case side1 => repeat (first | exact (Kd.R_reads' bk.out).2.2 | (with_reducible refine Kd.zr ?_ _) | (with_reducible refine Kd.zq ?_ _) | (with_reducible refine Kd.C_drew ?_)))
     (case side2 => exact (Kd.R_reads' bk.out).2.1)
     (case side3 => repeat (first | exact (Kd.R_reads' bM.out).2.2 | (with_reducible refine Kd.zr ?_ _) | (with_reducible refine Kd.zq ?_ _) | (with_reducible refine Kd.C_drew ?_)))
     (case side4 => exact (Kd.R_reads' bM.out).2.1)
     rintro e rK ⟨ba, rfl, cd, hb⟩
     refine ⟨_, rfl, ?_⟩
     have bO := zp.mk (Kd.R_lower (Kd.R_new' (Kd.R_new' cd (Kd.R_lt (by (with_reducible repeat (first | apply Kd.R_alloc | apply Kd.R_drewN | apply Kd.R_drew)); first | exact bk.out | exact Kd.R_mono bk.out (fun _ h => by simp [h])))) (Kd.R_lt (by (with_reducible repeat (first | apply Kd.R_alloc | apply Kd.R_drewN | apply Kd.R_drew)); first | exact bM.out | exact Kd.R_mono bM.out (fun _ h => by simp [h])))) (zk (zv7 HB.out)))
     replace bk := zp.mk (Kd.R_elder' (by (with_reducible repeat (first | apply Kd.R_alloc | apply Kd.R_drewN | apply Kd.R_drew)); exact bk.out) (Kd.R_base cd) hb)
     replace bM := zp.mk (Kd.R_elder' (by (with_reducible repeat (first | apply Kd.R_alloc | apply Kd.R_drewN | apply Kd.R_drew)); exact bM.out) (Kd.R_base cd) hb)
     replace A := zp.mk (zl (zv8 A.out) hb)
     replace D := zp.mk (zl (zv8 D.out) hb)
     replace HB := zp.mk (zj (zv7 HB.out) hb); have dR := fun (av : b 8 = true) (dI : b 9 = false) => (show rK.heap[am]? = some (.cells #[.int .i64 0, .int .i64 0, .int .u64 0, .int .i64 0, .int .i64 0, .slice none 0 0] 32 (0, 0)) from by first | exact (zl (g := am) (o := .cells #[.int .i64 0, .int .i64 0, .int .u64 0, .int .i64 0, .int .i64 0, .slice none 0 0] 32 (0, 0)) (by (with_reducible repeat (first | refine zf ?_ _ | refine zi ?_ | refine zg ?_ _)); exact (aE av dI)) hb))
     (try clear hb)
     (try clear hb2)
     (try clear hk)
     (try clear hi)
     (try clear cd)
     refine hK.out _ _ ⟨.slice jg d7.length jw, .slice jx ea.length jn, ba, am, cE, cD, (.tuple #[.agg #[.int .i64 az, .int .i64 aA, .int .u64 aC, .int .i64 aD, .int .i64 aG, ba], .bool aN]), ct, cG, cH, (by rw [ha.out]; exact putSel_upk 4 hb_ rfl rfl rfl), (zv8 A.out), (zv8 D.out), (zv7 HB.out), fun _ => (by (with_reducible repeat (first | apply Kd.R_alloc | apply Kd.R_drewN | apply Kd.R_drew)); first | exact bk.out | exact Kd.R_mono bk.out (fun _ h => by simp [h])), fun _ => (by (with_reducible repeat (first | apply Kd.R_alloc | apply Kd.R_drewN | apply Kd.R_drew)); first | exact bM.out | exact Kd.R_mono bM.out (fun _ h => by simp [h])), fun _ => (by (with_reducible repeat (first | apply Kd.R_alloc | apply Kd.R_drewN | apply Kd.R_drew)); exact Kd.R_mono bO.out (fun _ h => by simp [h])), dR, ca, b8, aQ, aV, a6, a9, fun av => absurd ((hoff 9 (by kernel_rfl)).symm.trans av) (by decide), bv, bE, fun _ => rfl, fun av => absurd ((hoff 5 (by kernel_rfl)).symm.trans av) (by decide), fun av => absurd ((hoff 6 (by kernel_rfl)).symm.trans av) (by decide), bn⟩
    refine steps_cons ?_ ?_
    ·rintro b a w' ⟨cR, cO, ba, am, cE, cD, cF, ct, cG, cH, ha, ap, ao, Q_HB, bL, bZ, cb, aE, ca, b8, aQ, aV, a6, a9, b2, bv, bE, bU, bV, cc, bn⟩ hb_ hon hoff
     refine ⟨_, rfl, fun K hK => ?_⟩
     have rO : a.tmps[32]? = some (cF) := by rw [ha]; exact putSel_on (e := (4, 32, cF)) 4 rfl rfl (hon 4 (by kernel_rfl)) rfl
     rw [bU (hon 4 (by kernel_rfl))] at rO
     replace ha := zp.mk ha
     have A := zp.mk ap
     have D := zp.mk ao
     have HB := zp.mk Q_HB
     have bk := zp.mk (bL (hon 1 (by kernel_rfl)))
     have bM := zp.mk (bZ (hon 3 (by kernel_rfl)))
     have bO := zp.mk (cb (hon 4 (by kernel_rfl)))
     refine value_ (w1 := w') (v := .tuple #[.agg #[.int .i64 az, .int .i64 aA, .int .u64 aC, .int .i64 aD, .int .i64 aG, ba], .bool aN]) (by rfl) rfl ?_ ?_
     ·go_simp
      (try simp only [i64_w])
      try rfl
     refine hK.out _ _ ⟨cR, cO, ba, am, cE, cD, cF, (.tuple #[.agg #[.int .i64 az, .int .i64 aA, .int .u64 aC, .int .i64 aD, .int .i64 aG, ba], .bool aN]), cG, cH, (by rw [ha.out]; exact putSel_upk 5 hb_ rfl rfl rfl), ap, ao, Q_HB, bL, bZ, cb, aE, ca, b8, aQ, aV, a6, a9, fun av => absurd ((hoff 9 (by kernel_rfl)).symm.trans av) (by decide), bv, bE, bU, fun _ => rfl, fun av => absurd ((hoff 6 (by kernel_rfl)).symm.trans av) (by decide), bn⟩
    refine steps_cons ?_ ?_
    ·rintro b a w' ⟨cR, cO, ba, am, cE, cD, cF, ct, cG, cH, ha, ap, ao, Q_HB, bL, bZ, cb, aE, ca, b8, aQ, aV, a6, a9, b2, bv, bE, bU, bV, cc, bn⟩ hb_ hon hoff
     refine ⟨_, rfl, fun K hK => ?_⟩
     have lz : a.tmps[27]? = some (ct) := by rw [ha]; exact putSel_on (e := (5, 27, ct)) 5 rfl rfl (hon 5 (by kernel_rfl)) rfl
     rw [bV (hon 5 (by kernel_rfl))] at lz
     replace ha := zp.mk ha
     have A := zp.mk ap
     have D := zp.mk ao
     have HB := zp.mk Q_HB
     have bk := zp.mk (bL (hon 1 (by kernel_rfl)))
     have bM := zp.mk (bZ (hon 3 (by kernel_rfl)))
     have bO := zp.mk (cb (hon 4 (by kernel_rfl)))
     refine value_ (w1 := w') (v := .agg #[.int .i64 az, .int .i64 aA, .int .u64 aC, .int .i64 aD, .int .i64 aG, ba]) (by rfl) rfl ?_ ?_
     ·go_simp
      (try simp only [i64_w])
      try rfl
     refine hK.out _ _ ⟨cR, cO, ba, am, cE, cD, cF, ct, (.agg #[.int .i64 az, .int .i64 aA, .int .u64 aC, .int .i64 aD, .int .i64 aG, ba]), cH, (by rw [ha.out]; exact putSel_upk 6 hb_ rfl rfl rfl), ap, ao, Q_HB, bL, bZ, cb, aE, ca, b8, aQ, aV, a6, a9, fun av => absurd ((hoff 9 (by kernel_rfl)).symm.trans av) (by decide), bv, bE, bU, bV, fun _ => rfl, bn⟩
    refine steps_cons ?_ ?_
    ·rintro b a w' ⟨cR, cO, ba, am, cE, cD, cF, ct, cG, cH, ha, ap, ao, Q_HB, bL, bZ, cb, aE, ca, b8, aQ, aV, a6, a9, b2, bv, bE, bU, bV, cc, bn⟩ hb_ hon hoff
     refine ⟨_, rfl, fun K hK => ?_⟩
     have lz : a.tmps[27]? = some (ct) := by rw [ha]; exact putSel_on (e := (5, 27, ct)) 5 rfl rfl (hon 5 (by kernel_rfl)) rfl
     rw [bV (hon 5 (by kernel_rfl))] at lz
     replace ha := zp.mk ha
     have A := zp.mk ap
     have D := zp.mk ao
     have HB := zp.mk Q_HB
     have bk := zp.mk (bL (hon 1 (by kernel_rfl)))
     have bM := zp.mk (bZ (hon 3 (by kernel_rfl)))
     have bO := zp.mk (cb (hon 4 (by kernel_rfl)))
     refine value_ (w1 := w') (v := .bool aN) (by rfl) rfl ?_ ?_
     ·go_simp
      (try simp only [i64_w])
      try rfl
     refine hK.out _ _ ⟨cR, cO, ba, am, cE, cD, cF, ct, cG, cH, (by rw [ha.out]; exact putSel_upk 7 hb_ rfl rfl rfl), ap, ao, Q_HB, bL, bZ, cb, aE, ca, b8, aQ, aV, a6, a9, b2, bv, bE, bU, bV, cc, bn⟩
    refine steps_cons ?_ ?_
    ·rintro b a w' ⟨cR, cO, ba, am, cE, cD, cF, ct, cG, cH, ha, ap, ao, Q_HB, bL, bZ, cb, aE, ca, b8, aQ, aV, a6, a9, b2, bv, bE, bU, bV, cc, bn⟩ hb_ hon hoff
     refine ⟨_, rfl, fun K hK => ?_⟩
     replace ha := zp.mk ha
     have A := zp.mk ap
     have D := zp.mk ao
     have HB := zp.mk Q_HB
     refine box_step ?hg (N := 6) ?hd (cs := #[.int .i64 0, .int .i64 0, .int .u64 0, .int .i64 0, .int .i64 0, .slice none 0 0]) (t := 32) ?hr ?_; (case hd => rfl); (case hg => rfl); (case hr => first | (go_simp; done) | (go_simp; rfl))
     intro am hg gy hbox hb
     have U := zp.mk (hbox)
     have el := zp.mk ((zv3 (zv7 HB.out) hg))
     have dO := zp.mk ((zv3 (zv7 HB.out) hg))
     have bg := zp.mk ((by rw [hg]; exact Nat.ne_of_lt (blk_lt (g := bc) (o := .cells #[.int .i64 ag, .int .i64 ac, .int .u64 ad, .int .i64 af, .int .i64 ae, .slice ce y.length cf] 27 (0, 0)) (zv8 A.out)) : bc ≠ am))
     have b4 := zp.mk ((by rw [hg]; exact Nat.ne_of_gt (blk_lt (g := bc) (o := .cells #[.int .i64 ag, .int .i64 ac, .int .u64 ad, .int .i64 af, .int .i64 ae, .slice ce y.length cf] 27 (0, 0)) (zv8 A.out)) : am ≠ bc))
     have bh := zp.mk ((by rw [hg]; exact Nat.ne_of_lt (blk_lt (g := bi) (o := .cells #[.int .i64 al, .int .i64 aj, .int .u64 ai, .int .i64 ah, .int .i64 ak, .slice cq ab.length co] 27 (0, 0)) (zv8 D.out)) : bi ≠ am))
     have b5 := zp.mk ((by rw [hg]; exact Nat.ne_of_gt (blk_lt (g := bi) (o := .cells #[.int .i64 al, .int .i64 aj, .int .u64 ai, .int .i64 ah, .int .i64 ak, .slice cq ab.length co] 27 (0, 0)) (zv8 D.out)) : am ≠ bi)); have fC := fun (av : b 1 = true) => (show Kd.R (Kd.int .i64) 3 gy w.heap.size (fun _ => True) cR d7 from by first | exact (Kd.R_below (by (with_reducible repeat (first | apply Kd.R_alloc | apply Kd.R_drewN | apply Kd.R_drew)); exact (bL av)) hb) | exact Kd.R_mono (Kd.R_below (by (with_reducible repeat (first | apply Kd.R_alloc | apply Kd.R_drewN | apply Kd.R_drew)); exact (bL av)) hb) (fun _ h_ => by first | trivial | exact h_ | exact h_.1)); have gm := fun (av : b 3 = true) => (show Kd.R (Kd.int .i64) 3 gy w.heap.size (fun _ => True) cO ea from by first | exact (Kd.R_below (by (with_reducible repeat (first | apply Kd.R_alloc | apply Kd.R_drewN | apply Kd.R_drew)); exact (bZ av)) hb) | exact Kd.R_mono (Kd.R_below (by (with_reducible repeat (first | apply Kd.R_alloc | apply Kd.R_drewN | apply Kd.R_drew)); exact (bZ av)) hb) (fun _ h_ => by first | trivial | exact h_ | exact h_.1)); have fI := fun (av : b 4 = true) => (show Kd.R (Kd.int .i64) 3 gy w.heap.size (fun _ => True) ba aM from by first | exact (Kd.R_below (by (with_reducible repeat (first | apply Kd.R_alloc | apply Kd.R_drewN | apply Kd.R_drew)); exact (cb av)) hb) | exact Kd.R_mono (Kd.R_below (by (with_reducible repeat (first | apply Kd.R_alloc | apply Kd.R_drewN | apply Kd.R_drew)); exact (cb av)) hb) (fun _ h_ => by first | trivial | exact h_ | exact h_.1))
     replace A := zp.mk (zl (zv8 A.out) hb)
     replace D := zp.mk (zl (zv8 D.out) hb)
     replace HB := zp.mk (zj (zv7 HB.out) hb)
     clear hb hbox hg
     refine hK.out _ _ ⟨cR, cO, ba, am, cE, cD, cF, ct, cG, (.pointer (some ⟨am, 0, none⟩)), (by rw [ha.out]; exact putSel_upk 8 hb_ rfl rfl rfl), (zv8 A.out), (zv8 D.out), (zv7 HB.out), fC, gm, fI, fun _ _ => (zv8 U.out), fun _ => el.out, fun _ => dO.out, fun _ => bg.out, fun _ => b4.out, fun _ => bh.out, fun _ => b5.out, fun av => absurd ((hoff 9 (by kernel_rfl)).symm.trans av) (by decide), bv, bE, bU, bV, cc, fun _ => rfl⟩
    refine steps_cons ?_ ?_
    ·rintro b a w' ⟨cR, cO, ba, am, cE, cD, cF, ct, cG, cH, ha, ap, ao, Q_HB, bL, bZ, cb, aE, ca, b8, aQ, aV, a6, a9, b2, bv, bE, bU, bV, cc, bn⟩ hb_ hon hoff
     refine ⟨_, rfl, fun K hK => ?_⟩
     have e6 : a.tmps[6]? = some (cH) := by rw [ha]; exact putSel_on (e := (8, 6, cH)) 8 rfl rfl (hon 8 (by kernel_rfl)) rfl
     rw [bn (hon 8 (by kernel_rfl))] at e6
     have sJ : a.tmps[33]? = some (cG) := by rw [ha]; exact putSel_on (e := (6, 33, cG)) 6 rfl rfl (hon 6 (by kernel_rfl)) rfl
     rw [cc (hon 6 (by kernel_rfl))] at sJ
     replace ha := zp.mk ha
     have A := zp.mk ap
     have D := zp.mk ao
     have HB := zp.mk Q_HB
     have bk := zp.mk (bL (hon 1 (by kernel_rfl)))
     have bM := zp.mk (bZ (hon 3 (by kernel_rfl)))
     have bO := zp.mk (cb (hon 4 (by kernel_rfl)))
     have U := zp.mk (aE (hon 8 (by kernel_rfl)) hb_)
     have el := zp.mk (ca (hon 8 (by kernel_rfl)))
     have dO := zp.mk (b8 (hon 8 (by kernel_rfl)))
     have bg := zp.mk (aQ (hon 8 (by kernel_rfl)))
     have b4 := zp.mk (aV (hon 8 (by kernel_rfl)))
     have bh := zp.mk (a6 (hon 8 (by kernel_rfl)))
     have b5 := zp.mk (a9 (hon 8 (by kernel_rfl)))
     obtain ⟨fg, fj, ju⟩ := Kd.R_slice bO.out
     (first | subst ju | (injection ju with f1_ f2_ f3_; have dX := f1_.symm; have dW := f3_.symm; clear f1_ f2_ f3_; subst dX; subst dW))
     have tK : w'.cell? ⟨am, 0, none⟩ = some (.int .i64 0) := (ze U.out 0).trans rfl
     have tf := zd U.out 0
     have nP := bg.out
     have od := bh.out
     have ol := b4.out
     have ow := b5.out
     have tB : w'.cell? ⟨am, 1, none⟩ = some (.int .i64 0) := (ze U.out 1).trans rfl
     have tn := zd U.out 1
     have oS := bg.out
     have oC := bh.out
     have oj := b4.out
     have oJ := b5.out
     have tr : w'.cell? ⟨am, 2, none⟩ = some (.int .u64 0) := (ze U.out 2).trans rfl
     have th := zd U.out 2
     have oE := bg.out
     have oc := bh.out
     have nY := b4.out
     have oG := b5.out
     have tR : w'.cell? ⟨am, 3, none⟩ = some (.int .i64 0) := (ze U.out 3).trans rfl
     have rS := zd U.out 3
     have oo := bg.out
     have nX := bh.out
     have oz := b4.out
     have n3 := b5.out
     have tC : w'.cell? ⟨am, 4, none⟩ = some (.int .i64 0) := (ze U.out 4).trans rfl
     have r8 := zd U.out 4
     have n0 := bg.out
     have oB := bh.out
     have n9 := b4.out
     have oM := b5.out
     have tI : w'.cell? ⟨am, 5, none⟩ = some (.slice none 0 0) := (ze U.out 5).trans rfl
     have tc := zd U.out 5
     have n2 := bg.out
     have nT := bh.out
     have oF := b4.out
     have nN := b5.out
     refine skip_ (w1 := ?_) (by rfl) rfl ?_ ?_
     rotate_left
     ·go_simp
      rfl
     refine hK.out _ _ ⟨cR, cO, .slice fg aM.length fj, am, cE, cD, cF, ct, cG, cH, (by rw [ha.out]; exact putSel_none (v := undef) rfl), (by (with_reducible repeat (first | refine zf ?_ _ | refine zi ?_ | refine zg ?_ _)); refine blk_far ?_ bg.out _; (with_reducible repeat (first | refine zf ?_ _ | refine zi ?_ | refine zg ?_ _)); refine blk_far ?_ bg.out _; (with_reducible repeat (first | refine zf ?_ _ | refine zi ?_ | refine zg ?_ _)); refine blk_far ?_ bg.out _; (with_reducible repeat (first | refine zf ?_ _ | refine zi ?_ | refine zg ?_ _)); refine blk_far ?_ bg.out _; (with_reducible repeat (first | refine zf ?_ _ | refine zi ?_ | refine zg ?_ _)); refine blk_far ?_ bg.out _; (with_reducible repeat (first | refine zf ?_ _ | refine zi ?_ | refine zg ?_ _)); refine blk_far ?_ bg.out _; (with_reducible repeat (first | refine zf ?_ _ | refine zi ?_ | refine zg ?_ _)); exact A.out), (by (with_reducible repeat (first | refine zf ?_ _ | refine zi ?_ | refine zg ?_ _)); refine blk_far ?_ bh.out _; (with_reducible repeat (first | refine zf ?_ _ | refine zi ?_ | refine zg ?_ _)); refine blk_far ?_ bh.out _; (with_reducible repeat (first | refine zf ?_ _ | refine zi ?_ | refine zg ?_ _)); refine blk_far ?_ bh.out _; (with_reducible repeat (first | refine zf ?_ _ | refine zi ?_ | refine zg ?_ _)); refine blk_far ?_ bh.out _; (with_reducible repeat (first | refine zf ?_ _ | refine zi ?_ | refine zg ?_ _)); refine blk_far ?_ bh.out _; (with_reducible repeat (first | refine zf ?_ _ | refine zi ?_ | refine zg ?_ _)); refine blk_far ?_ bh.out _; (with_reducible repeat (first | refine zf ?_ _ | refine zi ?_ | refine zg ?_ _)); exact D.out), (zv7 HB.out), fun _ => (by (with_reducible repeat (first | apply Kd.R_alloc | apply Kd.R_drewN | apply Kd.R_drew)); exact Kd.R_mono (Kd.R_far (p := ⟨am, 5, none⟩) (Kd.R_far (p := ⟨am, 4, none⟩) (Kd.R_far (p := ⟨am, 3, none⟩) (Kd.R_far (p := ⟨am, 2, none⟩) (Kd.R_far (p := ⟨am, 1, none⟩) (Kd.R_far (p := ⟨am, 0, none⟩) (Kd.R_types bk.out U.out (by decide)) (fun _ h => by simp [h]) (.int .i64 az)) (fun _ h => by simp [h]) (.int .i64 aA)) (fun _ h => by simp [h]) (.int .u64 aC)) (fun _ h => by simp [h]) (.int .i64 aD)) (fun _ h => by simp [h]) (.int .i64 aG)) (fun _ h => by simp [h]) (.slice fg aM.length fj)) (fun _ h => by simp [h])), fun _ => (by (with_reducible repeat (first | apply Kd.R_alloc | apply Kd.R_drewN | apply Kd.R_drew)); exact Kd.R_mono (Kd.R_far (p := ⟨am, 5, none⟩) (Kd.R_far (p := ⟨am, 4, none⟩) (Kd.R_far (p := ⟨am, 3, none⟩) (Kd.R_far (p := ⟨am, 2, none⟩) (Kd.R_far (p := ⟨am, 1, none⟩) (Kd.R_far (p := ⟨am, 0, none⟩) (Kd.R_types bM.out U.out (by decide)) (fun _ h => by simp [h]) (.int .i64 az)) (fun _ h => by simp [h]) (.int .i64 aA)) (fun _ h => by simp [h]) (.int .u64 aC)) (fun _ h => by simp [h]) (.int .i64 aD)) (fun _ h => by simp [h]) (.int .i64 aG)) (fun _ h => by simp [h]) (.slice fg aM.length fj)) (fun _ h => by simp [h])), fun _ => (by (with_reducible repeat (first | apply Kd.R_alloc | apply Kd.R_drewN | apply Kd.R_drew)); exact Kd.R_mono (Kd.R_far (p := ⟨am, 5, none⟩) (Kd.R_far (p := ⟨am, 4, none⟩) (Kd.R_far (p := ⟨am, 3, none⟩) (Kd.R_far (p := ⟨am, 2, none⟩) (Kd.R_far (p := ⟨am, 1, none⟩) (Kd.R_far (p := ⟨am, 0, none⟩) (Kd.R_types bO.out U.out (by decide)) (fun _ h => by simp [h]) (.int .i64 az)) (fun _ h => by simp [h]) (.int .i64 aA)) (fun _ h => by simp [h]) (.int .u64 aC)) (fun _ h => by simp [h]) (.int .i64 aD)) (fun _ h => by simp [h]) (.int .i64 aG)) (fun _ h => by simp [h]) (.slice fg aM.length fj)) (fun _ h => by simp [h])), fun _ dI => absurd ((up_self b 9).symm.trans dI) (by decide), fun _ => el.out, fun _ => dO.out, fun _ => bg.out, fun _ => b4.out, fun _ => bh.out, fun _ => b5.out, fun _ => (by (with_reducible repeat (first | refine zf ?_ _ | refine zi ?_ | refine zg ?_ _)); refine blk_put (cs := #[.int .i64 az, .int .i64 aA, .int .u64 aC, .int .i64 aD, .int .i64 aG, .slice none 0 0]) ?_ 5 _ rfl; (with_reducible repeat (first | refine zf ?_ _ | refine zi ?_ | refine zg ?_ _)); refine blk_put (cs := #[.int .i64 az, .int .i64 aA, .int .u64 aC, .int .i64 aD, .int .i64 0, .slice none 0 0]) ?_ 4 _ rfl; (with_reducible repeat (first | refine zf ?_ _ | refine zi ?_ | refine zg ?_ _)); refine blk_put (cs := #[.int .i64 az, .int .i64 aA, .int .u64 aC, .int .i64 0, .int .i64 0, .slice none 0 0]) ?_ 3 _ rfl; (with_reducible repeat (first | refine zf ?_ _ | refine zi ?_ | refine zg ?_ _)); refine blk_put (cs := #[.int .i64 az, .int .i64 aA, .int .u64 0, .int .i64 0, .int .i64 0, .slice none 0 0]) ?_ 2 _ rfl; (with_reducible repeat (first | refine zf ?_ _ | refine zi ?_ | refine zg ?_ _)); refine blk_put (cs := #[.int .i64 az, .int .i64 0, .int .u64 0, .int .i64 0, .int .i64 0, .slice none 0 0]) ?_ 1 _ rfl; (with_reducible repeat (first | refine zf ?_ _ | refine zi ?_ | refine zg ?_ _)); refine blk_put (cs := #[.int .i64 0, .int .i64 0, .int .u64 0, .int .i64 0, .int .i64 0, .slice none 0 0]) ?_ 0 _ rfl; (with_reducible repeat (first | refine zf ?_ _ | refine zi ?_ | refine zg ?_ _)); exact U.out), bv, bE, bU, bV, cc, bn⟩
    refine steps_cons ?_ ?_
    ·rintro b a w' ⟨cR, cO, ba, am, cE, cD, cF, ct, cG, cH, ha, ap, ao, Q_HB, bL, bZ, cb, aE, ca, b8, aQ, aV, a6, a9, b2, bv, bE, bU, bV, cc, bn⟩ hb_ hon hoff
     refine ⟨_, rfl, fun K hK => ?_⟩
     have t7 : a.tmps[34]? = some (.bool aN) := by rw [ha]; exact putSel_on (e := (7, 34, .bool aN)) 7 rfl rfl (hon 7 (by kernel_rfl)) rfl
     replace ha := zp.mk ha
     have A := zp.mk ap
     have D := zp.mk ao
     have HB := zp.mk Q_HB
     have bk := zp.mk (bL (hon 1 (by kernel_rfl)))
     have bM := zp.mk (bZ (hon 3 (by kernel_rfl)))
     have bO := zp.mk (cb (hon 4 (by kernel_rfl)))
     have el := zp.mk (ca (hon 8 (by kernel_rfl)))
     have dO := zp.mk (b8 (hon 8 (by kernel_rfl)))
     have bg := zp.mk (aQ (hon 8 (by kernel_rfl)))
     have b4 := zp.mk (aV (hon 8 (by kernel_rfl)))
     have bh := zp.mk (a6 (hon 8 (by kernel_rfl)))
     have b5 := zp.mk (a9 (hon 8 (by kernel_rfl)))
     have U := zp.mk (b2 (hon 9 (by kernel_rfl)))
     refine value_ (w1 := w') (v := .bool aN) (by rfl) rfl ?_ ?_
     ·go_simp
      (try simp only [i64_w])
      try rfl
     refine hK.out _ _ ⟨cR, cO, ba, am, cE, cD, cF, ct, cG, cH, (by rw [ha.out]; exact putSel_upk 9 hb_ rfl rfl rfl), ap, ao, Q_HB, bL, bZ, cb, fun _ dI => absurd ((hon 9 (by kernel_rfl)).symm.trans dI) (by decide), ca, b8, aQ, aV, a6, a9, b2, bv, bE, bU, bV, cc, bn⟩
    exact steps_nil
   rintro b a tW hall ⟨cR, cO, ba, am, cE, cD, cF, ct, cG, cH, ha, ap, ao, Q_HB, bL, bZ, cb, aE, ca, b8, aQ, aV, a6, a9, b2, bv, bE, bU, bV, cc, bn⟩
   clear A D HB
   have e4 := hall 0 (by kernel_rfl)
   have dZ := hall 1 (by kernel_rfl)
   have eX := hall 2 (by kernel_rfl)
   have d0 := hall 3 (by kernel_rfl)
   have d1 := hall 4 (by kernel_rfl)
   have ei := hall 5 (by kernel_rfl)
   have ed := hall 6 (by kernel_rfl)
   have eR := hall 7 (by kernel_rfl)
   have cN := hall 8 (by kernel_rfl)
   have ej := hall 9 (by kernel_rfl)
   have eA := hall 10 (by kernel_rfl)
   subst ha
   obtain rfl := bv dZ
   obtain rfl := bE d0
   obtain rfl := bU d1
   obtain rfl := bV ei
   obtain rfl := cc ed
   obtain rfl := bn cN
   simp only [putSel, e4, dZ, eX, d0, d1, ei, ed, eR, cN, ej, eA, if_true, Act.put, zs1, zs2, zs3]
   have A := zp.mk ap
   clear ap
   have D := zp.mk ao
   clear ao
   have HB := zp.mk Q_HB
   clear Q_HB
   have bk := zp.mk (bL dZ)
   clear bL
   have bM := zp.mk (bZ d0)
   clear bZ
   have bO := zp.mk (cb d1)
   clear cb
   clear aE
   have el := zp.mk (ca cN)
   clear ca
   have dO := zp.mk (b8 cN)
   clear b8
   have bg := zp.mk (aQ cN)
   clear aQ
   have b4 := zp.mk (aV cN)
   clear aV
   have bh := zp.mk (a6 cN)
   clear a6
   have b5 := zp.mk (a9 cN)
   clear a9
   have U := zp.mk (b2 ej)
   clear b2
   clear hall e4 dZ eX d0 d1 ei ed eR cN ej eA
   have tm := bg.out
   have sk := b4.out
   have lW := zt0 A.out
   have mm := zt1 A.out
   have kd := zt2 A.out
   have k8 := zt3 A.out
   have kF := zt4 A.out
   have kJ := zt5 A.out
   have lV := zd A.out 0
   have mq := zd A.out 1
   have lw := zd A.out 2
   have kZ := zd A.out 3
   have lL := zd A.out 4
   have k3 := zd A.out 5
   go_upto_region 12 with (first | ((with_reducible refine zn (f := 10) rfl ?_); refine goesL_ (some 36) rfl rfl Try.func10 (by kernel_rfl) rfl #[.agg #[.int .i64 ag, .int .i64 ac, .int .u64 ad, .int .i64 af, .int .i64 ae, .slice ce y.length cf]] rfl (by (try simp only [List.map_toArray, List.map_cons, List.map_nil]); first | done | rfl | (simp only [List.length_drop, List.length_take]; rfl)) ?_; (with_reducible refine (laws_toAgg.calls k ag ac ad af ae _ _ y bA bC bG bN bP be _ ?side1 ?side2 rE.out).mono ?_); (case side1 => repeat (first | exact (Kd.zt dY.out HB.out) | (with_reducible refine Kd.zr ?_ _) | (with_reducible refine Kd.zq ?_ _) | (with_reducible refine Kd.C_drew ?_))); (case side2 => exact dV.out); rintro e ub ⟨tG, rfl, cd, hb⟩; refine ⟨_, rfl, ?_⟩; have cI := zp.mk (Kd.R_lower (Kd.R_new' (Kd.R_new' (Kd.R_new' cd (Kd.R_lt (by (with_reducible repeat (first | apply Kd.R_alloc | apply Kd.R_drewN | apply Kd.R_drew)); first | exact bk.out | exact Kd.R_mono bk.out (fun _ h => by simp [h])))) (Kd.R_lt (by (with_reducible repeat (first | apply Kd.R_alloc | apply Kd.R_drewN | apply Kd.R_drew)); first | exact bM.out | exact Kd.R_mono bM.out (fun _ h => by simp [h])))) (Kd.R_lt (by (with_reducible repeat (first | apply Kd.R_alloc | apply Kd.R_drewN | apply Kd.R_drew)); first | exact bO.out | exact Kd.R_mono bO.out (fun _ h => by simp [h])))) (zk (zv7 HB.out))); replace bk := zp.mk (Kd.R_elder' (by (with_reducible repeat (first | apply Kd.R_alloc | apply Kd.R_drewN | apply Kd.R_drew)); exact bk.out) (Kd.R_base cd) hb); replace bM := zp.mk (Kd.R_elder' (by (with_reducible repeat (first | apply Kd.R_alloc | apply Kd.R_drewN | apply Kd.R_drew)); exact bM.out) (Kd.R_base cd) hb); replace bO := zp.mk (Kd.R_elder' (by (with_reducible repeat (first | apply Kd.R_alloc | apply Kd.R_drewN | apply Kd.R_drew)); exact bO.out) (Kd.R_base cd) hb); replace A := zp.mk (zl (zv8 A.out) hb); replace D := zp.mk (zl (zv8 D.out) hb); replace U := zp.mk (zl (zv8 U.out) hb); replace HB := zp.mk (zj (zv7 HB.out) hb); (try clear hb); (try clear hb2); (try clear hk); (try clear hi); (try clear cd)) | ((with_reducible refine zo (N := 8) rfl ?_); refine zm ?hg (N := 8) ?hd (cs := #[.int .i64 0, .int .i64 0, .int .u64 0, .int .i64 0, .int .i64 0, .slice none 0 0]) (t := 32) ?hr ?_; (case hd => rfl); (case hg => rfl); (case hr => first | (go_simp; done) | (go_simp; rfl)); intro ax hg uc hbox hb; have W := zp.mk (hbox); have st := zp.mk ((zv3 (zv7 HB.out) hg)); have e8 := zp.mk ((zv3 (zv7 HB.out) hg)); have dg := zp.mk ((by rw [hg]; exact Nat.ne_of_lt (blk_lt (g := bc) (o := .cells #[.int .i64 ag, .int .i64 ac, .int .u64 ad, .int .i64 af, .int .i64 ae, .slice ce y.length cf] 27 (0, 0)) (zv8 A.out)) : bc ≠ ax)); have es := zp.mk ((by rw [hg]; exact Nat.ne_of_gt (blk_lt (g := bc) (o := .cells #[.int .i64 ag, .int .i64 ac, .int .u64 ad, .int .i64 af, .int .i64 ae, .slice ce y.length cf] 27 (0, 0)) (zv8 A.out)) : ax ≠ bc)); have db := zp.mk ((by rw [hg]; exact Nat.ne_of_lt (blk_lt (g := bi) (o := .cells #[.int .i64 al, .int .i64 aj, .int .u64 ai, .int .i64 ah, .int .i64 ak, .slice cq ab.length co] 27 (0, 0)) (zv8 D.out)) : bi ≠ ax)); have ek := zp.mk ((by rw [hg]; exact Nat.ne_of_gt (blk_lt (g := bi) (o := .cells #[.int .i64 al, .int .i64 aj, .int .u64 ai, .int .i64 ah, .int .i64 ak, .slice cq ab.length co] 27 (0, 0)) (zv8 D.out)) : ax ≠ bi)); have cn := zp.mk ((by rw [hg]; exact Nat.ne_of_lt (blk_lt (g := am) (o := .cells #[.int .i64 az, .int .i64 aA, .int .u64 aC, .int .i64 aD, .int .i64 aG, ba] 32 (0, 0)) (zv8 U.out)) : am ≠ ax)); have dh := zp.mk ((by rw [hg]; exact Nat.ne_of_gt (blk_lt (g := am) (o := .cells #[.int .i64 az, .int .i64 aA, .int .u64 aC, .int .i64 aD, .int .i64 aG, ba] 32 (0, 0)) (zv8 U.out)) : ax ≠ am)); replace bk := zp.mk (Kd.R_below (by (with_reducible repeat (first | apply Kd.R_alloc | apply Kd.R_drewN | apply Kd.R_drew)); first | exact bk.out | exact Kd.R_mono bk.out (fun _ h => by simp [h])) hb); replace bM := zp.mk (Kd.R_below (by (with_reducible repeat (first | apply Kd.R_alloc | apply Kd.R_drewN | apply Kd.R_drew)); first | exact bM.out | exact Kd.R_mono bM.out (fun _ h => by simp [h])) hb); replace bO := zp.mk (Kd.R_below (by (with_reducible repeat (first | apply Kd.R_alloc | apply Kd.R_drewN | apply Kd.R_drew)); first | exact bO.out | exact Kd.R_mono bO.out (fun _ h => by simp [h])) hb); replace cI := zp.mk (Kd.R_below (by (with_reducible repeat (first | apply Kd.R_alloc | apply Kd.R_drewN | apply Kd.R_drew)); first | exact cI.out | exact Kd.R_mono cI.out (fun _ h => by simp [h])) hb); replace A := zp.mk (zl (zv8 A.out) hb); replace D := zp.mk (zl (zv8 D.out) hb); replace U := zp.mk (zl (zv8 U.out) hb); replace HB := zp.mk (zj (zv7 HB.out) hb); clear hb hbox hg; have r3 := es.out; have sl := dg.out; have sa := ek.out; have r0 := db.out; have r9 := dh.out; have sn := cn.out; have k6 := zt0 W.out; have jX := zt1 W.out; have lB := zt2 W.out; have lr := zt3 W.out; have jR := zt4 W.out; have me := zt5 W.out; have kz := zd W.out 0; have ks := zd W.out 1; have ls := zd W.out 2; have lU := zd W.out 3; have la := zd W.out 4; have k2 := zd W.out 5; obtain ⟨bq, bp, oy⟩ := Kd.R_slice cI.out; subst oy; have sD := bh.out; have sh := b5.out; have jK := zt0 D.out; have lA := zt1 D.out; have k7 := zt2 D.out; have j4 := zt3 D.out; have kw := zt4 D.out; have j5 := zt5 D.out; have kc := zd D.out 0; have kx := zd D.out 1; have jU := zd D.out 2; have lT := zd D.out 3; have mg := zd D.out 4; have mj := zd D.out 5) | ((with_reducible refine zn (f := 10) rfl ?_); refine goesL_ (some 38) rfl rfl Try.func10 (by kernel_rfl) rfl #[.agg #[.int .i64 al, .int .i64 aj, .int .u64 ai, .int .i64 ah, .int .i64 ak, .slice cq ab.length co]] rfl (by (try simp only [List.map_toArray, List.map_cons, List.map_nil]); first | done | rfl | (simp only [List.length_drop, List.length_take]; rfl)) ?_; (with_reducible refine (laws_toAgg.calls k al aj ai ah ak _ _ ab bw bx bB bD bI bd _ ?side1 ?side2 sL.out).mono ?_); (case side1 => exact Kd.zt d4.out (zv7 HB.out)); (case side2 => exact d3.out); rintro e t1 ⟨tv, rfl, cd, hb⟩; refine ⟨_, rfl, ?_⟩; have cY := zp.mk (Kd.R_lower (Kd.R_new' (Kd.R_new' (Kd.R_new' (Kd.R_new' cd (Kd.R_lt (by (with_reducible repeat (first | apply Kd.R_alloc | apply Kd.R_drewN | apply Kd.R_drew)); exact (Kd.R_mono (Kd.R_far (p := ⟨ax, 5, none⟩) (Kd.R_far (p := ⟨ax, 4, none⟩) (Kd.R_far (p := ⟨ax, 3, none⟩) (Kd.R_far (p := ⟨ax, 2, none⟩) (Kd.R_far (p := ⟨ax, 1, none⟩) (Kd.R_far (p := ⟨ax, 0, none⟩) (Kd.R_types bk.out W.out (by decide)) (fun _ h => by simp [h]) (.int .i64 bA)) (fun _ h => by simp [h]) (.int .i64 bC)) (fun _ h => by simp [h]) (.int .u64 bG)) (fun _ h => by simp [h]) (.int .i64 bN)) (fun _ h => by simp [h]) (.int .i64 bP)) (fun _ h => by simp [h]) (.slice bq be.length bp)) (fun _ h => by first | exact h.1 | simp [h]))))) (Kd.R_lt (by (with_reducible repeat (first | apply Kd.R_alloc | apply Kd.R_drewN | apply Kd.R_drew)); exact (Kd.R_mono (Kd.R_far (p := ⟨ax, 5, none⟩) (Kd.R_far (p := ⟨ax, 4, none⟩) (Kd.R_far (p := ⟨ax, 3, none⟩) (Kd.R_far (p := ⟨ax, 2, none⟩) (Kd.R_far (p := ⟨ax, 1, none⟩) (Kd.R_far (p := ⟨ax, 0, none⟩) (Kd.R_types bM.out W.out (by decide)) (fun _ h => by simp [h]) (.int .i64 bA)) (fun _ h => by simp [h]) (.int .i64 bC)) (fun _ h => by simp [h]) (.int .u64 bG)) (fun _ h => by simp [h]) (.int .i64 bN)) (fun _ h => by simp [h]) (.int .i64 bP)) (fun _ h => by simp [h]) (.slice bq be.length bp)) (fun _ h => by first | exact h.1 | simp [h]))))) (Kd.R_lt (by (with_reducible repeat (first | apply Kd.R_alloc | apply Kd.R_drewN | apply Kd.R_drew)); exact (Kd.R_mono (Kd.R_far (p := ⟨ax, 5, none⟩) (Kd.R_far (p := ⟨ax, 4, none⟩) (Kd.R_far (p := ⟨ax, 3, none⟩) (Kd.R_far (p := ⟨ax, 2, none⟩) (Kd.R_far (p := ⟨ax, 1, none⟩) (Kd.R_far (p := ⟨ax, 0, none⟩) (Kd.R_types bO.out W.out (by decide)) (fun _ h => by simp [h]) (.int .i64 bA)) (fun _ h => by simp [h]) (.int .i64 bC)) (fun _ h => by simp [h]) (.int .u64 bG)) (fun _ h => by simp [h]) (.int .i64 bN)) (fun _ h => by simp [h]) (.int .i64 bP)) (fun _ h => by simp [h]) (.slice bq be.length bp)) (fun _ h => by first | exact h.1 | simp [h]))))) (Kd.R_lt (by (with_reducible repeat (first | apply Kd.R_alloc | apply Kd.R_drewN | apply Kd.R_drew)); exact (Kd.R_mono (Kd.R_far (p := ⟨ax, 5, none⟩) (Kd.R_far (p := ⟨ax, 4, none⟩) (Kd.R_far (p := ⟨ax, 3, none⟩) (Kd.R_far (p := ⟨ax, 2, none⟩) (Kd.R_far (p := ⟨ax, 1, none⟩) (Kd.R_far (p := ⟨ax, 0, none⟩) (Kd.R_types cI.out W.out (by decide)) (fun _ h => by simp [h]) (.int .i64 bA)) (fun _ h => by simp [h]) (.int .i64 bC)) (fun _ h => by simp [h]) (.int .u64 bG)) (fun _ h => by simp [h]) (.int .i64 bN)) (fun _ h => by simp [h]) (.int .i64 bP)) (fun _ h => by simp [h]) (.slice bq be.length bp)) (fun _ h => by first | exact h.1 | simp [h]))))) (zk (zv7 HB.out))); replace bk := zp.mk (Kd.R_elder' (by (with_reducible repeat (first | apply Kd.R_alloc | apply Kd.R_drewN | apply Kd.R_drew)); exact (Kd.R_mono (Kd.R_far (p := ⟨ax, 5, none⟩) (Kd.R_far (p := ⟨ax, 4, none⟩) (Kd.R_far (p := ⟨ax, 3, none⟩) (Kd.R_far (p := ⟨ax, 2, none⟩) (Kd.R_far (p := ⟨ax, 1, none⟩) (Kd.R_far (p := ⟨ax, 0, none⟩) (Kd.R_types bk.out W.out (by decide)) (fun _ h => by simp [h]) (.int .i64 bA)) (fun _ h => by simp [h]) (.int .i64 bC)) (fun _ h => by simp [h]) (.int .u64 bG)) (fun _ h => by simp [h]) (.int .i64 bN)) (fun _ h => by simp [h]) (.int .i64 bP)) (fun _ h => by simp [h]) (.slice bq be.length bp)) (fun _ h => by first | exact h.1 | simp [h]))) (Kd.R_base cd) hb); replace bM := zp.mk (Kd.R_elder' (by (with_reducible repeat (first | apply Kd.R_alloc | apply Kd.R_drewN | apply Kd.R_drew)); exact (Kd.R_mono (Kd.R_far (p := ⟨ax, 5, none⟩) (Kd.R_far (p := ⟨ax, 4, none⟩) (Kd.R_far (p := ⟨ax, 3, none⟩) (Kd.R_far (p := ⟨ax, 2, none⟩) (Kd.R_far (p := ⟨ax, 1, none⟩) (Kd.R_far (p := ⟨ax, 0, none⟩) (Kd.R_types bM.out W.out (by decide)) (fun _ h => by simp [h]) (.int .i64 bA)) (fun _ h => by simp [h]) (.int .i64 bC)) (fun _ h => by simp [h]) (.int .u64 bG)) (fun _ h => by simp [h]) (.int .i64 bN)) (fun _ h => by simp [h]) (.int .i64 bP)) (fun _ h => by simp [h]) (.slice bq be.length bp)) (fun _ h => by first | exact h.1 | simp [h]))) (Kd.R_base cd) hb); replace bO := zp.mk (Kd.R_elder' (by (with_reducible repeat (first | apply Kd.R_alloc | apply Kd.R_drewN | apply Kd.R_drew)); exact (Kd.R_mono (Kd.R_far (p := ⟨ax, 5, none⟩) (Kd.R_far (p := ⟨ax, 4, none⟩) (Kd.R_far (p := ⟨ax, 3, none⟩) (Kd.R_far (p := ⟨ax, 2, none⟩) (Kd.R_far (p := ⟨ax, 1, none⟩) (Kd.R_far (p := ⟨ax, 0, none⟩) (Kd.R_types bO.out W.out (by decide)) (fun _ h => by simp [h]) (.int .i64 bA)) (fun _ h => by simp [h]) (.int .i64 bC)) (fun _ h => by simp [h]) (.int .u64 bG)) (fun _ h => by simp [h]) (.int .i64 bN)) (fun _ h => by simp [h]) (.int .i64 bP)) (fun _ h => by simp [h]) (.slice bq be.length bp)) (fun _ h => by first | exact h.1 | simp [h]))) (Kd.R_base cd) hb); replace cI := zp.mk (Kd.R_elder' (by (with_reducible repeat (first | apply Kd.R_alloc | apply Kd.R_drewN | apply Kd.R_drew)); exact (Kd.R_mono (Kd.R_far (p := ⟨ax, 5, none⟩) (Kd.R_far (p := ⟨ax, 4, none⟩) (Kd.R_far (p := ⟨ax, 3, none⟩) (Kd.R_far (p := ⟨ax, 2, none⟩) (Kd.R_far (p := ⟨ax, 1, none⟩) (Kd.R_far (p := ⟨ax, 0, none⟩) (Kd.R_types cI.out W.out (by decide)) (fun _ h => by simp [h]) (.int .i64 bA)) (fun _ h => by simp [h]) (.int .i64 bC)) (fun _ h => by simp [h]) (.int .u64 bG)) (fun _ h => by simp [h]) (.int .i64 bN)) (fun _ h => by simp [h]) (.int .i64 bP)) (fun _ h => by simp [h]) (.slice bq be.length bp)) (fun _ h => by first | exact h.1 | simp [h]))) (Kd.R_base cd) hb); replace A := zp.mk (zl (g := bc) (o := .cells #[.int .i64 ag, .int .i64 ac, .int .u64 ad, .int .i64 af, .int .i64 ae, .slice ce y.length cf] 27 (0, 0)) (by (with_reducible repeat (first | refine zf ?_ _ | refine zi ?_ | refine zg ?_ _)); refine blk_far ?_ dg.out _; (with_reducible repeat (first | refine zf ?_ _ | refine zi ?_ | refine zg ?_ _)); refine blk_far ?_ dg.out _; (with_reducible repeat (first | refine zf ?_ _ | refine zi ?_ | refine zg ?_ _)); refine blk_far ?_ dg.out _; (with_reducible repeat (first | refine zf ?_ _ | refine zi ?_ | refine zg ?_ _)); refine blk_far ?_ dg.out _; (with_reducible repeat (first | refine zf ?_ _ | refine zi ?_ | refine zg ?_ _)); refine blk_far ?_ dg.out _; (with_reducible repeat (first | refine zf ?_ _ | refine zi ?_ | refine zg ?_ _)); refine blk_far ?_ dg.out _; (with_reducible repeat (first | refine zf ?_ _ | refine zi ?_ | refine zg ?_ _)); exact A.out) hb); replace D := zp.mk (zl (g := bi) (o := .cells #[.int .i64 al, .int .i64 aj, .int .u64 ai, .int .i64 ah, .int .i64 ak, .slice cq ab.length co] 27 (0, 0)) (by (with_reducible repeat (first | refine zf ?_ _ | refine zi ?_ | refine zg ?_ _)); refine blk_far ?_ db.out _; (with_reducible repeat (first | refine zf ?_ _ | refine zi ?_ | refine zg ?_ _)); refine blk_far ?_ db.out _; (with_reducible repeat (first | refine zf ?_ _ | refine zi ?_ | refine zg ?_ _)); refine blk_far ?_ db.out _; (with_reducible repeat (first | refine zf ?_ _ | refine zi ?_ | refine zg ?_ _)); refine blk_far ?_ db.out _; (with_reducible repeat (first | refine zf ?_ _ | refine zi ?_ | refine zg ?_ _)); refine blk_far ?_ db.out _; (with_reducible repeat (first | refine zf ?_ _ | refine zi ?_ | refine zg ?_ _)); refine blk_far ?_ db.out _; (with_reducible repeat (first | refine zf ?_ _ | refine zi ?_ | refine zg ?_ _)); exact D.out) hb); replace U := zp.mk (zl (g := am) (o := .cells #[.int .i64 az, .int .i64 aA, .int .u64 aC, .int .i64 aD, .int .i64 aG, ba] 32 (0, 0)) (by (with_reducible repeat (first | refine zf ?_ _ | refine zi ?_ | refine zg ?_ _)); refine blk_far ?_ cn.out _; (with_reducible repeat (first | refine zf ?_ _ | refine zi ?_ | refine zg ?_ _)); refine blk_far ?_ cn.out _; (with_reducible repeat (first | refine zf ?_ _ | refine zi ?_ | refine zg ?_ _)); refine blk_far ?_ cn.out _; (with_reducible repeat (first | refine zf ?_ _ | refine zi ?_ | refine zg ?_ _)); refine blk_far ?_ cn.out _; (with_reducible repeat (first | refine zf ?_ _ | refine zi ?_ | refine zg ?_ _)); refine blk_far ?_ cn.out _; (with_reducible repeat (first | refine zf ?_ _ | refine zi ?_ | refine zg ?_ _)); refine blk_far ?_ cn.out _; (with_reducible repeat (first | refine zf ?_ _ | refine zi ?_ | refine zg ?_ _)); exact U.out) hb); replace W := zp.mk (zl (g := ax) (o := .cells #[.int .i64 bA, .int .i64 bC, .int .u64 bG, .int .i64 bN, .int .i64 bP, .slice bq be.length bp] 32 (0, 0)) (by (with_reducible repeat (first | refine zf ?_ _ | refine zi ?_ | refine zg ?_ _)); refine blk_put (cs := #[.int .i64 bA, .int .i64 bC, .int .u64 bG, .int .i64 bN, .int .i64 bP, .slice none 0 0]) ?_ 5 _ rfl; (with_reducible repeat (first | refine zf ?_ _ | refine zi ?_ | refine zg ?_ _)); refine blk_put (cs := #[.int .i64 bA, .int .i64 bC, .int .u64 bG, .int .i64 bN, .int .i64 0, .slice none 0 0]) ?_ 4 _ rfl; (with_reducible repeat (first | refine zf ?_ _ | refine zi ?_ | refine zg ?_ _)); refine blk_put (cs := #[.int .i64 bA, .int .i64 bC, .int .u64 bG, .int .i64 0, .int .i64 0, .slice none 0 0]) ?_ 3 _ rfl; (with_reducible repeat (first | refine zf ?_ _ | refine zi ?_ | refine zg ?_ _)); refine blk_put (cs := #[.int .i64 bA, .int .i64 bC, .int .u64 0, .int .i64 0, .int .i64 0, .slice none 0 0]) ?_ 2 _ rfl; (with_reducible repeat (first | refine zf ?_ _ | refine zi ?_ | refine zg ?_ _)); refine blk_put (cs := #[.int .i64 bA, .int .i64 0, .int .u64 0, .int .i64 0, .int .i64 0, .slice none 0 0]) ?_ 1 _ rfl; (with_reducible repeat (first | refine zf ?_ _ | refine zi ?_ | refine zg ?_ _)); refine blk_put (cs := #[.int .i64 0, .int .i64 0, .int .u64 0, .int .i64 0, .int .i64 0, .slice none 0 0]) ?_ 0 _ rfl; (with_reducible repeat (first | refine zf ?_ _ | refine zi ?_ | refine zg ?_ _)); exact W.out) hb); replace HB := zp.mk (zj (zv7 HB.out) hb); (try clear hb); (try clear hb2); (try clear hk); (try clear hi); (try clear cd)) | ((with_reducible refine zo (N := 9) rfl ?_); refine zm ?hg (N := 9) ?hd (cs := #[.int .i64 0, .int .i64 0, .int .u64 0, .int .i64 0, .int .i64 0, .slice none 0 0]) (t := 32) ?hr ?_; (case hd => rfl); (case hg => rfl); (case hr => first | (go_simp; done) | (go_simp; rfl)); intro u hg t2 hbox hb; have Y := zp.mk (hbox); have sR := zp.mk ((zv3 (zv7 HB.out) hg)); have fc := zp.mk ((zv3 (zv7 HB.out) hg)); have dc := zp.mk ((by rw [hg]; exact Nat.ne_of_lt (blk_lt (g := bc) (o := .cells #[.int .i64 ag, .int .i64 ac, .int .u64 ad, .int .i64 af, .int .i64 ae, .slice ce y.length cf] 27 (0, 0)) (zv8 A.out)) : bc ≠ u)); have em := zp.mk ((by rw [hg]; exact Nat.ne_of_gt (blk_lt (g := bc) (o := .cells #[.int .i64 ag, .int .i64 ac, .int .u64 ad, .int .i64 af, .int .i64 ae, .slice ce y.length cf] 27 (0, 0)) (zv8 A.out)) : u ≠ bc)); have df := zp.mk ((by rw [hg]; exact Nat.ne_of_lt (blk_lt (g := bi) (o := .cells #[.int .i64 al, .int .i64 aj, .int .u64 ai, .int .i64 ah, .int .i64 ak, .slice cq ab.length co] 27 (0, 0)) (zv8 D.out)) : bi ≠ u)); have et := zp.mk ((by rw [hg]; exact Nat.ne_of_gt (blk_lt (g := bi) (o := .cells #[.int .i64 al, .int .i64 aj, .int .u64 ai, .int .i64 ah, .int .i64 ak, .slice cq ab.length co] 27 (0, 0)) (zv8 D.out)) : u ≠ bi)); have cp := zp.mk ((by rw [hg]; exact Nat.ne_of_lt (blk_lt (g := am) (o := .cells #[.int .i64 az, .int .i64 aA, .int .u64 aC, .int .i64 aD, .int .i64 aG, ba] 32 (0, 0)) (zv8 U.out)) : am ≠ u)); have de := zp.mk ((by rw [hg]; exact Nat.ne_of_gt (blk_lt (g := am) (o := .cells #[.int .i64 az, .int .i64 aA, .int .u64 aC, .int .i64 aD, .int .i64 aG, ba] 32 (0, 0)) (zv8 U.out)) : u ≠ am)); have dd := zp.mk ((by rw [hg]; exact Nat.ne_of_lt (blk_lt (g := ax) (o := .cells #[.int .i64 bA, .int .i64 bC, .int .u64 bG, .int .i64 bN, .int .i64 bP, .slice bq be.length bp] 32 (0, 0)) (zv8 W.out)) : ax ≠ u)); have ey := zp.mk ((by rw [hg]; exact Nat.ne_of_gt (blk_lt (g := ax) (o := .cells #[.int .i64 bA, .int .i64 bC, .int .u64 bG, .int .i64 bN, .int .i64 bP, .slice bq be.length bp] 32 (0, 0)) (zv8 W.out)) : u ≠ ax)); replace bk := zp.mk (Kd.R_below (by (with_reducible repeat (first | apply Kd.R_alloc | apply Kd.R_drewN | apply Kd.R_drew)); first | exact bk.out | exact Kd.R_mono bk.out (fun _ h => by simp [h])) hb); replace bM := zp.mk (Kd.R_below (by (with_reducible repeat (first | apply Kd.R_alloc | apply Kd.R_drewN | apply Kd.R_drew)); first | exact bM.out | exact Kd.R_mono bM.out (fun _ h => by simp [h])) hb); replace bO := zp.mk (Kd.R_below (by (with_reducible repeat (first | apply Kd.R_alloc | apply Kd.R_drewN | apply Kd.R_drew)); first | exact bO.out | exact Kd.R_mono bO.out (fun _ h => by simp [h])) hb); replace cI := zp.mk (Kd.R_below (by (with_reducible repeat (first | apply Kd.R_alloc | apply Kd.R_drewN | apply Kd.R_drew)); first | exact cI.out | exact Kd.R_mono cI.out (fun _ h => by simp [h])) hb); replace cY := zp.mk (Kd.R_below (by (with_reducible repeat (first | apply Kd.R_alloc | apply Kd.R_drewN | apply Kd.R_drew)); first | exact cY.out | exact Kd.R_mono cY.out (fun _ h => by simp [h])) hb); replace A := zp.mk (zl (zv8 A.out) hb); replace D := zp.mk (zl (zv8 D.out) hb); replace U := zp.mk (zl (zv8 U.out) hb); replace W := zp.mk (zl (zv8 W.out) hb); replace HB := zp.mk (zj (zv7 HB.out) hb); clear hb hbox hg; have sI := em.out; have r2 := dc.out; have sV := et.out; have rH := df.out; have sZ := de.out; have te := cp.out; have rG := ey.out; have sw := dd.out; have kb := zt0 Y.out; have jT := zt1 Y.out; have ku := zt2 Y.out; have l3 := zt3 Y.out; have lF := zt4 Y.out; have kR := zt5 Y.out; have kI := zd Y.out 0; have lQ := zd Y.out 1; have kM := zd Y.out 2; have jE := zd Y.out 3; have jY := zd Y.out 4; have kO := zd Y.out 5; obtain ⟨bo, bl, oA⟩ := Kd.R_slice cY.out; subst oA; have l2 := zt0 W.out; have lM := zt1 W.out; have kr := zt2 W.out; have lX := zt3 W.out; have mr := zt4 W.out; have kv := zt5 W.out; have kN := zd W.out 0; have l4 := zd W.out 1; have l9 := zd W.out 2; have lN := zd W.out 3; have lC := zd W.out 4; have ky := zd W.out 5) | ((with_reducible refine zn (f := 26) rfl ?_); refine goesL_ (some 42) rfl rfl Try.func26 (by kernel_rfl) rfl #[.agg #[.int .i64 bA, .int .i64 bC, .int .u64 bG, .int .i64 bN, .int .i64 bP, .slice bq be.length bp], .agg #[.int .i64 bw, .int .i64 bx, .int .u64 bB, .int .i64 bD, .int .i64 bI, .slice bo bd.length bl]] rfl (by (try simp only [List.map_toArray, List.map_cons, List.map_nil]); first | done | rfl | (simp only [List.length_drop, List.length_take]; rfl)) ?_; (with_reducible refine (impl_AggJoin.calls k bA bC bG bN bP _ _ be bw bx bB bD bI _ _ bd aq ar au aw ay an cZ _ ?side1 ?side2 ?side3 ?side4 rX.out).mono ?_); (case side1 => refine (Kd.R_reads' (e := 3) (base := w.heap.size) (ok := fun _ => True) (n := be.length) (c := bp) ?_).2.2; exact (by (with_reducible repeat (first | apply Kd.R_alloc | apply Kd.R_drewN | apply Kd.R_drew)); exact (Kd.R_mono (Kd.R_far (p := ⟨u, 5, none⟩) (Kd.R_far (p := ⟨u, 4, none⟩) (Kd.R_far (p := ⟨u, 3, none⟩) (Kd.R_far (p := ⟨u, 2, none⟩) (Kd.R_far (p := ⟨u, 1, none⟩) (Kd.R_far (p := ⟨u, 0, none⟩) (Kd.R_types cI.out Y.out (by decide)) (fun _ h => by simp [h]) (.int .i64 bw)) (fun _ h => by simp [h]) (.int .i64 bx)) (fun _ h => by simp [h]) (.int .u64 bB)) (fun _ h => by simp [h]) (.int .i64 bD)) (fun _ h => by simp [h]) (.int .i64 bI)) (fun _ h => by simp [h]) (.slice bo bd.length bl)) (fun _ h => by first | exact h.1 | simp [h])))); (case side2 => exact (Kd.R_reads' cI.out).2.1); (case side3 => refine (Kd.R_reads' (e := 3) (base := w.heap.size) (ok := fun _ => True) (n := bd.length) (c := bl) ?_).2.2; exact (by (with_reducible repeat (first | apply Kd.R_alloc | apply Kd.R_drewN | apply Kd.R_drew)); exact (Kd.R_mono (Kd.R_far (p := ⟨u, 5, none⟩) (Kd.R_far (p := ⟨u, 4, none⟩) (Kd.R_far (p := ⟨u, 3, none⟩) (Kd.R_far (p := ⟨u, 2, none⟩) (Kd.R_far (p := ⟨u, 1, none⟩) (Kd.R_far (p := ⟨u, 0, none⟩) (Kd.R_types cY.out Y.out (by decide)) (fun _ h => by simp [h]) (.int .i64 bw)) (fun _ h => by simp [h]) (.int .i64 bx)) (fun _ h => by simp [h]) (.int .u64 bB)) (fun _ h => by simp [h]) (.int .i64 bD)) (fun _ h => by simp [h]) (.int .i64 bI)) (fun _ h => by simp [h]) (.slice bo bd.length bl)) (fun _ h => by first | exact h.1 | simp [h])))); (case side4 => exact (Kd.R_reads' cY.out).2.1); rintro e tY ⟨tt, rfl, cd, hb⟩; refine ⟨_, rfl, ?_⟩; have du := zp.mk (Kd.R_lower (Kd.R_new' (Kd.R_new' (Kd.R_new' (Kd.R_new' (Kd.R_new' cd (Kd.R_lt (by (with_reducible repeat (first | apply Kd.R_alloc | apply Kd.R_drewN | apply Kd.R_drew)); exact (Kd.R_mono (Kd.R_far (p := ⟨u, 5, none⟩) (Kd.R_far (p := ⟨u, 4, none⟩) (Kd.R_far (p := ⟨u, 3, none⟩) (Kd.R_far (p := ⟨u, 2, none⟩) (Kd.R_far (p := ⟨u, 1, none⟩) (Kd.R_far (p := ⟨u, 0, none⟩) (Kd.R_types bk.out Y.out (by decide)) (fun _ h => by simp [h]) (.int .i64 bw)) (fun _ h => by simp [h]) (.int .i64 bx)) (fun _ h => by simp [h]) (.int .u64 bB)) (fun _ h => by simp [h]) (.int .i64 bD)) (fun _ h => by simp [h]) (.int .i64 bI)) (fun _ h => by simp [h]) (.slice bo bd.length bl)) (fun _ h => by first | exact h.1 | simp [h]))))) (Kd.R_lt (by (with_reducible repeat (first | apply Kd.R_alloc | apply Kd.R_drewN | apply Kd.R_drew)); exact (Kd.R_mono (Kd.R_far (p := ⟨u, 5, none⟩) (Kd.R_far (p := ⟨u, 4, none⟩) (Kd.R_far (p := ⟨u, 3, none⟩) (Kd.R_far (p := ⟨u, 2, none⟩) (Kd.R_far (p := ⟨u, 1, none⟩) (Kd.R_far (p := ⟨u, 0, none⟩) (Kd.R_types bM.out Y.out (by decide)) (fun _ h => by simp [h]) (.int .i64 bw)) (fun _ h => by simp [h]) (.int .i64 bx)) (fun _ h => by simp [h]) (.int .u64 bB)) (fun _ h => by simp [h]) (.int .i64 bD)) (fun _ h => by simp [h]) (.int .i64 bI)) (fun _ h => by simp [h]) (.slice bo bd.length bl)) (fun _ h => by first | exact h.1 | simp [h]))))) (Kd.R_lt (by (with_reducible repeat (first | apply Kd.R_alloc | apply Kd.R_drewN | apply Kd.R_drew)); exact (Kd.R_mono (Kd.R_far (p := ⟨u, 5, none⟩) (Kd.R_far (p := ⟨u, 4, none⟩) (Kd.R_far (p := ⟨u, 3, none⟩) (Kd.R_far (p := ⟨u, 2, none⟩) (Kd.R_far (p := ⟨u, 1, none⟩) (Kd.R_far (p := ⟨u, 0, none⟩) (Kd.R_types bO.out Y.out (by decide)) (fun _ h => by simp [h]) (.int .i64 bw)) (fun _ h => by simp [h]) (.int .i64 bx)) (fun _ h => by simp [h]) (.int .u64 bB)) (fun _ h => by simp [h]) (.int .i64 bD)) (fun _ h => by simp [h]) (.int .i64 bI)) (fun _ h => by simp [h]) (.slice bo bd.length bl)) (fun _ h => by first | exact h.1 | simp [h]))))) (Kd.R_lt (by (with_reducible repeat (first | apply Kd.R_alloc | apply Kd.R_drewN | apply Kd.R_drew)); exact (Kd.R_mono (Kd.R_far (p := ⟨u, 5, none⟩) (Kd.R_far (p := ⟨u, 4, none⟩) (Kd.R_far (p := ⟨u, 3, none⟩) (Kd.R_far (p := ⟨u, 2, none⟩) (Kd.R_far (p := ⟨u, 1, none⟩) (Kd.R_far (p := ⟨u, 0, none⟩) (Kd.R_types cI.out Y.out (by decide)) (fun _ h => by simp [h]) (.int .i64 bw)) (fun _ h => by simp [h]) (.int .i64 bx)) (fun _ h => by simp [h]) (.int .u64 bB)) (fun _ h => by simp [h]) (.int .i64 bD)) (fun _ h => by simp [h]) (.int .i64 bI)) (fun _ h => by simp [h]) (.slice bo bd.length bl)) (fun _ h => by first | exact h.1 | simp [h]))))) (Kd.R_lt (by (with_reducible repeat (first | apply Kd.R_alloc | apply Kd.R_drewN | apply Kd.R_drew)); exact (Kd.R_mono (Kd.R_far (p := ⟨u, 5, none⟩) (Kd.R_far (p := ⟨u, 4, none⟩) (Kd.R_far (p := ⟨u, 3, none⟩) (Kd.R_far (p := ⟨u, 2, none⟩) (Kd.R_far (p := ⟨u, 1, none⟩) (Kd.R_far (p := ⟨u, 0, none⟩) (Kd.R_types cY.out Y.out (by decide)) (fun _ h => by simp [h]) (.int .i64 bw)) (fun _ h => by simp [h]) (.int .i64 bx)) (fun _ h => by simp [h]) (.int .u64 bB)) (fun _ h => by simp [h]) (.int .i64 bD)) (fun _ h => by simp [h]) (.int .i64 bI)) (fun _ h => by simp [h]) (.slice bo bd.length bl)) (fun _ h => by first | exact h.1 | simp [h]))))) (zk (zv7 HB.out))); replace bk := zp.mk (Kd.R_elder' (by (with_reducible repeat (first | apply Kd.R_alloc | apply Kd.R_drewN | apply Kd.R_drew)); exact (Kd.R_mono (Kd.R_far (p := ⟨u, 5, none⟩) (Kd.R_far (p := ⟨u, 4, none⟩) (Kd.R_far (p := ⟨u, 3, none⟩) (Kd.R_far (p := ⟨u, 2, none⟩) (Kd.R_far (p := ⟨u, 1, none⟩) (Kd.R_far (p := ⟨u, 0, none⟩) (Kd.R_types bk.out Y.out (by decide)) (fun _ h => by simp [h]) (.int .i64 bw)) (fun _ h => by simp [h]) (.int .i64 bx)) (fun _ h => by simp [h]) (.int .u64 bB)) (fun _ h => by simp [h]) (.int .i64 bD)) (fun _ h => by simp [h]) (.int .i64 bI)) (fun _ h => by simp [h]) (.slice bo bd.length bl)) (fun _ h => by first | exact h.1 | simp [h]))) (Kd.R_base cd) hb); replace bM := zp.mk (Kd.R_elder' (by (with_reducible repeat (first | apply Kd.R_alloc | apply Kd.R_drewN | apply Kd.R_drew)); exact (Kd.R_mono (Kd.R_far (p := ⟨u, 5, none⟩) (Kd.R_far (p := ⟨u, 4, none⟩) (Kd.R_far (p := ⟨u, 3, none⟩) (Kd.R_far (p := ⟨u, 2, none⟩) (Kd.R_far (p := ⟨u, 1, none⟩) (Kd.R_far (p := ⟨u, 0, none⟩) (Kd.R_types bM.out Y.out (by decide)) (fun _ h => by simp [h]) (.int .i64 bw)) (fun _ h => by simp [h]) (.int .i64 bx)) (fun _ h => by simp [h]) (.int .u64 bB)) (fun _ h => by simp [h]) (.int .i64 bD)) (fun _ h => by simp [h]) (.int .i64 bI)) (fun _ h => by simp [h]) (.slice bo bd.length bl)) (fun _ h => by first | exact h.1 | simp [h]))) (Kd.R_base cd) hb); replace bO := zp.mk (Kd.R_elder' (by (with_reducible repeat (first | apply Kd.R_alloc | apply Kd.R_drewN | apply Kd.R_drew)); exact (Kd.R_mono (Kd.R_far (p := ⟨u, 5, none⟩) (Kd.R_far (p := ⟨u, 4, none⟩) (Kd.R_far (p := ⟨u, 3, none⟩) (Kd.R_far (p := ⟨u, 2, none⟩) (Kd.R_far (p := ⟨u, 1, none⟩) (Kd.R_far (p := ⟨u, 0, none⟩) (Kd.R_types bO.out Y.out (by decide)) (fun _ h => by simp [h]) (.int .i64 bw)) (fun _ h => by simp [h]) (.int .i64 bx)) (fun _ h => by simp [h]) (.int .u64 bB)) (fun _ h => by simp [h]) (.int .i64 bD)) (fun _ h => by simp [h]) (.int .i64 bI)) (fun _ h => by simp [h]) (.slice bo bd.length bl)) (fun _ h => by first | exact h.1 | simp [h]))) (Kd.R_base cd) hb); replace cI := zp.mk (Kd.R_elder' (by (with_reducible repeat (first | apply Kd.R_alloc | apply Kd.R_drewN | apply Kd.R_drew)); exact (Kd.R_mono (Kd.R_far (p := ⟨u, 5, none⟩) (Kd.R_far (p := ⟨u, 4, none⟩) (Kd.R_far (p := ⟨u, 3, none⟩) (Kd.R_far (p := ⟨u, 2, none⟩) (Kd.R_far (p := ⟨u, 1, none⟩) (Kd.R_far (p := ⟨u, 0, none⟩) (Kd.R_types cI.out Y.out (by decide)) (fun _ h => by simp [h]) (.int .i64 bw)) (fun _ h => by simp [h]) (.int .i64 bx)) (fun _ h => by simp [h]) (.int .u64 bB)) (fun _ h => by simp [h]) (.int .i64 bD)) (fun _ h => by simp [h]) (.int .i64 bI)) (fun _ h => by simp [h]) (.slice bo bd.length bl)) (fun _ h => by first | exact h.1 | simp [h]))) (Kd.R_base cd) hb); replace cY := zp.mk (Kd.R_elder' (by (with_reducible repeat (first | apply Kd.R_alloc | apply Kd.R_drewN | apply Kd.R_drew)); exact (Kd.R_mono (Kd.R_far (p := ⟨u, 5, none⟩) (Kd.R_far (p := ⟨u, 4, none⟩) (Kd.R_far (p := ⟨u, 3, none⟩) (Kd.R_far (p := ⟨u, 2, none⟩) (Kd.R_far (p := ⟨u, 1, none⟩) (Kd.R_far (p := ⟨u, 0, none⟩) (Kd.R_types cY.out Y.out (by decide)) (fun _ h => by simp [h]) (.int .i64 bw)) (fun _ h => by simp [h]) (.int .i64 bx)) (fun _ h => by simp [h]) (.int .u64 bB)) (fun _ h => by simp [h]) (.int .i64 bD)) (fun _ h => by simp [h]) (.int .i64 bI)) (fun _ h => by simp [h]) (.slice bo bd.length bl)) (fun _ h => by first | exact h.1 | simp [h]))) (Kd.R_base cd) hb); replace A := zp.mk (zl (g := bc) (o := .cells #[.int .i64 ag, .int .i64 ac, .int .u64 ad, .int .i64 af, .int .i64 ae, .slice ce y.length cf] 27 (0, 0)) (by (with_reducible repeat (first | refine zf ?_ _ | refine zi ?_ | refine zg ?_ _)); refine blk_far ?_ dc.out _; (with_reducible repeat (first | refine zf ?_ _ | refine zi ?_ | refine zg ?_ _)); refine blk_far ?_ dc.out _; (with_reducible repeat (first | refine zf ?_ _ | refine zi ?_ | refine zg ?_ _)); refine blk_far ?_ dc.out _; (with_reducible repeat (first | refine zf ?_ _ | refine zi ?_ | refine zg ?_ _)); refine blk_far ?_ dc.out _; (with_reducible repeat (first | refine zf ?_ _ | refine zi ?_ | refine zg ?_ _)); refine blk_far ?_ dc.out _; (with_reducible repeat (first | refine zf ?_ _ | refine zi ?_ | refine zg ?_ _)); refine blk_far ?_ dc.out _; (with_reducible repeat (first | refine zf ?_ _ | refine zi ?_ | refine zg ?_ _)); exact A.out) hb); replace D := zp.mk (zl (g := bi) (o := .cells #[.int .i64 al, .int .i64 aj, .int .u64 ai, .int .i64 ah, .int .i64 ak, .slice cq ab.length co] 27 (0, 0)) (by (with_reducible repeat (first | refine zf ?_ _ | refine zi ?_ | refine zg ?_ _)); refine blk_far ?_ df.out _; (with_reducible repeat (first | refine zf ?_ _ | refine zi ?_ | refine zg ?_ _)); refine blk_far ?_ df.out _; (with_reducible repeat (first | refine zf ?_ _ | refine zi ?_ | refine zg ?_ _)); refine blk_far ?_ df.out _; (with_reducible repeat (first | refine zf ?_ _ | refine zi ?_ | refine zg ?_ _)); refine blk_far ?_ df.out _; (with_reducible repeat (first | refine zf ?_ _ | refine zi ?_ | refine zg ?_ _)); refine blk_far ?_ df.out _; (with_reducible repeat (first | refine zf ?_ _ | refine zi ?_ | refine zg ?_ _)); refine blk_far ?_ df.out _; (with_reducible repeat (first | refine zf ?_ _ | refine zi ?_ | refine zg ?_ _)); exact D.out) hb); replace U := zp.mk (zl (g := am) (o := .cells #[.int .i64 az, .int .i64 aA, .int .u64 aC, .int .i64 aD, .int .i64 aG, ba] 32 (0, 0)) (by (with_reducible repeat (first | refine zf ?_ _ | refine zi ?_ | refine zg ?_ _)); refine blk_far ?_ cp.out _; (with_reducible repeat (first | refine zf ?_ _ | refine zi ?_ | refine zg ?_ _)); refine blk_far ?_ cp.out _; (with_reducible repeat (first | refine zf ?_ _ | refine zi ?_ | refine zg ?_ _)); refine blk_far ?_ cp.out _; (with_reducible repeat (first | refine zf ?_ _ | refine zi ?_ | refine zg ?_ _)); refine blk_far ?_ cp.out _; (with_reducible repeat (first | refine zf ?_ _ | refine zi ?_ | refine zg ?_ _)); refine blk_far ?_ cp.out _; (with_reducible repeat (first | refine zf ?_ _ | refine zi ?_ | refine zg ?_ _)); refine blk_far ?_ cp.out _; (with_reducible repeat (first | refine zf ?_ _ | refine zi ?_ | refine zg ?_ _)); exact U.out) hb); replace W := zp.mk (zl (g := ax) (o := .cells #[.int .i64 bA, .int .i64 bC, .int .u64 bG, .int .i64 bN, .int .i64 bP, .slice bq be.length bp] 32 (0, 0)) (by (with_reducible repeat (first | refine zf ?_ _ | refine zi ?_ | refine zg ?_ _)); refine blk_far ?_ dd.out _; (with_reducible repeat (first | refine zf ?_ _ | refine zi ?_ | refine zg ?_ _)); refine blk_far ?_ dd.out _; (with_reducible repeat (first | refine zf ?_ _ | refine zi ?_ | refine zg ?_ _)); refine blk_far ?_ dd.out _; (with_reducible repeat (first | refine zf ?_ _ | refine zi ?_ | refine zg ?_ _)); refine blk_far ?_ dd.out _; (with_reducible repeat (first | refine zf ?_ _ | refine zi ?_ | refine zg ?_ _)); refine blk_far ?_ dd.out _; (with_reducible repeat (first | refine zf ?_ _ | refine zi ?_ | refine zg ?_ _)); refine blk_far ?_ dd.out _; (with_reducible repeat (first | refine zf ?_ _ | refine zi ?_ | refine zg ?_ _)); exact W.out) hb); replace Y := zp.mk (zl (g := u) (o := .cells #[.int .i64 bw, .int .i64 bx, .int .u64 bB, .int .i64 bD, .int .i64 bI, .slice bo bd.length bl] 32 (0, 0)) (by (with_reducible repeat (first | refine zf ?_ _ | refine zi ?_ | refine zg ?_ _)); refine blk_put (cs := #[.int .i64 bw, .int .i64 bx, .int .u64 bB, .int .i64 bD, .int .i64 bI, .slice none 0 0]) ?_ 5 _ rfl; (with_reducible repeat (first | refine zf ?_ _ | refine zi ?_ | refine zg ?_ _)); refine blk_put (cs := #[.int .i64 bw, .int .i64 bx, .int .u64 bB, .int .i64 bD, .int .i64 0, .slice none 0 0]) ?_ 4 _ rfl; (with_reducible repeat (first | refine zf ?_ _ | refine zi ?_ | refine zg ?_ _)); refine blk_put (cs := #[.int .i64 bw, .int .i64 bx, .int .u64 bB, .int .i64 0, .int .i64 0, .slice none 0 0]) ?_ 3 _ rfl; (with_reducible repeat (first | refine zf ?_ _ | refine zi ?_ | refine zg ?_ _)); refine blk_put (cs := #[.int .i64 bw, .int .i64 bx, .int .u64 0, .int .i64 0, .int .i64 0, .slice none 0 0]) ?_ 2 _ rfl; (with_reducible repeat (first | refine zf ?_ _ | refine zi ?_ | refine zg ?_ _)); refine blk_put (cs := #[.int .i64 bw, .int .i64 0, .int .u64 0, .int .i64 0, .int .i64 0, .slice none 0 0]) ?_ 1 _ rfl; (with_reducible repeat (first | refine zf ?_ _ | refine zi ?_ | refine zg ?_ _)); refine blk_put (cs := #[.int .i64 0, .int .i64 0, .int .u64 0, .int .i64 0, .int .i64 0, .slice none 0 0]) ?_ 0 _ rfl; (with_reducible repeat (first | refine zf ?_ _ | refine zi ?_ | refine zg ?_ _)); exact Y.out) hb); replace HB := zp.mk (zj (zv7 HB.out) hb); (try clear hb); (try clear hb2); (try clear hk); (try clear hi); (try clear cd)) | ((with_reducible refine zo (N := 10) rfl ?_); refine zm ?hg (N := 10) ?hd (cs := #[.int .i64 0, .int .i64 0, .int .u64 0, .int .i64 0, .int .i64 0, .slice none 0 0]) (t := 32) ?hr ?_; (case hd => rfl); (case hg => rfl); (case hr => first | (go_simp; done) | (go_simp; rfl)); intro q hg t5 hbox hb; have T := zp.mk (hbox); have sr := zp.mk ((zv3 (zv7 HB.out) hg)); have fb := zp.mk ((zv3 (zv7 HB.out) hg)); have bW := zp.mk ((by rw [hg]; exact Nat.ne_of_lt (blk_lt (g := bc) (o := .cells #[.int .i64 ag, .int .i64 ac, .int .u64 ad, .int .i64 af, .int .i64 ae, .slice ce y.length cf] 27 (0, 0)) (zv8 A.out)) : bc ≠ q)); have dp := zp.mk ((by rw [hg]; exact Nat.ne_of_gt (blk_lt (g := bc) (o := .cells #[.int .i64 ag, .int .i64 ac, .int .u64 ad, .int .i64 af, .int .i64 ae, .slice ce y.length cf] 27 (0, 0)) (zv8 A.out)) : q ≠ bc)); have bX := zp.mk ((by rw [hg]; exact Nat.ne_of_lt (blk_lt (g := bi) (o := .cells #[.int .i64 al, .int .i64 aj, .int .u64 ai, .int .i64 ah, .int .i64 ak, .slice cq ab.length co] 27 (0, 0)) (zv8 D.out)) : bi ≠ q)); have dq := zp.mk ((by rw [hg]; exact Nat.ne_of_gt (blk_lt (g := bi) (o := .cells #[.int .i64 al, .int .i64 aj, .int .u64 ai, .int .i64 ah, .int .i64 ak, .slice cq ab.length co] 27 (0, 0)) (zv8 D.out)) : q ≠ bi)); have bz := zp.mk ((by rw [hg]; exact Nat.ne_of_lt (blk_lt (g := am) (o := .cells #[.int .i64 az, .int .i64 aA, .int .u64 aC, .int .i64 aD, .int .i64 aG, ba] 32 (0, 0)) (zv8 U.out)) : am ≠ q)); have cU := zp.mk ((by rw [hg]; exact Nat.ne_of_gt (blk_lt (g := am) (o := .cells #[.int .i64 az, .int .i64 aA, .int .u64 aC, .int .i64 aD, .int .i64 aG, ba] 32 (0, 0)) (zv8 U.out)) : q ≠ am)); have bH := zp.mk ((by rw [hg]; exact Nat.ne_of_lt (blk_lt (g := ax) (o := .cells #[.int .i64 bA, .int .i64 bC, .int .u64 bG, .int .i64 bN, .int .i64 bP, .slice bq be.length bp] 32 (0, 0)) (zv8 W.out)) : ax ≠ q)); have dj := zp.mk ((by rw [hg]; exact Nat.ne_of_gt (blk_lt (g := ax) (o := .cells #[.int .i64 bA, .int .i64 bC, .int .u64 bG, .int .i64 bN, .int .i64 bP, .slice bq be.length bp] 32 (0, 0)) (zv8 W.out)) : q ≠ ax)); have bJ := zp.mk ((by rw [hg]; exact Nat.ne_of_lt (blk_lt (g := u) (o := .cells #[.int .i64 bw, .int .i64 bx, .int .u64 bB, .int .i64 bD, .int .i64 bI, .slice bo bd.length bl] 32 (0, 0)) (zv8 Y.out)) : u ≠ q)); have di := zp.mk ((by rw [hg]; exact Nat.ne_of_gt (blk_lt (g := u) (o := .cells #[.int .i64 bw, .int .i64 bx, .int .u64 bB, .int .i64 bD, .int .i64 bI, .slice bo bd.length bl] 32 (0, 0)) (zv8 Y.out)) : q ≠ u)); replace bk := zp.mk (Kd.R_below (by (with_reducible repeat (first | apply Kd.R_alloc | apply Kd.R_drewN | apply Kd.R_drew)); first | exact bk.out | exact Kd.R_mono bk.out (fun _ h => by simp [h])) hb); replace bM := zp.mk (Kd.R_below (by (with_reducible repeat (first | apply Kd.R_alloc | apply Kd.R_drewN | apply Kd.R_drew)); first | exact bM.out | exact Kd.R_mono bM.out (fun _ h => by simp [h])) hb); replace bO := zp.mk (Kd.R_below (by (with_reducible repeat (first | apply Kd.R_alloc | apply Kd.R_drewN | apply Kd.R_drew)); first | exact bO.out | exact Kd.R_mono bO.out (fun _ h => by simp [h])) hb); replace cI := zp.mk (Kd.R_below (by (with_reducible repeat (first | apply Kd.R_alloc | apply Kd.R_drewN | apply Kd.R_drew)); first | exact cI.out | exact Kd.R_mono cI.out (fun _ h => by simp [h])) hb); replace cY := zp.mk (Kd.R_below (by (with_reducible repeat (first | apply Kd.R_alloc | apply Kd.R_drewN | apply Kd.R_drew)); first | exact cY.out | exact Kd.R_mono cY.out (fun _ h => by simp [h])) hb); replace du := zp.mk (Kd.R_below (by (with_reducible repeat (first | apply Kd.R_alloc | apply Kd.R_drewN | apply Kd.R_drew)); first | exact du.out | exact Kd.R_mono du.out (fun _ h => by simp [h])) hb); replace A := zp.mk (zl (zv8 A.out) hb); replace D := zp.mk (zl (zv8 D.out) hb); replace U := zp.mk (zl (zv8 U.out) hb); replace W := zp.mk (zl (zv8 W.out) hb); replace Y := zp.mk (zl (zv8 Y.out) hb); replace HB := zp.mk (zj (zv7 HB.out) hb); clear hb hbox hg; have sx := dp.out; have rC := bW.out; have ta := dq.out; have rW := bX.out; have sQ := cU.out; have rD := bz.out; have rU := dj.out; have sF := bH.out; have sd := di.out; have sm := bJ.out; have kX := zt0 T.out; have ly := zt1 T.out; have lv := zt2 T.out; have lk := zt3 T.out; have kY := zt4 T.out; have kG := zt5 T.out; have kL := zd T.out 0; have kK := zd T.out 1; have jz := zd T.out 2; have kS := zd T.out 3; have jQ := zd T.out 4; have lD := zd T.out 5; obtain ⟨bj, bf, oe⟩ := Kd.R_slice du.out; subst oe))
   (try simp only [Act.put, zs1, zs2, zs3])
   go_cut [53] (fun rJ wc => ∃ (kq : Nat) (d8 : Bool), rJ = .bool d8 ∧ zp (laws_FnExactAggJoin.j0 kq aN cZ d8 ag ac ad af ae y al aj ai ah ak ab az aA aC aD aG aM bA bC bG bN bP be bw bx bB bD bI bd aq ar au aw ay an = some r) ∧ zp (kq ≤ k) ∧ zp (Kd.R (Kd.int .i64) 3 wc w.heap.size (fun k_ => some k_ ≠ ((.slice bq be.length bp) : Value).ownBlock ∧ some k_ ≠ ((.slice bo bd.length bl) : Value).ownBlock ∧ some k_ ≠ ((.slice bj an.length bf) : Value).ownBlock) ba aM) ∧ zp (Kd.R (Kd.int .i64) 3 wc w.heap.size (fun k_ => some k_ ≠ (ba : Value).ownBlock ∧ some k_ ≠ ((.slice bo bd.length bl) : Value).ownBlock ∧ some k_ ≠ ((.slice bj an.length bf) : Value).ownBlock) (.slice bq be.length bp) be) ∧ zp (Kd.R (Kd.int .i64) 3 wc w.heap.size (fun k_ => some k_ ≠ (ba : Value).ownBlock ∧ some k_ ≠ ((.slice bq be.length bp) : Value).ownBlock ∧ some k_ ≠ ((.slice bj an.length bf) : Value).ownBlock) (.slice bo bd.length bl) bd) ∧ zp (Kd.R (Kd.int .i64) 3 wc w.heap.size (fun k_ => some k_ ≠ (ba : Value).ownBlock ∧ some k_ ≠ ((.slice bq be.length bp) : Value).ownBlock ∧ some k_ ≠ ((.slice bo bd.length bl) : Value).ownBlock) (.slice bj an.length bf) an) ∧ zp (wc.heap[bc]? = some (.cells #[.int .i64 ag, .int .i64 ac, .int .u64 ad, .int .i64 af, .int .i64 ae, (.slice ce y.length cf)] 27 (0, 0))) ∧ zp (wc.heap[bi]? = some (.cells #[.int .i64 al, .int .i64 aj, .int .u64 ai, .int .i64 ah, .int .i64 ak, (.slice cq ab.length co)] 27 (0, 0))) ∧ zp (wc.heap[am]? = some (.cells #[.int .i64 az, .int .i64 aA, .int .u64 aC, .int .i64 aD, .int .i64 aG, ba] 32 (0, 0))) ∧ zp (wc.heap[ax]? = some (.cells #[.int .i64 bA, .int .i64 bC, .int .u64 bG, .int .i64 bN, .int .i64 bP, (.slice bq be.length bp)] 32 (0, 0))) ∧ zp (wc.heap[u]? = some (.cells #[.int .i64 bw, .int .i64 bx, .int .u64 bB, .int .i64 bD, .int .i64 bI, (.slice bo bd.length bl)] 32 (0, 0))) ∧ zp (wc.heap[q]? = some (.cells #[.int .i64 aq, .int .i64 ar, .int .u64 au, .int .i64 aw, .int .i64 ay, (.slice bj an.length bf)] 32 (0, 0))) ∧ zp (Below w.heap.size w wc))
   case first =>
    have H := gq.out
    clear gq
    replace H := zs4 H
    obtain ⟨dl, jq, H⟩ := H
    replace H : (if dl = true then (laws_FnExactAggJoin.j0 k aN cZ (cZ != aN) ag ac ad af ae y al aj ai ah ak ab az aA aC aD aG aM bA bC bG bN bP be bw bx bB bD bI bd aq ar au aw ay an) else (laws_FnExactAggJoin.j0 k aN cZ true ag ac ad af ae y al aj ai ah ak ab az aA aC aD aG aM bA bC bG bN bP be bw bx bB bD bI bd aq ar au aw ay an)) = some r := H
    have nZ := zp.mk jq
    clear jq
    by_cases fV : dl = true
    ·subst fV
     have H1 : (laws_FnExactAggJoin.j0 k aN cZ (cZ != aN) ag ac ad af ae y al aj ai ah ak ab az aA aC aD aG aM bA bC bG bN bP be bw bx bB bD bI bd aq ar au aw ay an) = some r := by rw [if_pos rfl] at H; exact H
     clear H
     have H := H1
     clear H1
     have H' := zp.mk H
     clear H
     have tl := dp.out
     have si := bW.out
     have sH := dq.out
     have ti := bX.out
     have r5 := cU.out
     have sO := bz.out
     have r1 := dj.out
     have sY := bH.out
     have r7 := di.out
     have ss := bJ.out
     have kn := zt0 T.out
     have kA := zt1 T.out
     have kh := zt2 T.out
     have mb := zt3 T.out
     have ma := zt4 T.out
     have ko := zt5 T.out
     have kW := zd T.out 0
     have jJ := zd T.out 1
     have jZ := zd T.out 2
     have kT := zd T.out 3
     have j8 := zd T.out 4
     have ms := zd T.out 5
     have sN := b4.out
     have r6 := bg.out
     have sP := b5.out
     have tg := bh.out
     have sg := cn.out
     have sA := dh.out
     have rV := cp.out
     have tj := de.out
     have kU := zt0 U.out
     have jH := zt1 U.out
     have kj := zt2 U.out
     have lS := zt3 U.out
     have kV := zt4 U.out
     have jM := zt5 U.out
     have jD := zd U.out 0
     have jS := zd U.out 1
     have gr := zd U.out 2
     have fy := zd U.out 3
     have fJ := zd U.out 4
     have fE := zd U.out 5
     obtain ⟨jp, gB, oH⟩ := Kd.R_slice bO.out
     subst oH
     go_wp2_with (first | ((with_reducible refine zn (f := 12) rfl ?_); refine goesL_ (some 47) rfl rfl Try.func12 (by kernel_rfl) rfl #[.agg #[.int .i64 aq, .int .i64 ar, .int .u64 au, .int .i64 aw, .int .i64 ay, .slice bj an.length bf], .agg #[.int .i64 az, .int .i64 aA, .int .u64 aC, .int .i64 aD, .int .i64 aG, .slice jp aM.length gB]] rfl (by (try simp only [List.map_toArray, List.map_cons, List.map_nil]); first | done | rfl | (simp only [List.length_drop, List.length_take]; rfl)) ?_; (with_reducible refine (laws_eqAgg.calls k aq ar au aw ay _ _ an az aA aC aD aG _ _ aM true _ ?side1 ?side2 ?side3 ?side4 nZ.out).mono ?_); (case side1 => refine (Kd.R_reads' (e := 3) (base := w.heap.size) (ok := fun _ => True) (n := an.length) (c := bf) ?_).2.2; exact (by (with_reducible repeat (first | apply Kd.R_alloc | apply Kd.R_drewN | apply Kd.R_drew)); exact (Kd.R_mono (Kd.R_far (p := ⟨q, 5, none⟩) (Kd.R_far (p := ⟨q, 4, none⟩) (Kd.R_far (p := ⟨q, 3, none⟩) (Kd.R_far (p := ⟨q, 2, none⟩) (Kd.R_far (p := ⟨q, 1, none⟩) (Kd.R_far (p := ⟨q, 0, none⟩) (Kd.R_types du.out T.out (by decide)) (fun _ h => by simp [h]) (.int .i64 aq)) (fun _ h => by simp [h]) (.int .i64 ar)) (fun _ h => by simp [h]) (.int .u64 au)) (fun _ h => by simp [h]) (.int .i64 aw)) (fun _ h => by simp [h]) (.int .i64 ay)) (fun _ h => by simp [h]) (.slice bj an.length bf)) (fun _ h => by first | exact h.1 | simp [h])))); (case side2 => exact (Kd.R_reads' du.out).2.1); (case side3 => refine (Kd.R_reads' (e := 3) (base := w.heap.size) (ok := fun _ => True) (n := aM.length) (c := gB) ?_).2.2; exact (by (with_reducible repeat (first | apply Kd.R_alloc | apply Kd.R_drewN | apply Kd.R_drew)); exact (Kd.R_mono (Kd.R_far (p := ⟨q, 5, none⟩) (Kd.R_far (p := ⟨q, 4, none⟩) (Kd.R_far (p := ⟨q, 3, none⟩) (Kd.R_far (p := ⟨q, 2, none⟩) (Kd.R_far (p := ⟨q, 1, none⟩) (Kd.R_far (p := ⟨q, 0, none⟩) (Kd.R_types bO.out T.out (by decide)) (fun _ h => by simp [h]) (.int .i64 aq)) (fun _ h => by simp [h]) (.int .i64 ar)) (fun _ h => by simp [h]) (.int .u64 au)) (fun _ h => by simp [h]) (.int .i64 aw)) (fun _ h => by simp [h]) (.int .i64 ay)) (fun _ h => by simp [h]) (.slice bj an.length bf)) (fun _ h => by first | exact h.1 | simp [h])))); (case side4 => exact (Kd.R_reads' bO.out).2.1); rintro e ua ⟨rfl, hb⟩; refine ⟨_, rfl, ?_⟩; replace bk := zp.mk (Kd.R_below (by (with_reducible repeat (first | apply Kd.R_alloc | apply Kd.R_drewN | apply Kd.R_drew)); exact (Kd.R_mono (Kd.R_far (p := ⟨q, 5, none⟩) (Kd.R_far (p := ⟨q, 4, none⟩) (Kd.R_far (p := ⟨q, 3, none⟩) (Kd.R_far (p := ⟨q, 2, none⟩) (Kd.R_far (p := ⟨q, 1, none⟩) (Kd.R_far (p := ⟨q, 0, none⟩) (Kd.R_types bk.out T.out (by decide)) (fun _ h => by simp [h]) (.int .i64 aq)) (fun _ h => by simp [h]) (.int .i64 ar)) (fun _ h => by simp [h]) (.int .u64 au)) (fun _ h => by simp [h]) (.int .i64 aw)) (fun _ h => by simp [h]) (.int .i64 ay)) (fun _ h => by simp [h]) (.slice bj an.length bf)) (fun _ h => by first | exact h.1 | simp [h]))) hb); replace bM := zp.mk (Kd.R_below (by (with_reducible repeat (first | apply Kd.R_alloc | apply Kd.R_drewN | apply Kd.R_drew)); exact (Kd.R_mono (Kd.R_far (p := ⟨q, 5, none⟩) (Kd.R_far (p := ⟨q, 4, none⟩) (Kd.R_far (p := ⟨q, 3, none⟩) (Kd.R_far (p := ⟨q, 2, none⟩) (Kd.R_far (p := ⟨q, 1, none⟩) (Kd.R_far (p := ⟨q, 0, none⟩) (Kd.R_types bM.out T.out (by decide)) (fun _ h => by simp [h]) (.int .i64 aq)) (fun _ h => by simp [h]) (.int .i64 ar)) (fun _ h => by simp [h]) (.int .u64 au)) (fun _ h => by simp [h]) (.int .i64 aw)) (fun _ h => by simp [h]) (.int .i64 ay)) (fun _ h => by simp [h]) (.slice bj an.length bf)) (fun _ h => by first | exact h.1 | simp [h]))) hb); replace bO := zp.mk (Kd.R_below (by (with_reducible repeat (first | apply Kd.R_alloc | apply Kd.R_drewN | apply Kd.R_drew)); exact (Kd.R_mono (Kd.R_far (p := ⟨q, 5, none⟩) (Kd.R_far (p := ⟨q, 4, none⟩) (Kd.R_far (p := ⟨q, 3, none⟩) (Kd.R_far (p := ⟨q, 2, none⟩) (Kd.R_far (p := ⟨q, 1, none⟩) (Kd.R_far (p := ⟨q, 0, none⟩) (Kd.R_types bO.out T.out (by decide)) (fun _ h => by simp [h]) (.int .i64 aq)) (fun _ h => by simp [h]) (.int .i64 ar)) (fun _ h => by simp [h]) (.int .u64 au)) (fun _ h => by simp [h]) (.int .i64 aw)) (fun _ h => by simp [h]) (.int .i64 ay)) (fun _ h => by simp [h]) (.slice bj an.length bf)) (fun _ h => by first | exact h.1 | simp [h]))) hb); replace cI := zp.mk (Kd.R_below (by (with_reducible repeat (first | apply Kd.R_alloc | apply Kd.R_drewN | apply Kd.R_drew)); exact (Kd.R_mono (Kd.R_far (p := ⟨q, 5, none⟩) (Kd.R_far (p := ⟨q, 4, none⟩) (Kd.R_far (p := ⟨q, 3, none⟩) (Kd.R_far (p := ⟨q, 2, none⟩) (Kd.R_far (p := ⟨q, 1, none⟩) (Kd.R_far (p := ⟨q, 0, none⟩) (Kd.R_types cI.out T.out (by decide)) (fun _ h => by simp [h]) (.int .i64 aq)) (fun _ h => by simp [h]) (.int .i64 ar)) (fun _ h => by simp [h]) (.int .u64 au)) (fun _ h => by simp [h]) (.int .i64 aw)) (fun _ h => by simp [h]) (.int .i64 ay)) (fun _ h => by simp [h]) (.slice bj an.length bf)) (fun _ h => by first | exact h.1 | simp [h]))) hb); replace cY := zp.mk (Kd.R_below (by (with_reducible repeat (first | apply Kd.R_alloc | apply Kd.R_drewN | apply Kd.R_drew)); exact (Kd.R_mono (Kd.R_far (p := ⟨q, 5, none⟩) (Kd.R_far (p := ⟨q, 4, none⟩) (Kd.R_far (p := ⟨q, 3, none⟩) (Kd.R_far (p := ⟨q, 2, none⟩) (Kd.R_far (p := ⟨q, 1, none⟩) (Kd.R_far (p := ⟨q, 0, none⟩) (Kd.R_types cY.out T.out (by decide)) (fun _ h => by simp [h]) (.int .i64 aq)) (fun _ h => by simp [h]) (.int .i64 ar)) (fun _ h => by simp [h]) (.int .u64 au)) (fun _ h => by simp [h]) (.int .i64 aw)) (fun _ h => by simp [h]) (.int .i64 ay)) (fun _ h => by simp [h]) (.slice bj an.length bf)) (fun _ h => by first | exact h.1 | simp [h]))) hb); replace du := zp.mk (Kd.R_below (by (with_reducible repeat (first | apply Kd.R_alloc | apply Kd.R_drewN | apply Kd.R_drew)); exact (Kd.R_mono (Kd.R_far (p := ⟨q, 5, none⟩) (Kd.R_far (p := ⟨q, 4, none⟩) (Kd.R_far (p := ⟨q, 3, none⟩) (Kd.R_far (p := ⟨q, 2, none⟩) (Kd.R_far (p := ⟨q, 1, none⟩) (Kd.R_far (p := ⟨q, 0, none⟩) (Kd.R_types du.out T.out (by decide)) (fun _ h => by simp [h]) (.int .i64 aq)) (fun _ h => by simp [h]) (.int .i64 ar)) (fun _ h => by simp [h]) (.int .u64 au)) (fun _ h => by simp [h]) (.int .i64 aw)) (fun _ h => by simp [h]) (.int .i64 ay)) (fun _ h => by simp [h]) (.slice bj an.length bf)) (fun _ h => by first | exact h.1 | simp [h]))) hb); replace A := zp.mk (zl (g := bc) (o := .cells #[.int .i64 ag, .int .i64 ac, .int .u64 ad, .int .i64 af, .int .i64 ae, .slice ce y.length cf] 27 (0, 0)) (by (with_reducible repeat (first | refine zf ?_ _ | refine zi ?_ | refine zg ?_ _)); refine blk_far ?_ bW.out _; (with_reducible repeat (first | refine zf ?_ _ | refine zi ?_ | refine zg ?_ _)); refine blk_far ?_ bW.out _; (with_reducible repeat (first | refine zf ?_ _ | refine zi ?_ | refine zg ?_ _)); refine blk_far ?_ bW.out _; (with_reducible repeat (first | refine zf ?_ _ | refine zi ?_ | refine zg ?_ _)); refine blk_far ?_ bW.out _; (with_reducible repeat (first | refine zf ?_ _ | refine zi ?_ | refine zg ?_ _)); refine blk_far ?_ bW.out _; (with_reducible repeat (first | refine zf ?_ _ | refine zi ?_ | refine zg ?_ _)); refine blk_far ?_ bW.out _; (with_reducible repeat (first | refine zf ?_ _ | refine zi ?_ | refine zg ?_ _)); exact A.out) hb); replace D := zp.mk (zl (g := bi) (o := .cells #[.int .i64 al, .int .i64 aj, .int .u64 ai, .int .i64 ah, .int .i64 ak, .slice cq ab.length co] 27 (0, 0)) (by (with_reducible repeat (first | refine zf ?_ _ | refine zi ?_ | refine zg ?_ _)); refine blk_far ?_ bX.out _; (with_reducible repeat (first | refine zf ?_ _ | refine zi ?_ | refine zg ?_ _)); refine blk_far ?_ bX.out _; (with_reducible repeat (first | refine zf ?_ _ | refine zi ?_ | refine zg ?_ _)); refine blk_far ?_ bX.out _; (with_reducible repeat (first | refine zf ?_ _ | refine zi ?_ | refine zg ?_ _)); refine blk_far ?_ bX.out _; (with_reducible repeat (first | refine zf ?_ _ | refine zi ?_ | refine zg ?_ _)); refine blk_far ?_ bX.out _; (with_reducible repeat (first | refine zf ?_ _ | refine zi ?_ | refine zg ?_ _)); refine blk_far ?_ bX.out _; (with_reducible repeat (first | refine zf ?_ _ | refine zi ?_ | refine zg ?_ _)); exact D.out) hb); replace U := zp.mk (zl (g := am) (o := .cells #[.int .i64 az, .int .i64 aA, .int .u64 aC, .int .i64 aD, .int .i64 aG, .slice jp aM.length gB] 32 (0, 0)) (by (with_reducible repeat (first | refine zf ?_ _ | refine zi ?_ | refine zg ?_ _)); refine blk_far ?_ bz.out _; (with_reducible repeat (first | refine zf ?_ _ | refine zi ?_ | refine zg ?_ _)); refine blk_far ?_ bz.out _; (with_reducible repeat (first | refine zf ?_ _ | refine zi ?_ | refine zg ?_ _)); refine blk_far ?_ bz.out _; (with_reducible repeat (first | refine zf ?_ _ | refine zi ?_ | refine zg ?_ _)); refine blk_far ?_ bz.out _; (with_reducible repeat (first | refine zf ?_ _ | refine zi ?_ | refine zg ?_ _)); refine blk_far ?_ bz.out _; (with_reducible repeat (first | refine zf ?_ _ | refine zi ?_ | refine zg ?_ _)); refine blk_far ?_ bz.out _; (with_reducible repeat (first | refine zf ?_ _ | refine zi ?_ | refine zg ?_ _)); exact U.out) hb); replace W := zp.mk (zl (g := ax) (o := .cells #[.int .i64 bA, .int .i64 bC, .int .u64 bG, .int .i64 bN, .int .i64 bP, .slice bq be.length bp] 32 (0, 0)) (by (with_reducible repeat (first | refine zf ?_ _ | refine zi ?_ | refine zg ?_ _)); refine blk_far ?_ bH.out _; (with_reducible repeat (first | refine zf ?_ _ | refine zi ?_ | refine zg ?_ _)); refine blk_far ?_ bH.out _; (with_reducible repeat (first | refine zf ?_ _ | refine zi ?_ | refine zg ?_ _)); refine blk_far ?_ bH.out _; (with_reducible repeat (first | refine zf ?_ _ | refine zi ?_ | refine zg ?_ _)); refine blk_far ?_ bH.out _; (with_reducible repeat (first | refine zf ?_ _ | refine zi ?_ | refine zg ?_ _)); refine blk_far ?_ bH.out _; (with_reducible repeat (first | refine zf ?_ _ | refine zi ?_ | refine zg ?_ _)); refine blk_far ?_ bH.out _; (with_reducible repeat (first | refine zf ?_ _ | refine zi ?_ | refine zg ?_ _)); exact W.out) hb); replace Y := zp.mk (zl (g := u) (o := .cells #[.int .i64 bw, .int .i64 bx, .int .u64 bB, .int .i64 bD, .int .i64 bI, .slice bo bd.length bl] 32 (0, 0)) (by (with_reducible repeat (first | refine zf ?_ _ | refine zi ?_ | refine zg ?_ _)); refine blk_far ?_ bJ.out _; (with_reducible repeat (first | refine zf ?_ _ | refine zi ?_ | refine zg ?_ _)); refine blk_far ?_ bJ.out _; (with_reducible repeat (first | refine zf ?_ _ | refine zi ?_ | refine zg ?_ _)); refine blk_far ?_ bJ.out _; (with_reducible repeat (first | refine zf ?_ _ | refine zi ?_ | refine zg ?_ _)); refine blk_far ?_ bJ.out _; (with_reducible repeat (first | refine zf ?_ _ | refine zi ?_ | refine zg ?_ _)); refine blk_far ?_ bJ.out _; (with_reducible repeat (first | refine zf ?_ _ | refine zi ?_ | refine zg ?_ _)); refine blk_far ?_ bJ.out _; (with_reducible repeat (first | refine zf ?_ _ | refine zi ?_ | refine zg ?_ _)); exact Y.out) hb); replace T := zp.mk (zl (g := q) (o := .cells #[.int .i64 aq, .int .i64 ar, .int .u64 au, .int .i64 aw, .int .i64 ay, .slice bj an.length bf] 32 (0, 0)) (by (with_reducible repeat (first | refine zf ?_ _ | refine zi ?_ | refine zg ?_ _)); refine blk_put (cs := #[.int .i64 aq, .int .i64 ar, .int .u64 au, .int .i64 aw, .int .i64 ay, .slice none 0 0]) ?_ 5 _ rfl; (with_reducible repeat (first | refine zf ?_ _ | refine zi ?_ | refine zg ?_ _)); refine blk_put (cs := #[.int .i64 aq, .int .i64 ar, .int .u64 au, .int .i64 aw, .int .i64 0, .slice none 0 0]) ?_ 4 _ rfl; (with_reducible repeat (first | refine zf ?_ _ | refine zi ?_ | refine zg ?_ _)); refine blk_put (cs := #[.int .i64 aq, .int .i64 ar, .int .u64 au, .int .i64 0, .int .i64 0, .slice none 0 0]) ?_ 3 _ rfl; (with_reducible repeat (first | refine zf ?_ _ | refine zi ?_ | refine zg ?_ _)); refine blk_put (cs := #[.int .i64 aq, .int .i64 ar, .int .u64 0, .int .i64 0, .int .i64 0, .slice none 0 0]) ?_ 2 _ rfl; (with_reducible repeat (first | refine zf ?_ _ | refine zi ?_ | refine zg ?_ _)); refine blk_put (cs := #[.int .i64 aq, .int .i64 0, .int .u64 0, .int .i64 0, .int .i64 0, .slice none 0 0]) ?_ 1 _ rfl; (with_reducible repeat (first | refine zf ?_ _ | refine zi ?_ | refine zg ?_ _)); refine blk_put (cs := #[.int .i64 0, .int .i64 0, .int .u64 0, .int .i64 0, .int .i64 0, .slice none 0 0]) ?_ 0 _ rfl; (with_reducible repeat (first | refine zf ?_ _ | refine zi ?_ | refine zg ?_ _)); exact T.out) hb); replace HB := zp.mk (zj (zv7 HB.out) hb); (try clear hb); (try clear hb2); (try clear hk); (try clear hi)))
     go_meet
     case rel => exact ⟨_, ((cZ != aN)), (by first | rfl | (simp; done) | (simp [*]; done)), H', ⟨by first | omega | exact Nat.le_refl _⟩, ⟨by (with_reducible repeat (first | apply Kd.R_alloc | apply Kd.R_drewN | apply Kd.R_drew)); exact Kd.R_mono bO.out (fun _ h => by simp [h])⟩, ⟨by (with_reducible repeat (first | apply Kd.R_alloc | apply Kd.R_drewN | apply Kd.R_drew)); exact Kd.R_mono cI.out (fun _ h => by simp [h])⟩, ⟨by (with_reducible repeat (first | apply Kd.R_alloc | apply Kd.R_drewN | apply Kd.R_drew)); exact Kd.R_mono cY.out (fun _ h => by simp [h])⟩, ⟨by (with_reducible repeat (first | apply Kd.R_alloc | apply Kd.R_drewN | apply Kd.R_drew)); exact Kd.R_mono du.out (fun _ h => by simp [h])⟩, ⟨zv8 A.out⟩, ⟨zv8 D.out⟩, ⟨zv8 U.out⟩, ⟨zv8 W.out⟩, ⟨zv8 Y.out⟩, ⟨zv8 T.out⟩, ⟨zv7 HB.out⟩⟩
    ·replace fV := Bool.eq_false_iff.mpr fV
     subst fV
     have H1 : (laws_FnExactAggJoin.j0 k aN cZ true ag ac ad af ae y al aj ai ah ak ab az aA aC aD aG aM bA bC bG bN bP be bw bx bB bD bI bd aq ar au aw ay an) = some r := by rw [if_neg (show ¬ (false = true) by decide)] at H; exact H
     clear H
     have H := H1
     clear H1
     have H' := zp.mk H
     clear H
     have sE := dp.out
     have rZ := bW.out
     have rT := dq.out
     have sq := bX.out
     have rQ := cU.out
     have sK := bz.out
     have rI := dj.out
     have sM := bH.out
     have tb := di.out
     have sp := bJ.out
     have kf := zt0 T.out
     have lp := zt1 T.out
     have lm := zt2 T.out
     have kp := zt3 T.out
     have k5 := zt4 T.out
     have lh := zt5 T.out
     have fD := zd T.out 0
     have fW := zd T.out 1
     have gf := zd T.out 2
     have gu := zd T.out 3
     have gn := zd T.out 4
     have gh := zd T.out 5
     have rY := b4.out
     have sc := bg.out
     have sS := b5.out
     have rF := bh.out
     have oY := cn.out
     have qx := dh.out
     have qL := cp.out
     have rj := de.out
     have i9 := zt0 U.out
     have ii := zt1 U.out
     have im := zt2 U.out
     have hU := zt3 U.out
     have g2 := zt4 U.out
     have gH := zt5 U.out
     have it := zd U.out 0
     have iT := zd U.out 1
     have gT := zd U.out 2
     have ia := zd U.out 3
     have g4 := zd U.out 4
     have iH := zd U.out 5
     obtain ⟨gv, fa, ki⟩ := Kd.R_slice bO.out
     subst ki
     go_wp2_with (first | ((with_reducible refine zn (f := 12) rfl ?_); refine goesL_ (some 47) rfl rfl Try.func12 (by kernel_rfl) rfl #[.agg #[.int .i64 aq, .int .i64 ar, .int .u64 au, .int .i64 aw, .int .i64 ay, .slice bj an.length bf], .agg #[.int .i64 az, .int .i64 aA, .int .u64 aC, .int .i64 aD, .int .i64 aG, .slice gv aM.length fa]] rfl (by (try simp only [List.map_toArray, List.map_cons, List.map_nil]); first | done | rfl | (simp only [List.length_drop, List.length_take]; rfl)) ?_; (with_reducible refine (laws_eqAgg.calls k aq ar au aw ay _ _ an az aA aC aD aG _ _ aM false _ ?side1 ?side2 ?side3 ?side4 nZ.out).mono ?_); (case side1 => refine (Kd.R_reads' (e := 3) (base := w.heap.size) (ok := fun _ => True) (n := an.length) (c := bf) ?_).2.2; exact (by (with_reducible repeat (first | apply Kd.R_alloc | apply Kd.R_drewN | apply Kd.R_drew)); exact (Kd.R_mono (Kd.R_far (p := ⟨q, 5, none⟩) (Kd.R_far (p := ⟨q, 4, none⟩) (Kd.R_far (p := ⟨q, 3, none⟩) (Kd.R_far (p := ⟨q, 2, none⟩) (Kd.R_far (p := ⟨q, 1, none⟩) (Kd.R_far (p := ⟨q, 0, none⟩) (Kd.R_types du.out T.out (by decide)) (fun _ h => by simp [h]) (.int .i64 aq)) (fun _ h => by simp [h]) (.int .i64 ar)) (fun _ h => by simp [h]) (.int .u64 au)) (fun _ h => by simp [h]) (.int .i64 aw)) (fun _ h => by simp [h]) (.int .i64 ay)) (fun _ h => by simp [h]) (.slice bj an.length bf)) (fun _ h => by first | exact h.1 | simp [h])))); (case side2 => exact (Kd.R_reads' du.out).2.1); (case side3 => refine (Kd.R_reads' (e := 3) (base := w.heap.size) (ok := fun _ => True) (n := aM.length) (c := fa) ?_).2.2; exact (by (with_reducible repeat (first | apply Kd.R_alloc | apply Kd.R_drewN | apply Kd.R_drew)); exact (Kd.R_mono (Kd.R_far (p := ⟨q, 5, none⟩) (Kd.R_far (p := ⟨q, 4, none⟩) (Kd.R_far (p := ⟨q, 3, none⟩) (Kd.R_far (p := ⟨q, 2, none⟩) (Kd.R_far (p := ⟨q, 1, none⟩) (Kd.R_far (p := ⟨q, 0, none⟩) (Kd.R_types bO.out T.out (by decide)) (fun _ h => by simp [h]) (.int .i64 aq)) (fun _ h => by simp [h]) (.int .i64 ar)) (fun _ h => by simp [h]) (.int .u64 au)) (fun _ h => by simp [h]) (.int .i64 aw)) (fun _ h => by simp [h]) (.int .i64 ay)) (fun _ h => by simp [h]) (.slice bj an.length bf)) (fun _ h => by first | exact h.1 | simp [h])))); (case side4 => exact (Kd.R_reads' bO.out).2.1); rintro e tJ ⟨rfl, hb⟩; refine ⟨_, rfl, ?_⟩; replace bk := zp.mk (Kd.R_below (by (with_reducible repeat (first | apply Kd.R_alloc | apply Kd.R_drewN | apply Kd.R_drew)); exact (Kd.R_mono (Kd.R_far (p := ⟨q, 5, none⟩) (Kd.R_far (p := ⟨q, 4, none⟩) (Kd.R_far (p := ⟨q, 3, none⟩) (Kd.R_far (p := ⟨q, 2, none⟩) (Kd.R_far (p := ⟨q, 1, none⟩) (Kd.R_far (p := ⟨q, 0, none⟩) (Kd.R_types bk.out T.out (by decide)) (fun _ h => by simp [h]) (.int .i64 aq)) (fun _ h => by simp [h]) (.int .i64 ar)) (fun _ h => by simp [h]) (.int .u64 au)) (fun _ h => by simp [h]) (.int .i64 aw)) (fun _ h => by simp [h]) (.int .i64 ay)) (fun _ h => by simp [h]) (.slice bj an.length bf)) (fun _ h => by first | exact h.1 | simp [h]))) hb); replace bM := zp.mk (Kd.R_below (by (with_reducible repeat (first | apply Kd.R_alloc | apply Kd.R_drewN | apply Kd.R_drew)); exact (Kd.R_mono (Kd.R_far (p := ⟨q, 5, none⟩) (Kd.R_far (p := ⟨q, 4, none⟩) (Kd.R_far (p := ⟨q, 3, none⟩) (Kd.R_far (p := ⟨q, 2, none⟩) (Kd.R_far (p := ⟨q, 1, none⟩) (Kd.R_far (p := ⟨q, 0, none⟩) (Kd.R_types bM.out T.out (by decide)) (fun _ h => by simp [h]) (.int .i64 aq)) (fun _ h => by simp [h]) (.int .i64 ar)) (fun _ h => by simp [h]) (.int .u64 au)) (fun _ h => by simp [h]) (.int .i64 aw)) (fun _ h => by simp [h]) (.int .i64 ay)) (fun _ h => by simp [h]) (.slice bj an.length bf)) (fun _ h => by first | exact h.1 | simp [h]))) hb); replace bO := zp.mk (Kd.R_below (by (with_reducible repeat (first | apply Kd.R_alloc | apply Kd.R_drewN | apply Kd.R_drew)); exact (Kd.R_mono (Kd.R_far (p := ⟨q, 5, none⟩) (Kd.R_far (p := ⟨q, 4, none⟩) (Kd.R_far (p := ⟨q, 3, none⟩) (Kd.R_far (p := ⟨q, 2, none⟩) (Kd.R_far (p := ⟨q, 1, none⟩) (Kd.R_far (p := ⟨q, 0, none⟩) (Kd.R_types bO.out T.out (by decide)) (fun _ h => by simp [h]) (.int .i64 aq)) (fun _ h => by simp [h]) (.int .i64 ar)) (fun _ h => by simp [h]) (.int .u64 au)) (fun _ h => by simp [h]) (.int .i64 aw)) (fun _ h => by simp [h]) (.int .i64 ay)) (fun _ h => by simp [h]) (.slice bj an.length bf)) (fun _ h => by first | exact h.1 | simp [h]))) hb); replace cI := zp.mk (Kd.R_below (by (with_reducible repeat (first | apply Kd.R_alloc | apply Kd.R_drewN | apply Kd.R_drew)); exact (Kd.R_mono (Kd.R_far (p := ⟨q, 5, none⟩) (Kd.R_far (p := ⟨q, 4, none⟩) (Kd.R_far (p := ⟨q, 3, none⟩) (Kd.R_far (p := ⟨q, 2, none⟩) (Kd.R_far (p := ⟨q, 1, none⟩) (Kd.R_far (p := ⟨q, 0, none⟩) (Kd.R_types cI.out T.out (by decide)) (fun _ h => by simp [h]) (.int .i64 aq)) (fun _ h => by simp [h]) (.int .i64 ar)) (fun _ h => by simp [h]) (.int .u64 au)) (fun _ h => by simp [h]) (.int .i64 aw)) (fun _ h => by simp [h]) (.int .i64 ay)) (fun _ h => by simp [h]) (.slice bj an.length bf)) (fun _ h => by first | exact h.1 | simp [h]))) hb); replace cY := zp.mk (Kd.R_below (by (with_reducible repeat (first | apply Kd.R_alloc | apply Kd.R_drewN | apply Kd.R_drew)); exact (Kd.R_mono (Kd.R_far (p := ⟨q, 5, none⟩) (Kd.R_far (p := ⟨q, 4, none⟩) (Kd.R_far (p := ⟨q, 3, none⟩) (Kd.R_far (p := ⟨q, 2, none⟩) (Kd.R_far (p := ⟨q, 1, none⟩) (Kd.R_far (p := ⟨q, 0, none⟩) (Kd.R_types cY.out T.out (by decide)) (fun _ h => by simp [h]) (.int .i64 aq)) (fun _ h => by simp [h]) (.int .i64 ar)) (fun _ h => by simp [h]) (.int .u64 au)) (fun _ h => by simp [h]) (.int .i64 aw)) (fun _ h => by simp [h]) (.int .i64 ay)) (fun _ h => by simp [h]) (.slice bj an.length bf)) (fun _ h => by first | exact h.1 | simp [h]))) hb); replace du := zp.mk (Kd.R_below (by (with_reducible repeat (first | apply Kd.R_alloc | apply Kd.R_drewN | apply Kd.R_drew)); exact (Kd.R_mono (Kd.R_far (p := ⟨q, 5, none⟩) (Kd.R_far (p := ⟨q, 4, none⟩) (Kd.R_far (p := ⟨q, 3, none⟩) (Kd.R_far (p := ⟨q, 2, none⟩) (Kd.R_far (p := ⟨q, 1, none⟩) (Kd.R_far (p := ⟨q, 0, none⟩) (Kd.R_types du.out T.out (by decide)) (fun _ h => by simp [h]) (.int .i64 aq)) (fun _ h => by simp [h]) (.int .i64 ar)) (fun _ h => by simp [h]) (.int .u64 au)) (fun _ h => by simp [h]) (.int .i64 aw)) (fun _ h => by simp [h]) (.int .i64 ay)) (fun _ h => by simp [h]) (.slice bj an.length bf)) (fun _ h => by first | exact h.1 | simp [h]))) hb); replace A := zp.mk (zl (g := bc) (o := .cells #[.int .i64 ag, .int .i64 ac, .int .u64 ad, .int .i64 af, .int .i64 ae, .slice ce y.length cf] 27 (0, 0)) (by (with_reducible repeat (first | refine zf ?_ _ | refine zi ?_ | refine zg ?_ _)); refine blk_far ?_ bW.out _; (with_reducible repeat (first | refine zf ?_ _ | refine zi ?_ | refine zg ?_ _)); refine blk_far ?_ bW.out _; (with_reducible repeat (first | refine zf ?_ _ | refine zi ?_ | refine zg ?_ _)); refine blk_far ?_ bW.out _; (with_reducible repeat (first | refine zf ?_ _ | refine zi ?_ | refine zg ?_ _)); refine blk_far ?_ bW.out _; (with_reducible repeat (first | refine zf ?_ _ | refine zi ?_ | refine zg ?_ _)); refine blk_far ?_ bW.out _; (with_reducible repeat (first | refine zf ?_ _ | refine zi ?_ | refine zg ?_ _)); refine blk_far ?_ bW.out _; (with_reducible repeat (first | refine zf ?_ _ | refine zi ?_ | refine zg ?_ _)); exact A.out) hb); replace D := zp.mk (zl (g := bi) (o := .cells #[.int .i64 al, .int .i64 aj, .int .u64 ai, .int .i64 ah, .int .i64 ak, .slice cq ab.length co] 27 (0, 0)) (by (with_reducible repeat (first | refine zf ?_ _ | refine zi ?_ | refine zg ?_ _)); refine blk_far ?_ bX.out _; (with_reducible repeat (first | refine zf ?_ _ | refine zi ?_ | refine zg ?_ _)); refine blk_far ?_ bX.out _; (with_reducible repeat (first | refine zf ?_ _ | refine zi ?_ | refine zg ?_ _)); refine blk_far ?_ bX.out _; (with_reducible repeat (first | refine zf ?_ _ | refine zi ?_ | refine zg ?_ _)); refine blk_far ?_ bX.out _; (with_reducible repeat (first | refine zf ?_ _ | refine zi ?_ | refine zg ?_ _)); refine blk_far ?_ bX.out _; (with_reducible repeat (first | refine zf ?_ _ | refine zi ?_ | refine zg ?_ _)); refine blk_far ?_ bX.out _; (with_reducible repeat (first | refine zf ?_ _ | refine zi ?_ | refine zg ?_ _)); exact D.out) hb); replace U := zp.mk (zl (g := am) (o := .cells #[.int .i64 az, .int .i64 aA, .int .u64 aC, .int .i64 aD, .int .i64 aG, .slice gv aM.length fa] 32 (0, 0)) (by (with_reducible repeat (first | refine zf ?_ _ | refine zi ?_ | refine zg ?_ _)); refine blk_far ?_ bz.out _; (with_reducible repeat (first | refine zf ?_ _ | refine zi ?_ | refine zg ?_ _)); refine blk_far ?_ bz.out _; (with_reducible repeat (first | refine zf ?_ _ | refine zi ?_ | refine zg ?_ _)); refine blk_far ?_ bz.out _; (with_reducible repeat (first | refine zf ?_ _ | refine zi ?_ | refine zg ?_ _)); refine blk_far ?_ bz.out _; (with_reducible repeat (first | refine zf ?_ _ | refine zi ?_ | refine zg ?_ _)); refine blk_far ?_ bz.out _; (with_reducible repeat (first | refine zf ?_ _ | refine zi ?_ | refine zg ?_ _)); refine blk_far ?_ bz.out _; (with_reducible repeat (first | refine zf ?_ _ | refine zi ?_ | refine zg ?_ _)); exact U.out) hb); replace W := zp.mk (zl (g := ax) (o := .cells #[.int .i64 bA, .int .i64 bC, .int .u64 bG, .int .i64 bN, .int .i64 bP, .slice bq be.length bp] 32 (0, 0)) (by (with_reducible repeat (first | refine zf ?_ _ | refine zi ?_ | refine zg ?_ _)); refine blk_far ?_ bH.out _; (with_reducible repeat (first | refine zf ?_ _ | refine zi ?_ | refine zg ?_ _)); refine blk_far ?_ bH.out _; (with_reducible repeat (first | refine zf ?_ _ | refine zi ?_ | refine zg ?_ _)); refine blk_far ?_ bH.out _; (with_reducible repeat (first | refine zf ?_ _ | refine zi ?_ | refine zg ?_ _)); refine blk_far ?_ bH.out _; (with_reducible repeat (first | refine zf ?_ _ | refine zi ?_ | refine zg ?_ _)); refine blk_far ?_ bH.out _; (with_reducible repeat (first | refine zf ?_ _ | refine zi ?_ | refine zg ?_ _)); refine blk_far ?_ bH.out _; (with_reducible repeat (first | refine zf ?_ _ | refine zi ?_ | refine zg ?_ _)); exact W.out) hb); replace Y := zp.mk (zl (g := u) (o := .cells #[.int .i64 bw, .int .i64 bx, .int .u64 bB, .int .i64 bD, .int .i64 bI, .slice bo bd.length bl] 32 (0, 0)) (by (with_reducible repeat (first | refine zf ?_ _ | refine zi ?_ | refine zg ?_ _)); refine blk_far ?_ bJ.out _; (with_reducible repeat (first | refine zf ?_ _ | refine zi ?_ | refine zg ?_ _)); refine blk_far ?_ bJ.out _; (with_reducible repeat (first | refine zf ?_ _ | refine zi ?_ | refine zg ?_ _)); refine blk_far ?_ bJ.out _; (with_reducible repeat (first | refine zf ?_ _ | refine zi ?_ | refine zg ?_ _)); refine blk_far ?_ bJ.out _; (with_reducible repeat (first | refine zf ?_ _ | refine zi ?_ | refine zg ?_ _)); refine blk_far ?_ bJ.out _; (with_reducible repeat (first | refine zf ?_ _ | refine zi ?_ | refine zg ?_ _)); refine blk_far ?_ bJ.out _; (with_reducible repeat (first | refine zf ?_ _ | refine zi ?_ | refine zg ?_ _)); exact Y.out) hb); replace T := zp.mk (zl (g := q) (o := .cells #[.int .i64 aq, .int .i64 ar, .int .u64 au, .int .i64 aw, .int .i64 ay, .slice bj an.length bf] 32 (0, 0)) (by (with_reducible repeat (first | refine zf ?_ _ | refine zi ?_ | refine zg ?_ _)); refine blk_put (cs := #[.int .i64 aq, .int .i64 ar, .int .u64 au, .int .i64 aw, .int .i64 ay, .slice none 0 0]) ?_ 5 _ rfl; (with_reducible repeat (first | refine zf ?_ _ | refine zi ?_ | refine zg ?_ _)); refine blk_put (cs := #[.int .i64 aq, .int .i64 ar, .int .u64 au, .int .i64 aw, .int .i64 0, .slice none 0 0]) ?_ 4 _ rfl; (with_reducible repeat (first | refine zf ?_ _ | refine zi ?_ | refine zg ?_ _)); refine blk_put (cs := #[.int .i64 aq, .int .i64 ar, .int .u64 au, .int .i64 0, .int .i64 0, .slice none 0 0]) ?_ 3 _ rfl; (with_reducible repeat (first | refine zf ?_ _ | refine zi ?_ | refine zg ?_ _)); refine blk_put (cs := #[.int .i64 aq, .int .i64 ar, .int .u64 0, .int .i64 0, .int .i64 0, .slice none 0 0]) ?_ 2 _ rfl; (with_reducible repeat (first | refine zf ?_ _ | refine zi ?_ | refine zg ?_ _)); refine blk_put (cs := #[.int .i64 aq, .int .i64 0, .int .u64 0, .int .i64 0, .int .i64 0, .slice none 0 0]) ?_ 1 _ rfl; (with_reducible repeat (first | refine zf ?_ _ | refine zi ?_ | refine zg ?_ _)); refine blk_put (cs := #[.int .i64 0, .int .i64 0, .int .u64 0, .int .i64 0, .int .i64 0, .slice none 0 0]) ?_ 0 _ rfl; (with_reducible repeat (first | refine zf ?_ _ | refine zi ?_ | refine zg ?_ _)); exact T.out) hb); replace HB := zp.mk (zj (zv7 HB.out) hb); (try clear hb); (try clear hb2); (try clear hk); (try clear hi)))
     go_meet
     case rel => exact ⟨_, (true), (by first | rfl | (simp; done) | (simp [*]; done)), H', ⟨by first | omega | exact Nat.le_refl _⟩, ⟨by (with_reducible repeat (first | apply Kd.R_alloc | apply Kd.R_drewN | apply Kd.R_drew)); exact Kd.R_mono bO.out (fun _ h => by simp [h])⟩, ⟨by (with_reducible repeat (first | apply Kd.R_alloc | apply Kd.R_drewN | apply Kd.R_drew)); exact Kd.R_mono cI.out (fun _ h => by simp [h])⟩, ⟨by (with_reducible repeat (first | apply Kd.R_alloc | apply Kd.R_drewN | apply Kd.R_drew)); exact Kd.R_mono cY.out (fun _ h => by simp [h])⟩, ⟨by (with_reducible repeat (first | apply Kd.R_alloc | apply Kd.R_drewN | apply Kd.R_drew)); exact Kd.R_mono du.out (fun _ h => by simp [h])⟩, ⟨zv8 A.out⟩, ⟨zv8 D.out⟩, ⟨zv8 U.out⟩, ⟨zv8 W.out⟩, ⟨zv8 Y.out⟩, ⟨zv8 T.out⟩, ⟨zv7 HB.out⟩⟩
   case rest =>
    clear gq
    try clear c1
    try clear c2
    try clear p2
    try clear c3
    try clear c4
    try clear jl
    try clear c5
    try clear c6
    try clear c7
    try clear c8
    try clear c9
    try clear c10
    try clear eZ
    try clear fZ
    try clear c12
    try clear c14
    try clear c25
    try clear c26
    try clear c28
    try clear c48
    try clear c52
    try clear c53
    try clear c54
    try clear c57
    try clear c61
    try clear c62
    try clear c63
    try clear c64
    try clear c70
    try clear c71
    try clear c72
    try clear c73
    try clear c74
    try clear fV
    try clear c79
    try clear c80
    try clear c81
    try clear c82
    try clear c83
    try clear c85
    try clear c86
    try clear c87
    try clear c88
    try clear c92
    try clear c93
    try clear c94
    try clear c95
    try clear c96
    try clear c98
    try clear c99
    try clear c100
    try clear c101
    try clear i9
    try clear ii
    try clear im
    try clear hU
    try clear g2
    try clear gH
    try clear l5
    try clear jC
    try clear mo
    try clear ln
    try clear ml
    try clear jP
    try clear lO
    try clear jA
    try clear jV
    try clear lb
    try clear ll
    try clear jB
    try clear kl
    try clear mi
    try clear kk
    try clear mf
    try clear k0
    try clear l8
    try clear jW
    try clear lc
    try clear lK
    try clear lf
    try clear j3
    try clear lj
    try clear lW
    try clear mm
    try clear kd
    try clear k8
    try clear kF
    try clear kJ
    try clear k6
    try clear jX
    try clear lB
    try clear lr
    try clear jR
    try clear me
    try clear jK
    try clear lA
    try clear k7
    try clear j4
    try clear kw
    try clear j5
    try clear kb
    try clear jT
    try clear ku
    try clear l3
    try clear lF
    try clear kR
    try clear l2
    try clear lM
    try clear kr
    try clear lX
    try clear mr
    try clear kv
    try clear kX
    try clear ly
    try clear lv
    try clear lk
    try clear kY
    try clear kG
    try clear kn
    try clear kA
    try clear kh
    try clear mb
    try clear ma
    try clear ko
    try clear kU
    try clear jH
    try clear kj
    try clear lS
    try clear kV
    try clear jM
    try clear ox
    try clear oN
    try clear oi
    try clear nU
    try clear nS
    try clear nM
    try clear kf
    try clear lp
    try clear lm
    try clear kp
    try clear k5
    try clear lh
    try clear it
    try clear iT
    try clear gT
    try clear ia
    try clear g4
    try clear iH
    try clear lP
    try clear lR
    try clear ke
    try clear lE
    try clear kg
    try clear jG
    try clear lg
    try clear lJ
    try clear kt
    try clear lH
    try clear kP
    try clear ld
    try clear mc
    try clear k4
    try clear lx
    try clear jL
    try clear j7
    try clear j9
    try clear lG
    try clear kH
    try clear lI
    try clear km
    try clear jF
    try clear lZ
    try clear lV
    try clear mq
    try clear lw
    try clear kZ
    try clear lL
    try clear k3
    try clear kz
    try clear ks
    try clear ls
    try clear lU
    try clear la
    try clear k2
    try clear kc
    try clear kx
    try clear jU
    try clear lT
    try clear mg
    try clear mj
    try clear kI
    try clear lQ
    try clear kM
    try clear jE
    try clear jY
    try clear kO
    try clear kN
    try clear l4
    try clear l9
    try clear lN
    try clear lC
    try clear ky
    try clear kL
    try clear kK
    try clear jz
    try clear kS
    try clear jQ
    try clear lD
    try clear kW
    try clear jJ
    try clear jZ
    try clear kT
    try clear j8
    try clear ms
    try clear jD
    try clear jS
    try clear gr
    try clear fy
    try clear fJ
    try clear fE
    try clear jb
    try clear je
    try clear jc
    try clear jo
    try clear jr
    try clear js
    try clear fD
    try clear fW
    try clear gf
    try clear gu
    try clear gn
    try clear gh
    obtain ⟨kq, d8, rfl, HA, eY, G, J, I, B, A, D, U, W, Y, T, HB⟩ := hcut
    cases kq with
    | zero => exact absurd HA.out (by simp [laws_FnExactAggJoin.j0])
    | succ kj24 =>
     have H := HA.out
     clear HA
     simp only [laws_FnExactAggJoin.j0] at H
     by_cases eW : d8 = true
     ·subst eW
      have H1 : (some false) = some r := by rw [if_pos rfl] at H; exact H
      clear H
      have H := H1
      clear H1
      exact absurd ((Option.some.inj H).trans hr_) (by decide)
     ·replace eW := Bool.eq_false_iff.mpr eW
      subst eW
      have H1 : ((laws_toAgg.f kj24 ag ac ad af ae y).bind fun dw => ((laws_eqAgg.f kj24 bA bC bG bN bP be dw.1 dw.2.1 dw.2.2.1 dw.2.2.2.1 dw.2.2.2.2.1 dw.2.2.2.2.2).bind fun d6 => (if d6 = true then ((laws_toAgg.f kj24 al aj ai ah ak ab).bind fun ch => ((laws_eqAgg.f kj24 bw bx bB bD bI bd ch.1 ch.2.1 ch.2.2.1 ch.2.2.2.1 ch.2.2.2.2.1 ch.2.2.2.2.2).bind fun dE => (if dE = true then ((laws_markAgg.f kj24 bA bC bG bN bP be 1).bind fun dr => ((laws_markAgg.f kj24 bw bx bB bD bI bd dr.1).bind fun dk => (if dk.1 < 0 then (laws_FnExactAggJoin.j1 kj24 aN true ag ac ad af ae y al aj ai ah ak ab az aA aC aD aG aM aq ar au aw ay an) else ((laws_eqAgg.f kj24 aq ar au aw ay an az aA aC aD aG aM).bind fun dm => (if dm = true then (laws_FnExactAggJoin.j1 kj24 aN (cZ != aN) ag ac ad af ae y al aj ai ah ak ab az aA aC aD aG aM aq ar au aw ay an) else (laws_FnExactAggJoin.j1 kj24 aN true ag ac ad af ae y al aj ai ah ak ab az aA aC aD aG aM aq ar au aw ay an)))))) else (some false)))) else (some false)))) = some r := by rw [if_neg (show ¬ (false = true) by decide)] at H; exact H
      clear H
      have H := H1
      clear H1
      replace H := zs4 H
      obtain ⟨⟨fk, ff, fd, fo, fq, dM⟩, gw, H⟩ := H
      replace H : ((laws_eqAgg.f kj24 bA bC bG bN bP be fk ff fd fo fq dM).bind fun d6 => (if d6 = true then ((laws_toAgg.f kj24 al aj ai ah ak ab).bind fun ch => ((laws_eqAgg.f kj24 bw bx bB bD bI bd ch.1 ch.2.1 ch.2.2.1 ch.2.2.2.1 ch.2.2.2.2.1 ch.2.2.2.2.2).bind fun dE => (if dE = true then ((laws_markAgg.f kj24 bA bC bG bN bP be 1).bind fun dr => ((laws_markAgg.f kj24 bw bx bB bD bI bd dr.1).bind fun dk => (if dk.1 < 0 then (laws_FnExactAggJoin.j1 kj24 aN true ag ac ad af ae y al aj ai ah ak ab az aA aC aD aG aM aq ar au aw ay an) else ((laws_eqAgg.f kj24 aq ar au aw ay an az aA aC aD aG aM).bind fun dm => (if dm = true then (laws_FnExactAggJoin.j1 kj24 aN (cZ != aN) ag ac ad af ae y al aj ai ah ak ab az aA aC aD aG aM aq ar au aw ay an) else (laws_FnExactAggJoin.j1 kj24 aN true ag ac ad af ae y al aj ai ah ak ab az aA aC aD aG aM aq ar au aw ay an)))))) else (some false)))) else (some false))) = some r := H
      have nW := zp.mk gw
      clear gw
      replace H := zs4 H
      obtain ⟨d6, gz, H⟩ := H
      replace H : (if d6 = true then ((laws_toAgg.f kj24 al aj ai ah ak ab).bind fun ch => ((laws_eqAgg.f kj24 bw bx bB bD bI bd ch.1 ch.2.1 ch.2.2.1 ch.2.2.2.1 ch.2.2.2.2.1 ch.2.2.2.2.2).bind fun dE => (if dE = true then ((laws_markAgg.f kj24 bA bC bG bN bP be 1).bind fun dr => ((laws_markAgg.f kj24 bw bx bB bD bI bd dr.1).bind fun dk => (if dk.1 < 0 then (laws_FnExactAggJoin.j1 kj24 aN true ag ac ad af ae y al aj ai ah ak ab az aA aC aD aG aM aq ar au aw ay an) else ((laws_eqAgg.f kj24 aq ar au aw ay an az aA aC aD aG aM).bind fun dm => (if dm = true then (laws_FnExactAggJoin.j1 kj24 aN (cZ != aN) ag ac ad af ae y al aj ai ah ak ab az aA aC aD aG aM aq ar au aw ay an) else (laws_FnExactAggJoin.j1 kj24 aN true ag ac ad af ae y al aj ai ah ak ab az aA aC aD aG aM aq ar au aw ay an)))))) else (some false)))) else (some false)) = some r := H
      have n1 := zp.mk gz
      clear gz
      by_cases eV : d6 = true
      ·subst eV
       have H1 : ((laws_toAgg.f kj24 al aj ai ah ak ab).bind fun ch => ((laws_eqAgg.f kj24 bw bx bB bD bI bd ch.1 ch.2.1 ch.2.2.1 ch.2.2.2.1 ch.2.2.2.2.1 ch.2.2.2.2.2).bind fun dE => (if dE = true then ((laws_markAgg.f kj24 bA bC bG bN bP be 1).bind fun dr => ((laws_markAgg.f kj24 bw bx bB bD bI bd dr.1).bind fun dk => (if dk.1 < 0 then (laws_FnExactAggJoin.j1 kj24 aN true ag ac ad af ae y al aj ai ah ak ab az aA aC aD aG aM aq ar au aw ay an) else ((laws_eqAgg.f kj24 aq ar au aw ay an az aA aC aD aG aM).bind fun dm => (if dm = true then (laws_FnExactAggJoin.j1 kj24 aN (cZ != aN) ag ac ad af ae y al aj ai ah ak ab az aA aC aD aG aM aq ar au aw ay an) else (laws_FnExactAggJoin.j1 kj24 aN true ag ac ad af ae y al aj ai ah ak ab az aA aC aD aG aM aq ar au aw ay an)))))) else (some false)))) = some r := by rw [if_pos rfl] at H; exact H
       clear H
       have H := H1
       clear H1
       replace H := zs4 H
       obtain ⟨⟨fl, fh, fp, fs, fi, dL⟩, fY, H⟩ := H
       replace H : ((laws_eqAgg.f kj24 bw bx bB bD bI bd fl fh fp fs fi dL).bind fun dE => (if dE = true then ((laws_markAgg.f kj24 bA bC bG bN bP be 1).bind fun dr => ((laws_markAgg.f kj24 bw bx bB bD bI bd dr.1).bind fun dk => (if dk.1 < 0 then (laws_FnExactAggJoin.j1 kj24 aN true ag ac ad af ae y al aj ai ah ak ab az aA aC aD aG aM aq ar au aw ay an) else ((laws_eqAgg.f kj24 aq ar au aw ay an az aA aC aD aG aM).bind fun dm => (if dm = true then (laws_FnExactAggJoin.j1 kj24 aN (cZ != aN) ag ac ad af ae y al aj ai ah ak ab az aA aC aD aG aM aq ar au aw ay an) else (laws_FnExactAggJoin.j1 kj24 aN true ag ac ad af ae y al aj ai ah ak ab az aA aC aD aG aM aq ar au aw ay an)))))) else (some false))) = some r := H
       have oh := zp.mk fY
       clear fY
       replace H := zs4 H
       obtain ⟨dE, gx, H⟩ := H
       replace H : (if dE = true then ((laws_markAgg.f kj24 bA bC bG bN bP be 1).bind fun dr => ((laws_markAgg.f kj24 bw bx bB bD bI bd dr.1).bind fun dk => (if dk.1 < 0 then (laws_FnExactAggJoin.j1 kj24 aN true ag ac ad af ae y al aj ai ah ak ab az aA aC aD aG aM aq ar au aw ay an) else ((laws_eqAgg.f kj24 aq ar au aw ay an az aA aC aD aG aM).bind fun dm => (if dm = true then (laws_FnExactAggJoin.j1 kj24 aN (cZ != aN) ag ac ad af ae y al aj ai ah ak ab az aA aC aD aG aM aq ar au aw ay an) else (laws_FnExactAggJoin.j1 kj24 aN true ag ac ad af ae y al aj ai ah ak ab az aA aC aD aG aM aq ar au aw ay an)))))) else (some false)) = some r := H
       have oq := zp.mk gx
       clear gx
       by_cases e0 : dE = true
       ·subst e0
        have H1 : ((laws_markAgg.f kj24 bA bC bG bN bP be 1).bind fun dr => ((laws_markAgg.f kj24 bw bx bB bD bI bd dr.1).bind fun dk => (if dk.1 < 0 then (laws_FnExactAggJoin.j1 kj24 aN true ag ac ad af ae y al aj ai ah ak ab az aA aC aD aG aM aq ar au aw ay an) else ((laws_eqAgg.f kj24 aq ar au aw ay an az aA aC aD aG aM).bind fun dm => (if dm = true then (laws_FnExactAggJoin.j1 kj24 aN (cZ != aN) ag ac ad af ae y al aj ai ah ak ab az aA aC aD aG aM aq ar au aw ay an) else (laws_FnExactAggJoin.j1 kj24 aN true ag ac ad af ae y al aj ai ah ak ab az aA aC aD aG aM aq ar au aw ay an)))))) = some r := by rw [if_pos rfl] at H; exact H
        clear H
        have H := H1
        clear H1
        replace H := zs4 H
        obtain ⟨⟨fm, cV⟩, fS, H⟩ := H
        replace H : ((laws_markAgg.f kj24 bw bx bB bD bI bd fm).bind fun dk => (if dk.1 < 0 then (laws_FnExactAggJoin.j1 kj24 aN true ag ac ad af ae y al aj ai ah ak ab az aA aC aD aG aM aq ar au aw ay an) else ((laws_eqAgg.f kj24 aq ar au aw ay an az aA aC aD aG aM).bind fun dm => (if dm = true then (laws_FnExactAggJoin.j1 kj24 aN (cZ != aN) ag ac ad af ae y al aj ai ah ak ab az aA aC aD aG aM aq ar au aw ay an) else (laws_FnExactAggJoin.j1 kj24 aN true ag ac ad af ae y al aj ai ah ak ab az aA aC aD aG aM aq ar au aw ay an))))) = some r := H
        have oI := zp.mk fS
        clear fS
        replace H := zs4 H
        obtain ⟨⟨eQ, cX⟩, fR, H⟩ := H
        replace H : (if eQ < 0 then (laws_FnExactAggJoin.j1 kj24 aN true ag ac ad af ae y al aj ai ah ak ab az aA aC aD aG aM aq ar au aw ay an) else ((laws_eqAgg.f kj24 aq ar au aw ay an az aA aC aD aG aM).bind fun dm => (if dm = true then (laws_FnExactAggJoin.j1 kj24 aN (cZ != aN) ag ac ad af ae y al aj ai ah ak ab az aA aC aD aG aM aq ar au aw ay an) else (laws_FnExactAggJoin.j1 kj24 aN true ag ac ad af ae y al aj ai ah ak ab az aA aC aD aG aM aq ar au aw ay an)))) = some r := H
        have og := zp.mk fR
        clear fR
        have e5 := zp.mk H
        clear H
        try go_wp2
        replace G := zp.mk (Kd.R_drew G.out)
        replace J := zp.mk (Kd.R_drew J.out)
        replace I := zp.mk (Kd.R_drew I.out)
        replace B := zp.mk (Kd.R_drew B.out)
        replace A := zp.mk (zi A.out)
        replace D := zp.mk (zi D.out)
        replace U := zp.mk (zi U.out)
        replace W := zp.mk (zi W.out)
        replace Y := zp.mk (zi Y.out)
        replace T := zp.mk (zi T.out)
        replace HB := zp.mk (zb HB.out)
        refine start_ (n := 5) (S := fun w' => w'.cell? ⟨ax, 0, none⟩ = some (.int .i64 bA) ∧ w'.cell? ⟨ax, 1, none⟩ = some (.int .i64 bC) ∧ w'.cell? ⟨ax, 2, none⟩ = some (.int .u64 bG) ∧ w'.cell? ⟨ax, 3, none⟩ = some (.int .i64 bN) ∧ w'.cell? ⟨ax, 4, none⟩ = some (.int .i64 bP) ∧ w'.cell? ⟨ax, 5, none⟩ = some (.slice bq be.length bp) ∧ w'.cell? ⟨bc, 0, none⟩ = some (.int .i64 ag) ∧ w'.cell? ⟨bc, 1, none⟩ = some (.int .i64 ac) ∧ w'.cell? ⟨bc, 2, none⟩ = some (.int .u64 ad) ∧ w'.cell? ⟨bc, 3, none⟩ = some (.int .i64 af) ∧ w'.cell? ⟨bc, 4, none⟩ = some (.int .i64 ae) ∧ w'.cell? ⟨bc, 5, none⟩ = some (.slice ce y.length cf)) (ds := []) (zB 5 0) (by kernel_rfl) rfl rfl ⟨(ze W.out 0).trans rfl, (ze W.out 1).trans rfl, (ze W.out 2).trans rfl, (ze W.out 3).trans rfl, (ze W.out 4).trans rfl, (ze W.out 5).trans rfl, (ze A.out 0).trans rfl, (ze A.out 1).trans rfl, (ze A.out 2).trans rfl, (ze A.out 3).trans rfl, (ze A.out 4).trans rfl, (ze A.out 5).trans rfl⟩ (fun hHeld => ?_)
        generalize wc.drew = tS at G J I B A D U W Y T HB hHeld ⊢
        refine take_ (i := 0) (N := some 54) (v := ?_) (a' := ?_) (zB 5 1) rfl rfl (by kernel_rfl) (fun _ _ _ h => h) (Or.inl ⟨by rfl, ?_⟩) hHeld ?_ ?_
        rotate_left
        ·rintro w' ⟨s0, s1, s2, s3, s4, s5, s6, s7, s8, s9, kE, li⟩
         go_simp
         with_reducible rfl
        rotate_left
        ·simp only [Act.put, zs1, zs2, zs3, i64_w, i32_w]
         rfl
        refine take_ (i := 1) (N := some 55) (v := ?_) (a' := ?_) (zB 5 3) rfl rfl (by kernel_rfl) (fun _ _ _ h => h) (Or.inl ⟨by rfl, ?_⟩) hHeld ?_ ?_
        rotate_left
        ·rintro w' ⟨s0, s1, s2, s3, s4, s5, s6, s7, s8, s9, kE, li⟩
         go_simp
         with_reducible rfl
        rotate_left
        ·simp only [Act.put, zs1, zs2, zs3, i64_w, i32_w]
         rfl
        refine one_ (i := 2) (N := some 56) (zB 5 7) rfl rfl (by kernel_rfl) (by decide) (fun K hK => ?_)
        refine goes_ Try.func10 (by kernel_rfl) rfl #[.agg #[.int .i64 ag, .int .i64 ac, .int .u64 ad, .int .i64 af, .int .i64 ae, .slice ce y.length cf]] (by rfl) rfl rfl (by (try simp only [List.map_toArray, List.map_cons, List.map_nil]); first | done | rfl | (simp only [List.length_drop, List.length_take]; rfl)) ?_
        with_reducible refine (laws_toAgg.calls kj24 ag ac ad af ae _ _ y fk ff fd fo fq dM _ ?side1 ?side2 nW.out).mono ?_
        (case side1 => repeat (first | exact (Kd.zt dY.out HB.out) | (with_reducible refine Kd.zr ?_ _) | (with_reducible refine Kd.zq ?_ _) | (with_reducible refine Kd.C_drew ?_)))
        (case side2 => exact dV.out)
        rintro e ts ⟨tH, rfl, cd, hb⟩
        refine ⟨_, rfl, ?_⟩
        have cC := zp.mk (Kd.R_lower (Kd.R_new' (Kd.R_new' (Kd.R_new' (Kd.R_new' cd (Kd.R_lt (by (with_reducible repeat (first | apply Kd.R_alloc | apply Kd.R_drewN | apply Kd.R_drew)); first | exact G.out | exact Kd.R_mono G.out (fun _ h => by simp [h])))) (Kd.R_lt (by (with_reducible repeat (first | apply Kd.R_alloc | apply Kd.R_drewN | apply Kd.R_drew)); first | exact J.out | exact Kd.R_mono J.out (fun _ h => by simp [h])))) (Kd.R_lt (by (with_reducible repeat (first | apply Kd.R_alloc | apply Kd.R_drewN | apply Kd.R_drew)); first | exact I.out | exact Kd.R_mono I.out (fun _ h => by simp [h])))) (Kd.R_lt (by (with_reducible repeat (first | apply Kd.R_alloc | apply Kd.R_drewN | apply Kd.R_drew)); first | exact B.out | exact Kd.R_mono B.out (fun _ h => by simp [h])))) (zk (zv7 HB.out)))
        replace G := zp.mk (Kd.R_elder' (by (with_reducible repeat (first | apply Kd.R_alloc | apply Kd.R_drewN | apply Kd.R_drew)); exact G.out) (Kd.R_base cd) hb)
        replace J := zp.mk (Kd.R_elder' (by (with_reducible repeat (first | apply Kd.R_alloc | apply Kd.R_drewN | apply Kd.R_drew)); exact J.out) (Kd.R_base cd) hb)
        replace I := zp.mk (Kd.R_elder' (by (with_reducible repeat (first | apply Kd.R_alloc | apply Kd.R_drewN | apply Kd.R_drew)); exact I.out) (Kd.R_base cd) hb)
        replace B := zp.mk (Kd.R_elder' (by (with_reducible repeat (first | apply Kd.R_alloc | apply Kd.R_drewN | apply Kd.R_drew)); exact B.out) (Kd.R_base cd) hb)
        replace A := zp.mk (zl (zv8 A.out) hb)
        replace D := zp.mk (zl (zv8 D.out) hb)
        replace U := zp.mk (zl (zv8 U.out) hb)
        replace W := zp.mk (zl (zv8 W.out) hb)
        replace Y := zp.mk (zl (zv8 Y.out) hb)
        replace T := zp.mk (zl (zv8 T.out) hb)
        replace HB := zp.mk (zj (zv7 HB.out) hb)
        (try clear hb)
        (try clear hb2)
        (try clear hk)
        (try clear hi)
        (try clear cd)
        obtain ⟨dG, dF, fx⟩ := Kd.R_slice cC.out
        (first | subst fx | (injection fx with f1_ f2_ f3_; have dX := f1_.symm; have dW := f3_.symm; clear f1_ f2_ f3_; subst dX; subst dW))
        refine hK.out _ _ ⟨(ze W.out 0).trans rfl, (ze W.out 1).trans rfl, (ze W.out 2).trans rfl, (ze W.out 3).trans rfl, (ze W.out 4).trans rfl, (ze W.out 5).trans rfl, (ze A.out 0).trans rfl, (ze A.out 1).trans rfl, (ze A.out 2).trans rfl, (ze A.out 3).trans rfl, (ze A.out 4).trans rfl, (ze A.out 5).trans rfl⟩ (fun hHeld => ?_)
        clear hK K
        refine norm_ (a' := ?_) ?_ ?_
        rotate_left
        ·show Act.put _ (some 56) _ = _
         simp only [Act.put, zs1, zs2, zs3, i64_w, i32_w]
         rfl
        refine one_ (i := 3) (N := some 57) (zB 5 15) rfl rfl (by kernel_rfl) (by decide) (fun K hK => ?_)
        refine goes_ Try.func12 (by kernel_rfl) rfl #[.agg #[.int .i64 bA, .int .i64 bC, .int .u64 bG, .int .i64 bN, .int .i64 bP, .slice bq be.length bp], .agg #[.int .i64 fk, .int .i64 ff, .int .u64 fd, .int .i64 fo, .int .i64 fq, .slice dG dM.length dF]] (by rfl) rfl rfl (by (try simp only [List.map_toArray, List.map_cons, List.map_nil]); first | done | rfl | (simp only [List.length_drop, List.length_take]; rfl)) ?_
        with_reducible refine (laws_eqAgg.calls kj24 bA bC bG bN bP _ _ be fk ff fd fo fq _ _ dM true _ ?side1 ?side2 ?side3 ?side4 n1.out).mono ?_
        (case side1 => repeat (first | exact (Kd.R_reads' J.out).2.2 | (with_reducible refine Kd.zr ?_ _) | (with_reducible refine Kd.zq ?_ _) | (with_reducible refine Kd.C_drew ?_)))
        (case side2 => exact (Kd.R_reads' J.out).2.1)
        (case side3 => repeat (first | exact (Kd.R_reads' cC.out).2.2 | (with_reducible refine Kd.zr ?_ _) | (with_reducible refine Kd.zq ?_ _) | (with_reducible refine Kd.C_drew ?_)))
        (case side4 => exact (Kd.R_reads' cC.out).2.1)
        rintro e om ⟨rfl, hb⟩
        refine ⟨_, rfl, ?_⟩
        replace G := zp.mk (Kd.R_below (by (with_reducible repeat (first | apply Kd.R_alloc | apply Kd.R_drewN | apply Kd.R_drew)); first | exact G.out | exact Kd.R_mono G.out (fun _ h => by simp [h])) hb)
        replace J := zp.mk (Kd.R_below (by (with_reducible repeat (first | apply Kd.R_alloc | apply Kd.R_drewN | apply Kd.R_drew)); first | exact J.out | exact Kd.R_mono J.out (fun _ h => by simp [h])) hb)
        replace I := zp.mk (Kd.R_below (by (with_reducible repeat (first | apply Kd.R_alloc | apply Kd.R_drewN | apply Kd.R_drew)); first | exact I.out | exact Kd.R_mono I.out (fun _ h => by simp [h])) hb)
        replace B := zp.mk (Kd.R_below (by (with_reducible repeat (first | apply Kd.R_alloc | apply Kd.R_drewN | apply Kd.R_drew)); first | exact B.out | exact Kd.R_mono B.out (fun _ h => by simp [h])) hb)
        replace cC := zp.mk (Kd.R_below (by (with_reducible repeat (first | apply Kd.R_alloc | apply Kd.R_drewN | apply Kd.R_drew)); first | exact cC.out | exact Kd.R_mono cC.out (fun _ h => by simp [h])) hb)
        replace A := zp.mk (zl (zv8 A.out) hb)
        replace D := zp.mk (zl (zv8 D.out) hb)
        replace U := zp.mk (zl (zv8 U.out) hb)
        replace W := zp.mk (zl (zv8 W.out) hb)
        replace Y := zp.mk (zl (zv8 Y.out) hb)
        replace T := zp.mk (zl (zv8 T.out) hb)
        replace HB := zp.mk (zj (zv7 HB.out) hb)
        (try clear hb)
        (try clear hb2)
        (try clear hk)
        (try clear hi)
        refine hK.out _ _ ⟨(ze W.out 0).trans rfl, (ze W.out 1).trans rfl, (ze W.out 2).trans rfl, (ze W.out 3).trans rfl, (ze W.out 4).trans rfl, (ze W.out 5).trans rfl, (ze A.out 0).trans rfl, (ze A.out 1).trans rfl, (ze A.out 2).trans rfl, (ze A.out 3).trans rfl, (ze A.out 4).trans rfl, (ze A.out 5).trans rfl⟩ (fun hHeld => ?_)
        clear hK K
        refine norm_ (a' := ?_) ?_ ?_
        rotate_left
        ·show Act.put _ (some 57) _ = _
         simp only [Act.put, zs1, zs2, zs3, i64_w, i32_w]
         rfl
        refine pure_ (i := 4) (N := some 58) (v := ?_) (a' := ?_) (zB 5 31) rfl rfl (by kernel_rfl) (fun _ _ _ h => h) (Or.inl ⟨by rfl, ?_⟩) ?_ ?_
        rotate_left
        ·intro w'
         go_simp
         with_reducible rfl
        rotate_left
        ·simp only [Act.put, zs1, zs2, zs3, i64_w, i32_w]
         rfl
        refine done_ (by kernel_rfl) ?_
        try go_wp2
        replace G := zp.mk (Kd.R_drew G.out)
        replace J := zp.mk (Kd.R_drew J.out)
        replace I := zp.mk (Kd.R_drew I.out)
        replace B := zp.mk (Kd.R_drew B.out)
        replace cC := zp.mk (Kd.R_drew cC.out)
        replace A := zp.mk (zi A.out)
        replace D := zp.mk (zi D.out)
        replace U := zp.mk (zi U.out)
        replace W := zp.mk (zi W.out)
        replace Y := zp.mk (zi Y.out)
        replace T := zp.mk (zi T.out)
        replace HB := zp.mk (zb HB.out)
        refine start_ (n := 5) (S := fun w' => w'.cell? ⟨u, 0, none⟩ = some (.int .i64 bw) ∧ w'.cell? ⟨u, 1, none⟩ = some (.int .i64 bx) ∧ w'.cell? ⟨u, 2, none⟩ = some (.int .u64 bB) ∧ w'.cell? ⟨u, 3, none⟩ = some (.int .i64 bD) ∧ w'.cell? ⟨u, 4, none⟩ = some (.int .i64 bI) ∧ w'.cell? ⟨u, 5, none⟩ = some (.slice bo bd.length bl) ∧ w'.cell? ⟨bi, 0, none⟩ = some (.int .i64 al) ∧ w'.cell? ⟨bi, 1, none⟩ = some (.int .i64 aj) ∧ w'.cell? ⟨bi, 2, none⟩ = some (.int .u64 ai) ∧ w'.cell? ⟨bi, 3, none⟩ = some (.int .i64 ah) ∧ w'.cell? ⟨bi, 4, none⟩ = some (.int .i64 ak) ∧ w'.cell? ⟨bi, 5, none⟩ = some (.slice cq ab.length co)) (ds := []) (zB 5 0) (by kernel_rfl) rfl rfl ⟨(ze Y.out 0).trans rfl, (ze Y.out 1).trans rfl, (ze Y.out 2).trans rfl, (ze Y.out 3).trans rfl, (ze Y.out 4).trans rfl, (ze Y.out 5).trans rfl, (ze D.out 0).trans rfl, (ze D.out 1).trans rfl, (ze D.out 2).trans rfl, (ze D.out 3).trans rfl, (ze D.out 4).trans rfl, (ze D.out 5).trans rfl⟩ (fun hHeld => ?_)
        generalize om.drew = tw at G J I B cC A D U W Y T HB hHeld ⊢
        refine take_ (i := 0) (N := some 59) (v := ?_) (a' := ?_) (zB 5 1) rfl rfl (by kernel_rfl) (fun _ _ _ h => h) (Or.inl ⟨by rfl, ?_⟩) hHeld ?_ ?_
        rotate_left
        ·rintro w' ⟨s0, s1, s2, s3, s4, s5, s6, s7, s8, s9, kE, li⟩
         go_simp
         with_reducible rfl
        rotate_left
        ·simp only [Act.put, zs1, zs2, zs3, i64_w, i32_w]
         rfl
        refine take_ (i := 1) (N := some 60) (v := ?_) (a' := ?_) (zB 5 3) rfl rfl (by kernel_rfl) (fun _ _ _ h => h) (Or.inl ⟨by rfl, ?_⟩) hHeld ?_ ?_
        rotate_left
        ·rintro w' ⟨s0, s1, s2, s3, s4, s5, s6, s7, s8, s9, kE, li⟩
         go_simp
         with_reducible rfl
        rotate_left
        ·simp only [Act.put, zs1, zs2, zs3, i64_w, i32_w]
         rfl
        refine one_ (i := 2) (N := some 61) (zB 5 7) rfl rfl (by kernel_rfl) (by decide) (fun K hK => ?_)
        refine goes_ Try.func10 (by kernel_rfl) rfl #[.agg #[.int .i64 al, .int .i64 aj, .int .u64 ai, .int .i64 ah, .int .i64 ak, .slice cq ab.length co]] (by rfl) rfl rfl (by (try simp only [List.map_toArray, List.map_cons, List.map_nil]); first | done | rfl | (simp only [List.length_drop, List.length_take]; rfl)) ?_
        with_reducible refine (laws_toAgg.calls kj24 al aj ai ah ak _ _ ab fl fh fp fs fi dL _ ?side1 ?side2 oh.out).mono ?_
        (case side1 => repeat (first | exact (Kd.zt d4.out HB.out) | (with_reducible refine Kd.zr ?_ _) | (with_reducible refine Kd.zq ?_ _) | (with_reducible refine Kd.C_drew ?_)))
        (case side2 => exact d3.out)
        rintro e tL ⟨tD, rfl, cd, hb⟩
        refine ⟨_, rfl, ?_⟩
        have dn := zp.mk (Kd.R_lower (Kd.R_new' (Kd.R_new' (Kd.R_new' (Kd.R_new' (Kd.R_new' cd (Kd.R_lt (by (with_reducible repeat (first | apply Kd.R_alloc | apply Kd.R_drewN | apply Kd.R_drew)); first | exact G.out | exact Kd.R_mono G.out (fun _ h => by simp [h])))) (Kd.R_lt (by (with_reducible repeat (first | apply Kd.R_alloc | apply Kd.R_drewN | apply Kd.R_drew)); first | exact J.out | exact Kd.R_mono J.out (fun _ h => by simp [h])))) (Kd.R_lt (by (with_reducible repeat (first | apply Kd.R_alloc | apply Kd.R_drewN | apply Kd.R_drew)); first | exact I.out | exact Kd.R_mono I.out (fun _ h => by simp [h])))) (Kd.R_lt (by (with_reducible repeat (first | apply Kd.R_alloc | apply Kd.R_drewN | apply Kd.R_drew)); first | exact B.out | exact Kd.R_mono B.out (fun _ h => by simp [h])))) (Kd.R_lt (by (with_reducible repeat (first | apply Kd.R_alloc | apply Kd.R_drewN | apply Kd.R_drew)); first | exact cC.out | exact Kd.R_mono cC.out (fun _ h => by simp [h])))) (zk (zv7 HB.out)))
        replace G := zp.mk (Kd.R_elder' (by (with_reducible repeat (first | apply Kd.R_alloc | apply Kd.R_drewN | apply Kd.R_drew)); exact G.out) (Kd.R_base cd) hb)
        replace J := zp.mk (Kd.R_elder' (by (with_reducible repeat (first | apply Kd.R_alloc | apply Kd.R_drewN | apply Kd.R_drew)); exact J.out) (Kd.R_base cd) hb)
        replace I := zp.mk (Kd.R_elder' (by (with_reducible repeat (first | apply Kd.R_alloc | apply Kd.R_drewN | apply Kd.R_drew)); exact I.out) (Kd.R_base cd) hb)
        replace B := zp.mk (Kd.R_elder' (by (with_reducible repeat (first | apply Kd.R_alloc | apply Kd.R_drewN | apply Kd.R_drew)); exact B.out) (Kd.R_base cd) hb)
        replace cC := zp.mk (Kd.R_elder' (by (with_reducible repeat (first | apply Kd.R_alloc | apply Kd.R_drewN | apply Kd.R_drew)); exact cC.out) (Kd.R_base cd) hb)
        replace A := zp.mk (zl (zv8 A.out) hb)
        replace D := zp.mk (zl (zv8 D.out) hb)
        replace U := zp.mk (zl (zv8 U.out) hb)
        replace W := zp.mk (zl (zv8 W.out) hb)
        replace Y := zp.mk (zl (zv8 Y.out) hb)
        replace T := zp.mk (zl (zv8 T.out) hb)
        replace HB := zp.mk (zj (zv7 HB.out) hb)
        (try clear hb)
        (try clear hb2)
        (try clear hk)
        (try clear hi)
        (try clear cd)
        obtain ⟨dH, dJ, fK⟩ := Kd.R_slice dn.out
        (first | subst fK | (injection fK with f1_ f2_ f3_; have dX := f1_.symm; have dW := f3_.symm; clear f1_ f2_ f3_; subst dX; subst dW))
        refine hK.out _ _ ⟨(ze Y.out 0).trans rfl, (ze Y.out 1).trans rfl, (ze Y.out 2).trans rfl, (ze Y.out 3).trans rfl, (ze Y.out 4).trans rfl, (ze Y.out 5).trans rfl, (ze D.out 0).trans rfl, (ze D.out 1).trans rfl, (ze D.out 2).trans rfl, (ze D.out 3).trans rfl, (ze D.out 4).trans rfl, (ze D.out 5).trans rfl⟩ (fun hHeld => ?_)
        clear hK K
        refine norm_ (a' := ?_) ?_ ?_
        rotate_left
        ·show Act.put _ (some 61) _ = _
         simp only [Act.put, zs1, zs2, zs3, i64_w, i32_w]
         rfl
        refine one_ (i := 3) (N := some 62) (zB 5 15) rfl rfl (by kernel_rfl) (by decide) (fun K hK => ?_)
        refine goes_ Try.func12 (by kernel_rfl) rfl #[.agg #[.int .i64 bw, .int .i64 bx, .int .u64 bB, .int .i64 bD, .int .i64 bI, .slice bo bd.length bl], .agg #[.int .i64 fl, .int .i64 fh, .int .u64 fp, .int .i64 fs, .int .i64 fi, .slice dH dL.length dJ]] (by rfl) rfl rfl (by (try simp only [List.map_toArray, List.map_cons, List.map_nil]); first | done | rfl | (simp only [List.length_drop, List.length_take]; rfl)) ?_
        with_reducible refine (laws_eqAgg.calls kj24 bw bx bB bD bI _ _ bd fl fh fp fs fi _ _ dL true _ ?side1 ?side2 ?side3 ?side4 oq.out).mono ?_
        (case side1 => repeat (first | exact (Kd.R_reads' I.out).2.2 | (with_reducible refine Kd.zr ?_ _) | (with_reducible refine Kd.zq ?_ _) | (with_reducible refine Kd.C_drew ?_)))
        (case side2 => exact (Kd.R_reads' I.out).2.1)
        (case side3 => repeat (first | exact (Kd.R_reads' dn.out).2.2 | (with_reducible refine Kd.zr ?_ _) | (with_reducible refine Kd.zq ?_ _) | (with_reducible refine Kd.C_drew ?_)))
        (case side4 => exact (Kd.R_reads' dn.out).2.1)
        rintro e tN ⟨rfl, hb⟩
        refine ⟨_, rfl, ?_⟩
        replace G := zp.mk (Kd.R_below (by (with_reducible repeat (first | apply Kd.R_alloc | apply Kd.R_drewN | apply Kd.R_drew)); first | exact G.out | exact Kd.R_mono G.out (fun _ h => by simp [h])) hb)
        replace J := zp.mk (Kd.R_below (by (with_reducible repeat (first | apply Kd.R_alloc | apply Kd.R_drewN | apply Kd.R_drew)); first | exact J.out | exact Kd.R_mono J.out (fun _ h => by simp [h])) hb)
        replace I := zp.mk (Kd.R_below (by (with_reducible repeat (first | apply Kd.R_alloc | apply Kd.R_drewN | apply Kd.R_drew)); first | exact I.out | exact Kd.R_mono I.out (fun _ h => by simp [h])) hb)
        replace B := zp.mk (Kd.R_below (by (with_reducible repeat (first | apply Kd.R_alloc | apply Kd.R_drewN | apply Kd.R_drew)); first | exact B.out | exact Kd.R_mono B.out (fun _ h => by simp [h])) hb)
        replace cC := zp.mk (Kd.R_below (by (with_reducible repeat (first | apply Kd.R_alloc | apply Kd.R_drewN | apply Kd.R_drew)); first | exact cC.out | exact Kd.R_mono cC.out (fun _ h => by simp [h])) hb)
        replace dn := zp.mk (Kd.R_below (by (with_reducible repeat (first | apply Kd.R_alloc | apply Kd.R_drewN | apply Kd.R_drew)); first | exact dn.out | exact Kd.R_mono dn.out (fun _ h => by simp [h])) hb)
        replace A := zp.mk (zl (zv8 A.out) hb)
        replace D := zp.mk (zl (zv8 D.out) hb)
        replace U := zp.mk (zl (zv8 U.out) hb)
        replace W := zp.mk (zl (zv8 W.out) hb)
        replace Y := zp.mk (zl (zv8 Y.out) hb)
        replace T := zp.mk (zl (zv8 T.out) hb)
        replace HB := zp.mk (zj (zv7 HB.out) hb)
        (try clear hb)
        (try clear hb2)
        (try clear hk)
        (try clear hi)
        refine hK.out _ _ ⟨(ze Y.out 0).trans rfl, (ze Y.out 1).trans rfl, (ze Y.out 2).trans rfl, (ze Y.out 3).trans rfl, (ze Y.out 4).trans rfl, (ze Y.out 5).trans rfl, (ze D.out 0).trans rfl, (ze D.out 1).trans rfl, (ze D.out 2).trans rfl, (ze D.out 3).trans rfl, (ze D.out 4).trans rfl, (ze D.out 5).trans rfl⟩ (fun hHeld => ?_)
        clear hK K
        refine norm_ (a' := ?_) ?_ ?_
        rotate_left
        ·show Act.put _ (some 62) _ = _
         simp only [Act.put, zs1, zs2, zs3, i64_w, i32_w]
         rfl
        refine pure_ (i := 4) (N := some 63) (v := ?_) (a' := ?_) (zB 5 31) rfl rfl (by kernel_rfl) (fun _ _ _ h => h) (Or.inl ⟨by rfl, ?_⟩) ?_ ?_
        rotate_left
        ·intro w'
         go_simp
         with_reducible rfl
        rotate_left
        ·simp only [Act.put, zs1, zs2, zs3, i64_w, i32_w]
         rfl
        refine done_ (by kernel_rfl) ?_
        have qG := es.out
        have pg := dg.out
        have qa := ek.out
        have o2 := db.out
        have rq := dh.out
        have oX := cn.out
        have qr := dd.out
        have rp := ey.out
        have qh := bH.out
        have pJ := dj.out
        have iS := zt0 W.out
        have gI := zt1 W.out
        have iW := zt2 W.out
        have iq := zt3 W.out
        have ip := zt4 W.out
        have gM := zt5 W.out
        have hy := zd W.out 0
        have hQ := zd W.out 1
        have hW := zd W.out 2
        have iD := zd W.out 3
        have gN := zd W.out 4
        have g7 := zd W.out 5
        go_upto_region 21 with (first | ((with_reducible refine zn (f := 16) rfl ?_); refine goesL_ (some 66) rfl rfl Try.func16 (by kernel_rfl) rfl #[.agg #[.int .i64 bA, .int .i64 bC, .int .u64 bG, .int .i64 bN, .int .i64 bP, .slice bq be.length bp], .int .i64 1] rfl (by (try simp only [List.map_toArray, List.map_cons, List.map_nil]); first | done | rfl | (simp only [List.length_drop, List.length_take]; rfl)) ?_; (with_reducible refine (laws_markAgg.calls kj24 bA bC bG bN bP (fun k_ => some k_ = (.slice bq be.length bp : Value).ownBlock) (.slice bq be.length bp) be 1 fm cV w _ ?side1 ?side2 oI.out).mono ?_); (case side1 => repeat (first | (with_reducible first | exact HB.out | apply zc | apply za | apply zb | refine zh ?_ eg.out | refine zh ?_ eC.out | refine zh ?_ dO.out | refine zh ?_ e8.out | refine zh ?_ fc.out | refine zh ?_ fb.out) | exact HB.out)); (case side2 => exact Kd.R_tight rfl J.out); rintro e tM ⟨rfl, eU, hb, hkp⟩; refine ⟨_, rfl, ?_⟩; replace G := zp.mk (Kd.R_mono (ok' := fun k_ => some k_ ≠ (.slice bq be.length bp : Value).ownBlock ∧ some k_ ≠ (.slice bo bd.length bl : Value).ownBlock ∧ some k_ ≠ (.slice bj an.length bf : Value).ownBlock ∧ some k_ ≠ (.slice dG dM.length dF : Value).ownBlock ∧ some k_ ≠ (.slice dH dL.length dJ : Value).ownBlock) (Kd.R_keptB (G.out) hkp (fun _ h hs_ => absurd hs_ (by simp [h]))) (fun _ h => by simp [h])); replace I := zp.mk (Kd.R_mono (ok' := fun k_ => some k_ ≠ (ba : Value).ownBlock ∧ some k_ ≠ (.slice bq be.length bp : Value).ownBlock ∧ some k_ ≠ (.slice bj an.length bf : Value).ownBlock ∧ some k_ ≠ (.slice dG dM.length dF : Value).ownBlock ∧ some k_ ≠ (.slice dH dL.length dJ : Value).ownBlock) (Kd.R_keptB (I.out) hkp (fun _ h hs_ => absurd hs_ (by simp [h]))) (fun _ h => by simp [h])); replace B := zp.mk (Kd.R_mono (ok' := fun k_ => some k_ ≠ (ba : Value).ownBlock ∧ some k_ ≠ (.slice bq be.length bp : Value).ownBlock ∧ some k_ ≠ (.slice bo bd.length bl : Value).ownBlock ∧ some k_ ≠ (.slice dG dM.length dF : Value).ownBlock ∧ some k_ ≠ (.slice dH dL.length dJ : Value).ownBlock) (Kd.R_keptB (B.out) hkp (fun _ h hs_ => absurd hs_ (by simp [h]))) (fun _ h => by simp [h])); replace A := zp.mk (blk_kept (zv8 A.out) hkp (fun hs_ => (fun e_ => (Kd.R_ne J.out A.out (by decide)) e_) hs_)); replace D := zp.mk (blk_kept (zv8 D.out) hkp (fun hs_ => (fun e_ => (Kd.R_ne J.out D.out (by decide)) e_) hs_)); replace U := zp.mk (blk_kept (zv8 U.out) hkp (fun hs_ => (fun e_ => (Kd.R_ne J.out U.out (by decide)) e_) hs_)); replace W := zp.mk (blk_kept (zv8 W.out) hkp (fun hs_ => (fun e_ => (Kd.R_ne J.out W.out (by decide)) e_) hs_)); replace Y := zp.mk (blk_kept (zv8 Y.out) hkp (fun hs_ => (fun e_ => (Kd.R_ne J.out Y.out (by decide)) e_) hs_)); replace T := zp.mk (blk_kept (zv8 T.out) hkp (fun hs_ => (fun e_ => (Kd.R_ne J.out T.out (by decide)) e_) hs_)); replace J := zp.mk (Kd.R_reok rfl eU (fun k_ e_ => J.out.1 k_ e_)); replace cC := zp.mk (Kd.R_mono (ok' := fun k_ => some k_ ≠ (ba : Value).ownBlock ∧ some k_ ≠ (.slice bq be.length bp : Value).ownBlock ∧ some k_ ≠ (.slice bo bd.length bl : Value).ownBlock ∧ some k_ ≠ (.slice bj an.length bf : Value).ownBlock ∧ some k_ ≠ (.slice dH dL.length dJ : Value).ownBlock) (Kd.R_keptB (cC.out) hkp (fun _ h hs_ => absurd hs_ (by simp [h]))) (fun _ h => by simp [h])); replace dn := zp.mk (Kd.R_mono (ok' := fun k_ => some k_ ≠ (ba : Value).ownBlock ∧ some k_ ≠ (.slice bq be.length bp : Value).ownBlock ∧ some k_ ≠ (.slice bo bd.length bl : Value).ownBlock ∧ some k_ ≠ (.slice bj an.length bf : Value).ownBlock ∧ some k_ ≠ (.slice dG dM.length dF : Value).ownBlock) (Kd.R_keptB (dn.out) hkp (fun _ h hs_ => absurd hs_ (by simp [h]))) (fun _ h => by simp [h])); replace HB := zp.mk (hb); (try clear hb); (try clear hkp); (try clear eU); have qp := em.out; have rl := dc.out; have qj := et.out; have p1 := df.out; have pq := de.out; have pm := cp.out; have pu := bJ.out; have ri := di.out; have ib := zt0 Y.out; have gY := zt1 Y.out; have gZ := zt2 Y.out; have g3 := zt3 Y.out; have gO := zt4 Y.out; have i1 := zt5 Y.out; have gW := zd Y.out 0; have hS := zd Y.out 1; have hh := zd Y.out 2; have io := zd Y.out 3; have hL := zd Y.out 4; have hx := zd Y.out 5) | ((with_reducible refine zn (f := 16) rfl ?_); refine goesL_ (some 69) rfl rfl Try.func16 (by kernel_rfl) rfl #[.agg #[.int .i64 bw, .int .i64 bx, .int .u64 bB, .int .i64 bD, .int .i64 bI, .slice bo bd.length bl], .int .i64 fm] rfl (by (try simp only [List.map_toArray, List.map_cons, List.map_nil]); first | done | rfl | (simp only [List.length_drop, List.length_take]; rfl)) ?_; (with_reducible refine (laws_markAgg.calls kj24 bw bx bB bD bI (fun k_ => some k_ = (.slice bo bd.length bl : Value).ownBlock) (.slice bo bd.length bl) bd fm eQ cX w _ ?side1 ?side2 og.out).mono ?_); (case side1 => repeat (first | (with_reducible first | exact HB.out | apply zc | apply za | apply zb | refine zh ?_ eg.out | refine zh ?_ eC.out | refine zh ?_ dO.out | refine zh ?_ e8.out | refine zh ?_ fc.out | refine zh ?_ fb.out) | exact HB.out)); (case side2 => exact Kd.R_tight rfl I.out); rintro e tp ⟨rfl, eU, hb, hkp⟩; refine ⟨_, rfl, ?_⟩; replace G := zp.mk (Kd.R_mono (ok' := fun k_ => some k_ ≠ (.slice bq be.length bp : Value).ownBlock ∧ some k_ ≠ (.slice bo bd.length bl : Value).ownBlock ∧ some k_ ≠ (.slice bj an.length bf : Value).ownBlock ∧ some k_ ≠ (.slice dG dM.length dF : Value).ownBlock ∧ some k_ ≠ (.slice dH dL.length dJ : Value).ownBlock) (Kd.R_keptB (G.out) hkp (fun _ h hs_ => absurd hs_ (by simp [h]))) (fun _ h => by simp [h])); replace J := zp.mk (Kd.R_mono (ok' := fun k_ => some k_ ≠ (ba : Value).ownBlock ∧ some k_ ≠ (.slice bo bd.length bl : Value).ownBlock ∧ some k_ ≠ (.slice bj an.length bf : Value).ownBlock ∧ some k_ ≠ (.slice dG dM.length dF : Value).ownBlock ∧ some k_ ≠ (.slice dH dL.length dJ : Value).ownBlock) (Kd.R_keptB (J.out) hkp (fun _ h hs_ => absurd hs_ (by simp [h]))) (fun _ h => by simp [h])); replace B := zp.mk (Kd.R_mono (ok' := fun k_ => some k_ ≠ (ba : Value).ownBlock ∧ some k_ ≠ (.slice bq be.length bp : Value).ownBlock ∧ some k_ ≠ (.slice bo bd.length bl : Value).ownBlock ∧ some k_ ≠ (.slice dG dM.length dF : Value).ownBlock ∧ some k_ ≠ (.slice dH dL.length dJ : Value).ownBlock) (Kd.R_keptB (B.out) hkp (fun _ h hs_ => absurd hs_ (by simp [h]))) (fun _ h => by simp [h])); replace A := zp.mk (blk_kept (zv8 A.out) hkp (fun hs_ => (fun e_ => (Kd.R_ne I.out A.out (by decide)) e_) hs_)); replace D := zp.mk (blk_kept (zv8 D.out) hkp (fun hs_ => (fun e_ => (Kd.R_ne I.out D.out (by decide)) e_) hs_)); replace U := zp.mk (blk_kept (zv8 U.out) hkp (fun hs_ => (fun e_ => (Kd.R_ne I.out U.out (by decide)) e_) hs_)); replace W := zp.mk (blk_kept (zv8 W.out) hkp (fun hs_ => (fun e_ => (Kd.R_ne I.out W.out (by decide)) e_) hs_)); replace Y := zp.mk (blk_kept (zv8 Y.out) hkp (fun hs_ => (fun e_ => (Kd.R_ne I.out Y.out (by decide)) e_) hs_)); replace T := zp.mk (blk_kept (zv8 T.out) hkp (fun hs_ => (fun e_ => (Kd.R_ne I.out T.out (by decide)) e_) hs_)); replace I := zp.mk (Kd.R_reok rfl eU (fun k_ e_ => I.out.1 k_ e_)); replace cC := zp.mk (Kd.R_mono (ok' := fun k_ => some k_ ≠ (ba : Value).ownBlock ∧ some k_ ≠ (.slice bq be.length bp : Value).ownBlock ∧ some k_ ≠ (.slice bo bd.length bl : Value).ownBlock ∧ some k_ ≠ (.slice bj an.length bf : Value).ownBlock ∧ some k_ ≠ (.slice dH dL.length dJ : Value).ownBlock) (Kd.R_keptB (cC.out) hkp (fun _ h hs_ => absurd hs_ (by simp [h]))) (fun _ h => by simp [h])); replace dn := zp.mk (Kd.R_mono (ok' := fun k_ => some k_ ≠ (ba : Value).ownBlock ∧ some k_ ≠ (.slice bq be.length bp : Value).ownBlock ∧ some k_ ≠ (.slice bo bd.length bl : Value).ownBlock ∧ some k_ ≠ (.slice bj an.length bf : Value).ownBlock ∧ some k_ ≠ (.slice dG dM.length dF : Value).ownBlock) (Kd.R_keptB (dn.out) hkp (fun _ h hs_ => absurd hs_ (by simp [h]))) (fun _ h => by simp [h])); replace HB := zp.mk (hb); (try clear hb); (try clear hkp); (try clear eU)))
        (try simp only [Act.put, zs1, zs2, zs3])
        go_cut [82] (fun sT wc => ∃ (kq : Nat) (d2 : Bool), sT = .bool d2 ∧ zp (laws_FnExactAggJoin.j1 kq aN d2 ag ac ad af ae y al aj ai ah ak ab az aA aC aD aG aM aq ar au aw ay an = some r) ∧ zp (kq ≤ kj24) ∧ zp (Kd.R (Kd.int .i64) 3 wc w.heap.size (fun k_ => some k_ ≠ ((.slice bq be.length bp) : Value).ownBlock ∧ some k_ ≠ ((.slice bo bd.length bl) : Value).ownBlock ∧ some k_ ≠ ((.slice bj an.length bf) : Value).ownBlock) ba aM) ∧ zp (Kd.R (Kd.int .i64) 3 wc w.heap.size (fun k_ => some k_ ≠ (ba : Value).ownBlock ∧ some k_ ≠ ((.slice bo bd.length bl) : Value).ownBlock ∧ some k_ ≠ ((.slice bj an.length bf) : Value).ownBlock) (.slice bq be.length bp) cV) ∧ zp (Kd.R (Kd.int .i64) 3 wc w.heap.size (fun k_ => some k_ ≠ (ba : Value).ownBlock ∧ some k_ ≠ ((.slice bq be.length bp) : Value).ownBlock ∧ some k_ ≠ ((.slice bj an.length bf) : Value).ownBlock) (.slice bo bd.length bl) cX) ∧ zp (Kd.R (Kd.int .i64) 3 wc w.heap.size (fun k_ => some k_ ≠ (ba : Value).ownBlock ∧ some k_ ≠ ((.slice bq be.length bp) : Value).ownBlock ∧ some k_ ≠ ((.slice bo bd.length bl) : Value).ownBlock) (.slice bj an.length bf) an) ∧ zp (wc.heap[bc]? = some (.cells #[.int .i64 ag, .int .i64 ac, .int .u64 ad, .int .i64 af, .int .i64 ae, (.slice ce y.length cf)] 27 (0, 0))) ∧ zp (wc.heap[bi]? = some (.cells #[.int .i64 al, .int .i64 aj, .int .u64 ai, .int .i64 ah, .int .i64 ak, (.slice cq ab.length co)] 27 (0, 0))) ∧ zp (wc.heap[am]? = some (.cells #[.int .i64 az, .int .i64 aA, .int .u64 aC, .int .i64 aD, .int .i64 aG, ba] 32 (0, 0))) ∧ zp (wc.heap[ax]? = some (.cells #[.int .i64 bA, .int .i64 bC, .int .u64 bG, .int .i64 bN, .int .i64 bP, (.slice bq be.length bp)] 32 (0, 0))) ∧ zp (wc.heap[u]? = some (.cells #[.int .i64 bw, .int .i64 bx, .int .u64 bB, .int .i64 bD, .int .i64 bI, (.slice bo bd.length bl)] 32 (0, 0))) ∧ zp (wc.heap[q]? = some (.cells #[.int .i64 aq, .int .i64 ar, .int .u64 au, .int .i64 aw, .int .i64 ay, (.slice bj an.length bf)] 32 (0, 0))) ∧ zp (Below w.heap.size w wc))
        case first =>
         have H := e5.out
         clear e5
         by_cases eB : eQ < 0
         ·rw [if_pos eB] at H
          have dU : decide (eQ < 0) = true := decide_eq_true eB
          clear eB
          (first | rw [dU] | (simp only [i64_w, i32_w]; rw [dU]) | skip)
          have H' := zp.mk H
          clear H
          go_wp2
          go_meet
          case rel => exact ⟨_, (true), (by first | rfl | (simp; done) | (simp [*]; done)), H', ⟨by have := eY.out; first | omega | exact Nat.le_refl _⟩, ⟨by (with_reducible repeat (first | apply Kd.R_alloc | apply Kd.R_drewN | apply Kd.R_drew)); exact Kd.R_mono G.out (fun _ h => by simp [h])⟩, ⟨by (with_reducible repeat (first | apply Kd.R_alloc | apply Kd.R_drewN | apply Kd.R_drew)); exact Kd.R_mono J.out (fun _ h => by simp [h])⟩, ⟨by (with_reducible repeat (first | apply Kd.R_alloc | apply Kd.R_drewN | apply Kd.R_drew)); exact Kd.R_mono I.out (fun _ h => by simp [h])⟩, ⟨by (with_reducible repeat (first | apply Kd.R_alloc | apply Kd.R_drewN | apply Kd.R_drew)); exact Kd.R_mono B.out (fun _ h => by simp [h])⟩, ⟨zv8 A.out⟩, ⟨zv8 D.out⟩, ⟨zv8 U.out⟩, ⟨zv8 W.out⟩, ⟨zv8 Y.out⟩, ⟨zv8 T.out⟩, ⟨zv7 HB.out⟩⟩
         ·rw [if_neg eB] at H
          have dU : decide (eQ < 0) = false := decide_eq_false eB
          clear eB
          (first | rw [dU] | (simp only [i64_w, i32_w]; rw [dU]) | skip)
          replace H := zs4 H
          obtain ⟨dm, fH, H⟩ := H
          replace H : (if dm = true then (laws_FnExactAggJoin.j1 kj24 aN (cZ != aN) ag ac ad af ae y al aj ai ah ak ab az aA aC aD aG aM aq ar au aw ay an) else (laws_FnExactAggJoin.j1 kj24 aN true ag ac ad af ae y al aj ai ah ak ab az aA aC aD aG aM aq ar au aw ay an)) = some r := H
          have jj := zp.mk fH
          clear fH
          by_cases eT : dm = true
          ·subst eT
           have H1 : (laws_FnExactAggJoin.j1 kj24 aN (cZ != aN) ag ac ad af ae y al aj ai ah ak ab az aA aC aD aG aM aq ar au aw ay an) = some r := by rw [if_pos rfl] at H; exact H
           clear H
           have H := H1
           clear H1
           have H' := zp.mk H
           clear H
           have pR := dp.out
           have pL := bW.out
           have pr := dq.out
           have qH := bX.out
           have qe := cU.out
           have q7 := bz.out
           have pB := dj.out
           have qO := bH.out
           have qy := di.out
           have rb := bJ.out
           have gJ := zt0 T.out
           have iV := zt1 T.out
           have ig := zt2 T.out
           have h2 := zt3 T.out
           have i2 := zt4 T.out
           have iF := zt5 T.out
           have h8 := zd T.out 0
           have iG := zd T.out 1
           have iJ := zd T.out 2
           have hw := zd T.out 3
           have hq := zd T.out 4
           have ie := zd T.out 5
           have pz := b4.out
           have o8 := bg.out
           have pv := b5.out
           have ry := bh.out
           have qV := cn.out
           have rr := dh.out
           have rk := cp.out
           have rg := de.out
           have gL := zt0 U.out
           have i0 := zt1 U.out
           have i8 := zt2 U.out
           have he := zt3 U.out
           have iu := zt4 U.out
           have gF := zt5 U.out
           have hf := zd U.out 0
           have iX := zd U.out 1
           have ik := zd U.out 2
           have gG := zd U.out 3
           have ij := zd U.out 4
           have gE := zd U.out 5
           obtain ⟨sW, rR, mh⟩ := Kd.R_slice G.out
           subst mh
           go_wp2_with (first | (go_at_call 12; (with_reducible refine (laws_eqAgg.calls kj24 aq ar au aw ay _ _ an az aA aC aD aG _ _ aM true _ ?side1 ?side2 ?side3 ?side4 jj.out).mono ?_); (case side1 => repeat (first | exact (Kd.R_reads' B.out).2.2 | (with_reducible refine Kd.zr ?_ _) | (with_reducible refine Kd.zq ?_ _) | (with_reducible refine Kd.C_drew ?_))); (case side2 => exact (Kd.R_reads' B.out).2.1); (case side3 => repeat (first | exact (Kd.R_reads' G.out).2.2 | (with_reducible refine Kd.zr ?_ _) | (with_reducible refine Kd.zq ?_ _) | (with_reducible refine Kd.C_drew ?_))); (case side4 => exact (Kd.R_reads' G.out).2.1); rintro e tx ⟨rfl, hb⟩; replace G := zp.mk (Kd.R_below (by (with_reducible repeat (first | apply Kd.R_alloc | apply Kd.R_drewN | apply Kd.R_drew)); first | exact G.out | exact Kd.R_mono G.out (fun _ h => by simp [h])) hb); replace J := zp.mk (Kd.R_below (by (with_reducible repeat (first | apply Kd.R_alloc | apply Kd.R_drewN | apply Kd.R_drew)); first | exact J.out | exact Kd.R_mono J.out (fun _ h => by simp [h])) hb); replace I := zp.mk (Kd.R_below (by (with_reducible repeat (first | apply Kd.R_alloc | apply Kd.R_drewN | apply Kd.R_drew)); first | exact I.out | exact Kd.R_mono I.out (fun _ h => by simp [h])) hb); replace B := zp.mk (Kd.R_below (by (with_reducible repeat (first | apply Kd.R_alloc | apply Kd.R_drewN | apply Kd.R_drew)); first | exact B.out | exact Kd.R_mono B.out (fun _ h => by simp [h])) hb); replace cC := zp.mk (Kd.R_below (by (with_reducible repeat (first | apply Kd.R_alloc | apply Kd.R_drewN | apply Kd.R_drew)); first | exact cC.out | exact Kd.R_mono cC.out (fun _ h => by simp [h])) hb); replace dn := zp.mk (Kd.R_below (by (with_reducible repeat (first | apply Kd.R_alloc | apply Kd.R_drewN | apply Kd.R_drew)); first | exact dn.out | exact Kd.R_mono dn.out (fun _ h => by simp [h])) hb); replace A := zp.mk (zl (zv8 A.out) hb); replace D := zp.mk (zl (zv8 D.out) hb); replace U := zp.mk (zl (zv8 U.out) hb); replace W := zp.mk (zl (zv8 W.out) hb); replace Y := zp.mk (zl (zv8 Y.out) hb); replace T := zp.mk (zl (zv8 T.out) hb); replace HB := zp.mk (zj (zv7 HB.out) hb); (try clear hb); (try clear hb2); (try clear hk); (try clear hi)))
           go_meet
           case rel => exact ⟨_, ((cZ != aN)), (by first | rfl | (simp; done) | (simp [*]; done)), H', ⟨by have := eY.out; first | omega | exact Nat.le_refl _⟩, ⟨by (with_reducible repeat (first | apply Kd.R_alloc | apply Kd.R_drewN | apply Kd.R_drew)); exact Kd.R_mono G.out (fun _ h => by simp [h])⟩, ⟨by (with_reducible repeat (first | apply Kd.R_alloc | apply Kd.R_drewN | apply Kd.R_drew)); exact Kd.R_mono J.out (fun _ h => by simp [h])⟩, ⟨by (with_reducible repeat (first | apply Kd.R_alloc | apply Kd.R_drewN | apply Kd.R_drew)); exact Kd.R_mono I.out (fun _ h => by simp [h])⟩, ⟨by (with_reducible repeat (first | apply Kd.R_alloc | apply Kd.R_drewN | apply Kd.R_drew)); exact Kd.R_mono B.out (fun _ h => by simp [h])⟩, ⟨zv8 A.out⟩, ⟨zv8 D.out⟩, ⟨zv8 U.out⟩, ⟨zv8 W.out⟩, ⟨zv8 Y.out⟩, ⟨zv8 T.out⟩, ⟨zv7 HB.out⟩⟩
          ·replace eT := Bool.eq_false_iff.mpr eT
           subst eT
           have H1 : (laws_FnExactAggJoin.j1 kj24 aN true ag ac ad af ae y al aj ai ah ak ab az aA aC aD aG aM aq ar au aw ay an) = some r := by rw [if_neg (show ¬ (false = true) by decide)] at H; exact H
           clear H
           have H := H1
           clear H1
           have H' := zp.mk H
           clear H
           have pd := dp.out
           have ra := bW.out
           have ql := dq.out
           have qD := bX.out
           have rB := cU.out
           have q1 := bz.out
           have oZ := dj.out
           have pC := bH.out
           have qb := di.out
           have rf := bJ.out
           have il := zt0 T.out
           have g0 := zt1 T.out
           have gS := zt2 T.out
           have h7 := zt3 T.out
           have hB := zt4 T.out
           have ih := zt5 T.out
           have hA := zd T.out 0
           have hX := zd T.out 1
           have hl := zd T.out 2
           have g1 := zd T.out 3
           have hT := zd T.out 4
           have ir := zd T.out 5
           have qF := b4.out
           have ru := bg.out
           have p3 := b5.out
           have qi := bh.out
           have pb := cn.out
           have qq := dh.out
           have qC := cp.out
           have qg := de.out
           have ic := zt0 U.out
           have iA := zt1 U.out
           have iR := zt2 U.out
           have hu := zt3 U.out
           have iv := zt4 U.out
           have h3 := zt5 U.out
           have hD := zd U.out 0
           have hN := zd U.out 1
           have iI := zd U.out 2
           have hY := zd U.out 3
           have iQ := zd U.out 4
           have i4 := zd U.out 5
           obtain ⟨sb, sC, l6⟩ := Kd.R_slice G.out
           subst l6
           go_wp2_with (first | (go_at_call 12; (with_reducible refine (laws_eqAgg.calls kj24 aq ar au aw ay _ _ an az aA aC aD aG _ _ aM false _ ?side1 ?side2 ?side3 ?side4 jj.out).mono ?_); (case side1 => repeat (first | exact (Kd.R_reads' B.out).2.2 | (with_reducible refine Kd.zr ?_ _) | (with_reducible refine Kd.zq ?_ _) | (with_reducible refine Kd.C_drew ?_))); (case side2 => exact (Kd.R_reads' B.out).2.1); (case side3 => repeat (first | exact (Kd.R_reads' G.out).2.2 | (with_reducible refine Kd.zr ?_ _) | (with_reducible refine Kd.zq ?_ _) | (with_reducible refine Kd.C_drew ?_))); (case side4 => exact (Kd.R_reads' G.out).2.1); rintro e tP ⟨rfl, hb⟩; replace G := zp.mk (Kd.R_below (by (with_reducible repeat (first | apply Kd.R_alloc | apply Kd.R_drewN | apply Kd.R_drew)); first | exact G.out | exact Kd.R_mono G.out (fun _ h => by simp [h])) hb); replace J := zp.mk (Kd.R_below (by (with_reducible repeat (first | apply Kd.R_alloc | apply Kd.R_drewN | apply Kd.R_drew)); first | exact J.out | exact Kd.R_mono J.out (fun _ h => by simp [h])) hb); replace I := zp.mk (Kd.R_below (by (with_reducible repeat (first | apply Kd.R_alloc | apply Kd.R_drewN | apply Kd.R_drew)); first | exact I.out | exact Kd.R_mono I.out (fun _ h => by simp [h])) hb); replace B := zp.mk (Kd.R_below (by (with_reducible repeat (first | apply Kd.R_alloc | apply Kd.R_drewN | apply Kd.R_drew)); first | exact B.out | exact Kd.R_mono B.out (fun _ h => by simp [h])) hb); replace cC := zp.mk (Kd.R_below (by (with_reducible repeat (first | apply Kd.R_alloc | apply Kd.R_drewN | apply Kd.R_drew)); first | exact cC.out | exact Kd.R_mono cC.out (fun _ h => by simp [h])) hb); replace dn := zp.mk (Kd.R_below (by (with_reducible repeat (first | apply Kd.R_alloc | apply Kd.R_drewN | apply Kd.R_drew)); first | exact dn.out | exact Kd.R_mono dn.out (fun _ h => by simp [h])) hb); replace A := zp.mk (zl (zv8 A.out) hb); replace D := zp.mk (zl (zv8 D.out) hb); replace U := zp.mk (zl (zv8 U.out) hb); replace W := zp.mk (zl (zv8 W.out) hb); replace Y := zp.mk (zl (zv8 Y.out) hb); replace T := zp.mk (zl (zv8 T.out) hb); replace HB := zp.mk (zj (zv7 HB.out) hb); (try clear hb); (try clear hb2); (try clear hk); (try clear hi)))
           go_meet
           case rel => exact ⟨_, (true), (by first | rfl | (simp; done) | (simp [*]; done)), H', ⟨by have := eY.out; first | omega | exact Nat.le_refl _⟩, ⟨by (with_reducible repeat (first | apply Kd.R_alloc | apply Kd.R_drewN | apply Kd.R_drew)); exact Kd.R_mono G.out (fun _ h => by simp [h])⟩, ⟨by (with_reducible repeat (first | apply Kd.R_alloc | apply Kd.R_drewN | apply Kd.R_drew)); exact Kd.R_mono J.out (fun _ h => by simp [h])⟩, ⟨by (with_reducible repeat (first | apply Kd.R_alloc | apply Kd.R_drewN | apply Kd.R_drew)); exact Kd.R_mono I.out (fun _ h => by simp [h])⟩, ⟨by (with_reducible repeat (first | apply Kd.R_alloc | apply Kd.R_drewN | apply Kd.R_drew)); exact Kd.R_mono B.out (fun _ h => by simp [h])⟩, ⟨zv8 A.out⟩, ⟨zv8 D.out⟩, ⟨zv8 U.out⟩, ⟨zv8 W.out⟩, ⟨zv8 Y.out⟩, ⟨zv8 T.out⟩, ⟨zv7 HB.out⟩⟩
        case rest =>
         clear e5
         try clear c1
         try clear p2
         try clear c10
         try clear eZ
         try clear c12
         try clear c13
         try clear c14
         try clear c15
         try clear c16
         try clear eW
         try clear eV
         try clear e0
         try clear c123
         try clear c124
         try clear c125
         try clear c126
         try clear c127
         try clear c130
         try clear c131
         try clear c132
         try clear c133
         try clear eB
         try clear dU
         try clear eT
         try clear c139
         try clear c140
         try clear c141
         try clear c142
         try clear c143
         try clear c145
         try clear c146
         try clear c147
         try clear c148
         try clear c152
         try clear c153
         try clear c154
         try clear c155
         try clear c156
         try clear c158
         try clear c159
         try clear c160
         try clear c161
         try clear iS
         try clear gI
         try clear iW
         try clear iq
         try clear ip
         try clear gM
         try clear ib
         try clear gY
         try clear gZ
         try clear g3
         try clear gO
         try clear i1
         try clear gJ
         try clear iV
         try clear ig
         try clear h2
         try clear i2
         try clear iF
         try clear gL
         try clear i0
         try clear i8
         try clear he
         try clear iu
         try clear gF
         try clear il
         try clear g0
         try clear gS
         try clear h7
         try clear hB
         try clear ih
         try clear ic
         try clear iA
         try clear iR
         try clear hu
         try clear iv
         try clear h3
         try clear hy
         try clear hQ
         try clear hW
         try clear iD
         try clear gN
         try clear g7
         try clear gW
         try clear hS
         try clear hh
         try clear io
         try clear hL
         try clear hx
         try clear h8
         try clear iG
         try clear iJ
         try clear hw
         try clear hq
         try clear ie
         try clear hf
         try clear iX
         try clear ik
         try clear gG
         try clear ij
         try clear gE
         try clear hA
         try clear hX
         try clear hl
         try clear g1
         try clear hT
         try clear ir
         try clear hD
         try clear hN
         try clear iI
         try clear hY
         try clear iQ
         try clear i4
         try clear gr
         try clear fy
         try clear fJ
         try clear fE
         try clear jb
         try clear je
         try clear jc
         try clear jo
         try clear jr
         try clear js
         try clear fD
         try clear fW
         try clear gf
         try clear gu
         try clear gn
         try clear gh
         obtain ⟨kq, d2, rfl, HA, fA, G, J, I, B, A, D, U, W, Y, T, HB⟩ := hcut
         have aa := (Kd.R_reads' J.out).1
         rw [aa] at J
         (try simp only [aa])
         (try simp only [aa] at A)
         (try simp only [aa] at D)
         (try simp only [aa] at U)
         (try simp only [aa] at W)
         (try simp only [aa] at Y)
         (try simp only [aa] at T)
         (try simp only [aa] at G)
         (try simp only [aa] at I)
         (try simp only [aa] at B)
         have x := (Kd.R_reads' I.out).1
         rw [x] at I
         (try simp only [x])
         (try simp only [x] at A)
         (try simp only [x] at D)
         (try simp only [x] at U)
         (try simp only [x] at W)
         (try simp only [x] at Y)
         (try simp only [x] at T)
         (try simp only [x] at G)
         (try simp only [x] at J)
         (try simp only [x] at B)
         cases kq with
         | zero => exact absurd HA.out (by simp [laws_FnExactAggJoin.j1])
         | succ kj113 =>
          have H := HA.out
          clear HA
          simp only [laws_FnExactAggJoin.j1] at H
          by_cases ft : d2 = true
          ·subst ft
           have H1 : (some false) = some r := by rw [if_pos rfl] at H; exact H
           clear H
           have H := H1
           clear H1
           exact absurd ((Option.some.inj H).trans hr_) (by decide)
          ·replace ft := Bool.eq_false_iff.mpr ft
           subst ft
           have H1 : ((laws_markAgg.f kj113 aq ar au aw ay an 1).bind fun dx => ((laws_heldAgg.f kj113 aq ar au aw ay dx.2 1).bind fun dt => (if dt < 0 then (some false) else (if dt = dx.1 then ((laws_toAgg.f kj113 ag ac ad af ae y).bind fun cz => ((laws_toAgg.f kj113 al aj ai ah ak ab).bind fun ci => ((impl_AggJoin.f kj113 cz.1 cz.2.1 cz.2.2.1 cz.2.2.2.1 cz.2.2.2.2.1 cz.2.2.2.2.2 ci.1 ci.2.1 ci.2.2.1 ci.2.2.2.1 ci.2.2.2.2.1 ci.2.2.2.2.2).bind fun bm => ((laws_eqAgg.f kj113 bm.1 bm.2.1 bm.2.2.1 bm.2.2.2.1 bm.2.2.2.2.1 bm.2.2.2.2.2.1 az aA aC aD aG aM).bind fun dA => (if dA = true then (laws_FnExactAggJoin.j2 kj113 dx.1 (bm.2.2.2.2.2.2 != aN) aq ar au aw ay dx.2) else (laws_FnExactAggJoin.j2 kj113 dx.1 true aq ar au aw ay dx.2)))))) else (some false))))) = some r := by rw [if_neg (show ¬ (false = true) by decide)] at H; exact H
           clear H
           have H := H1
           clear H1
           replace H := zs4 H
           obtain ⟨⟨cK, cS⟩, ge, H⟩ := H
           replace H : ((laws_heldAgg.f kj113 aq ar au aw ay cS 1).bind fun dt => (if dt < 0 then (some false) else (if dt = cK then ((laws_toAgg.f kj113 ag ac ad af ae y).bind fun cz => ((laws_toAgg.f kj113 al aj ai ah ak ab).bind fun ci => ((impl_AggJoin.f kj113 cz.1 cz.2.1 cz.2.2.1 cz.2.2.2.1 cz.2.2.2.2.1 cz.2.2.2.2.2 ci.1 ci.2.1 ci.2.2.1 ci.2.2.2.1 ci.2.2.2.2.1 ci.2.2.2.2.2).bind fun bm => ((laws_eqAgg.f kj113 bm.1 bm.2.1 bm.2.2.1 bm.2.2.2.1 bm.2.2.2.2.1 bm.2.2.2.2.2.1 az aA aC aD aG aM).bind fun dA => (if dA = true then (laws_FnExactAggJoin.j2 kj113 cK (bm.2.2.2.2.2.2 != aN) aq ar au aw ay cS) else (laws_FnExactAggJoin.j2 kj113 cK true aq ar au aw ay cS)))))) else (some false)))) = some r := H
           have oO := zp.mk ge
           clear ge
           replace H := zs4 H
           obtain ⟨dt, gl, H⟩ := H
           replace H : (if dt < 0 then (some false) else (if dt = cK then ((laws_toAgg.f kj113 ag ac ad af ae y).bind fun cz => ((laws_toAgg.f kj113 al aj ai ah ak ab).bind fun ci => ((impl_AggJoin.f kj113 cz.1 cz.2.1 cz.2.2.1 cz.2.2.2.1 cz.2.2.2.2.1 cz.2.2.2.2.2 ci.1 ci.2.1 ci.2.2.1 ci.2.2.2.1 ci.2.2.2.2.1 ci.2.2.2.2.2).bind fun bm => ((laws_eqAgg.f kj113 bm.1 bm.2.1 bm.2.2.1 bm.2.2.2.1 bm.2.2.2.2.1 bm.2.2.2.2.2.1 az aA aC aD aG aM).bind fun dA => (if dA = true then (laws_FnExactAggJoin.j2 kj113 cK (bm.2.2.2.2.2.2 != aN) aq ar au aw ay cS) else (laws_FnExactAggJoin.j2 kj113 cK true aq ar au aw ay cS)))))) else (some false))) = some r := H
           have n7 := zp.mk gl
           clear gl
           by_cases eK : dt < 0
           ·rw [if_pos eK] at H
            have iB : decide (dt < 0) = true := decide_eq_true eK
            clear eK
            exact absurd ((Option.some.inj H).trans hr_) (by decide)
           ·rw [if_neg eK] at H
            have iB : decide (dt < 0) = false := decide_eq_false eK
            clear eK
            by_cases d9 : dt = cK
            ·rw [if_pos d9] at H
             have iK : (dt == cK) = true := beq_iff_eq.mpr d9
             have hC : (dt != cK) = false := bne_eq_false_iff_eq.mpr d9
             clear d9
             replace H := zs4 H
             obtain ⟨⟨ez, en, eD, er, ep, d5⟩, fQ, H⟩ := H
             replace H : ((laws_toAgg.f kj113 al aj ai ah ak ab).bind fun ci => ((impl_AggJoin.f kj113 ez en eD er ep d5 ci.1 ci.2.1 ci.2.2.1 ci.2.2.2.1 ci.2.2.2.2.1 ci.2.2.2.2.2).bind fun bm => ((laws_eqAgg.f kj113 bm.1 bm.2.1 bm.2.2.1 bm.2.2.2.1 bm.2.2.2.2.1 bm.2.2.2.2.2.1 az aA aC aD aG aM).bind fun dA => (if dA = true then (laws_FnExactAggJoin.j2 kj113 cK (bm.2.2.2.2.2.2 != aN) aq ar au aw ay cS) else (laws_FnExactAggJoin.j2 kj113 cK true aq ar au aw ay cS))))) = some r := H
             have nV := zp.mk fQ
             clear fQ
             replace H := zs4 H
             obtain ⟨⟨eM, eE, eO, eI, eH, eu⟩, fO, H⟩ := H
             replace H : ((impl_AggJoin.f kj113 ez en eD er ep d5 eM eE eO eI eH eu).bind fun bm => ((laws_eqAgg.f kj113 bm.1 bm.2.1 bm.2.2.1 bm.2.2.2.1 bm.2.2.2.2.1 bm.2.2.2.2.2.1 az aA aC aD aG aM).bind fun dA => (if dA = true then (laws_FnExactAggJoin.j2 kj113 cK (bm.2.2.2.2.2.2 != aN) aq ar au aw ay cS) else (laws_FnExactAggJoin.j2 kj113 cK true aq ar au aw ay cS)))) = some r := H
             have ot := zp.mk fO
             clear fO
             replace H := zs4 H
             obtain ⟨⟨cL, cQ, cT, cW, da, dy, dB⟩, fT, H⟩ := H
             replace H : ((laws_eqAgg.f kj113 cL cQ cT cW da dy az aA aC aD aG aM).bind fun dA => (if dA = true then (laws_FnExactAggJoin.j2 kj113 cK (dB != aN) aq ar au aw ay cS) else (laws_FnExactAggJoin.j2 kj113 cK true aq ar au aw ay cS))) = some r := H
             have ob := zp.mk fT
             clear fT
             have e7 := zp.mk H
             clear H
             have qs := dp.out
             have qX := bW.out
             have qE := dq.out
             have rv := bX.out
             have ro := cU.out
             have qz := bz.out
             have o4 := dj.out
             have qB := bH.out
             have pa := di.out
             have pf := bJ.out
             have px := zt0 T.out
             have rx := zt1 T.out
             have pc := zt2 T.out
             have pN := zt3 T.out
             have q5 := zt4 T.out
             have qf := zt5 T.out
             have q3 := zd T.out 0
             have po := zd T.out 1
             have pj := zd T.out 2
             have qn := zd T.out 3
             have pP := zd T.out 4
             have oT := zd T.out 5
             try go_wp2_with (first | ((with_reducible refine zn (f := 16) rfl ?_); refine goesL_ (some 85) rfl rfl Try.func16 (by kernel_rfl) rfl #[.agg #[.int .i64 aq, .int .i64 ar, .int .u64 au, .int .i64 aw, .int .i64 ay, .slice bj an.length bf], .int .i64 1] rfl (by (try simp only [List.map_toArray, List.map_cons, List.map_nil]); first | done | rfl | (simp only [List.length_drop, List.length_take]; rfl)) ?_; (with_reducible refine (laws_markAgg.calls kj113 aq ar au aw ay (fun k_ => some k_ = (.slice bj an.length bf : Value).ownBlock) (.slice bj an.length bf) an 1 cK cS w _ ?side1 ?side2 oO.out).mono ?_); (case side1 => repeat (first | (with_reducible first | exact HB.out | apply zc | apply za | apply zb | refine zh ?_ eg.out | refine zh ?_ eC.out | refine zh ?_ dO.out | refine zh ?_ e8.out | refine zh ?_ fc.out | refine zh ?_ fb.out) | exact HB.out)); (case side2 => exact Kd.R_tight rfl B.out); rintro e tq ⟨rfl, eU, hb, hkp⟩; refine ⟨_, rfl, ?_⟩; replace G := zp.mk (Kd.R_mono (ok' := fun k_ => some k_ ≠ (.slice bq cV.length bp : Value).ownBlock ∧ some k_ ≠ (.slice bo cX.length bl : Value).ownBlock ∧ some k_ ≠ (.slice bj an.length bf : Value).ownBlock) (Kd.R_keptB (G.out) hkp (fun _ h hs_ => absurd hs_ (by simp [h]))) (fun _ h => by simp [h])); replace J := zp.mk (Kd.R_mono (ok' := fun k_ => some k_ ≠ (ba : Value).ownBlock ∧ some k_ ≠ (.slice bo cX.length bl : Value).ownBlock ∧ some k_ ≠ (.slice bj an.length bf : Value).ownBlock) (Kd.R_keptB (J.out) hkp (fun _ h hs_ => absurd hs_ (by simp [h]))) (fun _ h => by simp [h])); replace I := zp.mk (Kd.R_mono (ok' := fun k_ => some k_ ≠ (ba : Value).ownBlock ∧ some k_ ≠ (.slice bq cV.length bp : Value).ownBlock ∧ some k_ ≠ (.slice bj an.length bf : Value).ownBlock) (Kd.R_keptB (I.out) hkp (fun _ h hs_ => absurd hs_ (by simp [h]))) (fun _ h => by simp [h])); replace A := zp.mk (blk_kept (zv8 A.out) hkp (fun hs_ => (fun e_ => (Kd.R_ne B.out A.out (by decide)) e_) hs_)); replace D := zp.mk (blk_kept (zv8 D.out) hkp (fun hs_ => (fun e_ => (Kd.R_ne B.out D.out (by decide)) e_) hs_)); replace U := zp.mk (blk_kept (zv8 U.out) hkp (fun hs_ => (fun e_ => (Kd.R_ne B.out U.out (by decide)) e_) hs_)); replace W := zp.mk (blk_kept (zv8 W.out) hkp (fun hs_ => (fun e_ => (Kd.R_ne B.out W.out (by decide)) e_) hs_)); replace Y := zp.mk (blk_kept (zv8 Y.out) hkp (fun hs_ => (fun e_ => (Kd.R_ne B.out Y.out (by decide)) e_) hs_)); replace T := zp.mk (blk_kept (zv8 T.out) hkp (fun hs_ => (fun e_ => (Kd.R_ne B.out T.out (by decide)) e_) hs_)); replace B := zp.mk (Kd.R_reok rfl eU (fun k_ e_ => B.out.1 k_ e_)); replace HB := zp.mk (hb); (try clear hb); (try clear hkp); (try clear eU); have q6 := zt0 T.out; have qI := zt1 T.out; have pk := zt2 T.out; have pU := zt3 T.out; have qS := zt4 T.out; have o5 := zt5 T.out; have qU := zd T.out 0; have rh := zd T.out 1; have rn := zd T.out 2; have pY := zd T.out 3; have p8 := zd T.out 4; have rc := zd T.out 5) | ((with_reducible refine zn (f := 24) rfl ?_); refine goesL_ (some 88) rfl rfl Try.func24 (by kernel_rfl) rfl #[.agg #[.int .i64 aq, .int .i64 ar, .int .u64 au, .int .i64 aw, .int .i64 ay, .slice bj cS.length bf], .int .i64 1] rfl (by (try simp only [List.map_toArray, List.map_cons, List.map_nil]); first | done | (rw [show cS.length = an.length from (Kd.R_reads' B.out).1.symm] <;> rfl) | rfl | (simp only [List.length_drop, List.length_take]; rfl)) ?_; (with_reducible refine (laws_heldAgg.calls kj113 aq ar au aw ay _ _ cS 1 dt _ ?side1 ?side2 n7.out).mono ?_); (case side1 => repeat (first | exact (Kd.R_reads' B.out).2.2 | (with_reducible refine Kd.zr ?_ _) | (with_reducible refine Kd.zq ?_ _) | (with_reducible refine Kd.C_drew ?_))); (case side2 => rw [show cS.length = an.length from (Kd.R_reads' B.out).1.symm]; exact (Kd.R_reads' B.out).2.1); rintro e oD ⟨rfl, hb⟩; refine ⟨_, rfl, ?_⟩; replace G := zp.mk (Kd.R_below (by (with_reducible repeat (first | apply Kd.R_alloc | apply Kd.R_drewN | apply Kd.R_drew)); first | exact G.out | exact Kd.R_mono G.out (fun _ h => by simp [h])) hb); replace J := zp.mk (Kd.R_below (by (with_reducible repeat (first | apply Kd.R_alloc | apply Kd.R_drewN | apply Kd.R_drew)); first | exact J.out | exact Kd.R_mono J.out (fun _ h => by simp [h])) hb); replace I := zp.mk (Kd.R_below (by (with_reducible repeat (first | apply Kd.R_alloc | apply Kd.R_drewN | apply Kd.R_drew)); first | exact I.out | exact Kd.R_mono I.out (fun _ h => by simp [h])) hb); replace B := zp.mk (Kd.R_below (by (with_reducible repeat (first | apply Kd.R_alloc | apply Kd.R_drewN | apply Kd.R_drew)); first | exact B.out | exact Kd.R_mono B.out (fun _ h => by simp [h])) hb); replace A := zp.mk (zl (zv8 A.out) hb); replace D := zp.mk (zl (zv8 D.out) hb); replace U := zp.mk (zl (zv8 U.out) hb); replace W := zp.mk (zl (zv8 W.out) hb); replace Y := zp.mk (zl (zv8 Y.out) hb); replace T := zp.mk (zl (zv8 T.out) hb); replace HB := zp.mk (zj (zv7 HB.out) hb); (try clear hb); (try clear hb2); (try clear hk); (try clear hi)))
             replace G := zp.mk (Kd.R_drew G.out)
             replace J := zp.mk (Kd.R_drew J.out)
             replace I := zp.mk (Kd.R_drew I.out)
             replace B := zp.mk (Kd.R_drew B.out)
             replace A := zp.mk (zi A.out)
             replace D := zp.mk (zi D.out)
             replace U := zp.mk (zi U.out)
             replace W := zp.mk (zi W.out)
             replace Y := zp.mk (zi Y.out)
             replace T := zp.mk (zi T.out)
             replace HB := zp.mk (zb HB.out)
             refine start_ (n := 11) (S := fun w' => True) (ds := []) (zB 11 0) (by kernel_rfl) rfl rfl trivial (fun hHeld => ?_); refine with_tabW laws_FnExactAggJoin.tab31 laws_FnExactAggJoin.bits31 (fun HT_ HW_ => ?_)
             generalize oD.drew = ty at G J I B A D U W Y T HB hHeld ⊢
             refine inv_at [0, 1, 2, 3, 4, 5, 6, 7, 8, 9, 10] (fun lY b a w' => ∃ (cP : Value) (cM : Value) (cl : Value) (s : Nat) (cE : Value) (cD : Value) (cF : Value) (ct : Value) (cG : Value) (cH : Value), a = putSel lY b [(0, 95, .agg #[.int .i64 ag, .int .i64 ac, .int .u64 ad, .int .i64 af, .int .i64 ae, .slice ce y.length cf]), (1, 96, cE), (2, 97, .agg #[.int .i64 al, .int .i64 aj, .int .u64 ai, .int .i64 ah, .int .i64 ak, .slice cq ab.length co]), (3, 98, cD), (4, 99, cF), (5, 94, ct), (6, 100, cG), (7, 101, .bool dB), (8, 15, cH), (10, 16, .bool dB)] ∧ (Kd.R (Kd.int .i64) 3 w' w.heap.size (fun k_ => some k_ ≠ (.slice bq cV.length bp : Value).ownBlock ∧ some k_ ≠ (.slice bo cX.length bl : Value).ownBlock ∧ some k_ ≠ (.slice bj an.length bf : Value).ownBlock) ba aM) ∧ (Kd.R (Kd.int .i64) 3 w' w.heap.size (fun k_ => some k_ ≠ (ba : Value).ownBlock ∧ some k_ ≠ (.slice bo cX.length bl : Value).ownBlock ∧ some k_ ≠ (.slice bj an.length bf : Value).ownBlock) (.slice bq cV.length bp) cV) ∧ (Kd.R (Kd.int .i64) 3 w' w.heap.size (fun k_ => some k_ ≠ (ba : Value).ownBlock ∧ some k_ ≠ (.slice bq cV.length bp : Value).ownBlock ∧ some k_ ≠ (.slice bj an.length bf : Value).ownBlock) (.slice bo cX.length bl) cX) ∧ (Kd.R (Kd.int .i64) 3 w' w.heap.size (fun k_ => some k_ ≠ (ba : Value).ownBlock ∧ some k_ ≠ (.slice bq cV.length bp : Value).ownBlock ∧ some k_ ≠ (.slice bo cX.length bl : Value).ownBlock) (.slice bj an.length bf) cS) ∧ (w'.heap[bc]? = some (.cells #[.int .i64 ag, .int .i64 ac, .int .u64 ad, .int .i64 af, .int .i64 ae, .slice ce y.length cf] 27 (0, 0))) ∧ (w'.heap[bi]? = some (.cells #[.int .i64 al, .int .i64 aj, .int .u64 ai, .int .i64 ah, .int .i64 ak, .slice cq ab.length co] 27 (0, 0))) ∧ (w'.heap[am]? = some (.cells #[.int .i64 az, .int .i64 aA, .int .u64 aC, .int .i64 aD, .int .i64 aG, ba] 32 (0, 0))) ∧ (w'.heap[ax]? = some (.cells #[.int .i64 bA, .int .i64 bC, .int .u64 bG, .int .i64 bN, .int .i64 bP, .slice bq cV.length bp] 32 (0, 0))) ∧ (w'.heap[u]? = some (.cells #[.int .i64 bw, .int .i64 bx, .int .u64 bB, .int .i64 bD, .int .i64 bI, .slice bo cX.length bl] 32 (0, 0))) ∧ (w'.heap[q]? = some (.cells #[.int .i64 aq, .int .i64 ar, .int .u64 au, .int .i64 aw, .int .i64 ay, .slice bj an.length bf] 32 (0, 0))) ∧ (Below w.heap.size w w') ∧ (b 1 = true → Kd.R (Kd.int .i64) 3 w' w.heap.size (fun k_ => some k_ ≠ (ba : Value).ownBlock ∧ some k_ ≠ (.slice bq cV.length bp : Value).ownBlock ∧ some k_ ≠ (.slice bo cX.length bl : Value).ownBlock ∧ some k_ ≠ (.slice bj an.length bf : Value).ownBlock) cP d5) ∧ (b 3 = true → Kd.R (Kd.int .i64) 3 w' w.heap.size (fun k_ => some k_ ≠ (ba : Value).ownBlock ∧ some k_ ≠ (.slice bq cV.length bp : Value).ownBlock ∧ some k_ ≠ (.slice bo cX.length bl : Value).ownBlock ∧ some k_ ≠ (.slice bj an.length bf : Value).ownBlock) cM eu) ∧ (b 4 = true → Kd.R (Kd.int .i64) 3 w' w.heap.size (fun k_ => some k_ ≠ (ba : Value).ownBlock ∧ some k_ ≠ (.slice bq cV.length bp : Value).ownBlock ∧ some k_ ≠ (.slice bo cX.length bl : Value).ownBlock ∧ some k_ ≠ (.slice bj an.length bf : Value).ownBlock) cl dy) ∧ (b 8 = true → b 9 = false → w'.heap[s]? = some (.cells #[.int .i64 0, .int .i64 0, .int .u64 0, .int .i64 0, .int .i64 0, .slice none 0 0] 32 (0, 0))) ∧ (b 8 = true → w.heap.size ≤ s) ∧ (b 8 = true → w.heap.size ≤ s) ∧ (b 8 = true → bc ≠ s) ∧ (b 8 = true → s ≠ bc) ∧ (b 8 = true → bi ≠ s) ∧ (b 8 = true → s ≠ bi) ∧ (b 8 = true → am ≠ s) ∧ (b 8 = true → s ≠ am) ∧ (b 8 = true → ax ≠ s) ∧ (b 8 = true → s ≠ ax) ∧ (b 8 = true → u ≠ s) ∧ (b 8 = true → s ≠ u) ∧ (b 8 = true → q ≠ s) ∧ (b 8 = true → s ≠ q) ∧ (b 9 = true → w'.heap[s]? = some (.cells #[.int .i64 cL, .int .i64 cQ, .int .u64 cT, .int .i64 cW, .int .i64 da, cl] 32 (0, 0))) ∧ (b 1 = true → (cE : Value) = .agg #[.int .i64 ez, .int .i64 en, .int .u64 eD, .int .i64 er, .int .i64 ep, cP]) ∧ (b 3 = true → (cD : Value) = .agg #[.int .i64 eM, .int .i64 eE, .int .u64 eO, .int .i64 eI, .int .i64 eH, cM]) ∧ (b 4 = true → (cF : Value) = .tuple #[.agg #[.int .i64 cL, .int .i64 cQ, .int .u64 cT, .int .i64 cW, .int .i64 da, cl], .bool dB]) ∧ (b 5 = true → (ct : Value) = .tuple #[.agg #[.int .i64 cL, .int .i64 cQ, .int .u64 cT, .int .i64 cW, .int .i64 da, cl], .bool dB]) ∧ (b 6 = true → (cG : Value) = .agg #[.int .i64 cL, .int .i64 cQ, .int .u64 cT, .int .i64 cW, .int .i64 da, cl]) ∧ (b 8 = true → (cH : Value) = .pointer (some ⟨s, 0, none⟩))) HT_.out HW_.out (by kernel_rfl) (by kernel_rfl) ?_ ?_ ?_
             ·exact ⟨.bool false, .bool false, .bool false, 0, .bool false, .bool false, .bool false, .bool false, .bool false, .bool false, by simp only [putSel, Bool.false_eq_true, if_false], G.out, J.out, I.out, B.out, A.out, D.out, U.out, W.out, Y.out, T.out, HB.out, fun h_ => absurd h_ (by decide), fun h_ => absurd h_ (by decide), fun h_ => absurd h_ (by decide), fun h_ => absurd h_ (by decide), fun h_ => absurd h_ (by decide), fun h_ => absurd h_ (by decide), fun h_ => absurd h_ (by decide), fun h_ => absurd h_ (by decide), fun h_ => absurd h_ (by decide), fun h_ => absurd h_ (by decide), fun h_ => absurd h_ (by decide), fun h_ => absurd h_ (by decide), fun h_ => absurd h_ (by decide), fun h_ => absurd h_ (by decide), fun h_ => absurd h_ (by decide), fun h_ => absurd h_ (by decide), fun h_ => absurd h_ (by decide), fun h_ => absurd h_ (by decide), fun h_ => absurd h_ (by decide), fun h_ => absurd h_ (by decide), fun h_ => absurd h_ (by decide), fun h_ => absurd h_ (by decide), fun h_ => absurd h_ (by decide), fun h_ => absurd h_ (by decide), fun h_ => absurd h_ (by decide)⟩
             ·skip
              clear A D U W Y T HB G J I B
              refine steps_cons ?_ ?_
              ·rintro b a w' ⟨cP, cM, cl, s, cE, cD, cF, ct, cG, cH, ha, aH, aJ, aI, aK, ap, ao, aE, br, bu, bs, Q_HB, bK, b0, b7, cj, b9, b6, aW, aU, aT, a7, aY, a5, a2, a3, aZ, aX, a4, a8, b3, bv, bE, bU, bV, cc, bn⟩ hb_ hon hoff
               refine ⟨_, rfl, fun K hK => ?_⟩
               have e2 : a.tmps[2]? = some (.pointer (some ⟨bc, 0, none⟩)) := by rw [ha]; exact (putSel_off rfl).trans rfl
               replace ha := zp.mk ha
               have G := zp.mk aH
               have J := zp.mk aJ
               have I := zp.mk aI
               have B := zp.mk aK
               have A := zp.mk ap
               have D := zp.mk ao
               have U := zp.mk aE
               have W := zp.mk br
               have Y := zp.mk bu
               have T := zp.mk bs
               have HB := zp.mk Q_HB
               have fU := zt0 A.out
               have fF := zt1 A.out
               have gs := zt2 A.out
               have gg := zt3 A.out
               have gi := zt4 A.out
               have gC := zt5 A.out
               refine value_ (w1 := w') (v := .agg #[.int .i64 ag, .int .i64 ac, .int .u64 ad, .int .i64 af, .int .i64 ae, .slice ce y.length cf]) (by rfl) rfl ?_ ?_
               ·go_simp
                (try simp only [i64_w])
                try rfl
               refine hK.out _ _ ⟨cP, cM, cl, s, cE, cD, cF, ct, cG, cH, (by rw [ha.out]; exact putSel_upk 0 hb_ rfl rfl rfl), aH, aJ, aI, aK, ap, ao, aE, br, bu, bs, Q_HB, fun av => absurd ((hoff 1 (by kernel_rfl)).symm.trans av) (by decide), fun av => absurd ((hoff 3 (by kernel_rfl)).symm.trans av) (by decide), fun av => absurd ((hoff 4 (by kernel_rfl)).symm.trans av) (by decide), cj, b9, b6, aW, aU, aT, a7, aY, a5, a2, a3, aZ, aX, a4, a8, fun av => absurd ((hoff 9 (by kernel_rfl)).symm.trans av) (by decide), fun av => absurd ((hoff 1 (by kernel_rfl)).symm.trans av) (by decide), fun av => absurd ((hoff 3 (by kernel_rfl)).symm.trans av) (by decide), fun av => absurd ((hoff 4 (by kernel_rfl)).symm.trans av) (by decide), fun av => absurd ((hoff 5 (by kernel_rfl)).symm.trans av) (by decide), fun av => absurd ((hoff 6 (by kernel_rfl)).symm.trans av) (by decide), bn⟩
              refine steps_cons ?_ ?_
              ·rintro b a w' ⟨cP, cM, cl, s, cE, cD, cF, ct, cG, cH, ha, aH, aJ, aI, aK, ap, ao, aE, br, bu, bs, Q_HB, bK, b0, b7, cj, b9, b6, aW, aU, aT, a7, aY, a5, a2, a3, aZ, aX, a4, a8, b3, bv, bE, bU, bV, cc, bn⟩ hb_ hon hoff
               refine ⟨_, rfl, fun K hK => ?_⟩
               have oQ : a.tmps[95]? = some (.agg #[.int .i64 ag, .int .i64 ac, .int .u64 ad, .int .i64 af, .int .i64 ae, .slice ce y.length cf]) := by rw [ha]; exact putSel_on (e := (0, 95, .agg #[.int .i64 ag, .int .i64 ac, .int .u64 ad, .int .i64 af, .int .i64 ae, .slice ce y.length cf])) 0 rfl rfl (hon 0 (by kernel_rfl)) rfl
               replace ha := zp.mk ha
               have G := zp.mk aH
               have J := zp.mk aJ
               have I := zp.mk aI
               have B := zp.mk aK
               have A := zp.mk ap
               have D := zp.mk ao
               have U := zp.mk aE
               have W := zp.mk br
               have Y := zp.mk bu
               have T := zp.mk bs
               have HB := zp.mk Q_HB
               refine goes_ Try.func10 (by kernel_rfl) rfl #[.agg #[.int .i64 ag, .int .i64 ac, .int .u64 ad, .int .i64 af, .int .i64 ae, .slice ce y.length cf]] (by rfl) rfl rfl (by first | (simp only [List.map_toArray, List.map_cons, List.map_nil, Act.eval, Array.getD_eq_getD_getElem?, Option.getD_some, oQ]; done) | (simp only [List.map_toArray, List.map_cons, List.map_nil, Act.eval, Array.getD_eq_getD_getElem?, Option.getD_some, oQ]; rfl)) ?_
               with_reducible refine (laws_toAgg.calls kj113 ag ac ad af ae _ _ y ez en eD er ep d5 _ ?side1 ?side2 nV.out).mono ?_
               (case side1 => repeat (first | exact (Kd.zt dY.out HB.out) | (with_reducible refine Kd.zr ?_ _) | (with_reducible refine Kd.zq ?_ _) | (with_reducible refine Kd.C_drew ?_)))
               (case side2 => exact dV.out)
               rintro e e1 ⟨cP, rfl, cd, hb⟩
               refine ⟨_, rfl, ?_⟩
               have cr := zp.mk (Kd.R_lower (Kd.R_new' (Kd.R_new' (Kd.R_new' (Kd.R_new' cd (Kd.R_lt (by (with_reducible repeat (first | apply Kd.R_alloc | apply Kd.R_drewN | apply Kd.R_drew)); first | exact G.out | exact Kd.R_mono G.out (fun _ h => by simp [h])))) (Kd.R_lt (by (with_reducible repeat (first | apply Kd.R_alloc | apply Kd.R_drewN | apply Kd.R_drew)); first | exact J.out | exact Kd.R_mono J.out (fun _ h => by simp [h])))) (Kd.R_lt (by (with_reducible repeat (first | apply Kd.R_alloc | apply Kd.R_drewN | apply Kd.R_drew)); first | exact I.out | exact Kd.R_mono I.out (fun _ h => by simp [h])))) (Kd.R_lt (by (with_reducible repeat (first | apply Kd.R_alloc | apply Kd.R_drewN | apply Kd.R_drew)); first | exact B.out | exact Kd.R_mono B.out (fun _ h => by simp [h])))) (zk (zv7 HB.out)))
               replace G := zp.mk (Kd.R_elder' (by (with_reducible repeat (first | apply Kd.R_alloc | apply Kd.R_drewN | apply Kd.R_drew)); exact G.out) (Kd.R_base cd) hb)
               replace J := zp.mk (Kd.R_elder' (by (with_reducible repeat (first | apply Kd.R_alloc | apply Kd.R_drewN | apply Kd.R_drew)); exact J.out) (Kd.R_base cd) hb)
               replace I := zp.mk (Kd.R_elder' (by (with_reducible repeat (first | apply Kd.R_alloc | apply Kd.R_drewN | apply Kd.R_drew)); exact I.out) (Kd.R_base cd) hb)
               replace B := zp.mk (Kd.R_elder' (by (with_reducible repeat (first | apply Kd.R_alloc | apply Kd.R_drewN | apply Kd.R_drew)); exact B.out) (Kd.R_base cd) hb)
               replace A := zp.mk (zl (zv8 A.out) hb)
               replace D := zp.mk (zl (zv8 D.out) hb)
               replace U := zp.mk (zl (zv8 U.out) hb)
               replace W := zp.mk (zl (zv8 W.out) hb)
               replace Y := zp.mk (zl (zv8 Y.out) hb)
               replace T := zp.mk (zl (zv8 T.out) hb)
               replace HB := zp.mk (zj (zv7 HB.out) hb); have dP := fun (av : b 8 = true) (dI : b 9 = false) => (show e1.heap[s]? = some (.cells #[.int .i64 0, .int .i64 0, .int .u64 0, .int .i64 0, .int .i64 0, .slice none 0 0] 32 (0, 0)) from by first | exact (zl (g := s) (o := .cells #[.int .i64 0, .int .i64 0, .int .u64 0, .int .i64 0, .int .i64 0, .slice none 0 0] 32 (0, 0)) (by (with_reducible repeat (first | refine zf ?_ _ | refine zi ?_ | refine zg ?_ _)); exact (cj av dI)) hb))
               (try clear hb)
               (try clear hb2)
               (try clear hk)
               (try clear hi)
               (try clear cd)
               refine hK.out _ _ ⟨cP, cM, cl, s, (.agg #[.int .i64 ez, .int .i64 en, .int .u64 eD, .int .i64 er, .int .i64 ep, cP]), cD, cF, ct, cG, cH, (by rw [ha.out]; exact putSel_upk 1 hb_ rfl rfl rfl), (by (with_reducible repeat (first | apply Kd.R_alloc | apply Kd.R_drewN | apply Kd.R_drew)); exact Kd.R_mono G.out (fun _ h => by simp [h])), (by (with_reducible repeat (first | apply Kd.R_alloc | apply Kd.R_drewN | apply Kd.R_drew)); exact Kd.R_mono J.out (fun _ h => by simp [h])), (by (with_reducible repeat (first | apply Kd.R_alloc | apply Kd.R_drewN | apply Kd.R_drew)); exact Kd.R_mono I.out (fun _ h => by simp [h])), (by (with_reducible repeat (first | apply Kd.R_alloc | apply Kd.R_drewN | apply Kd.R_drew)); exact Kd.R_mono B.out (fun _ h => by simp [h])), (zv8 A.out), (zv8 D.out), (zv8 U.out), (zv8 W.out), (zv8 Y.out), (zv8 T.out), (zv7 HB.out), fun _ => (by (with_reducible repeat (first | apply Kd.R_alloc | apply Kd.R_drewN | apply Kd.R_drew)); exact Kd.R_mono cr.out (fun _ h => by simp [h])), fun av => absurd ((hoff 3 (by kernel_rfl)).symm.trans av) (by decide), fun av => absurd ((hoff 4 (by kernel_rfl)).symm.trans av) (by decide), dP, b9, b6, aW, aU, aT, a7, aY, a5, a2, a3, aZ, aX, a4, a8, fun av => absurd ((hoff 9 (by kernel_rfl)).symm.trans av) (by decide), fun _ => rfl, fun av => absurd ((hoff 3 (by kernel_rfl)).symm.trans av) (by decide), fun av => absurd ((hoff 4 (by kernel_rfl)).symm.trans av) (by decide), fun av => absurd ((hoff 5 (by kernel_rfl)).symm.trans av) (by decide), fun av => absurd ((hoff 6 (by kernel_rfl)).symm.trans av) (by decide), bn⟩
              refine steps_cons ?_ ?_
              ·rintro b a w' ⟨cP, cM, cl, s, cE, cD, cF, ct, cG, cH, ha, aH, aJ, aI, aK, ap, ao, aE, br, bu, bs, Q_HB, bK, b0, b7, cj, b9, b6, aW, aU, aT, a7, aY, a5, a2, a3, aZ, aX, a4, a8, b3, bv, bE, bU, bV, cc, bn⟩ hb_ hon hoff
               refine ⟨_, rfl, fun K hK => ?_⟩
               have e3 : a.tmps[3]? = some (.pointer (some ⟨bi, 0, none⟩)) := by rw [ha]; exact (putSel_off rfl).trans rfl
               replace ha := zp.mk ha
               have G := zp.mk aH
               have J := zp.mk aJ
               have I := zp.mk aI
               have B := zp.mk aK
               have A := zp.mk ap
               have D := zp.mk ao
               have U := zp.mk aE
               have W := zp.mk br
               have Y := zp.mk bu
               have T := zp.mk bs
               have HB := zp.mk Q_HB
               have fU := zt0 D.out
               have fF := zt1 D.out
               have gs := zt2 D.out
               have gg := zt3 D.out
               have gi := zt4 D.out
               have gC := zt5 D.out
               refine value_ (w1 := w') (v := .agg #[.int .i64 al, .int .i64 aj, .int .u64 ai, .int .i64 ah, .int .i64 ak, .slice cq ab.length co]) (by rfl) rfl ?_ ?_
               ·go_simp
                (try simp only [i64_w])
                try rfl
               refine hK.out _ _ ⟨cP, cM, cl, s, cE, cD, cF, ct, cG, cH, (by rw [ha.out]; exact putSel_upk 2 hb_ rfl rfl rfl), aH, aJ, aI, aK, ap, ao, aE, br, bu, bs, Q_HB, bK, fun av => absurd ((hoff 3 (by kernel_rfl)).symm.trans av) (by decide), fun av => absurd ((hoff 4 (by kernel_rfl)).symm.trans av) (by decide), cj, b9, b6, aW, aU, aT, a7, aY, a5, a2, a3, aZ, aX, a4, a8, fun av => absurd ((hoff 9 (by kernel_rfl)).symm.trans av) (by decide), bv, fun av => absurd ((hoff 3 (by kernel_rfl)).symm.trans av) (by decide), fun av => absurd ((hoff 4 (by kernel_rfl)).symm.trans av) (by decide), fun av => absurd ((hoff 5 (by kernel_rfl)).symm.trans av) (by decide), fun av => absurd ((hoff 6 (by kernel_rfl)).symm.trans av) (by decide), bn⟩
              refine steps_cons ?_ ?_
              ·rintro b a w' ⟨cP, cM, cl, s, cE, cD, cF, ct, cG, cH, ha, aH, aJ, aI, aK, ap, ao, aE, br, bu, bs, Q_HB, bK, b0, b7, cj, b9, b6, aW, aU, aT, a7, aY, a5, a2, a3, aZ, aX, a4, a8, b3, bv, bE, bU, bV, cc, bn⟩ hb_ hon hoff
               refine ⟨_, rfl, fun K hK => ?_⟩
               have nR : a.tmps[97]? = some (.agg #[.int .i64 al, .int .i64 aj, .int .u64 ai, .int .i64 ah, .int .i64 ak, .slice cq ab.length co]) := by rw [ha]; exact putSel_on (e := (2, 97, .agg #[.int .i64 al, .int .i64 aj, .int .u64 ai, .int .i64 ah, .int .i64 ak, .slice cq ab.length co])) 2 rfl rfl (hon 2 (by kernel_rfl)) rfl
               replace ha := zp.mk ha
               have G := zp.mk aH
               have J := zp.mk aJ
               have I := zp.mk aI
               have B := zp.mk aK
               have A := zp.mk ap
               have D := zp.mk ao
               have U := zp.mk aE
               have W := zp.mk br
               have Y := zp.mk bu
               have T := zp.mk bs
               have HB := zp.mk Q_HB
               have cr := zp.mk (bK (hon 1 (by kernel_rfl)))
               refine goes_ Try.func10 (by kernel_rfl) rfl #[.agg #[.int .i64 al, .int .i64 aj, .int .u64 ai, .int .i64 ah, .int .i64 ak, .slice cq ab.length co]] (by rfl) rfl rfl (by first | (simp only [List.map_toArray, List.map_cons, List.map_nil, Act.eval, Array.getD_eq_getD_getElem?, Option.getD_some, nR]; done) | (simp only [List.map_toArray, List.map_cons, List.map_nil, Act.eval, Array.getD_eq_getD_getElem?, Option.getD_some, nR]; rfl)) ?_
               with_reducible refine (laws_toAgg.calls kj113 al aj ai ah ak _ _ ab eM eE eO eI eH eu _ ?side1 ?side2 ot.out).mono ?_
               (case side1 => repeat (first | exact (Kd.zt d4.out HB.out) | (with_reducible refine Kd.zr ?_ _) | (with_reducible refine Kd.zq ?_ _) | (with_reducible refine Kd.C_drew ?_)))
               (case side2 => exact d3.out)
               rintro e nO ⟨cM, rfl, cd, hb⟩
               refine ⟨_, rfl, ?_⟩
               have cJ := zp.mk (Kd.R_lower (Kd.R_new' (Kd.R_new' (Kd.R_new' (Kd.R_new' (Kd.R_new' cd (Kd.R_lt (by (with_reducible repeat (first | apply Kd.R_alloc | apply Kd.R_drewN | apply Kd.R_drew)); first | exact G.out | exact Kd.R_mono G.out (fun _ h => by simp [h])))) (Kd.R_lt (by (with_reducible repeat (first | apply Kd.R_alloc | apply Kd.R_drewN | apply Kd.R_drew)); first | exact J.out | exact Kd.R_mono J.out (fun _ h => by simp [h])))) (Kd.R_lt (by (with_reducible repeat (first | apply Kd.R_alloc | apply Kd.R_drewN | apply Kd.R_drew)); first | exact I.out | exact Kd.R_mono I.out (fun _ h => by simp [h])))) (Kd.R_lt (by (with_reducible repeat (first | apply Kd.R_alloc | apply Kd.R_drewN | apply Kd.R_drew)); first | exact B.out | exact Kd.R_mono B.out (fun _ h => by simp [h])))) (Kd.R_lt (by (with_reducible repeat (first | apply Kd.R_alloc | apply Kd.R_drewN | apply Kd.R_drew)); first | exact cr.out | exact Kd.R_mono cr.out (fun _ h => by simp [h])))) (zk (zv7 HB.out)))
               replace G := zp.mk (Kd.R_elder' (by (with_reducible repeat (first | apply Kd.R_alloc | apply Kd.R_drewN | apply Kd.R_drew)); exact G.out) (Kd.R_base cd) hb)
               replace J := zp.mk (Kd.R_elder' (by (with_reducible repeat (first | apply Kd.R_alloc | apply Kd.R_drewN | apply Kd.R_drew)); exact J.out) (Kd.R_base cd) hb)
               replace I := zp.mk (Kd.R_elder' (by (with_reducible repeat (first | apply Kd.R_alloc | apply Kd.R_drewN | apply Kd.R_drew)); exact I.out) (Kd.R_base cd) hb)
               replace B := zp.mk (Kd.R_elder' (by (with_reducible repeat (first | apply Kd.R_alloc | apply Kd.R_drewN | apply Kd.R_drew)); exact B.out) (Kd.R_base cd) hb)
               replace cr := zp.mk (Kd.R_elder' (by (with_reducible repeat (first | apply Kd.R_alloc | apply Kd.R_drewN | apply Kd.R_drew)); exact cr.out) (Kd.R_base cd) hb)
               replace A := zp.mk (zl (zv8 A.out) hb)
               replace D := zp.mk (zl (zv8 D.out) hb)
               replace U := zp.mk (zl (zv8 U.out) hb)
               replace W := zp.mk (zl (zv8 W.out) hb)
               replace Y := zp.mk (zl (zv8 Y.out) hb)
               replace T := zp.mk (zl (zv8 T.out) hb)
               replace HB := zp.mk (zj (zv7 HB.out) hb); have dP := fun (av : b 8 = true) (dI : b 9 = false) => (show nO.heap[s]? = some (.cells #[.int .i64 0, .int .i64 0, .int .u64 0, .int .i64 0, .int .i64 0, .slice none 0 0] 32 (0, 0)) from by first | exact (zl (g := s) (o := .cells #[.int .i64 0, .int .i64 0, .int .u64 0, .int .i64 0, .int .i64 0, .slice none 0 0] 32 (0, 0)) (by (with_reducible repeat (first | refine zf ?_ _ | refine zi ?_ | refine zg ?_ _)); exact (cj av dI)) hb))
               (try clear hb)
               (try clear hb2)
               (try clear hk)
               (try clear hi)
               (try clear cd)
               refine hK.out _ _ ⟨cP, cM, cl, s, cE, (.agg #[.int .i64 eM, .int .i64 eE, .int .u64 eO, .int .i64 eI, .int .i64 eH, cM]), cF, ct, cG, cH, (by rw [ha.out]; exact putSel_upk 3 hb_ rfl rfl rfl), (by (with_reducible repeat (first | apply Kd.R_alloc | apply Kd.R_drewN | apply Kd.R_drew)); exact Kd.R_mono G.out (fun _ h => by simp [h])), (by (with_reducible repeat (first | apply Kd.R_alloc | apply Kd.R_drewN | apply Kd.R_drew)); exact Kd.R_mono J.out (fun _ h => by simp [h])), (by (with_reducible repeat (first | apply Kd.R_alloc | apply Kd.R_drewN | apply Kd.R_drew)); exact Kd.R_mono I.out (fun _ h => by simp [h])), (by (with_reducible repeat (first | apply Kd.R_alloc | apply Kd.R_drewN | apply Kd.R_drew)); exact Kd.R_mono B.out (fun _ h => by simp [h])), (zv8 A.out), (zv8 D.out), (zv8 U.out), (zv8 W.out), (zv8 Y.out), (zv8 T.out), (zv7 HB.out), fun _ => (by (with_reducible repeat (first | apply Kd.R_alloc | apply Kd.R_drewN | apply Kd.R_drew)); exact Kd.R_mono cr.out (fun _ h => by simp [h])), fun _ => (by (with_reducible repeat (first | apply Kd.R_alloc | apply Kd.R_drewN | apply Kd.R_drew)); exact Kd.R_mono cJ.out (fun _ h => by simp [h])), fun av => absurd ((hoff 4 (by kernel_rfl)).symm.trans av) (by decide), dP, b9, b6, aW, aU, aT, a7, aY, a5, a2, a3, aZ, aX, a4, a8, fun av => absurd ((hoff 9 (by kernel_rfl)).symm.trans av) (by decide), bv, fun _ => rfl, fun av => absurd ((hoff 4 (by kernel_rfl)).symm.trans av) (by decide), fun av => absurd ((hoff 5 (by kernel_rfl)).symm.trans av) (by decide), fun av => absurd ((hoff 6 (by kernel_rfl)).symm.trans av) (by decide), bn⟩
              refine steps_cons ?_ ?_
              ·rintro b a w' ⟨cP, cM, cl, s, cE, cD, cF, ct, cG, cH, ha, aH, aJ, aI, aK, ap, ao, aE, br, bu, bs, Q_HB, bK, b0, b7, cj, b9, b6, aW, aU, aT, a7, aY, a5, a2, a3, aZ, aX, a4, a8, b3, bv, bE, bU, bV, cc, bn⟩ hb_ hon hoff
               refine ⟨_, rfl, fun K hK => ?_⟩
               have kQ : a.tmps[96]? = some (cE) := by rw [ha]; exact putSel_on (e := (1, 96, cE)) 1 rfl rfl (hon 1 (by kernel_rfl)) rfl
               rw [bv (hon 1 (by kernel_rfl))] at kQ
               have l7 : a.tmps[98]? = some (cD) := by rw [ha]; exact putSel_on (e := (3, 98, cD)) 3 rfl rfl (hon 3 (by kernel_rfl)) rfl
               rw [bE (hon 3 (by kernel_rfl))] at l7
               replace ha := zp.mk ha
               have G := zp.mk aH
               have J := zp.mk aJ
               have I := zp.mk aI
               have B := zp.mk aK
               have A := zp.mk ap
               have D := zp.mk ao
               have U := zp.mk aE
               have W := zp.mk br
               have Y := zp.mk bu
               have T := zp.mk bs
               have HB := zp.mk Q_HB
               have cr := zp.mk (bK (hon 1 (by kernel_rfl)))
               have cJ := zp.mk (b0 (hon 3 (by kernel_rfl)))
               obtain ⟨fG, gk, fN⟩ := Kd.R_slice cr.out
               (first | subst fN | (injection fN with f1_ f2_ f3_; have dX := f1_.symm; have dW := f3_.symm; clear f1_ f2_ f3_; subst dX; subst dW))
               obtain ⟨fM, fP, fL⟩ := Kd.R_slice cJ.out
               (first | subst fL | (injection fL with f1_ f2_ f3_; have dX := f1_.symm; have dW := f3_.symm; clear f1_ f2_ f3_; subst dX; subst dW))
               refine goes_ Try.func26 (by kernel_rfl) rfl #[.agg #[.int .i64 ez, .int .i64 en, .int .u64 eD, .int .i64 er, .int .i64 ep, .slice fG d5.length gk], .agg #[.int .i64 eM, .int .i64 eE, .int .u64 eO, .int .i64 eI, .int .i64 eH, .slice fM eu.length fP]] (by rfl) rfl rfl (by first | (simp only [List.map_toArray, List.map_cons, List.map_nil, Act.eval, Array.getD_eq_getD_getElem?, Option.getD_some, kQ, l7]; done) | (simp only [List.map_toArray, List.map_cons, List.map_nil, Act.eval, Array.getD_eq_getD_getElem?, Option.getD_some, kQ, l7]; rfl)) ?_
               with_reducible refine (impl_AggJoin.calls kj113 ez en eD er ep _ _ d5 eM eE eO eI eH _ _ eu cL cQ cT cW da dy dB _ ?side1 ?side2 ?side3 ?side4 ob.out).mono ?_
               (case side1 => repeat (first | exact (Kd.R_reads' cr.out).2.2 | (with_reducible refine Kd.zr ?_ _) | (with_reducible refine Kd.zq ?_ _) | (with_reducible refine Kd.C_drew ?_)))
               (case side2 => exact (Kd.R_reads' cr.out).2.1)
               (case side3 => repeat (first | exact (Kd.R_reads' cJ.out).2.2 | (with_reducible refine Kd.zr ?_ _) | (with_reducible refine Kd.zq ?_ _) | (with_reducible refine Kd.C_drew ?_)))
               (case side4 => exact (Kd.R_reads' cJ.out).2.1)
               rintro e oa ⟨cl, rfl, cd, hb⟩
               refine ⟨_, rfl, ?_⟩
               have ck := zp.mk (Kd.R_lower (Kd.R_new' (Kd.R_new' (Kd.R_new' (Kd.R_new' (Kd.R_new' (Kd.R_new' cd (Kd.R_lt (by (with_reducible repeat (first | apply Kd.R_alloc | apply Kd.R_drewN | apply Kd.R_drew)); first | exact G.out | exact Kd.R_mono G.out (fun _ h => by simp [h])))) (Kd.R_lt (by (with_reducible repeat (first | apply Kd.R_alloc | apply Kd.R_drewN | apply Kd.R_drew)); first | exact J.out | exact Kd.R_mono J.out (fun _ h => by simp [h])))) (Kd.R_lt (by (with_reducible repeat (first | apply Kd.R_alloc | apply Kd.R_drewN | apply Kd.R_drew)); first | exact I.out | exact Kd.R_mono I.out (fun _ h => by simp [h])))) (Kd.R_lt (by (with_reducible repeat (first | apply Kd.R_alloc | apply Kd.R_drewN | apply Kd.R_drew)); first | exact B.out | exact Kd.R_mono B.out (fun _ h => by simp [h])))) (Kd.R_lt (by (with_reducible repeat (first | apply Kd.R_alloc | apply Kd.R_drewN | apply Kd.R_drew)); first | exact cr.out | exact Kd.R_mono cr.out (fun _ h => by simp [h])))) (Kd.R_lt (by (with_reducible repeat (first | apply Kd.R_alloc | apply Kd.R_drewN | apply Kd.R_drew)); first | exact cJ.out | exact Kd.R_mono cJ.out (fun _ h => by simp [h])))) (zk (zv7 HB.out)))
               replace G := zp.mk (Kd.R_elder' (by (with_reducible repeat (first | apply Kd.R_alloc | apply Kd.R_drewN | apply Kd.R_drew)); exact G.out) (Kd.R_base cd) hb)
               replace J := zp.mk (Kd.R_elder' (by (with_reducible repeat (first | apply Kd.R_alloc | apply Kd.R_drewN | apply Kd.R_drew)); exact J.out) (Kd.R_base cd) hb)
               replace I := zp.mk (Kd.R_elder' (by (with_reducible repeat (first | apply Kd.R_alloc | apply Kd.R_drewN | apply Kd.R_drew)); exact I.out) (Kd.R_base cd) hb)
               replace B := zp.mk (Kd.R_elder' (by (with_reducible repeat (first | apply Kd.R_alloc | apply Kd.R_drewN | apply Kd.R_drew)); exact B.out) (Kd.R_base cd) hb)
               replace cr := zp.mk (Kd.R_elder' (by (with_reducible repeat (first | apply Kd.R_alloc | apply Kd.R_drewN | apply Kd.R_drew)); exact cr.out) (Kd.R_base cd) hb)
               replace cJ := zp.mk (Kd.R_elder' (by (with_reducible repeat (first | apply Kd.R_alloc | apply Kd.R_drewN | apply Kd.R_drew)); exact cJ.out) (Kd.R_base cd) hb)
               replace A := zp.mk (zl (zv8 A.out) hb)
               replace D := zp.mk (zl (zv8 D.out) hb)
               replace U := zp.mk (zl (zv8 U.out) hb)
               replace W := zp.mk (zl (zv8 W.out) hb)
               replace Y := zp.mk (zl (zv8 Y.out) hb)
               replace T := zp.mk (zl (zv8 T.out) hb)
               replace HB := zp.mk (zj (zv7 HB.out) hb); have dP := fun (av : b 8 = true) (dI : b 9 = false) => (show oa.heap[s]? = some (.cells #[.int .i64 0, .int .i64 0, .int .u64 0, .int .i64 0, .int .i64 0, .slice none 0 0] 32 (0, 0)) from by first | exact (zl (g := s) (o := .cells #[.int .i64 0, .int .i64 0, .int .u64 0, .int .i64 0, .int .i64 0, .slice none 0 0] 32 (0, 0)) (by (with_reducible repeat (first | refine zf ?_ _ | refine zi ?_ | refine zg ?_ _)); exact (cj av dI)) hb))
               (try clear hb)
               (try clear hb2)
               (try clear hk)
               (try clear hi)
               (try clear cd)
               refine hK.out _ _ ⟨.slice fG d5.length gk, .slice fM eu.length fP, cl, s, cE, cD, (.tuple #[.agg #[.int .i64 cL, .int .i64 cQ, .int .u64 cT, .int .i64 cW, .int .i64 da, cl], .bool dB]), ct, cG, cH, (by rw [ha.out]; exact putSel_upk 4 hb_ rfl rfl rfl), (by (with_reducible repeat (first | apply Kd.R_alloc | apply Kd.R_drewN | apply Kd.R_drew)); exact Kd.R_mono G.out (fun _ h => by simp [h])), (by (with_reducible repeat (first | apply Kd.R_alloc | apply Kd.R_drewN | apply Kd.R_drew)); exact Kd.R_mono J.out (fun _ h => by simp [h])), (by (with_reducible repeat (first | apply Kd.R_alloc | apply Kd.R_drewN | apply Kd.R_drew)); exact Kd.R_mono I.out (fun _ h => by simp [h])), (by (with_reducible repeat (first | apply Kd.R_alloc | apply Kd.R_drewN | apply Kd.R_drew)); exact Kd.R_mono B.out (fun _ h => by simp [h])), (zv8 A.out), (zv8 D.out), (zv8 U.out), (zv8 W.out), (zv8 Y.out), (zv8 T.out), (zv7 HB.out), fun _ => (by (with_reducible repeat (first | apply Kd.R_alloc | apply Kd.R_drewN | apply Kd.R_drew)); exact Kd.R_mono cr.out (fun _ h => by simp [h])), fun _ => (by (with_reducible repeat (first | apply Kd.R_alloc | apply Kd.R_drewN | apply Kd.R_drew)); exact Kd.R_mono cJ.out (fun _ h => by simp [h])), fun _ => (by (with_reducible repeat (first | apply Kd.R_alloc | apply Kd.R_drewN | apply Kd.R_drew)); exact Kd.R_mono ck.out (fun _ h => by simp [h])), dP, b9, b6, aW, aU, aT, a7, aY, a5, a2, a3, aZ, aX, a4, a8, fun av => absurd ((hoff 9 (by kernel_rfl)).symm.trans av) (by decide), bv, bE, fun _ => rfl, fun av => absurd ((hoff 5 (by kernel_rfl)).symm.trans av) (by decide), fun av => absurd ((hoff 6 (by kernel_rfl)).symm.trans av) (by decide), bn⟩
              refine steps_cons ?_ ?_
              ·rintro b a w' ⟨cP, cM, cl, s, cE, cD, cF, ct, cG, cH, ha, aH, aJ, aI, aK, ap, ao, aE, br, bu, bs, Q_HB, bK, b0, b7, cj, b9, b6, aW, aU, aT, a7, aY, a5, a2, a3, aZ, aX, a4, a8, b3, bv, bE, bU, bV, cc, bn⟩ hb_ hon hoff
               refine ⟨_, rfl, fun K hK => ?_⟩
               have sX : a.tmps[99]? = some (cF) := by rw [ha]; exact putSel_on (e := (4, 99, cF)) 4 rfl rfl (hon 4 (by kernel_rfl)) rfl
               rw [bU (hon 4 (by kernel_rfl))] at sX
               replace ha := zp.mk ha
               have G := zp.mk aH
               have J := zp.mk aJ
               have I := zp.mk aI
               have B := zp.mk aK
               have A := zp.mk ap
               have D := zp.mk ao
               have U := zp.mk aE
               have W := zp.mk br
               have Y := zp.mk bu
               have T := zp.mk bs
               have HB := zp.mk Q_HB
               have cr := zp.mk (bK (hon 1 (by kernel_rfl)))
               have cJ := zp.mk (b0 (hon 3 (by kernel_rfl)))
               have ck := zp.mk (b7 (hon 4 (by kernel_rfl)))
               refine value_ (w1 := w') (v := .tuple #[.agg #[.int .i64 cL, .int .i64 cQ, .int .u64 cT, .int .i64 cW, .int .i64 da, cl], .bool dB]) (by rfl) rfl ?_ ?_
               ·go_simp
                (try simp only [i64_w])
                try rfl
               refine hK.out _ _ ⟨cP, cM, cl, s, cE, cD, cF, (.tuple #[.agg #[.int .i64 cL, .int .i64 cQ, .int .u64 cT, .int .i64 cW, .int .i64 da, cl], .bool dB]), cG, cH, (by rw [ha.out]; exact putSel_upk 5 hb_ rfl rfl rfl), aH, aJ, aI, aK, ap, ao, aE, br, bu, bs, Q_HB, bK, b0, b7, cj, b9, b6, aW, aU, aT, a7, aY, a5, a2, a3, aZ, aX, a4, a8, fun av => absurd ((hoff 9 (by kernel_rfl)).symm.trans av) (by decide), bv, bE, bU, fun _ => rfl, fun av => absurd ((hoff 6 (by kernel_rfl)).symm.trans av) (by decide), bn⟩
              refine steps_cons ?_ ?_
              ·rintro b a w' ⟨cP, cM, cl, s, cE, cD, cF, ct, cG, cH, ha, aH, aJ, aI, aK, ap, ao, aE, br, bu, bs, Q_HB, bK, b0, b7, cj, b9, b6, aW, aU, aT, a7, aY, a5, a2, a3, aZ, aX, a4, a8, b3, bv, bE, bU, bV, cc, bn⟩ hb_ hon hoff
               refine ⟨_, rfl, fun K hK => ?_⟩
               have jO : a.tmps[94]? = some (ct) := by rw [ha]; exact putSel_on (e := (5, 94, ct)) 5 rfl rfl (hon 5 (by kernel_rfl)) rfl
               rw [bV (hon 5 (by kernel_rfl))] at jO
               replace ha := zp.mk ha
               have G := zp.mk aH
               have J := zp.mk aJ
               have I := zp.mk aI
               have B := zp.mk aK
               have A := zp.mk ap
               have D := zp.mk ao
               have U := zp.mk aE
               have W := zp.mk br
               have Y := zp.mk bu
               have T := zp.mk bs
               have HB := zp.mk Q_HB
               have cr := zp.mk (bK (hon 1 (by kernel_rfl)))
               have cJ := zp.mk (b0 (hon 3 (by kernel_rfl)))
               have ck := zp.mk (b7 (hon 4 (by kernel_rfl)))
               refine value_ (w1 := w') (v := .agg #[.int .i64 cL, .int .i64 cQ, .int .u64 cT, .int .i64 cW, .int .i64 da, cl]) (by rfl) rfl ?_ ?_
               ·go_simp
                (try simp only [i64_w])
                try rfl
               refine hK.out _ _ ⟨cP, cM, cl, s, cE, cD, cF, ct, (.agg #[.int .i64 cL, .int .i64 cQ, .int .u64 cT, .int .i64 cW, .int .i64 da, cl]), cH, (by rw [ha.out]; exact putSel_upk 6 hb_ rfl rfl rfl), aH, aJ, aI, aK, ap, ao, aE, br, bu, bs, Q_HB, bK, b0, b7, cj, b9, b6, aW, aU, aT, a7, aY, a5, a2, a3, aZ, aX, a4, a8, fun av => absurd ((hoff 9 (by kernel_rfl)).symm.trans av) (by decide), bv, bE, bU, bV, fun _ => rfl, bn⟩
              refine steps_cons ?_ ?_
              ·rintro b a w' ⟨cP, cM, cl, s, cE, cD, cF, ct, cG, cH, ha, aH, aJ, aI, aK, ap, ao, aE, br, bu, bs, Q_HB, bK, b0, b7, cj, b9, b6, aW, aU, aT, a7, aY, a5, a2, a3, aZ, aX, a4, a8, b3, bv, bE, bU, bV, cc, bn⟩ hb_ hon hoff
               refine ⟨_, rfl, fun K hK => ?_⟩
               have jO : a.tmps[94]? = some (ct) := by rw [ha]; exact putSel_on (e := (5, 94, ct)) 5 rfl rfl (hon 5 (by kernel_rfl)) rfl
               rw [bV (hon 5 (by kernel_rfl))] at jO
               replace ha := zp.mk ha
               have G := zp.mk aH
               have J := zp.mk aJ
               have I := zp.mk aI
               have B := zp.mk aK
               have A := zp.mk ap
               have D := zp.mk ao
               have U := zp.mk aE
               have W := zp.mk br
               have Y := zp.mk bu
               have T := zp.mk bs
               have HB := zp.mk Q_HB
               have cr := zp.mk (bK (hon 1 (by kernel_rfl)))
               have cJ := zp.mk (b0 (hon 3 (by kernel_rfl)))
               have ck := zp.mk (b7 (hon 4 (by kernel_rfl)))
               refine value_ (w1 := w') (v := .bool dB) (by rfl) rfl ?_ ?_
               ·go_simp
                (try simp only [i64_w])
                try rfl
               refine hK.out _ _ ⟨cP, cM, cl, s, cE, cD, cF, ct, cG, cH, (by rw [ha.out]; exact putSel_upk 7 hb_ rfl rfl rfl), aH, aJ, aI, aK, ap, ao, aE, br, bu, bs, Q_HB, bK, b0, b7, cj, b9, b6, aW, aU, aT, a7, aY, a5, a2, a3, aZ, aX, a4, a8, b3, bv, bE, bU, bV, cc, bn⟩
              refine steps_cons ?_ ?_
              ·rintro b a w' ⟨cP, cM, cl, s, cE, cD, cF, ct, cG, cH, ha, aH, aJ, aI, aK, ap, ao, aE, br, bu, bs, Q_HB, bK, b0, b7, cj, b9, b6, aW, aU, aT, a7, aY, a5, a2, a3, aZ, aX, a4, a8, b3, bv, bE, bU, bV, cc, bn⟩ hb_ hon hoff
               refine ⟨_, rfl, fun K hK => ?_⟩
               replace ha := zp.mk ha
               have G := zp.mk aH
               have J := zp.mk aJ
               have I := zp.mk aI
               have B := zp.mk aK
               have A := zp.mk ap
               have D := zp.mk ao
               have U := zp.mk aE
               have W := zp.mk br
               have Y := zp.mk bu
               have T := zp.mk bs
               have HB := zp.mk Q_HB
               refine box_step ?hg (N := 15) ?hd (cs := #[.int .i64 0, .int .i64 0, .int .u64 0, .int .i64 0, .int .i64 0, .slice none 0 0]) (t := 32) ?hr ?_; (case hd => rfl); (case hg => rfl); (case hr => first | (go_simp; done) | (go_simp; rfl))
               intro s hg e1 hbox hb
               have bb := zp.mk (hbox)
               have ev := zp.mk ((zv3 (zv7 HB.out) hg))
               have eo := zp.mk ((zv3 (zv7 HB.out) hg))
               have bR := zp.mk ((by rw [hg]; exact Nat.ne_of_lt (blk_lt (g := bc) (o := .cells #[.int .i64 ag, .int .i64 ac, .int .u64 ad, .int .i64 af, .int .i64 ae, .slice ce y.length cf] 27 (0, 0)) (zv8 A.out)) : bc ≠ s))
               have cx := zp.mk ((by rw [hg]; exact Nat.ne_of_gt (blk_lt (g := bc) (o := .cells #[.int .i64 ag, .int .i64 ac, .int .u64 ad, .int .i64 af, .int .i64 ae, .slice ce y.length cf] 27 (0, 0)) (zv8 A.out)) : s ≠ bc))
               have bY := zp.mk ((by rw [hg]; exact Nat.ne_of_lt (blk_lt (g := bi) (o := .cells #[.int .i64 al, .int .i64 aj, .int .u64 ai, .int .i64 ah, .int .i64 ak, .slice cq ab.length co] 27 (0, 0)) (zv8 D.out)) : bi ≠ s))
               have cy := zp.mk ((by rw [hg]; exact Nat.ne_of_gt (blk_lt (g := bi) (o := .cells #[.int .i64 al, .int .i64 aj, .int .u64 ai, .int .i64 ah, .int .i64 ak, .slice cq ab.length co] 27 (0, 0)) (zv8 D.out)) : s ≠ bi))
               have bS := zp.mk ((by rw [hg]; exact Nat.ne_of_lt (blk_lt (g := am) (o := .cells #[.int .i64 az, .int .i64 aA, .int .u64 aC, .int .i64 aD, .int .i64 aG, ba] 32 (0, 0)) (zv8 U.out)) : am ≠ s))
               have cB := zp.mk ((by rw [hg]; exact Nat.ne_of_gt (blk_lt (g := am) (o := .cells #[.int .i64 az, .int .i64 aA, .int .u64 aC, .int .i64 aD, .int .i64 aG, ba] 32 (0, 0)) (zv8 U.out)) : s ≠ am))
               have bT := zp.mk ((by rw [hg]; exact Nat.ne_of_lt (blk_lt (g := ax) (o := .cells #[.int .i64 bA, .int .i64 bC, .int .u64 bG, .int .i64 bN, .int .i64 bP, .slice bq cV.length bp] 32 (0, 0)) (zv8 W.out)) : ax ≠ s))
               have cA := zp.mk ((by rw [hg]; exact Nat.ne_of_gt (blk_lt (g := ax) (o := .cells #[.int .i64 bA, .int .i64 bC, .int .u64 bG, .int .i64 bN, .int .i64 bP, .slice bq cV.length bp] 32 (0, 0)) (zv8 W.out)) : s ≠ ax))
               have bQ := zp.mk ((by rw [hg]; exact Nat.ne_of_lt (blk_lt (g := u) (o := .cells #[.int .i64 bw, .int .i64 bx, .int .u64 bB, .int .i64 bD, .int .i64 bI, .slice bo cX.length bl] 32 (0, 0)) (zv8 Y.out)) : u ≠ s))
               have cv := zp.mk ((by rw [hg]; exact Nat.ne_of_gt (blk_lt (g := u) (o := .cells #[.int .i64 bw, .int .i64 bx, .int .u64 bB, .int .i64 bD, .int .i64 bI, .slice bo cX.length bl] 32 (0, 0)) (zv8 Y.out)) : s ≠ u))
               have bF := zp.mk ((by rw [hg]; exact Nat.ne_of_lt (blk_lt (g := q) (o := .cells #[.int .i64 aq, .int .i64 ar, .int .u64 au, .int .i64 aw, .int .i64 ay, .slice bj an.length bf] 32 (0, 0)) (zv8 T.out)) : q ≠ s))
               have cm := zp.mk ((by rw [hg]; exact Nat.ne_of_gt (blk_lt (g := q) (o := .cells #[.int .i64 aq, .int .i64 ar, .int .u64 au, .int .i64 aw, .int .i64 ay, .slice bj an.length bf] 32 (0, 0)) (zv8 T.out)) : s ≠ q)); have fu := fun (av : b 1 = true) => (show Kd.R (Kd.int .i64) 3 e1 w.heap.size (fun k_ => some k_ ≠ (ba : Value).ownBlock ∧ some k_ ≠ (.slice bq cV.length bp : Value).ownBlock ∧ some k_ ≠ (.slice bo cX.length bl : Value).ownBlock ∧ some k_ ≠ (.slice bj an.length bf : Value).ownBlock) cP d5 from by first | exact (Kd.R_below (by (with_reducible repeat (first | apply Kd.R_alloc | apply Kd.R_drewN | apply Kd.R_drew)); exact (bK av)) hb) | exact Kd.R_mono (Kd.R_below (by (with_reducible repeat (first | apply Kd.R_alloc | apply Kd.R_drewN | apply Kd.R_drew)); exact (bK av)) hb) (fun _ h_ => by first | trivial | exact h_ | exact h_.1)); have gc := fun (av : b 3 = true) => (show Kd.R (Kd.int .i64) 3 e1 w.heap.size (fun k_ => some k_ ≠ (ba : Value).ownBlock ∧ some k_ ≠ (.slice bq cV.length bp : Value).ownBlock ∧ some k_ ≠ (.slice bo cX.length bl : Value).ownBlock ∧ some k_ ≠ (.slice bj an.length bf : Value).ownBlock) cM eu from by first | exact (Kd.R_below (by (with_reducible repeat (first | apply Kd.R_alloc | apply Kd.R_drewN | apply Kd.R_drew)); exact (b0 av)) hb) | exact Kd.R_mono (Kd.R_below (by (with_reducible repeat (first | apply Kd.R_alloc | apply Kd.R_drewN | apply Kd.R_drew)); exact (b0 av)) hb) (fun _ h_ => by first | trivial | exact h_ | exact h_.1)); have fz := fun (av : b 4 = true) => (show Kd.R (Kd.int .i64) 3 e1 w.heap.size (fun k_ => some k_ ≠ (ba : Value).ownBlock ∧ some k_ ≠ (.slice bq cV.length bp : Value).ownBlock ∧ some k_ ≠ (.slice bo cX.length bl : Value).ownBlock ∧ some k_ ≠ (.slice bj an.length bf : Value).ownBlock) cl dy from by first | exact (Kd.R_below (by (with_reducible repeat (first | apply Kd.R_alloc | apply Kd.R_drewN | apply Kd.R_drew)); exact (b7 av)) hb) | exact Kd.R_mono (Kd.R_below (by (with_reducible repeat (first | apply Kd.R_alloc | apply Kd.R_drewN | apply Kd.R_drew)); exact (b7 av)) hb) (fun _ h_ => by first | trivial | exact h_ | exact h_.1))
               replace G := zp.mk (Kd.R_below (by (with_reducible repeat (first | apply Kd.R_alloc | apply Kd.R_drewN | apply Kd.R_drew)); first | exact G.out | exact Kd.R_mono G.out (fun _ h => by simp [h])) hb)
               replace J := zp.mk (Kd.R_below (by (with_reducible repeat (first | apply Kd.R_alloc | apply Kd.R_drewN | apply Kd.R_drew)); first | exact J.out | exact Kd.R_mono J.out (fun _ h => by simp [h])) hb)
               replace I := zp.mk (Kd.R_below (by (with_reducible repeat (first | apply Kd.R_alloc | apply Kd.R_drewN | apply Kd.R_drew)); first | exact I.out | exact Kd.R_mono I.out (fun _ h => by simp [h])) hb)
               replace B := zp.mk (Kd.R_below (by (with_reducible repeat (first | apply Kd.R_alloc | apply Kd.R_drewN | apply Kd.R_drew)); first | exact B.out | exact Kd.R_mono B.out (fun _ h => by simp [h])) hb)
               replace A := zp.mk (zl (zv8 A.out) hb)
               replace D := zp.mk (zl (zv8 D.out) hb)
               replace U := zp.mk (zl (zv8 U.out) hb)
               replace W := zp.mk (zl (zv8 W.out) hb)
               replace Y := zp.mk (zl (zv8 Y.out) hb)
               replace T := zp.mk (zl (zv8 T.out) hb)
               replace HB := zp.mk (zj (zv7 HB.out) hb)
               clear hb hbox hg
               refine hK.out _ _ ⟨cP, cM, cl, s, cE, cD, cF, ct, cG, (.pointer (some ⟨s, 0, none⟩)), (by rw [ha.out]; exact putSel_upk 8 hb_ rfl rfl rfl), (by (with_reducible repeat (first | apply Kd.R_alloc | apply Kd.R_drewN | apply Kd.R_drew)); first | exact G.out | exact Kd.R_mono G.out (fun _ h => by simp [h])), (by (with_reducible repeat (first | apply Kd.R_alloc | apply Kd.R_drewN | apply Kd.R_drew)); first | exact J.out | exact Kd.R_mono J.out (fun _ h => by simp [h])), (by (with_reducible repeat (first | apply Kd.R_alloc | apply Kd.R_drewN | apply Kd.R_drew)); first | exact I.out | exact Kd.R_mono I.out (fun _ h => by simp [h])), (by (with_reducible repeat (first | apply Kd.R_alloc | apply Kd.R_drewN | apply Kd.R_drew)); first | exact B.out | exact Kd.R_mono B.out (fun _ h => by simp [h])), (zv8 A.out), (zv8 D.out), (zv8 U.out), (zv8 W.out), (zv8 Y.out), (zv8 T.out), (zv7 HB.out), fu, gc, fz, fun _ _ => (zv8 bb.out), fun _ => ev.out, fun _ => eo.out, fun _ => bR.out, fun _ => cx.out, fun _ => bY.out, fun _ => cy.out, fun _ => bS.out, fun _ => cB.out, fun _ => bT.out, fun _ => cA.out, fun _ => bQ.out, fun _ => cv.out, fun _ => bF.out, fun _ => cm.out, fun av => absurd ((hoff 9 (by kernel_rfl)).symm.trans av) (by decide), bv, bE, bU, bV, cc, fun _ => rfl⟩
              refine steps_cons ?_ ?_
              ·rintro b a w' ⟨cP, cM, cl, s, cE, cD, cF, ct, cG, cH, ha, aH, aJ, aI, aK, ap, ao, aE, br, bu, bs, Q_HB, bK, b0, b7, cj, b9, b6, aW, aU, aT, a7, aY, a5, a2, a3, aZ, aX, a4, a8, b3, bv, bE, bU, bV, cc, bn⟩ hb_ hon hoff
               refine ⟨_, rfl, fun K hK => ?_⟩
               have sG : a.tmps[15]? = some (cH) := by rw [ha]; exact putSel_on (e := (8, 15, cH)) 8 rfl rfl (hon 8 (by kernel_rfl)) rfl
               rw [bn (hon 8 (by kernel_rfl))] at sG
               have ov : a.tmps[100]? = some (cG) := by rw [ha]; exact putSel_on (e := (6, 100, cG)) 6 rfl rfl (hon 6 (by kernel_rfl)) rfl
               rw [cc (hon 6 (by kernel_rfl))] at ov
               replace ha := zp.mk ha
               have G := zp.mk aH
               have J := zp.mk aJ
               have I := zp.mk aI
               have B := zp.mk aK
               have A := zp.mk ap
               have D := zp.mk ao
               have U := zp.mk aE
               have W := zp.mk br
               have Y := zp.mk bu
               have T := zp.mk bs
               have HB := zp.mk Q_HB
               have cr := zp.mk (bK (hon 1 (by kernel_rfl)))
               have cJ := zp.mk (b0 (hon 3 (by kernel_rfl)))
               have ck := zp.mk (b7 (hon 4 (by kernel_rfl)))
               have bb := zp.mk (cj (hon 8 (by kernel_rfl)) hb_)
               have ev := zp.mk (b9 (hon 8 (by kernel_rfl)))
               have eo := zp.mk (b6 (hon 8 (by kernel_rfl)))
               have bR := zp.mk (aW (hon 8 (by kernel_rfl)))
               have cx := zp.mk (aU (hon 8 (by kernel_rfl)))
               have bY := zp.mk (aT (hon 8 (by kernel_rfl)))
               have cy := zp.mk (a7 (hon 8 (by kernel_rfl)))
               have bS := zp.mk (aY (hon 8 (by kernel_rfl)))
               have cB := zp.mk (a5 (hon 8 (by kernel_rfl)))
               have bT := zp.mk (a2 (hon 8 (by kernel_rfl)))
               have cA := zp.mk (a3 (hon 8 (by kernel_rfl)))
               have bQ := zp.mk (aZ (hon 8 (by kernel_rfl)))
               have cv := zp.mk (aX (hon 8 (by kernel_rfl)))
               have bF := zp.mk (a4 (hon 8 (by kernel_rfl)))
               have cm := zp.mk (a8 (hon 8 (by kernel_rfl)))
               obtain ⟨dQ, dS, fv⟩ := Kd.R_slice ck.out
               (first | subst fv | (injection fv with f1_ f2_ f3_; have dX := f1_.symm; have dW := f3_.symm; clear f1_ f2_ f3_; subst dX; subst dW))
               have rN : w'.cell? ⟨s, 0, none⟩ = some (.int .i64 0) := (ze bb.out 0).trans rfl
               have oU := zd bb.out 0
               have np := bR.out
               have nI := bY.out
               have nC := bS.out
               have nm := bT.out
               have nw := bQ.out
               have mw := bF.out
               have nj := cx.out
               have nD := cy.out
               have mE := cB.out
               have mu := cA.out
               have m2 := cv.out
               have m7 := cm.out
               have r4 : w'.cell? ⟨s, 1, none⟩ = some (.int .i64 0) := (ze bb.out 1).trans rfl
               have p6 := zd bb.out 1
               have mN := bR.out
               have m0 := bY.out
               have nu := bS.out
               have nz := bT.out
               have mG := bQ.out
               have nB := bF.out
               have nl := cx.out
               have nJ := cy.out
               have mZ := cB.out
               have mH := cA.out
               have nt := cv.out
               have no := cm.out
               have sj : w'.cell? ⟨s, 2, none⟩ = some (.int .u64 0) := (ze bb.out 2).trans rfl
               have qo := zd bb.out 2
               have nx := bR.out
               have nh := bY.out
               have nF := bS.out
               have mK := bT.out
               have mP := bQ.out
               have m9 := bF.out
               have mU := cx.out
               have nG := cy.out
               have mS := cB.out
               have mD := cA.out
               have nA := cv.out
               have mQ := cm.out
               have rP : w'.cell? ⟨s, 3, none⟩ = some (.int .i64 0) := (ze bb.out 3).trans rfl
               have q4 := zd bb.out 3
               have mJ := bR.out
               have mV := bY.out
               have nk := bS.out
               have nK := bT.out
               have nE := bQ.out
               have mB := bF.out
               have mT := cx.out
               have mC := cy.out
               have my := cB.out
               have mL := cA.out
               have ns := cv.out
               have nr := cm.out
               have so : w'.cell? ⟨s, 4, none⟩ = some (.int .i64 0) := (ze bb.out 4).trans rfl
               have o1 := zd bb.out 4
               have nv := bR.out
               have nc := bY.out
               have mF := bS.out
               have mv := bT.out
               have nq := bQ.out
               have mR := bF.out
               have mM := cx.out
               have nd := cy.out
               have mI := cB.out
               have ny := cA.out
               have mz := cv.out
               have na := cm.out
               have sB : w'.cell? ⟨s, 5, none⟩ = some (.slice none 0 0) := (ze bb.out 5).trans rfl
               have rA := zd bb.out 5
               have nn := bR.out
               have nL := bY.out
               have mA := bS.out
               have mY := bT.out
               have nf := bQ.out
               have nH := bF.out
               have ni := cx.out
               have nb := cy.out
               have ng := cB.out
               have mO := cA.out
               have mW := cv.out
               have mX := cm.out
               refine skip_ (w1 := ?_) (by rfl) rfl ?_ ?_
               rotate_left
               ·go_simp
                rfl
               refine hK.out _ _ ⟨cP, cM, .slice dQ dy.length dS, s, cE, cD, cF, ct, cG, cH, (by rw [ha.out]; exact putSel_none (v := undef) rfl), (by (with_reducible repeat (first | apply Kd.R_alloc | apply Kd.R_drewN | apply Kd.R_drew)); exact Kd.R_mono (Kd.R_far (p := ⟨s, 5, none⟩) (Kd.R_far (p := ⟨s, 4, none⟩) (Kd.R_far (p := ⟨s, 3, none⟩) (Kd.R_far (p := ⟨s, 2, none⟩) (Kd.R_far (p := ⟨s, 1, none⟩) (Kd.R_far (p := ⟨s, 0, none⟩) (Kd.R_types G.out bb.out (by decide)) (fun _ h => by simp [h]) (.int .i64 cL)) (fun _ h => by simp [h]) (.int .i64 cQ)) (fun _ h => by simp [h]) (.int .u64 cT)) (fun _ h => by simp [h]) (.int .i64 cW)) (fun _ h => by simp [h]) (.int .i64 da)) (fun _ h => by simp [h]) (.slice dQ dy.length dS)) (fun _ h => by simp [h])), (by (with_reducible repeat (first | apply Kd.R_alloc | apply Kd.R_drewN | apply Kd.R_drew)); exact Kd.R_mono (Kd.R_far (p := ⟨s, 5, none⟩) (Kd.R_far (p := ⟨s, 4, none⟩) (Kd.R_far (p := ⟨s, 3, none⟩) (Kd.R_far (p := ⟨s, 2, none⟩) (Kd.R_far (p := ⟨s, 1, none⟩) (Kd.R_far (p := ⟨s, 0, none⟩) (Kd.R_types J.out bb.out (by decide)) (fun _ h => by simp [h]) (.int .i64 cL)) (fun _ h => by simp [h]) (.int .i64 cQ)) (fun _ h => by simp [h]) (.int .u64 cT)) (fun _ h => by simp [h]) (.int .i64 cW)) (fun _ h => by simp [h]) (.int .i64 da)) (fun _ h => by simp [h]) (.slice dQ dy.length dS)) (fun _ h => by simp [h])), (by (with_reducible repeat (first | apply Kd.R_alloc | apply Kd.R_drewN | apply Kd.R_drew)); exact Kd.R_mono (Kd.R_far (p := ⟨s, 5, none⟩) (Kd.R_far (p := ⟨s, 4, none⟩) (Kd.R_far (p := ⟨s, 3, none⟩) (Kd.R_far (p := ⟨s, 2, none⟩) (Kd.R_far (p := ⟨s, 1, none⟩) (Kd.R_far (p := ⟨s, 0, none⟩) (Kd.R_types I.out bb.out (by decide)) (fun _ h => by simp [h]) (.int .i64 cL)) (fun _ h => by simp [h]) (.int .i64 cQ)) (fun _ h => by simp [h]) (.int .u64 cT)) (fun _ h => by simp [h]) (.int .i64 cW)) (fun _ h => by simp [h]) (.int .i64 da)) (fun _ h => by simp [h]) (.slice dQ dy.length dS)) (fun _ h => by simp [h])), (by (with_reducible repeat (first | apply Kd.R_alloc | apply Kd.R_drewN | apply Kd.R_drew)); exact Kd.R_mono (Kd.R_far (p := ⟨s, 5, none⟩) (Kd.R_far (p := ⟨s, 4, none⟩) (Kd.R_far (p := ⟨s, 3, none⟩) (Kd.R_far (p := ⟨s, 2, none⟩) (Kd.R_far (p := ⟨s, 1, none⟩) (Kd.R_far (p := ⟨s, 0, none⟩) (Kd.R_types B.out bb.out (by decide)) (fun _ h => by simp [h]) (.int .i64 cL)) (fun _ h => by simp [h]) (.int .i64 cQ)) (fun _ h => by simp [h]) (.int .u64 cT)) (fun _ h => by simp [h]) (.int .i64 cW)) (fun _ h => by simp [h]) (.int .i64 da)) (fun _ h => by simp [h]) (.slice dQ dy.length dS)) (fun _ h => by simp [h])), (by (with_reducible repeat (first | refine zf ?_ _ | refine zi ?_ | refine zg ?_ _)); refine blk_far ?_ bR.out _; (with_reducible repeat (first | refine zf ?_ _ | refine zi ?_ | refine zg ?_ _)); refine blk_far ?_ bR.out _; (with_reducible repeat (first | refine zf ?_ _ | refine zi ?_ | refine zg ?_ _)); refine blk_far ?_ bR.out _; (with_reducible repeat (first | refine zf ?_ _ | refine zi ?_ | refine zg ?_ _)); refine blk_far ?_ bR.out _; (with_reducible repeat (first | refine zf ?_ _ | refine zi ?_ | refine zg ?_ _)); refine blk_far ?_ bR.out _; (with_reducible repeat (first | refine zf ?_ _ | refine zi ?_ | refine zg ?_ _)); refine blk_far ?_ bR.out _; (with_reducible repeat (first | refine zf ?_ _ | refine zi ?_ | refine zg ?_ _)); exact A.out), (by (with_reducible repeat (first | refine zf ?_ _ | refine zi ?_ | refine zg ?_ _)); refine blk_far ?_ bY.out _; (with_reducible repeat (first | refine zf ?_ _ | refine zi ?_ | refine zg ?_ _)); refine blk_far ?_ bY.out _; (with_reducible repeat (first | refine zf ?_ _ | refine zi ?_ | refine zg ?_ _)); refine blk_far ?_ bY.out _; (with_reducible repeat (first | refine zf ?_ _ | refine zi ?_ | refine zg ?_ _)); refine blk_far ?_ bY.out _; (with_reducible repeat (first | refine zf ?_ _ | refine zi ?_ | refine zg ?_ _)); refine blk_far ?_ bY.out _; (with_reducible repeat (first | refine zf ?_ _ | refine zi ?_ | refine zg ?_ _)); refine blk_far ?_ bY.out _; (with_reducible repeat (first | refine zf ?_ _ | refine zi ?_ | refine zg ?_ _)); exact D.out), (by (with_reducible repeat (first | refine zf ?_ _ | refine zi ?_ | refine zg ?_ _)); refine blk_far ?_ bS.out _; (with_reducible repeat (first | refine zf ?_ _ | refine zi ?_ | refine zg ?_ _)); refine blk_far ?_ bS.out _; (with_reducible repeat (first | refine zf ?_ _ | refine zi ?_ | refine zg ?_ _)); refine blk_far ?_ bS.out _; (with_reducible repeat (first | refine zf ?_ _ | refine zi ?_ | refine zg ?_ _)); refine blk_far ?_ bS.out _; (with_reducible repeat (first | refine zf ?_ _ | refine zi ?_ | refine zg ?_ _)); refine blk_far ?_ bS.out _; (with_reducible repeat (first | refine zf ?_ _ | refine zi ?_ | refine zg ?_ _)); refine blk_far ?_ bS.out _; (with_reducible repeat (first | refine zf ?_ _ | refine zi ?_ | refine zg ?_ _)); exact U.out), (by (with_reducible repeat (first | refine zf ?_ _ | refine zi ?_ | refine zg ?_ _)); refine blk_far ?_ bT.out _; (with_reducible repeat (first | refine zf ?_ _ | refine zi ?_ | refine zg ?_ _)); refine blk_far ?_ bT.out _; (with_reducible repeat (first | refine zf ?_ _ | refine zi ?_ | refine zg ?_ _)); refine blk_far ?_ bT.out _; (with_reducible repeat (first | refine zf ?_ _ | refine zi ?_ | refine zg ?_ _)); refine blk_far ?_ bT.out _; (with_reducible repeat (first | refine zf ?_ _ | refine zi ?_ | refine zg ?_ _)); refine blk_far ?_ bT.out _; (with_reducible repeat (first | refine zf ?_ _ | refine zi ?_ | refine zg ?_ _)); refine blk_far ?_ bT.out _; (with_reducible repeat (first | refine zf ?_ _ | refine zi ?_ | refine zg ?_ _)); exact W.out), (by (with_reducible repeat (first | refine zf ?_ _ | refine zi ?_ | refine zg ?_ _)); refine blk_far ?_ bQ.out _; (with_reducible repeat (first | refine zf ?_ _ | refine zi ?_ | refine zg ?_ _)); refine blk_far ?_ bQ.out _; (with_reducible repeat (first | refine zf ?_ _ | refine zi ?_ | refine zg ?_ _)); refine blk_far ?_ bQ.out _; (with_reducible repeat (first | refine zf ?_ _ | refine zi ?_ | refine zg ?_ _)); refine blk_far ?_ bQ.out _; (with_reducible repeat (first | refine zf ?_ _ | refine zi ?_ | refine zg ?_ _)); refine blk_far ?_ bQ.out _; (with_reducible repeat (first | refine zf ?_ _ | refine zi ?_ | refine zg ?_ _)); refine blk_far ?_ bQ.out _; (with_reducible repeat (first | refine zf ?_ _ | refine zi ?_ | refine zg ?_ _)); exact Y.out), (by (with_reducible repeat (first | refine zf ?_ _ | refine zi ?_ | refine zg ?_ _)); refine blk_far ?_ bF.out _; (with_reducible repeat (first | refine zf ?_ _ | refine zi ?_ | refine zg ?_ _)); refine blk_far ?_ bF.out _; (with_reducible repeat (first | refine zf ?_ _ | refine zi ?_ | refine zg ?_ _)); refine blk_far ?_ bF.out _; (with_reducible repeat (first | refine zf ?_ _ | refine zi ?_ | refine zg ?_ _)); refine blk_far ?_ bF.out _; (with_reducible repeat (first | refine zf ?_ _ | refine zi ?_ | refine zg ?_ _)); refine blk_far ?_ bF.out _; (with_reducible repeat (first | refine zf ?_ _ | refine zi ?_ | refine zg ?_ _)); refine blk_far ?_ bF.out _; (with_reducible repeat (first | refine zf ?_ _ | refine zi ?_ | refine zg ?_ _)); exact T.out), (zv7 HB.out), fun _ => (by (with_reducible repeat (first | apply Kd.R_alloc | apply Kd.R_drewN | apply Kd.R_drew)); exact Kd.R_mono (Kd.R_far (p := ⟨s, 5, none⟩) (Kd.R_far (p := ⟨s, 4, none⟩) (Kd.R_far (p := ⟨s, 3, none⟩) (Kd.R_far (p := ⟨s, 2, none⟩) (Kd.R_far (p := ⟨s, 1, none⟩) (Kd.R_far (p := ⟨s, 0, none⟩) (Kd.R_types cr.out bb.out (by decide)) (fun _ h => by simp [h]) (.int .i64 cL)) (fun _ h => by simp [h]) (.int .i64 cQ)) (fun _ h => by simp [h]) (.int .u64 cT)) (fun _ h => by simp [h]) (.int .i64 cW)) (fun _ h => by simp [h]) (.int .i64 da)) (fun _ h => by simp [h]) (.slice dQ dy.length dS)) (fun _ h => by simp [h])), fun _ => (by (with_reducible repeat (first | apply Kd.R_alloc | apply Kd.R_drewN | apply Kd.R_drew)); exact Kd.R_mono (Kd.R_far (p := ⟨s, 5, none⟩) (Kd.R_far (p := ⟨s, 4, none⟩) (Kd.R_far (p := ⟨s, 3, none⟩) (Kd.R_far (p := ⟨s, 2, none⟩) (Kd.R_far (p := ⟨s, 1, none⟩) (Kd.R_far (p := ⟨s, 0, none⟩) (Kd.R_types cJ.out bb.out (by decide)) (fun _ h => by simp [h]) (.int .i64 cL)) (fun _ h => by simp [h]) (.int .i64 cQ)) (fun _ h => by simp [h]) (.int .u64 cT)) (fun _ h => by simp [h]) (.int .i64 cW)) (fun _ h => by simp [h]) (.int .i64 da)) (fun _ h => by simp [h]) (.slice dQ dy.length dS)) (fun _ h => by simp [h])), fun _ => (by (with_reducible repeat (first | apply Kd.R_alloc | apply Kd.R_drewN | apply Kd.R_drew)); exact Kd.R_mono (Kd.R_far (p := ⟨s, 5, none⟩) (Kd.R_far (p := ⟨s, 4, none⟩) (Kd.R_far (p := ⟨s, 3, none⟩) (Kd.R_far (p := ⟨s, 2, none⟩) (Kd.R_far (p := ⟨s, 1, none⟩) (Kd.R_far (p := ⟨s, 0, none⟩) (Kd.R_types ck.out bb.out (by decide)) (fun _ h => by simp [h]) (.int .i64 cL)) (fun _ h => by simp [h]) (.int .i64 cQ)) (fun _ h => by simp [h]) (.int .u64 cT)) (fun _ h => by simp [h]) (.int .i64 cW)) (fun _ h => by simp [h]) (.int .i64 da)) (fun _ h => by simp [h]) (.slice dQ dy.length dS)) (fun _ h => by simp [h])), fun _ dI => absurd ((up_self b 9).symm.trans dI) (by decide), fun _ => ev.out, fun _ => eo.out, fun _ => bR.out, fun _ => cx.out, fun _ => bY.out, fun _ => cy.out, fun _ => bS.out, fun _ => cB.out, fun _ => bT.out, fun _ => cA.out, fun _ => bQ.out, fun _ => cv.out, fun _ => bF.out, fun _ => cm.out, fun _ => (by (with_reducible repeat (first | refine zf ?_ _ | refine zi ?_ | refine zg ?_ _)); refine blk_put (cs := #[.int .i64 cL, .int .i64 cQ, .int .u64 cT, .int .i64 cW, .int .i64 da, .slice none 0 0]) ?_ 5 _ rfl; (with_reducible repeat (first | refine zf ?_ _ | refine zi ?_ | refine zg ?_ _)); refine blk_put (cs := #[.int .i64 cL, .int .i64 cQ, .int .u64 cT, .int .i64 cW, .int .i64 0, .slice none 0 0]) ?_ 4 _ rfl; (with_reducible repeat (first | refine zf ?_ _ | refine zi ?_ | refine zg ?_ _)); refine blk_put (cs := #[.int .i64 cL, .int .i64 cQ, .int .u64 cT, .int .i64 0, .int .i64 0, .slice none 0 0]) ?_ 3 _ rfl; (with_reducible repeat (first | refine zf ?_ _ | refine zi ?_ | refine zg ?_ _)); refine blk_put (cs := #[.int .i64 cL, .int .i64 cQ, .int .u64 0, .int .i64 0, .int .i64 0, .slice none 0 0]) ?_ 2 _ rfl; (with_reducible repeat (first | refine zf ?_ _ | refine zi ?_ | refine zg ?_ _)); refine blk_put (cs := #[.int .i64 cL, .int .i64 0, .int .u64 0, .int .i64 0, .int .i64 0, .slice none 0 0]) ?_ 1 _ rfl; (with_reducible repeat (first | refine zf ?_ _ | refine zi ?_ | refine zg ?_ _)); refine blk_put (cs := #[.int .i64 0, .int .i64 0, .int .u64 0, .int .i64 0, .int .i64 0, .slice none 0 0]) ?_ 0 _ rfl; (with_reducible repeat (first | refine zf ?_ _ | refine zi ?_ | refine zg ?_ _)); exact bb.out), bv, bE, bU, bV, cc, bn⟩
              refine steps_cons ?_ ?_
              ·rintro b a w' ⟨cP, cM, cl, s, cE, cD, cF, ct, cG, cH, ha, aH, aJ, aI, aK, ap, ao, aE, br, bu, bs, Q_HB, bK, b0, b7, cj, b9, b6, aW, aU, aT, a7, aY, a5, a2, a3, aZ, aX, a4, a8, b3, bv, bE, bU, bV, cc, bn⟩ hb_ hon hoff
               refine ⟨_, rfl, fun K hK => ?_⟩
               have tE : a.tmps[101]? = some (.bool dB) := by rw [ha]; exact putSel_on (e := (7, 101, .bool dB)) 7 rfl rfl (hon 7 (by kernel_rfl)) rfl
               replace ha := zp.mk ha
               have G := zp.mk aH
               have J := zp.mk aJ
               have I := zp.mk aI
               have B := zp.mk aK
               have A := zp.mk ap
               have D := zp.mk ao
               have U := zp.mk aE
               have W := zp.mk br
               have Y := zp.mk bu
               have T := zp.mk bs
               have HB := zp.mk Q_HB
               have cr := zp.mk (bK (hon 1 (by kernel_rfl)))
               have cJ := zp.mk (b0 (hon 3 (by kernel_rfl)))
               have ck := zp.mk (b7 (hon 4 (by kernel_rfl)))
               have ev := zp.mk (b9 (hon 8 (by kernel_rfl)))
               have eo := zp.mk (b6 (hon 8 (by kernel_rfl)))
               have bR := zp.mk (aW (hon 8 (by kernel_rfl)))
               have cx := zp.mk (aU (hon 8 (by kernel_rfl)))
               have bY := zp.mk (aT (hon 8 (by kernel_rfl)))
               have cy := zp.mk (a7 (hon 8 (by kernel_rfl)))
               have bS := zp.mk (aY (hon 8 (by kernel_rfl)))
               have cB := zp.mk (a5 (hon 8 (by kernel_rfl)))
               have bT := zp.mk (a2 (hon 8 (by kernel_rfl)))
               have cA := zp.mk (a3 (hon 8 (by kernel_rfl)))
               have bQ := zp.mk (aZ (hon 8 (by kernel_rfl)))
               have cv := zp.mk (aX (hon 8 (by kernel_rfl)))
               have bF := zp.mk (a4 (hon 8 (by kernel_rfl)))
               have cm := zp.mk (a8 (hon 8 (by kernel_rfl)))
               have bb := zp.mk (b3 (hon 9 (by kernel_rfl)))
               refine value_ (w1 := w') (v := .bool dB) (by rfl) rfl ?_ ?_
               ·go_simp
                (try simp only [i64_w])
                try rfl
               refine hK.out _ _ ⟨cP, cM, cl, s, cE, cD, cF, ct, cG, cH, (by rw [ha.out]; exact putSel_upk 9 hb_ rfl rfl rfl), aH, aJ, aI, aK, ap, ao, aE, br, bu, bs, Q_HB, bK, b0, b7, fun _ dI => absurd ((hon 9 (by kernel_rfl)).symm.trans dI) (by decide), b9, b6, aW, aU, aT, a7, aY, a5, a2, a3, aZ, aX, a4, a8, b3, bv, bE, bU, bV, cc, bn⟩
              exact steps_nil
             rintro b a tQ hall ⟨cP, cM, cl, s, cE, cD, cF, ct, cG, cH, ha, aH, aJ, aI, aK, ap, ao, aE, br, bu, bs, Q_HB, bK, b0, b7, cj, b9, b6, aW, aU, aT, a7, aY, a5, a2, a3, aZ, aX, a4, a8, b3, bv, bE, bU, bV, cc, bn⟩
             clear A D U W Y T HB G J I B
             have e4 := hall 0 (by kernel_rfl)
             have dZ := hall 1 (by kernel_rfl)
             have eX := hall 2 (by kernel_rfl)
             have d0 := hall 3 (by kernel_rfl)
             have d1 := hall 4 (by kernel_rfl)
             have ei := hall 5 (by kernel_rfl)
             have ed := hall 6 (by kernel_rfl)
             have eR := hall 7 (by kernel_rfl)
             have cN := hall 8 (by kernel_rfl)
             have ej := hall 9 (by kernel_rfl)
             have eA := hall 10 (by kernel_rfl)
             subst ha
             obtain rfl := bv dZ
             obtain rfl := bE d0
             obtain rfl := bU d1
             obtain rfl := bV ei
             obtain rfl := cc ed
             obtain rfl := bn cN
             simp only [putSel, e4, dZ, eX, d0, d1, ei, ed, eR, cN, ej, eA, if_true, Act.put, zs1, zs2, zs3]
             have G := zp.mk aH
             clear aH
             have J := zp.mk aJ
             clear aJ
             have I := zp.mk aI
             clear aI
             have B := zp.mk aK
             clear aK
             have A := zp.mk ap
             clear ap
             have D := zp.mk ao
             clear ao
             have U := zp.mk aE
             clear aE
             have W := zp.mk br
             clear br
             have Y := zp.mk bu
             clear bu
             have T := zp.mk bs
             clear bs
             have HB := zp.mk Q_HB
             clear Q_HB
             have cr := zp.mk (bK dZ)
             clear bK
             have cJ := zp.mk (b0 d0)
             clear b0
             have ck := zp.mk (b7 d1)
             clear b7
             clear cj
             have ev := zp.mk (b9 cN)
             clear b9
             have eo := zp.mk (b6 cN)
             clear b6
             have bR := zp.mk (aW cN)
             clear aW
             have cx := zp.mk (aU cN)
             clear aU
             have bY := zp.mk (aT cN)
             clear aT
             have cy := zp.mk (a7 cN)
             clear a7
             have bS := zp.mk (aY cN)
             clear aY
             have cB := zp.mk (a5 cN)
             clear a5
             have bT := zp.mk (a2 cN)
             clear a2
             have cA := zp.mk (a3 cN)
             clear a3
             have bQ := zp.mk (aZ cN)
             clear aZ
             have cv := zp.mk (aX cN)
             clear aX
             have bF := zp.mk (a4 cN)
             clear a4
             have cm := zp.mk (a8 cN)
             clear a8
             have bb := zp.mk (b3 ej)
             clear b3
             clear hall e4 dZ eX d0 d1 ei ed eR cN ej eA
             go_upto_region 32 with (fail)
             go_cut [110] (fun oR wc => ∃ (kq : Nat) (dT : Bool), oR = .bool dT ∧ zp (laws_FnExactAggJoin.j2 kq cK dT aq ar au aw ay cS = some r) ∧ zp (kq ≤ kj113) ∧ zp (Kd.R (Kd.int .i64) 3 wc w.heap.size (fun k_ => some k_ ≠ ((.slice bq cV.length bp) : Value).ownBlock ∧ some k_ ≠ ((.slice bo cX.length bl) : Value).ownBlock ∧ some k_ ≠ ((.slice bj an.length bf) : Value).ownBlock ∧ some k_ ≠ (cl : Value).ownBlock) ba aM) ∧ zp (Kd.R (Kd.int .i64) 3 wc w.heap.size (fun k_ => some k_ ≠ (ba : Value).ownBlock ∧ some k_ ≠ ((.slice bo cX.length bl) : Value).ownBlock ∧ some k_ ≠ ((.slice bj an.length bf) : Value).ownBlock ∧ some k_ ≠ (cl : Value).ownBlock) (.slice bq cV.length bp) cV) ∧ zp (Kd.R (Kd.int .i64) 3 wc w.heap.size (fun k_ => some k_ ≠ (ba : Value).ownBlock ∧ some k_ ≠ ((.slice bq cV.length bp) : Value).ownBlock ∧ some k_ ≠ ((.slice bj an.length bf) : Value).ownBlock ∧ some k_ ≠ (cl : Value).ownBlock) (.slice bo cX.length bl) cX) ∧ zp (Kd.R (Kd.int .i64) 3 wc w.heap.size (fun k_ => some k_ ≠ (ba : Value).ownBlock ∧ some k_ ≠ ((.slice bq cV.length bp) : Value).ownBlock ∧ some k_ ≠ ((.slice bo cX.length bl) : Value).ownBlock ∧ some k_ ≠ (cl : Value).ownBlock) (.slice bj an.length bf) cS) ∧ zp (Kd.R (Kd.int .i64) 3 wc w.heap.size (fun k_ => some k_ ≠ (ba : Value).ownBlock ∧ some k_ ≠ ((.slice bq cV.length bp) : Value).ownBlock ∧ some k_ ≠ ((.slice bo cX.length bl) : Value).ownBlock ∧ some k_ ≠ ((.slice bj an.length bf) : Value).ownBlock) cl dy) ∧ zp (wc.heap[bc]? = some (.cells #[.int .i64 ag, .int .i64 ac, .int .u64 ad, .int .i64 af, .int .i64 ae, (.slice ce y.length cf)] 27 (0, 0))) ∧ zp (wc.heap[bi]? = some (.cells #[.int .i64 al, .int .i64 aj, .int .u64 ai, .int .i64 ah, .int .i64 ak, (.slice cq ab.length co)] 27 (0, 0))) ∧ zp (wc.heap[am]? = some (.cells #[.int .i64 az, .int .i64 aA, .int .u64 aC, .int .i64 aD, .int .i64 aG, ba] 32 (0, 0))) ∧ zp (wc.heap[ax]? = some (.cells #[.int .i64 bA, .int .i64 bC, .int .u64 bG, .int .i64 bN, .int .i64 bP, (.slice bq cV.length bp)] 32 (0, 0))) ∧ zp (wc.heap[u]? = some (.cells #[.int .i64 bw, .int .i64 bx, .int .u64 bB, .int .i64 bD, .int .i64 bI, (.slice bo cX.length bl)] 32 (0, 0))) ∧ zp (wc.heap[q]? = some (.cells #[.int .i64 aq, .int .i64 ar, .int .u64 au, .int .i64 aw, .int .i64 ay, (.slice bj an.length bf)] 32 (0, 0))) ∧ zp (wc.heap[s]? = some (.cells #[.int .i64 cL, .int .i64 cQ, .int .u64 cT, .int .i64 cW, .int .i64 da, cl] 32 (0, 0))) ∧ zp (Below w.heap.size w wc))
             case first =>
              have H := e7.out
              clear e7
              replace H := zs4 H
              obtain ⟨dA, gD, H⟩ := H
              replace H : (if dA = true then (laws_FnExactAggJoin.j2 kj113 cK (dB != aN) aq ar au aw ay cS) else (laws_FnExactAggJoin.j2 kj113 cK true aq ar au aw ay cS)) = some r := H
              have ji := zp.mk gD
              clear gD
              by_cases eS : dA = true
              ·subst eS
               have H1 : (laws_FnExactAggJoin.j2 kj113 cK (dB != aN) aq ar au aw ay cS) = some r := by rw [if_pos rfl] at H; exact H
               clear H
               have H := H1
               clear H1
               have H' := zp.mk H
               clear H
               have p0 := cx.out
               have oW := bR.out
               have qw := cy.out
               have pp := bY.out
               have rs := cB.out
               have pH := bS.out
               have oV := cA.out
               have o7 := bT.out
               have pS := cv.out
               have qR := bQ.out
               have qJ := cm.out
               have o3 := bF.out
               have g9 := zt0 bb.out
               have hP := zt1 bb.out
               have gK := zt2 bb.out
               have iL := zt3 bb.out
               have ix := zt4 bb.out
               have hM := zt5 bb.out
               have hZ := zd bb.out 0
               have ht := zd bb.out 1
               have hF := zd bb.out 2
               have hE := zd bb.out 3
               have h6 := zd bb.out 4
               have iM := zd bb.out 5
               have o9 := b4.out
               have re := bg.out
               have pF := b5.out
               have pG := bh.out
               have q9 := cn.out
               have p4 := dh.out
               have o6 := cp.out
               have qW := de.out
               have qZ := bz.out
               have qK := cU.out
               have iY := zt0 U.out
               have g8 := zt1 U.out
               have i3 := zt2 U.out
               have iC := zt3 U.out
               have hV := zt4 U.out
               have gU := zt5 U.out
               have gX := zd U.out 0
               have hG := zd U.out 1
               have hv := zd U.out 2
               have gQ := zd U.out 3
               have hc := zd U.out 4
               have g6 := zd U.out 5
               obtain ⟨j6, k1, kC⟩ := Kd.R_slice ck.out
               subst kC
               obtain ⟨k9, lq, jN⟩ := Kd.R_slice G.out
               subst jN
               go_wp2_with (first | ((with_reducible refine zn (f := 12) rfl ?_); refine goesL_ (some 104) rfl rfl Try.func12 (by kernel_rfl) rfl #[.agg #[.int .i64 cL, .int .i64 cQ, .int .u64 cT, .int .i64 cW, .int .i64 da, .slice j6 dy.length k1], .agg #[.int .i64 az, .int .i64 aA, .int .u64 aC, .int .i64 aD, .int .i64 aG, .slice k9 aM.length lq]] rfl (by (try simp only [List.map_toArray, List.map_cons, List.map_nil]); first | done | rfl | (simp only [List.length_drop, List.length_take]; rfl)) ?_; (with_reducible refine (laws_eqAgg.calls kj113 cL cQ cT cW da _ _ dy az aA aC aD aG _ _ aM true _ ?side1 ?side2 ?side3 ?side4 ji.out).mono ?_); (case side1 => repeat (first | exact (Kd.R_reads' ck.out).2.2 | (with_reducible refine Kd.zr ?_ _) | (with_reducible refine Kd.zq ?_ _) | (with_reducible refine Kd.C_drew ?_))); (case side2 => exact (Kd.R_reads' ck.out).2.1); (case side3 => repeat (first | exact (Kd.R_reads' G.out).2.2 | (with_reducible refine Kd.zr ?_ _) | (with_reducible refine Kd.zq ?_ _) | (with_reducible refine Kd.C_drew ?_))); (case side4 => exact (Kd.R_reads' G.out).2.1); rintro e tu ⟨rfl, hb⟩; refine ⟨_, rfl, ?_⟩; replace G := zp.mk (Kd.R_below (by (with_reducible repeat (first | apply Kd.R_alloc | apply Kd.R_drewN | apply Kd.R_drew)); first | exact G.out | exact Kd.R_mono G.out (fun _ h => by simp [h])) hb); replace J := zp.mk (Kd.R_below (by (with_reducible repeat (first | apply Kd.R_alloc | apply Kd.R_drewN | apply Kd.R_drew)); first | exact J.out | exact Kd.R_mono J.out (fun _ h => by simp [h])) hb); replace I := zp.mk (Kd.R_below (by (with_reducible repeat (first | apply Kd.R_alloc | apply Kd.R_drewN | apply Kd.R_drew)); first | exact I.out | exact Kd.R_mono I.out (fun _ h => by simp [h])) hb); replace B := zp.mk (Kd.R_below (by (with_reducible repeat (first | apply Kd.R_alloc | apply Kd.R_drewN | apply Kd.R_drew)); first | exact B.out | exact Kd.R_mono B.out (fun _ h => by simp [h])) hb); replace cr := zp.mk (Kd.R_below (by (with_reducible repeat (first | apply Kd.R_alloc | apply Kd.R_drewN | apply Kd.R_drew)); first | exact cr.out | exact Kd.R_mono cr.out (fun _ h => by simp [h])) hb); replace cJ := zp.mk (Kd.R_below (by (with_reducible repeat (first | apply Kd.R_alloc | apply Kd.R_drewN | apply Kd.R_drew)); first | exact cJ.out | exact Kd.R_mono cJ.out (fun _ h => by simp [h])) hb); replace ck := zp.mk (Kd.R_below (by (with_reducible repeat (first | apply Kd.R_alloc | apply Kd.R_drewN | apply Kd.R_drew)); first | exact ck.out | exact Kd.R_mono ck.out (fun _ h => by simp [h])) hb); replace A := zp.mk (zl (zv8 A.out) hb); replace D := zp.mk (zl (zv8 D.out) hb); replace U := zp.mk (zl (zv8 U.out) hb); replace W := zp.mk (zl (zv8 W.out) hb); replace Y := zp.mk (zl (zv8 Y.out) hb); replace T := zp.mk (zl (zv8 T.out) hb); replace bb := zp.mk (zl (zv8 bb.out) hb); replace HB := zp.mk (zj (zv7 HB.out) hb); (try clear hb); (try clear hb2); (try clear hk); (try clear hi)))
               go_meet
               case rel => exact ⟨_, ((dB != aN)), (by first | rfl | (simp; done) | (simp [*]; done)), H', ⟨by have := eY.out; have := fA.out; first | omega | exact Nat.le_refl _⟩, ⟨by (try simp only [aa]); (try simp only [x]); (with_reducible repeat (first | apply Kd.R_alloc | apply Kd.R_drewN | apply Kd.R_drew)); exact Kd.R_mono (apart_sym G.out ck.out (fun _ h => by simp [h])) (fun _ h => by simp [h])⟩, ⟨by (try simp only [aa]); (try simp only [x]); (with_reducible repeat (first | apply Kd.R_alloc | apply Kd.R_drewN | apply Kd.R_drew)); exact Kd.R_mono (apart_sym J.out ck.out (fun _ h => by simp [h])) (fun _ h => by simp [h])⟩, ⟨by (try simp only [aa]); (try simp only [x]); (with_reducible repeat (first | apply Kd.R_alloc | apply Kd.R_drewN | apply Kd.R_drew)); exact Kd.R_mono (apart_sym I.out ck.out (fun _ h => by simp [h])) (fun _ h => by simp [h])⟩, ⟨by (try simp only [aa]); (try simp only [x]); (with_reducible repeat (first | apply Kd.R_alloc | apply Kd.R_drewN | apply Kd.R_drew)); exact Kd.R_mono (apart_sym B.out ck.out (fun _ h => by simp [h])) (fun _ h => by simp [h])⟩, ⟨by (try simp only [aa]); (try simp only [x]); (with_reducible repeat (first | apply Kd.R_alloc | apply Kd.R_drewN | apply Kd.R_drew)); exact Kd.R_mono ck.out (fun _ h => by simp [h])⟩, ⟨by (try simp only [aa]); (try simp only [x]); (with_reducible repeat (first | refine zf ?_ _ | refine zi ?_ | refine zg ?_ _)); exact A.out⟩, ⟨by (try simp only [aa]); (try simp only [x]); (with_reducible repeat (first | refine zf ?_ _ | refine zi ?_ | refine zg ?_ _)); exact D.out⟩, ⟨by (try simp only [aa]); (try simp only [x]); (with_reducible repeat (first | refine zf ?_ _ | refine zi ?_ | refine zg ?_ _)); exact U.out⟩, ⟨by (try simp only [aa]); (try simp only [x]); (with_reducible repeat (first | refine zf ?_ _ | refine zi ?_ | refine zg ?_ _)); exact W.out⟩, ⟨by (try simp only [aa]); (try simp only [x]); (with_reducible repeat (first | refine zf ?_ _ | refine zi ?_ | refine zg ?_ _)); exact Y.out⟩, ⟨by (try simp only [aa]); (try simp only [x]); (with_reducible repeat (first | refine zf ?_ _ | refine zi ?_ | refine zg ?_ _)); exact T.out⟩, ⟨by (try simp only [aa]); (try simp only [x]); (with_reducible repeat (first | refine zf ?_ _ | refine zi ?_ | refine zg ?_ _)); exact bb.out⟩, ⟨zv7 HB.out⟩⟩
              ·replace eS := Bool.eq_false_iff.mpr eS
               subst eS
               have H1 : (laws_FnExactAggJoin.j2 kj113 cK true aq ar au aw ay cS) = some r := by rw [if_neg (show ¬ (false = true) by decide)] at H; exact H
               clear H
               have H := H1
               clear H1
               have H' := zp.mk H
               clear H
               have pZ := cx.out
               have pT := bR.out
               have p9 := cy.out
               have qY := bY.out
               have ps := cB.out
               have qP := bS.out
               have qv := cA.out
               have py := bT.out
               have qQ := cv.out
               have pw := bQ.out
               have pV := cm.out
               have o0 := bF.out
               have iN := zt0 bb.out
               have iy := zt1 bb.out
               have hO := zt2 bb.out
               have iE := zt3 bb.out
               have hz := zt4 bb.out
               have i7 := zt5 bb.out
               have g5 := zd bb.out 0
               have iP := zd bb.out 1
               have iO := zd bb.out 2
               have h5 := zd bb.out 3
               have i5 := zd bb.out 4
               have gR := zd bb.out 5
               have qA := b4.out
               have pX := bg.out
               have qM := b5.out
               have pA := bh.out
               have pK := cn.out
               have pD := dh.out
               have qd := cp.out
               have ph := de.out
               have pQ := bz.out
               have qT := cU.out
               have hH := zt0 U.out
               have hm := zt1 U.out
               have gV := zt2 U.out
               have i6 := zt3 U.out
               have h9 := zt4 U.out
               have hJ := zt5 U.out
               have gP := zd U.out 0
               have hR := zd U.out 1
               have iw := zd U.out 2
               have iz := zd U.out 3
               have iU := zd U.out 4
               have iZ := zd U.out 5
               obtain ⟨mt, md, kB⟩ := Kd.R_slice ck.out
               subst kB
               obtain ⟨lu, jI, ka⟩ := Kd.R_slice G.out
               subst ka
               go_wp2_with (first | ((with_reducible refine zn (f := 12) rfl ?_); refine goesL_ (some 104) rfl rfl Try.func12 (by kernel_rfl) rfl #[.agg #[.int .i64 cL, .int .i64 cQ, .int .u64 cT, .int .i64 cW, .int .i64 da, .slice mt dy.length md], .agg #[.int .i64 az, .int .i64 aA, .int .u64 aC, .int .i64 aD, .int .i64 aG, .slice lu aM.length jI]] rfl (by (try simp only [List.map_toArray, List.map_cons, List.map_nil]); first | done | rfl | (simp only [List.length_drop, List.length_take]; rfl)) ?_; (with_reducible refine (laws_eqAgg.calls kj113 cL cQ cT cW da _ _ dy az aA aC aD aG _ _ aM false _ ?side1 ?side2 ?side3 ?side4 ji.out).mono ?_); (case side1 => repeat (first | exact (Kd.R_reads' ck.out).2.2 | (with_reducible refine Kd.zr ?_ _) | (with_reducible refine Kd.zq ?_ _) | (with_reducible refine Kd.C_drew ?_))); (case side2 => exact (Kd.R_reads' ck.out).2.1); (case side3 => repeat (first | exact (Kd.R_reads' G.out).2.2 | (with_reducible refine Kd.zr ?_ _) | (with_reducible refine Kd.zq ?_ _) | (with_reducible refine Kd.C_drew ?_))); (case side4 => exact (Kd.R_reads' G.out).2.1); rintro e tA ⟨rfl, hb⟩; refine ⟨_, rfl, ?_⟩; replace G := zp.mk (Kd.R_below (by (with_reducible repeat (first | apply Kd.R_alloc | apply Kd.R_drewN | apply Kd.R_drew)); first | exact G.out | exact Kd.R_mono G.out (fun _ h => by simp [h])) hb); replace J := zp.mk (Kd.R_below (by (with_reducible repeat (first | apply Kd.R_alloc | apply Kd.R_drewN | apply Kd.R_drew)); first | exact J.out | exact Kd.R_mono J.out (fun _ h => by simp [h])) hb); replace I := zp.mk (Kd.R_below (by (with_reducible repeat (first | apply Kd.R_alloc | apply Kd.R_drewN | apply Kd.R_drew)); first | exact I.out | exact Kd.R_mono I.out (fun _ h => by simp [h])) hb); replace B := zp.mk (Kd.R_below (by (with_reducible repeat (first | apply Kd.R_alloc | apply Kd.R_drewN | apply Kd.R_drew)); first | exact B.out | exact Kd.R_mono B.out (fun _ h => by simp [h])) hb); replace cr := zp.mk (Kd.R_below (by (with_reducible repeat (first | apply Kd.R_alloc | apply Kd.R_drewN | apply Kd.R_drew)); first | exact cr.out | exact Kd.R_mono cr.out (fun _ h => by simp [h])) hb); replace cJ := zp.mk (Kd.R_below (by (with_reducible repeat (first | apply Kd.R_alloc | apply Kd.R_drewN | apply Kd.R_drew)); first | exact cJ.out | exact Kd.R_mono cJ.out (fun _ h => by simp [h])) hb); replace ck := zp.mk (Kd.R_below (by (with_reducible repeat (first | apply Kd.R_alloc | apply Kd.R_drewN | apply Kd.R_drew)); first | exact ck.out | exact Kd.R_mono ck.out (fun _ h => by simp [h])) hb); replace A := zp.mk (zl (zv8 A.out) hb); replace D := zp.mk (zl (zv8 D.out) hb); replace U := zp.mk (zl (zv8 U.out) hb); replace W := zp.mk (zl (zv8 W.out) hb); replace Y := zp.mk (zl (zv8 Y.out) hb); replace T := zp.mk (zl (zv8 T.out) hb); replace bb := zp.mk (zl (zv8 bb.out) hb); replace HB := zp.mk (zj (zv7 HB.out) hb); (try clear hb); (try clear hb2); (try clear hk); (try clear hi)))
               go_meet
               case rel => exact ⟨_, (true), (by first | rfl | (simp; done) | (simp [*]; done)), H', ⟨by have := eY.out; have := fA.out; first | omega | exact Nat.le_refl _⟩, ⟨by (try simp only [aa]); (try simp only [x]); (with_reducible repeat (first | apply Kd.R_alloc | apply Kd.R_drewN | apply Kd.R_drew)); exact Kd.R_mono (apart_sym G.out ck.out (fun _ h => by simp [h])) (fun _ h => by simp [h])⟩, ⟨by (try simp only [aa]); (try simp only [x]); (with_reducible repeat (first | apply Kd.R_alloc | apply Kd.R_drewN | apply Kd.R_drew)); exact Kd.R_mono (apart_sym J.out ck.out (fun _ h => by simp [h])) (fun _ h => by simp [h])⟩, ⟨by (try simp only [aa]); (try simp only [x]); (with_reducible repeat (first | apply Kd.R_alloc | apply Kd.R_drewN | apply Kd.R_drew)); exact Kd.R_mono (apart_sym I.out ck.out (fun _ h => by simp [h])) (fun _ h => by simp [h])⟩, ⟨by (try simp only [aa]); (try simp only [x]); (with_reducible repeat (first | apply Kd.R_alloc | apply Kd.R_drewN | apply Kd.R_drew)); exact Kd.R_mono (apart_sym B.out ck.out (fun _ h => by simp [h])) (fun _ h => by simp [h])⟩, ⟨by (try simp only [aa]); (try simp only [x]); (with_reducible repeat (first | apply Kd.R_alloc | apply Kd.R_drewN | apply Kd.R_drew)); exact Kd.R_mono ck.out (fun _ h => by simp [h])⟩, ⟨by (try simp only [aa]); (try simp only [x]); (with_reducible repeat (first | refine zf ?_ _ | refine zi ?_ | refine zg ?_ _)); exact A.out⟩, ⟨by (try simp only [aa]); (try simp only [x]); (with_reducible repeat (first | refine zf ?_ _ | refine zi ?_ | refine zg ?_ _)); exact D.out⟩, ⟨by (try simp only [aa]); (try simp only [x]); (with_reducible repeat (first | refine zf ?_ _ | refine zi ?_ | refine zg ?_ _)); exact U.out⟩, ⟨by (try simp only [aa]); (try simp only [x]); (with_reducible repeat (first | refine zf ?_ _ | refine zi ?_ | refine zg ?_ _)); exact W.out⟩, ⟨by (try simp only [aa]); (try simp only [x]); (with_reducible repeat (first | refine zf ?_ _ | refine zi ?_ | refine zg ?_ _)); exact Y.out⟩, ⟨by (try simp only [aa]); (try simp only [x]); (with_reducible repeat (first | refine zf ?_ _ | refine zi ?_ | refine zg ?_ _)); exact T.out⟩, ⟨by (try simp only [aa]); (try simp only [x]); (with_reducible repeat (first | refine zf ?_ _ | refine zi ?_ | refine zg ?_ _)); exact bb.out⟩, ⟨zv7 HB.out⟩⟩
             case rest =>
              clear e7
              try clear c1
              try clear c2
              try clear p2
              try clear c12
              try clear c19
              try clear c20
              try clear c21
              try clear c22
              try clear eS
              try clear c200
              try clear c201
              try clear c202
              try clear c203
              try clear c204
              try clear c205
              try clear c207
              try clear c208
              try clear c209
              try clear c210
              try clear c211
              try clear c216
              try clear c217
              try clear c218
              try clear c219
              try clear c220
              try clear c221
              try clear c223
              try clear c224
              try clear c225
              try clear c226
              try clear c227
              try clear g9
              try clear hP
              try clear gK
              try clear iL
              try clear ix
              try clear hM
              try clear iY
              try clear g8
              try clear i3
              try clear iC
              try clear hV
              try clear gU
              try clear iN
              try clear iy
              try clear hO
              try clear iE
              try clear hz
              try clear i7
              try clear hH
              try clear hm
              try clear gV
              try clear i6
              try clear h9
              try clear hJ
              try clear hZ
              try clear ht
              try clear hF
              try clear hE
              try clear h6
              try clear iM
              try clear gX
              try clear hG
              try clear hv
              try clear gQ
              try clear hc
              try clear g6
              try clear g5
              try clear iP
              try clear iO
              try clear h5
              try clear i5
              try clear gR
              try clear gP
              try clear hR
              try clear iw
              try clear iz
              try clear iU
              try clear iZ
              obtain ⟨kq, dT, rfl, HA, su, G, J, I, B, dK, A, D, U, W, Y, T, bb, HB⟩ := hcut
              have b1 := (Kd.R_reads' B.out).1
              rw [b1] at B
              (try simp only [b1])
              (try simp only [b1] at A)
              (try simp only [b1] at D)
              (try simp only [b1] at U)
              (try simp only [b1] at W)
              (try simp only [b1] at Y)
              (try simp only [b1] at T)
              (try simp only [b1] at bb)
              (try simp only [b1] at G)
              (try simp only [b1] at J)
              (try simp only [b1] at I)
              (try simp only [b1] at dK)
              cases kq with
              | zero => exact absurd HA.out (by simp [laws_FnExactAggJoin.j2])
              | succ kj172 =>
               have H := HA.out
               clear HA
               simp only [laws_FnExactAggJoin.j2] at H
               by_cases fe : dT = true
               ·subst fe
                have H1 : (some false) = some r := by rw [if_pos rfl] at H; exact H
                clear H
                have H := H1
                clear H1
                exact absurd ((Option.some.inj H).trans hr_) (by decide)
               ·replace fe := Bool.eq_false_iff.mpr fe
                subst fe
                have H1 : ((laws_heldAgg.f kj172 aq ar au aw ay cS 1).bind fun dz => (if dz < 0 then (some false) else (if dz = cK then (some true) else (some false)))) = some r := by rw [if_neg (show ¬ (false = true) by decide)] at H; exact H
                clear H
                have H := H1
                clear H1
                replace H := zs4 H
                obtain ⟨dz, gj, H⟩ := H
                replace H : (if dz < 0 then (some false) else (if dz = cK then (some true) else (some false))) = some r := H
                have nQ := zp.mk gj
                clear gj
                by_cases eF : dz < 0
                ·rw [if_pos eF] at H
                 have hI : decide (dz < 0) = true := decide_eq_true eF
                 clear eF
                 exact absurd ((Option.some.inj H).trans hr_) (by decide)
                ·rw [if_neg eF] at H
                 have hI : decide (dz < 0) = false := decide_eq_false eF
                 clear eF
                 by_cases eh : dz = cK
                 ·rw [if_pos eh] at H
                  have h4 : (dz == cK) = true := beq_iff_eq.mpr eh
                  have hj : (dz != cK) = false := bne_eq_false_iff_eq.mpr eh
                  clear eh
                  obtain rfl := Option.some.inj H
                  have qu := dp.out
                  have pI := bW.out
                  have pO := dq.out
                  have pE := bX.out
                  have pt := cU.out
                  have pi := bz.out
                  have rt := dj.out
                  have q0 := bH.out
                  have qc := di.out
                  have q2 := bJ.out
                  have p5 := bF.out
                  have pe := cm.out
                  have q8 := zt0 T.out
                  have p7 := zt1 T.out
                  have pl := zt2 T.out
                  have qm := zt3 T.out
                  have rz := zt4 T.out
                  have qk := zt5 T.out
                  have qN := zd T.out 0
                  have qt := zd T.out 1
                  have pn := zd T.out 2
                  have pW := zd T.out 3
                  have pM := zd T.out 4
                  have rm := zd T.out 5
                  go_wp2_with (first | ((with_reducible refine zn (f := 24) rfl ?_); refine goesL_ (some 113) rfl rfl Try.func24 (by kernel_rfl) rfl #[.agg #[.int .i64 aq, .int .i64 ar, .int .u64 au, .int .i64 aw, .int .i64 ay, .slice bj cS.length bf], .int .i64 1] rfl (by (try simp only [List.map_toArray, List.map_cons, List.map_nil]); first | done | rfl | (simp only [List.length_drop, List.length_take]; rfl)) ?_; (with_reducible refine (laws_heldAgg.calls kj172 aq ar au aw ay _ _ cS 1 dz _ ?side1 ?side2 nQ.out).mono ?_); (case side1 => repeat (first | exact (Kd.R_reads' B.out).2.2 | (with_reducible refine Kd.zr ?_ _) | (with_reducible refine Kd.zq ?_ _) | (with_reducible refine Kd.C_drew ?_))); (case side2 => exact (Kd.R_reads' B.out).2.1); rintro e tT ⟨rfl, hb⟩; refine ⟨_, rfl, ?_⟩; replace G := zp.mk (Kd.R_below (by (with_reducible repeat (first | apply Kd.R_alloc | apply Kd.R_drewN | apply Kd.R_drew)); first | exact G.out | exact Kd.R_mono G.out (fun _ h => by simp [h])) hb); replace J := zp.mk (Kd.R_below (by (with_reducible repeat (first | apply Kd.R_alloc | apply Kd.R_drewN | apply Kd.R_drew)); first | exact J.out | exact Kd.R_mono J.out (fun _ h => by simp [h])) hb); replace I := zp.mk (Kd.R_below (by (with_reducible repeat (first | apply Kd.R_alloc | apply Kd.R_drewN | apply Kd.R_drew)); first | exact I.out | exact Kd.R_mono I.out (fun _ h => by simp [h])) hb); replace B := zp.mk (Kd.R_below (by (with_reducible repeat (first | apply Kd.R_alloc | apply Kd.R_drewN | apply Kd.R_drew)); first | exact B.out | exact Kd.R_mono B.out (fun _ h => by simp [h])) hb); replace dK := zp.mk (Kd.R_below (by (with_reducible repeat (first | apply Kd.R_alloc | apply Kd.R_drewN | apply Kd.R_drew)); first | exact dK.out | exact Kd.R_mono dK.out (fun _ h => by simp [h])) hb); replace A := zp.mk (zl (zv8 A.out) hb); replace D := zp.mk (zl (zv8 D.out) hb); replace U := zp.mk (zl (zv8 U.out) hb); replace W := zp.mk (zl (zv8 W.out) hb); replace Y := zp.mk (zl (zv8 Y.out) hb); replace T := zp.mk (zl (zv8 T.out) hb); replace bb := zp.mk (zl (zv8 bb.out) hb); replace HB := zp.mk (zj (zv7 HB.out) hb); (try clear hb); (try clear hb2); (try clear hk); (try clear hi)))
                  go_ret
                  exact ⟨by first | rfl | (simp [errW_none, errW_some] <;> rfl) | (simp [*, errW_none, errW_some] <;> rfl), zv7 HB.out⟩
                 ·rw [if_neg eh] at H
                  have h4 : (dz == cK) = false := beq_eq_false_iff_ne.mpr eh
                  have hj : (dz != cK) = true := bne_iff_ne.mpr eh
                  exact absurd ((Option.some.inj H).trans hr_) (by decide)
            ·rw [if_neg d9] at H
             have iK : (dt == cK) = false := beq_eq_false_iff_ne.mpr d9
             have hC : (dt != cK) = true := bne_iff_ne.mpr d9
             exact absurd ((Option.some.inj H).trans hr_) (by decide)
       ·replace e0 := Bool.eq_false_iff.mpr e0
        subst e0
        have H1 : (some false) = some r := by rw [if_neg (show ¬ (false = true) by decide)] at H; exact H
        clear H
        have H := H1
        clear H1
        exact absurd ((Option.some.inj H).trans hr_) (by decide)
      ·replace eV := Bool.eq_false_iff.mpr eV
       subst eV
       have H1 : (some false) = some r := by rw [if_neg (show ¬ (false = true) by decide)] at H; exact H
       clear H
       have H := H1
       clear H1
       exact absurd ((Option.some.inj H).trans hr_) (by decide)

end Go.Proofs.Ytnnahpmnkpmopaa.QFnExactAggJoin
