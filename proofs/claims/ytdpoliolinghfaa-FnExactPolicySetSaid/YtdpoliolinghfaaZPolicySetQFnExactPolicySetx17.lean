/- Proved: calls of the program come to the answers of the plain Lean functions that stand beside them. Each contract names its conditions. (Written by a program of this session, over the printer of the kit.) -/
import Derived.Test.YtdpoliolinghfaaZPolicySetQFnExactPolicySetx0
import Derived.Test.YtdpoliolinghfaaZPolicySetQFnExactPolicySetx1
import Derived.Test.YtdpoliolinghfaaZPolicySetQFnExactPolicySetx2
import Derived.Test.YtdpoliolinghfaaZPolicySetQFnExactPolicySetx8
import Derived.Test.YtdpoliolinghfaaZPolicySetQFnExactPolicySetx16
namespace Go.Proofs.Ytdpoliolinghfaa.QFnExactPolicySet
open Go.RowKit Go.Proofs.YtdpoliolinghfaaW.PrintWords Go.Proofs.YtdpoliolinghfaaW.PrintLast Go.Proofs.YtdpoliolinghfaaW.PrintMore
attribute [local go_sem] max2_int min2_int max_two min_two max_three min_three max_four min_four   -- for this text's walks alone
set_option linter.unusedVariables false
set_option linter.unusedSimpArgs false

/-! ### laws_FnExactPolicySet: function 16 -/
mutual
def laws_FnExactPolicySet.j0 : Nat → List (S56) → List (S58) → Bool → List (S58) → List (S58) → Bool → Bool → Int → List Int → Int → Int → Int → Int → Int → List Int → Option (Bool)
 | 0, _, _, _, _, _, _, _, _, _, _, _, _, _, _, _ => none
 | k + 1, x1, x8, x9, x11, x12, x13, x59, x330000, x330001, x331000, x331001, x331002, x331003, x353000, x353001 => if x59 = true then (some false) else ((laws_toLat.f k x330000 x330001).bind fun bt365 => ((laws_eqLat.f k x353000 x353001 bt365.1 bt365.2).bind fun t369 => (if t369 = true then ((laws_toPunctS.f k x1).bind fun t370 => ((laws_eqPunctS.f k x11 t370).bind fun t373 => (if t373 = true then ((laws_markLat.f k x353000 x353001 1).bind fun bt374 => ((laws_markPunctS.f k x11 bt374.1).bind fun bt376 => (if bt376.1 < 0 then (laws_FnExactPolicySet.j1 k x1 x8 x9 x12 true x330000 x330001 x331000 x331001 x331002 x331003) else ((laws_eqPunctS.f k x12 x8).bind fun t378 => (if t378 = true then (laws_FnExactPolicySet.j1 k x1 x8 x9 x12 (x13 != x9) x330000 x330001 x331000 x331001 x331002 x331003) else (laws_FnExactPolicySet.j1 k x1 x8 x9 x12 true x330000 x330001 x331000 x331001 x331002 x331003)))))) else (some false)))) else (some false))))
def laws_FnExactPolicySet.j1 : Nat → List (S56) → List (S58) → Bool → List (S58) → Bool → Int → List Int → Int → Int → Int → Int → Option (Bool)
 | 0, _, _, _, _, _, _, _, _, _, _, _ => none
 | k + 1, x1, x8, x9, x12, x88, x330000, x330001, x331000, x331001, x331002, x331003 => if x88 = true then (some false) else ((laws_markPunctS.f k x12 1).bind fun bt379 => ((laws_heldPunctS.f k bt379.2 1).bind fun t381 => (if t381 < 0 then (some false) else (if t381 = bt379.1 then ((laws_toLat.f k x330000 x330001).bind fun bt382 => ((laws_toPunctS.f k x1).bind fun t386 => ((laws_toPunct.f x331000 x331001 x331002 x331003).bind fun bt389 => ((impl_PolicySet.f k bt382.1 bt382.2 t386 bt389.1 bt389.2.1 bt389.2.2.1 bt389.2.2.2).bind fun bt393 => ((laws_eqPunctS.f k bt393.1 x8).bind fun t397 => (if t397 = true then (laws_FnExactPolicySet.j2 k bt379.2 bt379.1 (bt393.2 != x9)) else (laws_FnExactPolicySet.j2 k bt379.2 bt379.1 true))))))) else (some false)))))
def laws_FnExactPolicySet.j2 : Nat → List (S58) → Int → Bool → Option (Bool)
 | 0, _, _, _ => none
 | k + 1, x12, x15, x118 => if x118 = true then (some false) else ((laws_heldPunctS.f k x12 1).bind fun t398 => (if t398 < 0 then (some false) else (if t398 = x15 then (some true) else (some false))))
end
def laws_FnExactPolicySet.f (k : Nat) (a0_0 : Int) (l0_1 : List Int) (l1 : List (S56)) (a2_0 : Int) (a2_1 : Int) (a2_2 : Int) (a2_3 : Int) : Option (Bool) := (laws_szLat.f a0_0 l0_1 1048576).bind fun t331 => (if t331 < 0 then (some true) else ((laws_szPunctS.f l1 t331).bind fun t332 => (if t332 < 0 then (some true) else ((laws_toLat.f k a0_0 l0_1).bind fun bt333 => ((laws_toPunctS.f k l1).bind fun t337 => ((laws_toPunct.f a2_0 a2_1 a2_2 a2_3).bind fun bt340 => ((spec_PolicySet.f k bt333.1 bt333.2 t337 bt340.1 bt340.2.1 bt340.2.2.1 bt340.2.2.2).bind fun bt344 => ((laws_toLat.f k a0_0 l0_1).bind fun bt348 => ((laws_toPunctS.f k l1).bind fun t353 => ((laws_toPunct.f a2_0 a2_1 a2_2 a2_3).bind fun bt356 => ((impl_PolicySet.f k bt348.1 bt348.2 t353 bt356.1 bt356.2.1 bt356.2.2.1 bt356.2.2.2).bind fun bt360 => ((laws_eqPunctS.f k bt360.1 bt344.1).bind fun t364 => (if t364 = true then (laws_FnExactPolicySet.j0 k l1 bt344.1 bt344.2 t353 bt360.1 bt360.2 (bt360.2 != bt344.2) a0_0 l0_1 a2_0 a2_1 a2_2 a2_3 bt348.1 bt348.2) else (laws_FnExactPolicySet.j0 k l1 bt344.1 bt344.2 t353 bt360.1 bt360.2 true a0_0 l0_1 a2_0 a2_1 a2_2 a2_3 bt348.1 bt348.2))))))))))))))
def laws_FnExactPolicySet.T8 : Bool × List (List Nat × List Nat) := (true, [([], []), ([0], [0]), ([], []), ([2, 1], [2]), ([], []), ([4, 3], [4]), ([1, 3, 5, 5], [1, 3, 5]), ([6], [6]), ([7], [7]), ([7], [7]), ([8, 6, 0, 1, 2, 3, 4, 5, 6, 7, 8], [8]), ([9, 10, 0, 1, 2, 3, 4, 5, 6, 7, 8, 9, 10], [9])])
def laws_FnExactPolicySet.B8 : List Nat := [0, 1, 0, 7, 0, 31, 63, 127, 255, 255, 511, 2047]
theorem laws_FnExactPolicySet.tab8 : rtab .any (opsOf Try.f16 8) = laws_FnExactPolicySet.T8 := by kernel_rfl
theorem laws_FnExactPolicySet.bits8 : waitsOk laws_FnExactPolicySet.T8.2 laws_FnExactPolicySet.B8 = true := by kernel_rfl
def laws_FnExactPolicySet.T11 : Bool × List (List Nat × List Nat) := (true, [([], []), ([], []), ([], []), ([2], [2]), ([0, 1, 3, 3], [0, 1, 3]), ([4], [4]), ([5], [5]), ([5], [5]), ([6, 4, 0, 1, 2, 3, 4, 5, 6], [6]), ([7, 8, 0, 1, 2, 3, 4, 5, 6, 7, 8], [7])])
def laws_FnExactPolicySet.B11 : List Nat := [0, 0, 0, 4, 15, 31, 63, 63, 127, 511]
theorem laws_FnExactPolicySet.tab11 : rtab .any (opsOf Try.f16 11) = laws_FnExactPolicySet.T11 := by kernel_rfl
theorem laws_FnExactPolicySet.bits11 : waitsOk laws_FnExactPolicySet.T11.2 laws_FnExactPolicySet.B11 = true := by kernel_rfl
def laws_FnExactPolicySet.T31 : Bool × List (List Nat × List Nat) := (true, [([], []), ([0], [0]), ([], []), ([2, 1], [2]), ([], []), ([4, 3], [4]), ([1, 3, 5, 5], [1, 3, 5]), ([6], [6]), ([7], [7]), ([7], [7]), ([8, 6, 0, 1, 2, 3, 4, 5, 6, 7, 8], [8]), ([9, 10, 0, 1, 2, 3, 4, 5, 6, 7, 8, 9, 10], [9])])
def laws_FnExactPolicySet.B31 : List Nat := [0, 1, 0, 7, 0, 31, 63, 127, 255, 255, 511, 2047]
theorem laws_FnExactPolicySet.tab31 : rtab .any (opsOf Try.f16 31) = laws_FnExactPolicySet.T31 := by kernel_rfl
theorem laws_FnExactPolicySet.bits31 : waitsOk laws_FnExactPolicySet.T31.2 laws_FnExactPolicySet.B31 = true := by kernel_rfl
set_option maxHeartbeats 8000000 in
set_option maxRecDepth 100000 in
theorem laws_FnExactPolicySet.calls (k : Nat) (a0_0 : Int) (A0_1 : Option Addr) (c0_1 : Nat) (l0_1 : List Int) (A1 : Option Addr) (c1 : Nat) (l1 : List (S56)) (a2_0 : Int) (a2_1 : Int) (a2_2 : Int) (a2_3 : Int) (r : Bool) (w : World) (hr0_1 : Kd.C (Kd.int .u64) w A0_1 l0_1.length l0_1) (hc0_1 : l0_1.length ≤ c0_1) (hr1 : Kd.C k56 w A1 l1.length l1) (hc1 : l1.length ≤ c1) (hr_ : r = true) (h : laws_FnExactPolicySet.f k a0_0 l0_1 l1 a2_0 a2_1 a2_2 a2_3 = some r) :
  Calls Try.prog 16 #[.agg #[.int .i64 a0_0, .slice A0_1 l0_1.length c0_1], .slice A1 l1.length c1, .agg #[.int .i64 a2_0, .int .i64 a2_1, .int .i64 a2_2, .int .i64 a2_3]] w fun e w' => e = .returned (.bool r) ∧ Below w.heap.size w w' := by
 have hu24 := Try.underlying24
 have hu56 := Try.underlying56
 have hu27 := Try.underlying27
 have HR0_1 := zp.mk hr0_1
 have HC0_1 := zp.mk hc0_1
 clear hr0_1 hc0_1
 have HR1 := zp.mk hr1
 have HC1 := zp.mk hc1
 clear hr1 hc1
 have HB := zp.mk (Below.refl w.heap.size w)
 have H : ((laws_szLat.f a0_0 l0_1 1048576).bind fun t331 => (if t331 < 0 then (some true) else ((laws_szPunctS.f l1 t331).bind fun t332 => (if t332 < 0 then (some true) else ((laws_toLat.f k a0_0 l0_1).bind fun bt333 => ((laws_toPunctS.f k l1).bind fun t337 => ((laws_toPunct.f a2_0 a2_1 a2_2 a2_3).bind fun bt340 => ((spec_PolicySet.f k bt333.1 bt333.2 t337 bt340.1 bt340.2.1 bt340.2.2.1 bt340.2.2.2).bind fun bt344 => ((laws_toLat.f k a0_0 l0_1).bind fun bt348 => ((laws_toPunctS.f k l1).bind fun t353 => ((laws_toPunct.f a2_0 a2_1 a2_2 a2_3).bind fun bt356 => ((impl_PolicySet.f k bt348.1 bt348.2 t353 bt356.1 bt356.2.1 bt356.2.2.1 bt356.2.2.2).bind fun bt360 => ((laws_eqPunctS.f k bt360.1 bt344.1).bind fun t364 => (if t364 = true then (laws_FnExactPolicySet.j0 k l1 bt344.1 bt344.2 t353 bt360.1 bt360.2 (bt360.2 != bt344.2) a0_0 l0_1 a2_0 a2_1 a2_2 a2_3 bt348.1 bt348.2) else (laws_FnExactPolicySet.j0 k l1 bt344.1 bt344.2 t353 bt360.1 bt360.2 true a0_0 l0_1 a2_0 a2_1 a2_2 a2_3 bt348.1 bt348.2))))))))))))))) = some r := h
 clear h
 replace H := zs4 H
 obtain ⟨t331, A40, H⟩ := H
 replace H : (if t331 < 0 then (some true) else ((laws_szPunctS.f l1 t331).bind fun t332 => (if t332 < 0 then (some true) else ((laws_toLat.f k a0_0 l0_1).bind fun bt333 => ((laws_toPunctS.f k l1).bind fun t337 => ((laws_toPunct.f a2_0 a2_1 a2_2 a2_3).bind fun bt340 => ((spec_PolicySet.f k bt333.1 bt333.2 t337 bt340.1 bt340.2.1 bt340.2.2.1 bt340.2.2.2).bind fun bt344 => ((laws_toLat.f k a0_0 l0_1).bind fun bt348 => ((laws_toPunctS.f k l1).bind fun t353 => ((laws_toPunct.f a2_0 a2_1 a2_2 a2_3).bind fun bt356 => ((impl_PolicySet.f k bt348.1 bt348.2 t353 bt356.1 bt356.2.1 bt356.2.2.1 bt356.2.2.2).bind fun bt360 => ((laws_eqPunctS.f k bt360.1 bt344.1).bind fun t364 => (if t364 = true then (laws_FnExactPolicySet.j0 k l1 bt344.1 bt344.2 t353 bt360.1 bt360.2 (bt360.2 != bt344.2) a0_0 l0_1 a2_0 a2_1 a2_2 a2_3 bt348.1 bt348.2) else (laws_FnExactPolicySet.j0 k l1 bt344.1 bt344.2 t353 bt360.1 bt360.2 true a0_0 l0_1 a2_0 a2_1 a2_2 a2_3 bt348.1 bt348.2)))))))))))))) = some r := H
 have A4 := zp.mk A40
 clear A40
 by_cases c5 : t331 < 0
 ·rw [if_pos c5] at H
  have c5b0 : decide (t331 < 0) = true := decide_eq_true c5
  clear c5
  obtain rfl := Option.some.inj H
  go_enter Try.func16, Try.ntmps16
  go_wp2_with (first | ((with_reducible refine zo (N := 3) rfl ?_); refine zm ?hg (N := 3) ?hd (cs := #[.int .i64 a0_0, .slice A0_1 l0_1.length c0_1]) (t := 24) ?hr ?_; (case hd => rfl); (case hg => rfl); (case hr => first | (go_simp; done) | (go_simp; rfl)); intro gb329 hg w6 hbox hb; have BK329 := zp.mk (hbox); have GW329 := zp.mk ((zv3 (zv6 HB.out) hg)); have GE329 := zp.mk ((zv3 (zv6 HB.out) hg)); replace HB := zp.mk (zj (zv6 HB.out) hb); clear hb hbox hg) | ((with_reducible refine zo (N := 5) rfl ?_); refine zm ?hg (N := 5) ?hd (cs := #[.int .i64 a2_0, .int .i64 a2_1, .int .i64 a2_2, .int .i64 a2_3]) (t := 56) ?hr ?_; (case hd => rfl); (case hg => rfl); (case hr => first | (go_simp; done) | (go_simp; rfl)); intro gb330 hg w7 hbox hb; have BK330 := zp.mk (hbox); have GW330 := zp.mk ((zv3 (zv7 HB.out) hg)); have GE330 := zp.mk ((zv3 (zv7 HB.out) hg)); have NB329_330 := zp.mk ((by rw [hg]; exact Nat.ne_of_lt (blk_lt (g := gb329) (o := .cells #[.int .i64 a0_0, .slice A0_1 l0_1.length c0_1] 24 (0, 0)) (zv8 BK329.out)) : gb329 ≠ gb330)); have NB330_329 := zp.mk ((by rw [hg]; exact Nat.ne_of_gt (blk_lt (g := gb329) (o := .cells #[.int .i64 a0_0, .slice A0_1 l0_1.length c0_1] 24 (0, 0)) (zv8 BK329.out)) : gb330 ≠ gb329)); replace BK329 := zp.mk (zl (zv8 BK329.out) hb); replace HB := zp.mk (zj (zv7 HB.out) hb); clear hb hbox hg; have hnb8 := NB329_330.out; have hnc8 := NB330_329.out; have y9_0 := zt0 BK329.out; have y9_1 := zt1 BK329.out; have u9_0 := zd BK329.out 0; have u9_1 := zd BK329.out 1) | ((with_reducible refine zn (f := 17) rfl ?_); refine goesL_ (some 21) rfl rfl Try.func17 (by kernel_rfl) rfl #[.agg #[.int .i64 a0_0, .slice A0_1 l0_1.length c0_1], .int .i64 1048576] rfl (by (try simp only [List.map_toArray, List.map_cons, List.map_nil]); first | done | rfl | (simp only [List.length_drop, List.length_take]; rfl)) ?_; (with_reducible refine (laws_szLat.calls a0_0 _ _ l0_1 1048576 t331 _ ?side1 ?side2 A4.out).mono ?_); (case side1 => repeat (first | exact (Kd.zt HR0_1.out HB.out) | (with_reducible refine Kd.zr ?_ _) | (with_reducible refine Kd.zq ?_ _) | (with_reducible refine Kd.C_drew ?_))); (case side2 => exact HC0_1.out); rintro e w10 ⟨rfl, hb⟩; refine ⟨_, rfl, ?_⟩; replace BK329 := zp.mk (zl (zv8 BK329.out) hb); replace BK330 := zp.mk (zl (zv8 BK330.out) hb); replace HB := zp.mk (zj (zv7 HB.out) hb); (try clear hb); (try clear hb2); (try clear hk); (try clear hi)))
  go_ret
  exact ⟨by first | rfl | (simp [errW_none, errW_some] <;> rfl) | (simp [*, errW_none, errW_some] <;> rfl), zv7 HB.out⟩
 ·rw [if_neg c5] at H
  have c5b0 : decide (t331 < 0) = false := decide_eq_false c5
  clear c5
  replace H := zs4 H
  obtain ⟨t332, A110, H⟩ := H
  replace H : (if t332 < 0 then (some true) else ((laws_toLat.f k a0_0 l0_1).bind fun bt333 => ((laws_toPunctS.f k l1).bind fun t337 => ((laws_toPunct.f a2_0 a2_1 a2_2 a2_3).bind fun bt340 => ((spec_PolicySet.f k bt333.1 bt333.2 t337 bt340.1 bt340.2.1 bt340.2.2.1 bt340.2.2.2).bind fun bt344 => ((laws_toLat.f k a0_0 l0_1).bind fun bt348 => ((laws_toPunctS.f k l1).bind fun t353 => ((laws_toPunct.f a2_0 a2_1 a2_2 a2_3).bind fun bt356 => ((impl_PolicySet.f k bt348.1 bt348.2 t353 bt356.1 bt356.2.1 bt356.2.2.1 bt356.2.2.2).bind fun bt360 => ((laws_eqPunctS.f k bt360.1 bt344.1).bind fun t364 => (if t364 = true then (laws_FnExactPolicySet.j0 k l1 bt344.1 bt344.2 t353 bt360.1 bt360.2 (bt360.2 != bt344.2) a0_0 l0_1 a2_0 a2_1 a2_2 a2_3 bt348.1 bt348.2) else (laws_FnExactPolicySet.j0 k l1 bt344.1 bt344.2 t353 bt360.1 bt360.2 true a0_0 l0_1 a2_0 a2_1 a2_2 a2_3 bt348.1 bt348.2)))))))))))) = some r := H
  have A11 := zp.mk A110
  clear A110
  by_cases c12 : t332 < 0
  ·rw [if_pos c12] at H
   have c12b0 : decide (t332 < 0) = true := decide_eq_true c12
   clear c12
   obtain rfl := Option.some.inj H
   go_enter Try.func16, Try.ntmps16
   go_wp2_with (first | ((with_reducible refine zo (N := 3) rfl ?_); refine zm ?hg (N := 3) ?hd (cs := #[.int .i64 a0_0, .slice A0_1 l0_1.length c0_1]) (t := 24) ?hr ?_; (case hd => rfl); (case hg => rfl); (case hr => first | (go_simp; done) | (go_simp; rfl)); intro gb329 hg w13 hbox hb; have BK329 := zp.mk (hbox); have GW329 := zp.mk ((zv3 (zv6 HB.out) hg)); have GE329 := zp.mk ((zv3 (zv6 HB.out) hg)); replace HB := zp.mk (zj (zv6 HB.out) hb); clear hb hbox hg) | ((with_reducible refine zo (N := 5) rfl ?_); refine zm ?hg (N := 5) ?hd (cs := #[.int .i64 a2_0, .int .i64 a2_1, .int .i64 a2_2, .int .i64 a2_3]) (t := 56) ?hr ?_; (case hd => rfl); (case hg => rfl); (case hr => first | (go_simp; done) | (go_simp; rfl)); intro gb330 hg w14 hbox hb; have BK330 := zp.mk (hbox); have GW330 := zp.mk ((zv3 (zv7 HB.out) hg)); have GE330 := zp.mk ((zv3 (zv7 HB.out) hg)); have NB329_330 := zp.mk ((by rw [hg]; exact Nat.ne_of_lt (blk_lt (g := gb329) (o := .cells #[.int .i64 a0_0, .slice A0_1 l0_1.length c0_1] 24 (0, 0)) (zv8 BK329.out)) : gb329 ≠ gb330)); have NB330_329 := zp.mk ((by rw [hg]; exact Nat.ne_of_gt (blk_lt (g := gb329) (o := .cells #[.int .i64 a0_0, .slice A0_1 l0_1.length c0_1] 24 (0, 0)) (zv8 BK329.out)) : gb330 ≠ gb329)); replace BK329 := zp.mk (zl (zv8 BK329.out) hb); replace HB := zp.mk (zj (zv7 HB.out) hb); clear hb hbox hg; have hnb15 := NB329_330.out; have hnc15 := NB330_329.out; have y16_0 := zt0 BK329.out; have y16_1 := zt1 BK329.out; have u16_0 := zd BK329.out 0; have u16_1 := zd BK329.out 1) | ((with_reducible refine zn (f := 17) rfl ?_); refine goesL_ (some 21) rfl rfl Try.func17 (by kernel_rfl) rfl #[.agg #[.int .i64 a0_0, .slice A0_1 l0_1.length c0_1], .int .i64 1048576] rfl (by (try simp only [List.map_toArray, List.map_cons, List.map_nil]); first | done | rfl | (simp only [List.length_drop, List.length_take]; rfl)) ?_; (with_reducible refine (laws_szLat.calls a0_0 _ _ l0_1 1048576 t331 _ ?side1 ?side2 A4.out).mono ?_); (case side1 => repeat (first | exact (Kd.zt HR0_1.out HB.out) | (with_reducible refine Kd.zr ?_ _) | (with_reducible refine Kd.zq ?_ _) | (with_reducible refine Kd.C_drew ?_))); (case side2 => exact HC0_1.out); rintro e w17 ⟨rfl, hb⟩; refine ⟨_, rfl, ?_⟩; replace BK329 := zp.mk (zl (zv8 BK329.out) hb); replace BK330 := zp.mk (zl (zv8 BK330.out) hb); replace HB := zp.mk (zj (zv7 HB.out) hb); (try clear hb); (try clear hb2); (try clear hk); (try clear hi)) | ((with_reducible refine zn (f := 52) rfl ?_); refine goesL_ (some 26) rfl rfl Try.func52 (by kernel_rfl) rfl #[.slice A1 l1.length c1, .int .i64 t331] rfl (by (try simp only [List.map_toArray, List.map_cons, List.map_nil]); first | done | rfl | (simp only [List.length_drop, List.length_take]; rfl)) ?_; (with_reducible refine (laws_szPunctS.calls _ _ l1 t331 t332 _ ?side1 ?side2 A11.out).mono ?_); (case side1 => repeat (first | exact (Kd.zt HR1.out HB.out) | (with_reducible refine Kd.zr ?_ _) | (with_reducible refine Kd.zq ?_ _) | (with_reducible refine Kd.C_drew ?_))); (case side2 => exact HC1.out); rintro e w' ⟨rfl, ⟨nd, rfl⟩⟩; refine ⟨_, rfl, ?_⟩))
   go_ret
   exact ⟨by first | rfl | (simp [errW_none, errW_some] <;> rfl) | (simp [*, errW_none, errW_some] <;> rfl), zv7 HB.out⟩
  ·rw [if_neg c12] at H
   have c12b0 : decide (t332 < 0) = false := decide_eq_false c12
   clear c12
   replace H := zs4 H
   obtain ⟨⟨t333, t334⟩, A180, H⟩ := H
   replace H : ((laws_toPunctS.f k l1).bind fun t337 => ((laws_toPunct.f a2_0 a2_1 a2_2 a2_3).bind fun bt340 => ((spec_PolicySet.f k t333 t334 t337 bt340.1 bt340.2.1 bt340.2.2.1 bt340.2.2.2).bind fun bt344 => ((laws_toLat.f k a0_0 l0_1).bind fun bt348 => ((laws_toPunctS.f k l1).bind fun t353 => ((laws_toPunct.f a2_0 a2_1 a2_2 a2_3).bind fun bt356 => ((impl_PolicySet.f k bt348.1 bt348.2 t353 bt356.1 bt356.2.1 bt356.2.2.1 bt356.2.2.2).bind fun bt360 => ((laws_eqPunctS.f k bt360.1 bt344.1).bind fun t364 => (if t364 = true then (laws_FnExactPolicySet.j0 k l1 bt344.1 bt344.2 t353 bt360.1 bt360.2 (bt360.2 != bt344.2) a0_0 l0_1 a2_0 a2_1 a2_2 a2_3 bt348.1 bt348.2) else (laws_FnExactPolicySet.j0 k l1 bt344.1 bt344.2 t353 bt360.1 bt360.2 true a0_0 l0_1 a2_0 a2_1 a2_2 a2_3 bt348.1 bt348.2)))))))))) = some r := H
   have A18 := zp.mk A180
   clear A180
   replace H := zs4 H
   obtain ⟨t337, A190, H⟩ := H
   replace H : ((laws_toPunct.f a2_0 a2_1 a2_2 a2_3).bind fun bt340 => ((spec_PolicySet.f k t333 t334 t337 bt340.1 bt340.2.1 bt340.2.2.1 bt340.2.2.2).bind fun bt344 => ((laws_toLat.f k a0_0 l0_1).bind fun bt348 => ((laws_toPunctS.f k l1).bind fun t353 => ((laws_toPunct.f a2_0 a2_1 a2_2 a2_3).bind fun bt356 => ((impl_PolicySet.f k bt348.1 bt348.2 t353 bt356.1 bt356.2.1 bt356.2.2.1 bt356.2.2.2).bind fun bt360 => ((laws_eqPunctS.f k bt360.1 bt344.1).bind fun t364 => (if t364 = true then (laws_FnExactPolicySet.j0 k l1 bt344.1 bt344.2 t353 bt360.1 bt360.2 (bt360.2 != bt344.2) a0_0 l0_1 a2_0 a2_1 a2_2 a2_3 bt348.1 bt348.2) else (laws_FnExactPolicySet.j0 k l1 bt344.1 bt344.2 t353 bt360.1 bt360.2 true a0_0 l0_1 a2_0 a2_1 a2_2 a2_3 bt348.1 bt348.2))))))))) = some r := H
   have A19 := zp.mk A190
   clear A190
   replace H := zs4 H
   obtain ⟨⟨t340, t341, t342, t343⟩, A200, H⟩ := H
   replace H : ((spec_PolicySet.f k t333 t334 t337 t340 t341 t342 t343).bind fun bt344 => ((laws_toLat.f k a0_0 l0_1).bind fun bt348 => ((laws_toPunctS.f k l1).bind fun t353 => ((laws_toPunct.f a2_0 a2_1 a2_2 a2_3).bind fun bt356 => ((impl_PolicySet.f k bt348.1 bt348.2 t353 bt356.1 bt356.2.1 bt356.2.2.1 bt356.2.2.2).bind fun bt360 => ((laws_eqPunctS.f k bt360.1 bt344.1).bind fun t364 => (if t364 = true then (laws_FnExactPolicySet.j0 k l1 bt344.1 bt344.2 t353 bt360.1 bt360.2 (bt360.2 != bt344.2) a0_0 l0_1 a2_0 a2_1 a2_2 a2_3 bt348.1 bt348.2) else (laws_FnExactPolicySet.j0 k l1 bt344.1 bt344.2 t353 bt360.1 bt360.2 true a0_0 l0_1 a2_0 a2_1 a2_2 a2_3 bt348.1 bt348.2)))))))) = some r := H
   have A20 := zp.mk A200
   clear A200
   replace H := zs4 H
   obtain ⟨⟨t344, t347⟩, A210, H⟩ := H
   replace H : ((laws_toLat.f k a0_0 l0_1).bind fun bt348 => ((laws_toPunctS.f k l1).bind fun t353 => ((laws_toPunct.f a2_0 a2_1 a2_2 a2_3).bind fun bt356 => ((impl_PolicySet.f k bt348.1 bt348.2 t353 bt356.1 bt356.2.1 bt356.2.2.1 bt356.2.2.2).bind fun bt360 => ((laws_eqPunctS.f k bt360.1 t344).bind fun t364 => (if t364 = true then (laws_FnExactPolicySet.j0 k l1 t344 t347 t353 bt360.1 bt360.2 (bt360.2 != t347) a0_0 l0_1 a2_0 a2_1 a2_2 a2_3 bt348.1 bt348.2) else (laws_FnExactPolicySet.j0 k l1 t344 t347 t353 bt360.1 bt360.2 true a0_0 l0_1 a2_0 a2_1 a2_2 a2_3 bt348.1 bt348.2))))))) = some r := H
   have A21 := zp.mk A210
   clear A210
   replace H := zs4 H
   obtain ⟨⟨t348, t349⟩, A220, H⟩ := H
   replace H : ((laws_toPunctS.f k l1).bind fun t353 => ((laws_toPunct.f a2_0 a2_1 a2_2 a2_3).bind fun bt356 => ((impl_PolicySet.f k t348 t349 t353 bt356.1 bt356.2.1 bt356.2.2.1 bt356.2.2.2).bind fun bt360 => ((laws_eqPunctS.f k bt360.1 t344).bind fun t364 => (if t364 = true then (laws_FnExactPolicySet.j0 k l1 t344 t347 t353 bt360.1 bt360.2 (bt360.2 != t347) a0_0 l0_1 a2_0 a2_1 a2_2 a2_3 t348 t349) else (laws_FnExactPolicySet.j0 k l1 t344 t347 t353 bt360.1 bt360.2 true a0_0 l0_1 a2_0 a2_1 a2_2 a2_3 t348 t349)))))) = some r := H
   have A22 := zp.mk A220
   clear A220
   replace H := zs4 H
   obtain ⟨t353, A230, H⟩ := H
   replace H : ((laws_toPunct.f a2_0 a2_1 a2_2 a2_3).bind fun bt356 => ((impl_PolicySet.f k t348 t349 t353 bt356.1 bt356.2.1 bt356.2.2.1 bt356.2.2.2).bind fun bt360 => ((laws_eqPunctS.f k bt360.1 t344).bind fun t364 => (if t364 = true then (laws_FnExactPolicySet.j0 k l1 t344 t347 t353 bt360.1 bt360.2 (bt360.2 != t347) a0_0 l0_1 a2_0 a2_1 a2_2 a2_3 t348 t349) else (laws_FnExactPolicySet.j0 k l1 t344 t347 t353 bt360.1 bt360.2 true a0_0 l0_1 a2_0 a2_1 a2_2 a2_3 t348 t349))))) = some r := H
   have A23 := zp.mk A230
   clear A230
   replace H := zs4 H
   obtain ⟨⟨t356, t357, t358, t359⟩, A240, H⟩ := H
   replace H : ((impl_PolicySet.f k t348 t349 t353 t356 t357 t358 t359).bind fun bt360 => ((laws_eqPunctS.f k bt360.1 t344).bind fun t364 => (if t364 = true then (laws_FnExactPolicySet.j0 k l1 t344 t347 t353 bt360.1 bt360.2 (bt360.2 != t347) a0_0 l0_1 a2_0 a2_1 a2_2 a2_3 t348 t349) else (laws_FnExactPolicySet.j0 k l1 t344 t347 t353 bt360.1 bt360.2 true a0_0 l0_1 a2_0 a2_1 a2_2 a2_3 t348 t349)))) = some r := H
   have A24 := zp.mk A240
   clear A240
   replace H := zs4 H
   obtain ⟨⟨t360, t363⟩, A250, H⟩ := H
   replace H : ((laws_eqPunctS.f k t360 t344).bind fun t364 => (if t364 = true then (laws_FnExactPolicySet.j0 k l1 t344 t347 t353 t360 t363 (t363 != t347) a0_0 l0_1 a2_0 a2_1 a2_2 a2_3 t348 t349) else (laws_FnExactPolicySet.j0 k l1 t344 t347 t353 t360 t363 true a0_0 l0_1 a2_0 a2_1 a2_2 a2_3 t348 t349))) = some r := H
   have A25 := zp.mk A250
   clear A250
   have HC26 := zp.mk H
   clear H
   go_enter Try.func16, Try.ntmps16
   try go_wp2_with (first | ((with_reducible refine zo (N := 3) rfl ?_); refine zm ?hg (N := 3) ?hd (cs := #[.int .i64 a0_0, .slice A0_1 l0_1.length c0_1]) (t := 24) ?hr ?_; (case hd => rfl); (case hg => rfl); (case hr => first | (go_simp; done) | (go_simp; rfl)); intro gb329 hg w27 hbox hb; have BK329 := zp.mk (hbox); have GW329 := zp.mk ((zv3 (zv6 HB.out) hg)); have GE329 := zp.mk ((zv3 (zv6 HB.out) hg)); replace HB := zp.mk (zj (zv6 HB.out) hb); clear hb hbox hg) | ((with_reducible refine zo (N := 5) rfl ?_); refine zm ?hg (N := 5) ?hd (cs := #[.int .i64 a2_0, .int .i64 a2_1, .int .i64 a2_2, .int .i64 a2_3]) (t := 56) ?hr ?_; (case hd => rfl); (case hg => rfl); (case hr => first | (go_simp; done) | (go_simp; rfl)); intro gb330 hg w28 hbox hb; have BK330 := zp.mk (hbox); have GW330 := zp.mk ((zv3 (zv7 HB.out) hg)); have GE330 := zp.mk ((zv3 (zv7 HB.out) hg)); have NB329_330 := zp.mk ((by rw [hg]; exact Nat.ne_of_lt (blk_lt (g := gb329) (o := .cells #[.int .i64 a0_0, .slice A0_1 l0_1.length c0_1] 24 (0, 0)) (zv8 BK329.out)) : gb329 ≠ gb330)); have NB330_329 := zp.mk ((by rw [hg]; exact Nat.ne_of_gt (blk_lt (g := gb329) (o := .cells #[.int .i64 a0_0, .slice A0_1 l0_1.length c0_1] 24 (0, 0)) (zv8 BK329.out)) : gb330 ≠ gb329)); replace BK329 := zp.mk (zl (zv8 BK329.out) hb); replace HB := zp.mk (zj (zv7 HB.out) hb); clear hb hbox hg; have hnb29 := NB329_330.out; have hnc29 := NB330_329.out; have y30_0 := zt0 BK329.out; have y30_1 := zt1 BK329.out; have u30_0 := zd BK329.out 0; have u30_1 := zd BK329.out 1) | ((with_reducible refine zn (f := 17) rfl ?_); refine goesL_ (some 21) rfl rfl Try.func17 (by kernel_rfl) rfl #[.agg #[.int .i64 a0_0, .slice A0_1 l0_1.length c0_1], .int .i64 1048576] rfl (by (try simp only [List.map_toArray, List.map_cons, List.map_nil]); first | done | rfl | (simp only [List.length_drop, List.length_take]; rfl)) ?_; (with_reducible refine (laws_szLat.calls a0_0 _ _ l0_1 1048576 t331 _ ?side1 ?side2 A4.out).mono ?_); (case side1 => repeat (first | exact (Kd.zt HR0_1.out HB.out) | (with_reducible refine Kd.zr ?_ _) | (with_reducible refine Kd.zq ?_ _) | (with_reducible refine Kd.C_drew ?_))); (case side2 => exact HC0_1.out); rintro e w31 ⟨rfl, hb⟩; refine ⟨_, rfl, ?_⟩; replace BK329 := zp.mk (zl (zv8 BK329.out) hb); replace BK330 := zp.mk (zl (zv8 BK330.out) hb); replace HB := zp.mk (zj (zv7 HB.out) hb); (try clear hb); (try clear hb2); (try clear hk); (try clear hi)) | ((with_reducible refine zn (f := 52) rfl ?_); refine goesL_ (some 26) rfl rfl Try.func52 (by kernel_rfl) rfl #[.slice A1 l1.length c1, .int .i64 t331] rfl (by (try simp only [List.map_toArray, List.map_cons, List.map_nil]); first | done | rfl | (simp only [List.length_drop, List.length_take]; rfl)) ?_; (with_reducible refine (laws_szPunctS.calls _ _ l1 t331 t332 _ ?side1 ?side2 A11.out).mono ?_); (case side1 => repeat (first | exact (Kd.zt HR1.out HB.out) | (with_reducible refine Kd.zr ?_ _) | (with_reducible refine Kd.zq ?_ _) | (with_reducible refine Kd.C_drew ?_))); (case side2 => exact HC1.out); rintro e w' ⟨rfl, ⟨nd, rfl⟩⟩; refine ⟨_, rfl, ?_⟩; (try (rw [drewN_self w31]; generalize hq_ : World.drewN w31 _ = w31; have n0_ : zp (w31.heap[gb329]? = some (.cells #[.int .i64 a0_0, .slice A0_1 l0_1.length c0_1] 24 (0, 0))) := ⟨by rw [← hq_]; exact (zv8 BK329.out)⟩; have n1_ : zp (w31.heap[gb330]? = some (.cells #[.int .i64 a2_0, .int .i64 a2_1, .int .i64 a2_2, .int .i64 a2_3] 56 (0, 0))) := ⟨by rw [← hq_]; exact (zv8 BK330.out)⟩; have n2_ : zp (Below w.heap.size w w31) := ⟨by rw [← hq_]; exact (zv7 HB.out)⟩; clear BK329 BK330 HB hq_; have BK329 := n0_; have BK330 := n1_; have HB := n2_; clear n0_ n1_ n2_))))
   replace BK329 := zp.mk (zi BK329.out)
   replace BK330 := zp.mk (zi BK330.out)
   replace HB := zp.mk (zb HB.out)
   refine start_ (n := 12) (S := fun w' => w'.cell? ⟨gb329, 0, none⟩ = some (.int .i64 a0_0) ∧ w'.cell? ⟨gb329, 1, none⟩ = some (.slice A0_1 l0_1.length c0_1) ∧ w'.cell? ⟨gb330, 0, none⟩ = some (.int .i64 a2_0) ∧ w'.cell? ⟨gb330, 1, none⟩ = some (.int .i64 a2_1) ∧ w'.cell? ⟨gb330, 2, none⟩ = some (.int .i64 a2_2) ∧ w'.cell? ⟨gb330, 3, none⟩ = some (.int .i64 a2_3)) (ds := []) (zB 12 0) (by kernel_rfl) rfl rfl ⟨(ze BK329.out 0).trans rfl, (ze BK329.out 1).trans rfl, (ze BK330.out 0).trans rfl, (ze BK330.out 1).trans rfl, (ze BK330.out 2).trans rfl, (ze BK330.out 3).trans rfl⟩ (fun hHeld => ?_); refine with_tabW laws_FnExactPolicySet.tab8 laws_FnExactPolicySet.bits8 (fun HT_ HW_ => ?_)
   generalize w31.drew = w32 at BK329 BK330 HB hHeld ⊢
   refine pure_ (i := 2) (N := some 32) (v := ?_) (a' := ?_) (zB 12 4) rfl rfl (any_of HT_.out (by kernel_rfl)) (fun _ _ _ h => h) (Or.inl ⟨by rfl, ?_⟩) ?_ ?_
   rotate_left
   ·intro w'
    go_simp
    with_reducible rfl
   rotate_left
   ·simp only [Act.put, zs1, zs2, zs3, i64_w, i32_w]
    rfl
   refine take_ (i := 0) (N := some 30) (v := ?_) (a' := ?_) (zB 12 5) rfl rfl (take_ofW HT_.out HW_.out (by kernel_rfl)) (fun _ _ _ h => h) (Or.inl ⟨by rfl, ?_⟩) hHeld ?_ ?_
   rotate_left
   ·rintro w' ⟨s0, s1, s2, s3, s4, s5⟩
    go_simp
    with_reducible rfl
   rotate_left
   ·simp only [Act.put, zs1, zs2, zs3, i64_w, i32_w]
    rfl
   refine take_ (i := 4) (N := some 34) (v := ?_) (a' := ?_) (zB 12 21) rfl rfl (take_ofW HT_.out HW_.out (by kernel_rfl)) (fun _ _ _ h => h) (Or.inl ⟨by rfl, ?_⟩) hHeld ?_ ?_
   rotate_left
   ·rintro w' ⟨s0, s1, s2, s3, s4, s5⟩
    go_simp
    with_reducible rfl
   rotate_left
   ·simp only [Act.put, zs1, zs2, zs3, i64_w, i32_w]
    rfl
   refine one_ (i := 1) (N := some 31) (zB 12 23) rfl rfl (one_of HT_.out (by kernel_rfl)) (by decide) (fun K hK => ?_)
   refine goes_ Try.func19 (by kernel_rfl) rfl #[.agg #[.int .i64 a0_0, .slice A0_1 l0_1.length c0_1]] (by rfl) rfl rfl (by (try simp only [List.map_toArray, List.map_cons, List.map_nil]); first | done | rfl | (simp only [List.length_drop, List.length_take]; rfl)) ?_
   with_reducible refine (laws_toLat.calls k a0_0 _ _ l0_1 t333 t334 _ ?side1 ?side2 A18.out).mono ?_
   (case side1 => repeat (first | exact (Kd.zt HR0_1.out HB.out) | (with_reducible refine Kd.zr ?_ _) | (with_reducible refine Kd.zq ?_ _) | (with_reducible refine Kd.C_drew ?_)))
   (case side2 => exact HC0_1.out)
   rintro e w33 ⟨v335, rfl, ho0, hb⟩
   refine ⟨_, rfl, ?_⟩
   have HO336 := zp.mk (Kd.R_lower ho0 (zk (zv7 HB.out)))
   replace BK329 := zp.mk (zl (zv8 BK329.out) hb)
   replace BK330 := zp.mk (zl (zv8 BK330.out) hb)
   replace HB := zp.mk (zj (zv7 HB.out) hb)
   (try clear hb)
   (try clear hb2)
   (try clear hk)
   (try clear hi)
   (try clear ho0)
   refine hK.out _ _ ⟨(ze BK329.out 0).trans rfl, (ze BK329.out 1).trans rfl, (ze BK330.out 0).trans rfl, (ze BK330.out 1).trans rfl, (ze BK330.out 2).trans rfl, (ze BK330.out 3).trans rfl⟩ (fun hHeld => ?_)
   clear hK K
   refine norm_ (a' := ?_) ?_ ?_
   rotate_left
   ·show Act.put _ (some 31) _ = _
    simp only [Act.put, zs1, zs2, zs3, i64_w, i32_w]
    rfl
   refine one_ (i := 3) (N := some 33) (zB 12 31) rfl rfl (one_of HT_.out (by kernel_rfl)) (by decide) (fun K hK => ?_)
   refine goes_ Try.func54 (by kernel_rfl) rfl #[.slice A1 l1.length c1] (by rfl) rfl rfl (by (try simp only [List.map_toArray, List.map_cons, List.map_nil]); first | done | rfl | (simp only [List.length_drop, List.length_take]; rfl)) ?_
   with_reducible refine (laws_toPunctS.calls k _ _ l1 t337 _ ?side1 ?side2 A19.out).mono ?_
   (case side1 => repeat (first | exact (Kd.zt HR1.out HB.out) | (with_reducible refine Kd.zr ?_ _) | (with_reducible refine Kd.zq ?_ _) | (with_reducible refine Kd.C_drew ?_)))
   (case side2 => exact HC1.out)
   rintro e w34 ⟨v338, rfl, ho0, hb⟩
   refine ⟨_, rfl, ?_⟩
   have HO339 := zp.mk (Kd.R_lower ho0 (zk (zv7 HB.out)))
   replace HO336 := zp.mk (Kd.R_below (by (with_reducible repeat (first | apply Kd.R_alloc | apply Kd.R_drewN | apply Kd.R_drew)); exact HO336.out) hb)
   replace BK329 := zp.mk (zl (zv8 BK329.out) hb)
   replace BK330 := zp.mk (zl (zv8 BK330.out) hb)
   replace HB := zp.mk (zj (zv7 HB.out) hb)
   (try clear hb)
   (try clear hb2)
   (try clear hk)
   (try clear hi)
   (try clear ho0)
   refine hK.out _ _ ⟨(ze BK329.out 0).trans rfl, (ze BK329.out 1).trans rfl, (ze BK330.out 0).trans rfl, (ze BK330.out 1).trans rfl, (ze BK330.out 2).trans rfl, (ze BK330.out 3).trans rfl⟩ (fun hHeld => ?_)
   clear hK K
   refine norm_ (a' := ?_) ?_ ?_
   rotate_left
   ·show Act.put _ (some 33) _ = _
    simp only [Act.put, zs1, zs2, zs3, i64_w, i32_w]
    rfl
   refine one_ (i := 5) (N := some 35) (zB 12 63) rfl rfl (one_of HT_.out (by kernel_rfl)) (by decide) (fun K hK => ?_)
   refine goes_ Try.func50 (by kernel_rfl) rfl #[.agg #[.int .i64 a2_0, .int .i64 a2_1, .int .i64 a2_2, .int .i64 a2_3]] (by rfl) rfl rfl (by (try simp only [List.map_toArray, List.map_cons, List.map_nil]); first | done | rfl | (simp only [List.length_drop, List.length_take]; rfl)) ?_
   with_reducible refine (laws_toPunct.calls a2_0 a2_1 a2_2 a2_3 t340 t341 t342 t343 _ A20.out).mono ?_
   rintro e w35 ⟨rfl, hb⟩
   refine ⟨_, rfl, ?_⟩
   replace HO336 := zp.mk (Kd.R_below (by (with_reducible repeat (first | apply Kd.R_alloc | apply Kd.R_drewN | apply Kd.R_drew)); exact HO336.out) hb)
   replace HO339 := zp.mk (Kd.R_below (by (with_reducible repeat (first | apply Kd.R_alloc | apply Kd.R_drewN | apply Kd.R_drew)); exact HO339.out) hb)
   replace BK329 := zp.mk (zl (zv8 BK329.out) hb)
   replace BK330 := zp.mk (zl (zv8 BK330.out) hb)
   replace HB := zp.mk (zj (zv7 HB.out) hb)
   (try clear hb)
   (try clear hb2)
   (try clear hk)
   (try clear hi)
   obtain ⟨Ao36, co36, eo36⟩ := Kd.R_slice HO336.out
   (first | subst eo36 | (injection eo36 with f1_ f2_ f3_; have f4_ := f1_.symm; have f5_ := f3_.symm; clear f1_ f2_ f3_; subst f4_; subst f5_))
   obtain ⟨Ao37, co37, eo37⟩ := Kd.R_slice HO339.out
   (first | subst eo37 | (injection eo37 with f1_ f2_ f3_; have f4_ := f1_.symm; have f5_ := f3_.symm; clear f1_ f2_ f3_; subst f4_; subst f5_))
   refine hK.out _ _ ⟨(ze BK329.out 0).trans rfl, (ze BK329.out 1).trans rfl, (ze BK330.out 0).trans rfl, (ze BK330.out 1).trans rfl, (ze BK330.out 2).trans rfl, (ze BK330.out 3).trans rfl⟩ (fun hHeld => ?_)
   clear hK K
   refine norm_ (a' := ?_) ?_ ?_
   rotate_left
   ·show Act.put _ (some 35) _ = _
    simp only [Act.put, zs1, zs2, zs3, i64_w, i32_w]
    rfl
   refine one_ (i := 6) (N := some 36) (zB 12 127) rfl rfl (one_of HT_.out (by kernel_rfl)) (by decide) (fun K hK => ?_)
   refine goes_ Try.func63 (by kernel_rfl) rfl #[.agg #[.int .i64 t333, .slice Ao36 t334.length co36], .slice Ao37 t337.length co37, .agg #[.int .i64 t340, .int .i64 t341, .int .i64 t342, .int .i64 t343]] (by rfl) rfl rfl (by (try simp only [List.map_toArray, List.map_cons, List.map_nil]); first | done | rfl | (simp only [List.length_drop, List.length_take]; rfl)) ?_
   with_reducible refine (spec_PolicySet.calls k t333 _ _ t334 _ _ t337 t340 t341 t342 t343 t344 t347 _ ?side1 ?side2 ?side3 ?side4 A21.out).mono ?_
   (case side1 => repeat (first | exact (Kd.R_reads' HO336.out).2.2 | (with_reducible refine Kd.zr ?_ _) | (with_reducible refine Kd.zq ?_ _) | (with_reducible refine Kd.C_drew ?_)))
   (case side2 => exact (Kd.R_reads' HO336.out).2.1)
   (case side3 => repeat (first | exact (Kd.R_reads' HO339.out).2.2 | (with_reducible refine Kd.zr ?_ _) | (with_reducible refine Kd.zq ?_ _) | (with_reducible refine Kd.C_drew ?_)))
   (case side4 => exact (Kd.R_reads' HO339.out).2.1)
   rintro e w38 ⟨v345, rfl, ho0, hb⟩
   refine ⟨_, rfl, ?_⟩
   have HO346 := zp.mk (Kd.R_lower (Kd.R_new' ho0 (Kd.R_lt (by (with_reducible repeat (first | apply Kd.R_alloc | apply Kd.R_drewN | apply Kd.R_drew)); exact HO339.out))) (zk (zv7 HB.out)))
   replace HO336 := zp.mk (Kd.R_below (by (with_reducible repeat (first | apply Kd.R_alloc | apply Kd.R_drewN | apply Kd.R_drew)); exact HO336.out) hb)
   replace HO339 := zp.mk (Kd.R_elder' (by (with_reducible repeat (first | apply Kd.R_alloc | apply Kd.R_drewN | apply Kd.R_drew)); exact HO339.out) (Kd.R_base ho0) hb)
   replace BK329 := zp.mk (zl (zv8 BK329.out) hb)
   replace BK330 := zp.mk (zl (zv8 BK330.out) hb)
   replace HB := zp.mk (zj (zv7 HB.out) hb)
   (try clear hb)
   (try clear hb2)
   (try clear hk)
   (try clear hi)
   (try clear ho0)
   refine hK.out _ _ ⟨(ze BK329.out 0).trans rfl, (ze BK329.out 1).trans rfl, (ze BK330.out 0).trans rfl, (ze BK330.out 1).trans rfl, (ze BK330.out 2).trans rfl, (ze BK330.out 3).trans rfl⟩ (fun hHeld => ?_)
   clear hK K
   refine norm_ (a' := ?_) ?_ ?_
   rotate_left
   ·show Act.put _ (some 36) _ = _
    simp only [Act.put, zs1, zs2, zs3, i64_w, i32_w]
    rfl
   refine pure_ (i := 7) (N := some 29) (v := ?_) (a' := ?_) (zB 12 255) rfl rfl (any_of HT_.out (by kernel_rfl)) (fun _ _ _ h => h) (Or.inl ⟨by rfl, ?_⟩) ?_ ?_
   rotate_left
   ·intro w'
    go_simp
    with_reducible rfl
   rotate_left
   ·simp only [Act.put, zs1, zs2, zs3, i64_w, i32_w]
    rfl
   refine pure_ (i := 8) (N := some 37) (v := ?_) (a' := ?_) (zB 12 511) rfl rfl (any_of HT_.out (by kernel_rfl)) (fun _ _ _ h => h) (Or.inl ⟨by rfl, ?_⟩) ?_ ?_
   rotate_left
   ·intro w'
    go_simp
    with_reducible rfl
   rotate_left
   ·simp only [Act.put, zs1, zs2, zs3, i64_w, i32_w]
    rfl
   refine pure_ (i := 9) (N := some 38) (v := ?_) (a' := ?_) (zB 12 1023) rfl rfl (any_of HT_.out (by kernel_rfl)) (fun _ _ _ h => h) (Or.inl ⟨by rfl, ?_⟩) ?_ ?_
   rotate_left
   ·intro w'
    go_simp
    with_reducible rfl
   rotate_left
   ·simp only [Act.put, zs1, zs2, zs3, i64_w, i32_w]
    rfl
   refine pure_ (i := 10) (N := some 8) (v := ?_) (a' := ?_) (zB 12 2047) rfl rfl (any_of HT_.out (by kernel_rfl)) (fun _ _ _ h => h) (Or.inl ⟨by rfl, ?_⟩) ?_ ?_
   rotate_left
   ·intro w'
    go_simp
    with_reducible rfl
   rotate_left
   ·simp only [Act.put, zs1, zs2, zs3, i64_w, i32_w]
    rfl
   refine pure_ (i := 11) (N := some 9) (v := ?_) (a' := ?_) (zB 12 4095) rfl rfl (any_of HT_.out (by kernel_rfl)) (fun _ _ _ h => h) (Or.inl ⟨by rfl, ?_⟩) ?_ ?_
   rotate_left
   ·intro w'
    go_simp
    with_reducible rfl
   rotate_left
   ·simp only [Act.put, zs1, zs2, zs3, i64_w, i32_w]
    rfl
   refine done_ (done_of HT_.out (by kernel_rfl)) ?_
   have y39_0 := zt0 BK329.out
   have y39_1 := zt1 BK329.out
   have u39_0 := zd BK329.out 0
   have u39_1 := zd BK329.out 1
   try go_wp2_with (first | ((with_reducible refine zn (f := 19) rfl ?_); refine goesL_ (some 40) rfl rfl Try.func19 (by kernel_rfl) rfl #[.agg #[.int .i64 a0_0, .slice A0_1 l0_1.length c0_1]] rfl (by (try simp only [List.map_toArray, List.map_cons, List.map_nil]); first | done | rfl | (simp only [List.length_drop, List.length_take]; rfl)) ?_; (with_reducible refine (laws_toLat.calls k a0_0 _ _ l0_1 t348 t349 _ ?side1 ?side2 A22.out).mono ?_); (case side1 => repeat (first | exact (Kd.zt HR0_1.out HB.out) | (with_reducible refine Kd.zr ?_ _) | (with_reducible refine Kd.zq ?_ _) | (with_reducible refine Kd.C_drew ?_))); (case side2 => exact HC0_1.out); rintro e w40 ⟨v350, rfl, ho0, hb⟩; refine ⟨_, rfl, ?_⟩; have HO351 := zp.mk (Kd.R_lower (Kd.R_new' ho0 (Kd.R_lt (by (with_reducible repeat (first | apply Kd.R_alloc | apply Kd.R_drewN | apply Kd.R_drew)); exact HO336.out))) (zk (zv7 HB.out))); replace HO336 := zp.mk (Kd.R_elder' (by (with_reducible repeat (first | apply Kd.R_alloc | apply Kd.R_drewN | apply Kd.R_drew)); exact HO336.out) (Kd.R_base ho0) hb); replace HO339 := zp.mk (Kd.R_below (by (with_reducible repeat (first | apply Kd.R_alloc | apply Kd.R_drewN | apply Kd.R_drew)); exact HO339.out) hb); replace HO346 := zp.mk (Kd.R_below (by (with_reducible repeat (first | apply Kd.R_alloc | apply Kd.R_drewN | apply Kd.R_drew)); exact HO346.out) hb); replace BK329 := zp.mk (zl (zv8 BK329.out) hb); replace BK330 := zp.mk (zl (zv8 BK330.out) hb); replace HB := zp.mk (zj (zv7 HB.out) hb); (try clear hb); (try clear hb2); (try clear hk); (try clear hi); (try clear ho0)) | ((with_reducible refine zo (N := 10) rfl ?_); refine zm ?hg (N := 10) ?hd (cs := #[.int .i64 0, .slice none 0 0]) (t := 27) ?hr ?_; (case hd => rfl); (case hg => rfl); (case hr => first | (go_simp; done) | (go_simp; rfl)); intro gb352 hg w41 hbox hb; have BK352 := zp.mk (hbox); have GW352 := zp.mk ((zv3 (zv7 HB.out) hg)); have GE352 := zp.mk ((zv3 (zv7 HB.out) hg)); have NB329_352 := zp.mk ((by rw [hg]; exact Nat.ne_of_lt (blk_lt (g := gb329) (o := .cells #[.int .i64 a0_0, .slice A0_1 l0_1.length c0_1] 24 (0, 0)) (zv8 BK329.out)) : gb329 ≠ gb352)); have NB352_329 := zp.mk ((by rw [hg]; exact Nat.ne_of_gt (blk_lt (g := gb329) (o := .cells #[.int .i64 a0_0, .slice A0_1 l0_1.length c0_1] 24 (0, 0)) (zv8 BK329.out)) : gb352 ≠ gb329)); have NB330_352 := zp.mk ((by rw [hg]; exact Nat.ne_of_lt (blk_lt (g := gb330) (o := .cells #[.int .i64 a2_0, .int .i64 a2_1, .int .i64 a2_2, .int .i64 a2_3] 56 (0, 0)) (zv8 BK330.out)) : gb330 ≠ gb352)); have NB352_330 := zp.mk ((by rw [hg]; exact Nat.ne_of_gt (blk_lt (g := gb330) (o := .cells #[.int .i64 a2_0, .int .i64 a2_1, .int .i64 a2_2, .int .i64 a2_3] 56 (0, 0)) (zv8 BK330.out)) : gb352 ≠ gb330)); replace HO336 := zp.mk (Kd.R_below (by (with_reducible repeat (first | apply Kd.R_alloc | apply Kd.R_drewN | apply Kd.R_drew)); exact HO336.out) hb); replace HO339 := zp.mk (Kd.R_below (by (with_reducible repeat (first | apply Kd.R_alloc | apply Kd.R_drewN | apply Kd.R_drew)); exact HO339.out) hb); replace HO346 := zp.mk (Kd.R_below (by (with_reducible repeat (first | apply Kd.R_alloc | apply Kd.R_drewN | apply Kd.R_drew)); exact HO346.out) hb); replace HO351 := zp.mk (Kd.R_below (by (with_reducible repeat (first | apply Kd.R_alloc | apply Kd.R_drewN | apply Kd.R_drew)); exact HO351.out) hb); replace BK329 := zp.mk (zl (zv8 BK329.out) hb); replace BK330 := zp.mk (zl (zv8 BK330.out) hb); replace HB := zp.mk (zj (zv7 HB.out) hb); clear hb hbox hg; have hnb42 := NB352_329.out; have hnc42 := NB329_352.out; have hnb43 := NB352_330.out; have hnc43 := NB330_352.out; have y44_0 := zt0 BK352.out; have y44_1 := zt1 BK352.out; have u44_0 := zd BK352.out 0; have u44_1 := zd BK352.out 1; obtain ⟨Ao45, co45, eo45⟩ := Kd.R_slice HO351.out; subst eo45) | ((with_reducible refine zn (f := 54) rfl ?_); refine goesL_ (some 42) rfl rfl Try.func54 (by kernel_rfl) rfl #[.slice A1 l1.length c1] rfl (by (try simp only [List.map_toArray, List.map_cons, List.map_nil]); first | done | rfl | (simp only [List.length_drop, List.length_take]; rfl)) ?_; (with_reducible refine (laws_toPunctS.calls k _ _ l1 t353 _ ?side1 ?side2 A23.out).mono ?_); (case side1 => exact Kd.zt HR1.out (zv7 HB.out)); (case side2 => exact HC1.out); rintro e w46 ⟨v354, rfl, ho0, hb⟩; refine ⟨_, rfl, ?_⟩; have HO355 := zp.mk (Kd.R_lower (Kd.R_new' (Kd.R_new' ho0 (Kd.R_lt (by (with_reducible repeat (first | apply Kd.R_alloc | apply Kd.R_drewN | apply Kd.R_drew)); exact (Kd.R_mono (Kd.R_far (p := ⟨gb352, 1, none⟩) (Kd.R_far (p := ⟨gb352, 0, none⟩) (Kd.R_types HO339.out BK352.out (by decide)) (fun _ hk => hk.2) (.int .i64 t348)) (fun _ hk => hk.2) (.slice Ao45 t349.length co45)) (fun _ h_ => h_.1))))) (Kd.R_lt (by (with_reducible repeat (first | apply Kd.R_alloc | apply Kd.R_drewN | apply Kd.R_drew)); exact (Kd.R_mono (Kd.R_far (p := ⟨gb352, 1, none⟩) (Kd.R_far (p := ⟨gb352, 0, none⟩) (Kd.R_types HO346.out BK352.out (by decide)) (fun _ hk => hk.2) (.int .i64 t348)) (fun _ hk => hk.2) (.slice Ao45 t349.length co45)) (fun _ h_ => h_.1))))) (zk (zv7 HB.out))); replace HO336 := zp.mk (Kd.R_below (by (with_reducible repeat (first | apply Kd.R_alloc | apply Kd.R_drewN | apply Kd.R_drew)); exact (Kd.R_mono (Kd.R_far (p := ⟨gb352, 1, none⟩) (Kd.R_far (p := ⟨gb352, 0, none⟩) (Kd.R_types HO336.out BK352.out (by decide)) (fun _ hk => hk.2) (.int .i64 t348)) (fun _ hk => hk.2) (.slice Ao45 t349.length co45)) (fun _ h_ => h_.1))) hb); replace HO339 := zp.mk (Kd.R_elder' (by (with_reducible repeat (first | apply Kd.R_alloc | apply Kd.R_drewN | apply Kd.R_drew)); exact (Kd.R_mono (Kd.R_far (p := ⟨gb352, 1, none⟩) (Kd.R_far (p := ⟨gb352, 0, none⟩) (Kd.R_types HO339.out BK352.out (by decide)) (fun _ hk => hk.2) (.int .i64 t348)) (fun _ hk => hk.2) (.slice Ao45 t349.length co45)) (fun _ h_ => h_.1))) (Kd.R_base ho0) hb); replace HO346 := zp.mk (Kd.R_elder' (by (with_reducible repeat (first | apply Kd.R_alloc | apply Kd.R_drewN | apply Kd.R_drew)); exact (Kd.R_mono (Kd.R_far (p := ⟨gb352, 1, none⟩) (Kd.R_far (p := ⟨gb352, 0, none⟩) (Kd.R_types HO346.out BK352.out (by decide)) (fun _ hk => hk.2) (.int .i64 t348)) (fun _ hk => hk.2) (.slice Ao45 t349.length co45)) (fun _ h_ => h_.1))) (Kd.R_base ho0) hb); replace HO351 := zp.mk (Kd.R_below (by (with_reducible repeat (first | apply Kd.R_alloc | apply Kd.R_drewN | apply Kd.R_drew)); exact (Kd.R_mono (Kd.R_far (p := ⟨gb352, 1, none⟩) (Kd.R_far (p := ⟨gb352, 0, none⟩) (Kd.R_types HO351.out BK352.out (by decide)) (fun _ hk => hk.2) (.int .i64 t348)) (fun _ hk => hk.2) (.slice Ao45 t349.length co45)) (fun _ h_ => h_.1))) hb); replace BK329 := zp.mk (zl (g := gb329) (o := .cells #[.int .i64 a0_0, .slice A0_1 l0_1.length c0_1] 24 (0, 0)) (by (with_reducible repeat (first | refine zf ?_ _ | refine zi ?_ | refine zg ?_ _)); refine blk_far ?_ NB329_352.out _; (with_reducible repeat (first | refine zf ?_ _ | refine zi ?_ | refine zg ?_ _)); refine blk_far ?_ NB329_352.out _; (with_reducible repeat (first | refine zf ?_ _ | refine zi ?_ | refine zg ?_ _)); exact BK329.out) hb); replace BK330 := zp.mk (zl (g := gb330) (o := .cells #[.int .i64 a2_0, .int .i64 a2_1, .int .i64 a2_2, .int .i64 a2_3] 56 (0, 0)) (by (with_reducible repeat (first | refine zf ?_ _ | refine zi ?_ | refine zg ?_ _)); refine blk_far ?_ NB330_352.out _; (with_reducible repeat (first | refine zf ?_ _ | refine zi ?_ | refine zg ?_ _)); refine blk_far ?_ NB330_352.out _; (with_reducible repeat (first | refine zf ?_ _ | refine zi ?_ | refine zg ?_ _)); exact BK330.out) hb); replace BK352 := zp.mk (zl (g := gb352) (o := .cells #[.int .i64 t348, .slice Ao45 t349.length co45] 27 (0, 0)) (by (with_reducible repeat (first | refine zf ?_ _ | refine zi ?_ | refine zg ?_ _)); refine blk_put (cs := #[.int .i64 t348, .slice none 0 0]) ?_ 1 _ rfl; (with_reducible repeat (first | refine zf ?_ _ | refine zi ?_ | refine zg ?_ _)); refine blk_put (cs := #[.int .i64 0, .slice none 0 0]) ?_ 0 _ rfl; (with_reducible repeat (first | refine zf ?_ _ | refine zi ?_ | refine zg ?_ _)); exact BK352.out) hb); replace HB := zp.mk (zj (zv7 HB.out) hb); (try clear hb); (try clear hb2); (try clear hk); (try clear hi); (try clear ho0)))
   replace HO336 := zp.mk (Kd.R_drew HO336.out)
   replace HO339 := zp.mk (Kd.R_drew HO339.out)
   replace HO346 := zp.mk (Kd.R_drew HO346.out)
   replace HO351 := zp.mk (Kd.R_drew HO351.out)
   replace HO355 := zp.mk (Kd.R_drew HO355.out)
   replace BK329 := zp.mk (zi BK329.out)
   replace BK330 := zp.mk (zi BK330.out)
   replace BK352 := zp.mk (zi BK352.out)
   replace HB := zp.mk (zb HB.out)
   refine start_ (n := 10) (S := fun w' => w'.cell? ⟨gb352, 0, none⟩ = some (.int .i64 t348) ∧ w'.cell? ⟨gb352, 1, none⟩ = some (.slice Ao45 t349.length co45) ∧ w'.cell? ⟨gb330, 0, none⟩ = some (.int .i64 a2_0) ∧ w'.cell? ⟨gb330, 1, none⟩ = some (.int .i64 a2_1) ∧ w'.cell? ⟨gb330, 2, none⟩ = some (.int .i64 a2_2) ∧ w'.cell? ⟨gb330, 3, none⟩ = some (.int .i64 a2_3)) (ds := []) (zB 10 0) (by kernel_rfl) rfl rfl ⟨(ze BK352.out 0).trans rfl, (ze BK352.out 1).trans rfl, (ze BK330.out 0).trans rfl, (ze BK330.out 1).trans rfl, (ze BK330.out 2).trans rfl, (ze BK330.out 3).trans rfl⟩ (fun hHeld => ?_); refine with_tabW laws_FnExactPolicySet.tab11 laws_FnExactPolicySet.bits11 (fun HT_ HW_ => ?_)
   generalize w46.drew = w47 at HO336 HO339 HO346 HO351 HO355 BK329 BK330 BK352 HB hHeld ⊢
   refine pure_ (i := 1) (N := some 45) (v := ?_) (a' := ?_) (zB 10 2) rfl rfl (any_of HT_.out (by kernel_rfl)) (fun _ _ _ h => h) (Or.inl ⟨by rfl, ?_⟩) ?_ ?_
   rotate_left
   ·intro w'
    go_simp
    with_reducible rfl
   rotate_left
   ·simp only [Act.put, zs1, zs2, zs3, i64_w, i32_w]
    rfl
   refine take_ (i := 0) (N := some 44) (v := ?_) (a' := ?_) (zB 10 3) rfl rfl (take_ofW HT_.out HW_.out (by kernel_rfl)) (fun _ _ _ h => h) (Or.inl ⟨by rfl, ?_⟩) hHeld ?_ ?_
   rotate_left
   ·rintro w' ⟨s0, s1, s2, s3, s4, s5⟩
    go_simp
    with_reducible rfl
   rotate_left
   ·simp only [Act.put, zs1, zs2, zs3, i64_w, i32_w]
    rfl
   refine take_ (i := 2) (N := some 46) (v := ?_) (a' := ?_) (zB 10 7) rfl rfl (take_ofW HT_.out HW_.out (by kernel_rfl)) (fun _ _ _ h => h) (Or.inl ⟨by rfl, ?_⟩) hHeld ?_ ?_
   rotate_left
   ·rintro w' ⟨s0, s1, s2, s3, s4, s5⟩
    go_simp
    with_reducible rfl
   rotate_left
   ·simp only [Act.put, zs1, zs2, zs3, i64_w, i32_w]
    rfl
   refine one_ (i := 3) (N := some 47) (zB 10 15) rfl rfl (one_of HT_.out (by kernel_rfl)) (by decide) (fun K hK => ?_)
   refine goes_ Try.func50 (by kernel_rfl) rfl #[.agg #[.int .i64 a2_0, .int .i64 a2_1, .int .i64 a2_2, .int .i64 a2_3]] (by rfl) rfl rfl (by (try simp only [List.map_toArray, List.map_cons, List.map_nil]); first | done | rfl | (simp only [List.length_drop, List.length_take]; rfl)) ?_
   with_reducible refine (laws_toPunct.calls a2_0 a2_1 a2_2 a2_3 t356 t357 t358 t359 _ A24.out).mono ?_
   rintro e w48 ⟨rfl, hb⟩
   refine ⟨_, rfl, ?_⟩
   replace HO336 := zp.mk (Kd.R_below (by (with_reducible repeat (first | apply Kd.R_alloc | apply Kd.R_drewN | apply Kd.R_drew)); exact HO336.out) hb)
   replace HO339 := zp.mk (Kd.R_below (by (with_reducible repeat (first | apply Kd.R_alloc | apply Kd.R_drewN | apply Kd.R_drew)); exact HO339.out) hb)
   replace HO346 := zp.mk (Kd.R_below (by (with_reducible repeat (first | apply Kd.R_alloc | apply Kd.R_drewN | apply Kd.R_drew)); exact HO346.out) hb)
   replace HO351 := zp.mk (Kd.R_below (by (with_reducible repeat (first | apply Kd.R_alloc | apply Kd.R_drewN | apply Kd.R_drew)); exact HO351.out) hb)
   replace HO355 := zp.mk (Kd.R_below (by (with_reducible repeat (first | apply Kd.R_alloc | apply Kd.R_drewN | apply Kd.R_drew)); exact HO355.out) hb)
   replace BK329 := zp.mk (zl (zv8 BK329.out) hb)
   replace BK330 := zp.mk (zl (zv8 BK330.out) hb)
   replace BK352 := zp.mk (zl (zv8 BK352.out) hb)
   replace HB := zp.mk (zj (zv7 HB.out) hb)
   (try clear hb)
   (try clear hb2)
   (try clear hk)
   (try clear hi)
   obtain ⟨Ao49, co49, eo49⟩ := Kd.R_slice HO355.out
   (first | subst eo49 | (injection eo49 with f1_ f2_ f3_; have f4_ := f1_.symm; have f5_ := f3_.symm; clear f1_ f2_ f3_; subst f4_; subst f5_))
   refine hK.out _ _ ⟨(ze BK352.out 0).trans rfl, (ze BK352.out 1).trans rfl, (ze BK330.out 0).trans rfl, (ze BK330.out 1).trans rfl, (ze BK330.out 2).trans rfl, (ze BK330.out 3).trans rfl⟩ (fun hHeld => ?_)
   clear hK K
   refine norm_ (a' := ?_) ?_ ?_
   rotate_left
   ·show Act.put _ (some 47) _ = _
    simp only [Act.put, zs1, zs2, zs3, i64_w, i32_w]
    rfl
   refine one_ (i := 4) (N := some 48) (zB 10 31) rfl rfl (one_of HT_.out (by kernel_rfl)) (by decide) (fun K hK => ?_)
   refine goes_ Try.func64 (by kernel_rfl) rfl #[.agg #[.int .i64 t348, .slice Ao45 t349.length co45], .slice Ao49 t353.length co49, .agg #[.int .i64 t356, .int .i64 t357, .int .i64 t358, .int .i64 t359]] (by rfl) rfl rfl (by (try simp only [List.map_toArray, List.map_cons, List.map_nil]); first | done | rfl | (simp only [List.length_drop, List.length_take]; rfl)) ?_
   with_reducible refine (impl_PolicySet.calls k t348 _ _ t349 _ _ t353 t356 t357 t358 t359 t360 t363 _ ?side1 ?side2 ?side3 ?side4 A25.out).mono ?_
   (case side1 => repeat (first | exact (Kd.R_reads' HO351.out).2.2 | (with_reducible refine Kd.zr ?_ _) | (with_reducible refine Kd.zq ?_ _) | (with_reducible refine Kd.C_drew ?_)))
   (case side2 => exact (Kd.R_reads' HO351.out).2.1)
   (case side3 => repeat (first | exact (Kd.R_reads' HO355.out).2.2 | (with_reducible refine Kd.zr ?_ _) | (with_reducible refine Kd.zq ?_ _) | (with_reducible refine Kd.C_drew ?_)))
   (case side4 => exact (Kd.R_reads' HO355.out).2.1)
   rintro e w50 ⟨v361, rfl, ho0, hb⟩
   refine ⟨_, rfl, ?_⟩
   have HO362 := zp.mk (Kd.R_lower (Kd.R_new' (Kd.R_new' (Kd.R_new' ho0 (Kd.R_lt (by (with_reducible repeat (first | apply Kd.R_alloc | apply Kd.R_drewN | apply Kd.R_drew)); exact HO339.out))) (Kd.R_lt (by (with_reducible repeat (first | apply Kd.R_alloc | apply Kd.R_drewN | apply Kd.R_drew)); exact HO346.out))) (Kd.R_lt (by (with_reducible repeat (first | apply Kd.R_alloc | apply Kd.R_drewN | apply Kd.R_drew)); exact HO355.out))) (zk (zv7 HB.out)))
   replace HO336 := zp.mk (Kd.R_below (by (with_reducible repeat (first | apply Kd.R_alloc | apply Kd.R_drewN | apply Kd.R_drew)); exact HO336.out) hb)
   replace HO339 := zp.mk (Kd.R_elder' (by (with_reducible repeat (first | apply Kd.R_alloc | apply Kd.R_drewN | apply Kd.R_drew)); exact HO339.out) (Kd.R_base ho0) hb)
   replace HO346 := zp.mk (Kd.R_elder' (by (with_reducible repeat (first | apply Kd.R_alloc | apply Kd.R_drewN | apply Kd.R_drew)); exact HO346.out) (Kd.R_base ho0) hb)
   replace HO351 := zp.mk (Kd.R_below (by (with_reducible repeat (first | apply Kd.R_alloc | apply Kd.R_drewN | apply Kd.R_drew)); exact HO351.out) hb)
   replace HO355 := zp.mk (Kd.R_elder' (by (with_reducible repeat (first | apply Kd.R_alloc | apply Kd.R_drewN | apply Kd.R_drew)); exact HO355.out) (Kd.R_base ho0) hb)
   replace BK329 := zp.mk (zl (zv8 BK329.out) hb)
   replace BK330 := zp.mk (zl (zv8 BK330.out) hb)
   replace BK352 := zp.mk (zl (zv8 BK352.out) hb)
   replace HB := zp.mk (zj (zv7 HB.out) hb)
   (try clear hb)
   (try clear hb2)
   (try clear hk)
   (try clear hi)
   (try clear ho0)
   refine hK.out _ _ ⟨(ze BK352.out 0).trans rfl, (ze BK352.out 1).trans rfl, (ze BK330.out 0).trans rfl, (ze BK330.out 1).trans rfl, (ze BK330.out 2).trans rfl, (ze BK330.out 3).trans rfl⟩ (fun hHeld => ?_)
   clear hK K
   refine norm_ (a' := ?_) ?_ ?_
   rotate_left
   ·show Act.put _ (some 48) _ = _
    simp only [Act.put, zs1, zs2, zs3, i64_w, i32_w]
    rfl
   refine pure_ (i := 5) (N := some 43) (v := ?_) (a' := ?_) (zB 10 63) rfl rfl (any_of HT_.out (by kernel_rfl)) (fun _ _ _ h => h) (Or.inl ⟨by rfl, ?_⟩) ?_ ?_
   rotate_left
   ·intro w'
    go_simp
    with_reducible rfl
   rotate_left
   ·simp only [Act.put, zs1, zs2, zs3, i64_w, i32_w]
    rfl
   refine pure_ (i := 6) (N := some 49) (v := ?_) (a' := ?_) (zB 10 127) rfl rfl (any_of HT_.out (by kernel_rfl)) (fun _ _ _ h => h) (Or.inl ⟨by rfl, ?_⟩) ?_ ?_
   rotate_left
   ·intro w'
    go_simp
    with_reducible rfl
   rotate_left
   ·simp only [Act.put, zs1, zs2, zs3, i64_w, i32_w]
    rfl
   refine pure_ (i := 7) (N := some 50) (v := ?_) (a' := ?_) (zB 10 255) rfl rfl (any_of HT_.out (by kernel_rfl)) (fun _ _ _ h => h) (Or.inl ⟨by rfl, ?_⟩) ?_ ?_
   rotate_left
   ·intro w'
    go_simp
    with_reducible rfl
   rotate_left
   ·simp only [Act.put, zs1, zs2, zs3, i64_w, i32_w]
    rfl
   refine pure_ (i := 8) (N := some 12) (v := ?_) (a' := ?_) (zB 10 511) rfl rfl (any_of HT_.out (by kernel_rfl)) (fun _ _ _ h => h) (Or.inl ⟨by rfl, ?_⟩) ?_ ?_
   rotate_left
   ·intro w'
    go_simp
    with_reducible rfl
   rotate_left
   ·simp only [Act.put, zs1, zs2, zs3, i64_w, i32_w]
    rfl
   refine pure_ (i := 9) (N := some 13) (v := ?_) (a' := ?_) (zB 10 1023) rfl rfl (any_of HT_.out (by kernel_rfl)) (fun _ _ _ h => h) (Or.inl ⟨by rfl, ?_⟩) ?_ ?_
   rotate_left
   ·intro w'
    go_simp
    with_reducible rfl
   rotate_left
   ·simp only [Act.put, zs1, zs2, zs3, i64_w, i32_w]
    rfl
   refine done_ (done_of HT_.out (by kernel_rfl)) ?_
   go_upto_region 12 with (fail)
   go_cut [59] (fun v59 wc => ∃ (kq : Nat) (x59_25 : Bool), v59 = .bool x59_25 ∧ zp (laws_FnExactPolicySet.j0 kq l1 t344 t347 t353 t360 t363 x59_25 a0_0 l0_1 a2_0 a2_1 a2_2 a2_3 t348 t349 = some r) ∧ zp (kq ≤ k) ∧ zp (Kd.R k58 58 wc w.heap.size (fun k_ => some k_ ≠ ((.slice Ao49 t353.length co49) : Value).ownBlock ∧ some k_ ≠ (v361 : Value).ownBlock) v345 t344) ∧ zp (Kd.R k58 58 wc w.heap.size (fun k_ => some k_ ≠ (v345 : Value).ownBlock ∧ some k_ ≠ (v361 : Value).ownBlock) (.slice Ao49 t353.length co49) t353) ∧ zp (Kd.R k58 58 wc w.heap.size (fun k_ => some k_ ≠ (v345 : Value).ownBlock ∧ some k_ ≠ ((.slice Ao49 t353.length co49) : Value).ownBlock) v361 t360) ∧ zp (Kd.R (Kd.int .u64) 76 wc w.heap.size (fun _ => True) (.slice Ao45 t349.length co45) t349) ∧ zp (wc.heap[gb329]? = some (.cells #[.int .i64 a0_0, (.slice A0_1 l0_1.length c0_1)] 24 (0, 0))) ∧ zp (wc.heap[gb330]? = some (.cells #[.int .i64 a2_0, .int .i64 a2_1, .int .i64 a2_2, .int .i64 a2_3] 56 (0, 0))) ∧ zp (wc.heap[gb352]? = some (.cells #[.int .i64 t348, (.slice Ao45 t349.length co45)] 27 (0, 0))) ∧ zp (Below w.heap.size w wc))
   case first =>
    have H := HC26.out
    clear HC26
    replace H := zs4 H
    obtain ⟨t364, A510, H⟩ := H
    replace H : (if t364 = true then (laws_FnExactPolicySet.j0 k l1 t344 t347 t353 t360 t363 (t363 != t347) a0_0 l0_1 a2_0 a2_1 a2_2 a2_3 t348 t349) else (laws_FnExactPolicySet.j0 k l1 t344 t347 t353 t360 t363 true a0_0 l0_1 a2_0 a2_1 a2_2 a2_3 t348 t349)) = some r := H
    have A51 := zp.mk A510
    clear A510
    by_cases c52 : t364 = true
    ·subst c52
     have H1 : (laws_FnExactPolicySet.j0 k l1 t344 t347 t353 t360 t363 (t363 != t347) a0_0 l0_1 a2_0 a2_1 a2_2 a2_3 t348 t349) = some r := by rw [if_pos rfl] at H; exact H
     clear H
     have H := H1
     clear H1
     have H' := zp.mk H
     clear H
     obtain ⟨Ao53, co53, eo53⟩ := Kd.R_slice HO362.out
     subst eo53
     obtain ⟨Ao54, co54, eo54⟩ := Kd.R_slice HO346.out
     subst eo54
     go_wp2_with (first | ((with_reducible refine zn (f := 56) rfl ?_); refine goesL_ (some 53) rfl rfl Try.func56 (by kernel_rfl) rfl #[.slice Ao53 t360.length co53, .slice Ao54 t344.length co54] rfl (by (try simp only [List.map_toArray, List.map_cons, List.map_nil]); first | done | rfl | (simp only [List.length_drop, List.length_take]; rfl)) ?_; (with_reducible refine (laws_eqPunctS.calls k _ _ t360 _ _ t344 true _ ?side1 ?side2 ?side3 ?side4 A51.out).mono ?_); (case side1 => repeat (first | exact (Kd.R_reads' HO362.out).2.2 | (with_reducible refine Kd.zr ?_ _) | (with_reducible refine Kd.zq ?_ _) | (with_reducible refine Kd.C_drew ?_))); (case side2 => exact (Kd.R_reads' HO362.out).2.1); (case side3 => repeat (first | exact (Kd.R_reads' HO346.out).2.2 | (with_reducible refine Kd.zr ?_ _) | (with_reducible refine Kd.zq ?_ _) | (with_reducible refine Kd.C_drew ?_))); (case side4 => exact (Kd.R_reads' HO346.out).2.1); rintro e w55 ⟨rfl, hb⟩; refine ⟨_, rfl, ?_⟩; replace HO336 := zp.mk (Kd.R_below (by (with_reducible repeat (first | apply Kd.R_alloc | apply Kd.R_drewN | apply Kd.R_drew)); exact HO336.out) hb); replace HO339 := zp.mk (Kd.R_below (by (with_reducible repeat (first | apply Kd.R_alloc | apply Kd.R_drewN | apply Kd.R_drew)); exact HO339.out) hb); replace HO346 := zp.mk (Kd.R_below (by (with_reducible repeat (first | apply Kd.R_alloc | apply Kd.R_drewN | apply Kd.R_drew)); exact HO346.out) hb); replace HO351 := zp.mk (Kd.R_below (by (with_reducible repeat (first | apply Kd.R_alloc | apply Kd.R_drewN | apply Kd.R_drew)); exact HO351.out) hb); replace HO355 := zp.mk (Kd.R_below (by (with_reducible repeat (first | apply Kd.R_alloc | apply Kd.R_drewN | apply Kd.R_drew)); exact HO355.out) hb); replace HO362 := zp.mk (Kd.R_below (by (with_reducible repeat (first | apply Kd.R_alloc | apply Kd.R_drewN | apply Kd.R_drew)); exact HO362.out) hb); replace BK329 := zp.mk (zl (zv8 BK329.out) hb); replace BK330 := zp.mk (zl (zv8 BK330.out) hb); replace BK352 := zp.mk (zl (zv8 BK352.out) hb); replace HB := zp.mk (zj (zv7 HB.out) hb); (try clear hb); (try clear hb2); (try clear hk); (try clear hi)))
     go_meet
     case rel => exact ⟨_, ((t363 != t347)), (by first | rfl | (simp; done) | (simp [*]; done)), H', ⟨by first | omega | exact Nat.le_refl _⟩, ⟨by (with_reducible repeat (first | apply Kd.R_alloc | apply Kd.R_drewN | apply Kd.R_drew)); exact Kd.R_mono HO346.out (fun _ hk => ⟨hk.1.2, hk.2⟩)⟩, ⟨by (with_reducible repeat (first | apply Kd.R_alloc | apply Kd.R_drewN | apply Kd.R_drew)); exact Kd.R_mono HO355.out (fun _ hk => ⟨hk.1.2, hk.2⟩)⟩, ⟨by (with_reducible repeat (first | apply Kd.R_alloc | apply Kd.R_drewN | apply Kd.R_drew)); exact Kd.R_mono HO362.out (fun _ hk => ⟨hk.1.2, hk.2⟩)⟩, ⟨by (with_reducible repeat (first | apply Kd.R_alloc | apply Kd.R_drewN | apply Kd.R_drew)); exact Kd.R_mono HO351.out (fun _ hk => trivial)⟩, ⟨zv8 BK329.out⟩, ⟨zv8 BK330.out⟩, ⟨zv8 BK352.out⟩, ⟨zv7 HB.out⟩⟩
    ·replace c52 := Bool.eq_false_iff.mpr c52
     subst c52
     have H1 : (laws_FnExactPolicySet.j0 k l1 t344 t347 t353 t360 t363 true a0_0 l0_1 a2_0 a2_1 a2_2 a2_3 t348 t349) = some r := by rw [if_neg (show ¬ (false = true) by decide)] at H; exact H
     clear H
     have H := H1
     clear H1
     have H' := zp.mk H
     clear H
     obtain ⟨Ao56, co56, eo56⟩ := Kd.R_slice HO362.out
     subst eo56
     obtain ⟨Ao57, co57, eo57⟩ := Kd.R_slice HO346.out
     subst eo57
     go_wp2_with (first | ((with_reducible refine zn (f := 56) rfl ?_); refine goesL_ (some 53) rfl rfl Try.func56 (by kernel_rfl) rfl #[.slice Ao56 t360.length co56, .slice Ao57 t344.length co57] rfl (by (try simp only [List.map_toArray, List.map_cons, List.map_nil]); first | done | rfl | (simp only [List.length_drop, List.length_take]; rfl)) ?_; (with_reducible refine (laws_eqPunctS.calls k _ _ t360 _ _ t344 false _ ?side1 ?side2 ?side3 ?side4 A51.out).mono ?_); (case side1 => repeat (first | exact (Kd.R_reads' HO362.out).2.2 | (with_reducible refine Kd.zr ?_ _) | (with_reducible refine Kd.zq ?_ _) | (with_reducible refine Kd.C_drew ?_))); (case side2 => exact (Kd.R_reads' HO362.out).2.1); (case side3 => repeat (first | exact (Kd.R_reads' HO346.out).2.2 | (with_reducible refine Kd.zr ?_ _) | (with_reducible refine Kd.zq ?_ _) | (with_reducible refine Kd.C_drew ?_))); (case side4 => exact (Kd.R_reads' HO346.out).2.1); rintro e w58 ⟨rfl, hb⟩; refine ⟨_, rfl, ?_⟩; replace HO336 := zp.mk (Kd.R_below (by (with_reducible repeat (first | apply Kd.R_alloc | apply Kd.R_drewN | apply Kd.R_drew)); exact HO336.out) hb); replace HO339 := zp.mk (Kd.R_below (by (with_reducible repeat (first | apply Kd.R_alloc | apply Kd.R_drewN | apply Kd.R_drew)); exact HO339.out) hb); replace HO346 := zp.mk (Kd.R_below (by (with_reducible repeat (first | apply Kd.R_alloc | apply Kd.R_drewN | apply Kd.R_drew)); exact HO346.out) hb); replace HO351 := zp.mk (Kd.R_below (by (with_reducible repeat (first | apply Kd.R_alloc | apply Kd.R_drewN | apply Kd.R_drew)); exact HO351.out) hb); replace HO355 := zp.mk (Kd.R_below (by (with_reducible repeat (first | apply Kd.R_alloc | apply Kd.R_drewN | apply Kd.R_drew)); exact HO355.out) hb); replace HO362 := zp.mk (Kd.R_below (by (with_reducible repeat (first | apply Kd.R_alloc | apply Kd.R_drewN | apply Kd.R_drew)); exact HO362.out) hb); replace BK329 := zp.mk (zl (zv8 BK329.out) hb); replace BK330 := zp.mk (zl (zv8 BK330.out) hb); replace BK352 := zp.mk (zl (zv8 BK352.out) hb); replace HB := zp.mk (zj (zv7 HB.out) hb); (try clear hb); (try clear hb2); (try clear hk); (try clear hi)))
     go_meet
     case rel => exact ⟨_, (true), (by first | rfl | (simp; done) | (simp [*]; done)), H', ⟨by first | omega | exact Nat.le_refl _⟩, ⟨by (with_reducible repeat (first | apply Kd.R_alloc | apply Kd.R_drewN | apply Kd.R_drew)); exact Kd.R_mono HO346.out (fun _ hk => ⟨hk.1.2, hk.2⟩)⟩, ⟨by (with_reducible repeat (first | apply Kd.R_alloc | apply Kd.R_drewN | apply Kd.R_drew)); exact Kd.R_mono HO355.out (fun _ hk => ⟨hk.1.2, hk.2⟩)⟩, ⟨by (with_reducible repeat (first | apply Kd.R_alloc | apply Kd.R_drewN | apply Kd.R_drew)); exact Kd.R_mono HO362.out (fun _ hk => ⟨hk.1.2, hk.2⟩)⟩, ⟨by (with_reducible repeat (first | apply Kd.R_alloc | apply Kd.R_drewN | apply Kd.R_drew)); exact Kd.R_mono HO351.out (fun _ hk => trivial)⟩, ⟨zv8 BK329.out⟩, ⟨zv8 BK330.out⟩, ⟨zv8 BK352.out⟩, ⟨zv7 HB.out⟩⟩
   case rest =>
    clear HC26
    try clear c1
    try clear c2
    try clear p2
    try clear c4
    try clear c5
    try clear c5b0
    try clear c6
    try clear c8
    try clear c12
    try clear c12b0
    try clear c15
    try clear c16
    try clear c17
    try clear c19
    try clear c29
    try clear c42
    try clear c43
    try clear c50
    try clear c52
    try clear c54
    try clear c56
    try clear y16_0
    try clear y16_1
    try clear y30_0
    try clear y30_1
    try clear y39_0
    try clear y39_1
    try clear y44_0
    try clear y44_1
    try clear y9_0
    try clear y9_1
    try clear u16_0
    try clear u16_1
    try clear u30_0
    try clear u30_1
    try clear u39_0
    try clear u39_1
    try clear u44_0
    try clear u44_1
    try clear u9_0
    try clear u9_1
    obtain ⟨kq, x59_25, rfl, HA, HJ25, HO_8, HO_11, HO_12, HO_353001, BK329, BK330, BK352, HB⟩ := hcut
    cases kq with
    | zero => exact absurd HA.out (by simp [laws_FnExactPolicySet.j0])
    | succ kj25 =>
     have H := HA.out
     clear HA
     simp only [laws_FnExactPolicySet.j0] at H
     by_cases c59 : x59_25 = true
     ·subst c59
      have H1 : (some false) = some r := by rw [if_pos rfl] at H; exact H
      clear H
      have H := H1
      clear H1
      exact absurd ((Option.some.inj H).trans hr_) (by decide)
     ·replace c59 := Bool.eq_false_iff.mpr c59
      subst c59
      have H1 : ((laws_toLat.f kj25 a0_0 l0_1).bind fun bt365 => ((laws_eqLat.f kj25 t348 t349 bt365.1 bt365.2).bind fun t369 => (if t369 = true then ((laws_toPunctS.f kj25 l1).bind fun t370 => ((laws_eqPunctS.f kj25 t353 t370).bind fun t373 => (if t373 = true then ((laws_markLat.f kj25 t348 t349 1).bind fun bt374 => ((laws_markPunctS.f kj25 t353 bt374.1).bind fun bt376 => (if bt376.1 < 0 then (laws_FnExactPolicySet.j1 kj25 l1 t344 t347 t360 true a0_0 l0_1 a2_0 a2_1 a2_2 a2_3) else ((laws_eqPunctS.f kj25 t360 t344).bind fun t378 => (if t378 = true then (laws_FnExactPolicySet.j1 kj25 l1 t344 t347 t360 (t363 != t347) a0_0 l0_1 a2_0 a2_1 a2_2 a2_3) else (laws_FnExactPolicySet.j1 kj25 l1 t344 t347 t360 true a0_0 l0_1 a2_0 a2_1 a2_2 a2_3)))))) else (some false)))) else (some false)))) = some r := by rw [if_neg (show ¬ (false = true) by decide)] at H; exact H
      clear H
      have H := H1
      clear H1
      replace H := zs4 H
      obtain ⟨⟨t365, t366⟩, A600, H⟩ := H
      replace H : ((laws_eqLat.f kj25 t348 t349 t365 t366).bind fun t369 => (if t369 = true then ((laws_toPunctS.f kj25 l1).bind fun t370 => ((laws_eqPunctS.f kj25 t353 t370).bind fun t373 => (if t373 = true then ((laws_markLat.f kj25 t348 t349 1).bind fun bt374 => ((laws_markPunctS.f kj25 t353 bt374.1).bind fun bt376 => (if bt376.1 < 0 then (laws_FnExactPolicySet.j1 kj25 l1 t344 t347 t360 true a0_0 l0_1 a2_0 a2_1 a2_2 a2_3) else ((laws_eqPunctS.f kj25 t360 t344).bind fun t378 => (if t378 = true then (laws_FnExactPolicySet.j1 kj25 l1 t344 t347 t360 (t363 != t347) a0_0 l0_1 a2_0 a2_1 a2_2 a2_3) else (laws_FnExactPolicySet.j1 kj25 l1 t344 t347 t360 true a0_0 l0_1 a2_0 a2_1 a2_2 a2_3)))))) else (some false)))) else (some false))) = some r := H
      have A60 := zp.mk A600
      clear A600
      replace H := zs4 H
      obtain ⟨t369, A610, H⟩ := H
      replace H : (if t369 = true then ((laws_toPunctS.f kj25 l1).bind fun t370 => ((laws_eqPunctS.f kj25 t353 t370).bind fun t373 => (if t373 = true then ((laws_markLat.f kj25 t348 t349 1).bind fun bt374 => ((laws_markPunctS.f kj25 t353 bt374.1).bind fun bt376 => (if bt376.1 < 0 then (laws_FnExactPolicySet.j1 kj25 l1 t344 t347 t360 true a0_0 l0_1 a2_0 a2_1 a2_2 a2_3) else ((laws_eqPunctS.f kj25 t360 t344).bind fun t378 => (if t378 = true then (laws_FnExactPolicySet.j1 kj25 l1 t344 t347 t360 (t363 != t347) a0_0 l0_1 a2_0 a2_1 a2_2 a2_3) else (laws_FnExactPolicySet.j1 kj25 l1 t344 t347 t360 true a0_0 l0_1 a2_0 a2_1 a2_2 a2_3)))))) else (some false)))) else (some false)) = some r := H
      have A61 := zp.mk A610
      clear A610
      by_cases c62 : t369 = true
      ·subst c62
       have H1 : ((laws_toPunctS.f kj25 l1).bind fun t370 => ((laws_eqPunctS.f kj25 t353 t370).bind fun t373 => (if t373 = true then ((laws_markLat.f kj25 t348 t349 1).bind fun bt374 => ((laws_markPunctS.f kj25 t353 bt374.1).bind fun bt376 => (if bt376.1 < 0 then (laws_FnExactPolicySet.j1 kj25 l1 t344 t347 t360 true a0_0 l0_1 a2_0 a2_1 a2_2 a2_3) else ((laws_eqPunctS.f kj25 t360 t344).bind fun t378 => (if t378 = true then (laws_FnExactPolicySet.j1 kj25 l1 t344 t347 t360 (t363 != t347) a0_0 l0_1 a2_0 a2_1 a2_2 a2_3) else (laws_FnExactPolicySet.j1 kj25 l1 t344 t347 t360 true a0_0 l0_1 a2_0 a2_1 a2_2 a2_3)))))) else (some false)))) = some r := by rw [if_pos rfl] at H; exact H
       clear H
       have H := H1
       clear H1
       replace H := zs4 H
       obtain ⟨t370, A630, H⟩ := H
       replace H : ((laws_eqPunctS.f kj25 t353 t370).bind fun t373 => (if t373 = true then ((laws_markLat.f kj25 t348 t349 1).bind fun bt374 => ((laws_markPunctS.f kj25 t353 bt374.1).bind fun bt376 => (if bt376.1 < 0 then (laws_FnExactPolicySet.j1 kj25 l1 t344 t347 t360 true a0_0 l0_1 a2_0 a2_1 a2_2 a2_3) else ((laws_eqPunctS.f kj25 t360 t344).bind fun t378 => (if t378 = true then (laws_FnExactPolicySet.j1 kj25 l1 t344 t347 t360 (t363 != t347) a0_0 l0_1 a2_0 a2_1 a2_2 a2_3) else (laws_FnExactPolicySet.j1 kj25 l1 t344 t347 t360 true a0_0 l0_1 a2_0 a2_1 a2_2 a2_3)))))) else (some false))) = some r := H
       have A63 := zp.mk A630
       clear A630
       replace H := zs4 H
       obtain ⟨t373, A640, H⟩ := H
       replace H : (if t373 = true then ((laws_markLat.f kj25 t348 t349 1).bind fun bt374 => ((laws_markPunctS.f kj25 t353 bt374.1).bind fun bt376 => (if bt376.1 < 0 then (laws_FnExactPolicySet.j1 kj25 l1 t344 t347 t360 true a0_0 l0_1 a2_0 a2_1 a2_2 a2_3) else ((laws_eqPunctS.f kj25 t360 t344).bind fun t378 => (if t378 = true then (laws_FnExactPolicySet.j1 kj25 l1 t344 t347 t360 (t363 != t347) a0_0 l0_1 a2_0 a2_1 a2_2 a2_3) else (laws_FnExactPolicySet.j1 kj25 l1 t344 t347 t360 true a0_0 l0_1 a2_0 a2_1 a2_2 a2_3)))))) else (some false)) = some r := H
       have A64 := zp.mk A640
       clear A640
       by_cases c65 : t373 = true
       ·subst c65
        have H1 : ((laws_markLat.f kj25 t348 t349 1).bind fun bt374 => ((laws_markPunctS.f kj25 t353 bt374.1).bind fun bt376 => (if bt376.1 < 0 then (laws_FnExactPolicySet.j1 kj25 l1 t344 t347 t360 true a0_0 l0_1 a2_0 a2_1 a2_2 a2_3) else ((laws_eqPunctS.f kj25 t360 t344).bind fun t378 => (if t378 = true then (laws_FnExactPolicySet.j1 kj25 l1 t344 t347 t360 (t363 != t347) a0_0 l0_1 a2_0 a2_1 a2_2 a2_3) else (laws_FnExactPolicySet.j1 kj25 l1 t344 t347 t360 true a0_0 l0_1 a2_0 a2_1 a2_2 a2_3)))))) = some r := by rw [if_pos rfl] at H; exact H
        clear H
        have H := H1
        clear H1
        replace H := zs4 H
        obtain ⟨⟨t374, t375⟩, A660, H⟩ := H
        replace H : ((laws_markPunctS.f kj25 t353 t374).bind fun bt376 => (if bt376.1 < 0 then (laws_FnExactPolicySet.j1 kj25 l1 t344 t347 t360 true a0_0 l0_1 a2_0 a2_1 a2_2 a2_3) else ((laws_eqPunctS.f kj25 t360 t344).bind fun t378 => (if t378 = true then (laws_FnExactPolicySet.j1 kj25 l1 t344 t347 t360 (t363 != t347) a0_0 l0_1 a2_0 a2_1 a2_2 a2_3) else (laws_FnExactPolicySet.j1 kj25 l1 t344 t347 t360 true a0_0 l0_1 a2_0 a2_1 a2_2 a2_3))))) = some r := H
        have A66 := zp.mk A660
        clear A660
        replace H := zs4 H
        obtain ⟨⟨t376, t377⟩, A670, H⟩ := H
        replace H : (if t376 < 0 then (laws_FnExactPolicySet.j1 kj25 l1 t344 t347 t360 true a0_0 l0_1 a2_0 a2_1 a2_2 a2_3) else ((laws_eqPunctS.f kj25 t360 t344).bind fun t378 => (if t378 = true then (laws_FnExactPolicySet.j1 kj25 l1 t344 t347 t360 (t363 != t347) a0_0 l0_1 a2_0 a2_1 a2_2 a2_3) else (laws_FnExactPolicySet.j1 kj25 l1 t344 t347 t360 true a0_0 l0_1 a2_0 a2_1 a2_2 a2_3)))) = some r := H
        have A67 := zp.mk A670
        clear A670
        have HC68 := zp.mk H
        clear H
        try go_wp2
        replace HO_8 := zp.mk (Kd.R_drew HO_8.out)
        replace HO_11 := zp.mk (Kd.R_drew HO_11.out)
        replace HO_12 := zp.mk (Kd.R_drew HO_12.out)
        replace HO_353001 := zp.mk (Kd.R_drew HO_353001.out)
        replace BK329 := zp.mk (zi BK329.out)
        replace BK330 := zp.mk (zi BK330.out)
        replace BK352 := zp.mk (zi BK352.out)
        replace HB := zp.mk (zb HB.out)
        refine start_ (n := 5) (S := fun w' => w'.cell? ⟨gb352, 0, none⟩ = some (.int .i64 t348) ∧ w'.cell? ⟨gb352, 1, none⟩ = some (.slice Ao45 t349.length co45) ∧ w'.cell? ⟨gb329, 0, none⟩ = some (.int .i64 a0_0) ∧ w'.cell? ⟨gb329, 1, none⟩ = some (.slice A0_1 l0_1.length c0_1)) (ds := []) (zB 5 0) (by kernel_rfl) rfl rfl ⟨(ze BK352.out 0).trans rfl, (ze BK352.out 1).trans rfl, (ze BK329.out 0).trans rfl, (ze BK329.out 1).trans rfl⟩ (fun hHeld => ?_)
        generalize wc.drew = w69 at HO_8 HO_11 HO_12 HO_353001 BK329 BK330 BK352 HB hHeld ⊢
        refine take_ (i := 0) (N := some 60) (v := ?_) (a' := ?_) (zB 5 1) rfl rfl (by kernel_rfl) (fun _ _ _ h => h) (Or.inl ⟨by rfl, ?_⟩) hHeld ?_ ?_
        rotate_left
        ·rintro w' ⟨s0, s1, s2, s3⟩
         go_simp
         with_reducible rfl
        rotate_left
        ·simp only [Act.put, zs1, zs2, zs3, i64_w, i32_w]
         rfl
        refine take_ (i := 1) (N := some 61) (v := ?_) (a' := ?_) (zB 5 3) rfl rfl (by kernel_rfl) (fun _ _ _ h => h) (Or.inl ⟨by rfl, ?_⟩) hHeld ?_ ?_
        rotate_left
        ·rintro w' ⟨s0, s1, s2, s3⟩
         go_simp
         with_reducible rfl
        rotate_left
        ·simp only [Act.put, zs1, zs2, zs3, i64_w, i32_w]
         rfl
        refine one_ (i := 2) (N := some 62) (zB 5 7) rfl rfl (by kernel_rfl) (by decide) (fun K hK => ?_)
        refine goes_ Try.func19 (by kernel_rfl) rfl #[.agg #[.int .i64 a0_0, .slice A0_1 l0_1.length c0_1]] (by rfl) rfl rfl (by (try simp only [List.map_toArray, List.map_cons, List.map_nil]); first | done | rfl | (simp only [List.length_drop, List.length_take]; rfl)) ?_
        with_reducible refine (laws_toLat.calls kj25 a0_0 _ _ l0_1 t365 t366 _ ?side1 ?side2 A60.out).mono ?_
        (case side1 => repeat (first | exact (Kd.zt HR0_1.out HB.out) | (with_reducible refine Kd.zr ?_ _) | (with_reducible refine Kd.zq ?_ _) | (with_reducible refine Kd.C_drew ?_)))
        (case side2 => exact HC0_1.out)
        rintro e w70 ⟨v367, rfl, ho0, hb⟩
        refine ⟨_, rfl, ?_⟩
        have HO368 := zp.mk (Kd.R_lower (Kd.R_new' ho0 (Kd.R_lt (by (with_reducible repeat (first | apply Kd.R_alloc | apply Kd.R_drewN | apply Kd.R_drew)); exact HO_353001.out))) (zk (zv7 HB.out)))
        replace HO_8 := zp.mk (Kd.R_below (by (with_reducible repeat (first | apply Kd.R_alloc | apply Kd.R_drewN | apply Kd.R_drew)); exact HO_8.out) hb)
        replace HO_11 := zp.mk (Kd.R_below (by (with_reducible repeat (first | apply Kd.R_alloc | apply Kd.R_drewN | apply Kd.R_drew)); exact HO_11.out) hb)
        replace HO_12 := zp.mk (Kd.R_below (by (with_reducible repeat (first | apply Kd.R_alloc | apply Kd.R_drewN | apply Kd.R_drew)); exact HO_12.out) hb)
        replace HO_353001 := zp.mk (Kd.R_elder' (by (with_reducible repeat (first | apply Kd.R_alloc | apply Kd.R_drewN | apply Kd.R_drew)); exact HO_353001.out) (Kd.R_base ho0) hb)
        replace BK329 := zp.mk (zl (zv8 BK329.out) hb)
        replace BK330 := zp.mk (zl (zv8 BK330.out) hb)
        replace BK352 := zp.mk (zl (zv8 BK352.out) hb)
        replace HB := zp.mk (zj (zv7 HB.out) hb)
        (try clear hb)
        (try clear hb2)
        (try clear hk)
        (try clear hi)
        (try clear ho0)
        obtain ⟨Ao71, co71, eo71⟩ := Kd.R_slice HO368.out
        (first | subst eo71 | (injection eo71 with f1_ f2_ f3_; have f4_ := f1_.symm; have f5_ := f3_.symm; clear f1_ f2_ f3_; subst f4_; subst f5_))
        refine hK.out _ _ ⟨(ze BK352.out 0).trans rfl, (ze BK352.out 1).trans rfl, (ze BK329.out 0).trans rfl, (ze BK329.out 1).trans rfl⟩ (fun hHeld => ?_)
        clear hK K
        refine norm_ (a' := ?_) ?_ ?_
        rotate_left
        ·show Act.put _ (some 62) _ = _
         simp only [Act.put, zs1, zs2, zs3, i64_w, i32_w]
         rfl
        refine one_ (i := 3) (N := some 63) (zB 5 15) rfl rfl (by kernel_rfl) (by decide) (fun K hK => ?_)
        refine goes_ Try.func21 (by kernel_rfl) rfl #[.agg #[.int .i64 t348, .slice Ao45 t349.length co45], .agg #[.int .i64 t365, .slice Ao71 t366.length co71]] (by rfl) rfl rfl (by (try simp only [List.map_toArray, List.map_cons, List.map_nil]); first | done | rfl | (simp only [List.length_drop, List.length_take]; rfl)) ?_
        with_reducible refine (laws_eqLat.calls kj25 t348 _ _ t349 t365 _ _ t366 true _ ?side1 ?side2 ?side3 ?side4 A61.out).mono ?_
        (case side1 => repeat (first | exact (Kd.R_reads' HO_353001.out).2.2 | (with_reducible refine Kd.zr ?_ _) | (with_reducible refine Kd.zq ?_ _) | (with_reducible refine Kd.C_drew ?_)))
        (case side2 => exact (Kd.R_reads' HO_353001.out).2.1)
        (case side3 => repeat (first | exact (Kd.R_reads' HO368.out).2.2 | (with_reducible refine Kd.zr ?_ _) | (with_reducible refine Kd.zq ?_ _) | (with_reducible refine Kd.C_drew ?_)))
        (case side4 => exact (Kd.R_reads' HO368.out).2.1)
        rintro e w72 ⟨rfl, hb⟩
        refine ⟨_, rfl, ?_⟩
        replace HO_8 := zp.mk (Kd.R_below (by (with_reducible repeat (first | apply Kd.R_alloc | apply Kd.R_drewN | apply Kd.R_drew)); exact HO_8.out) hb)
        replace HO_11 := zp.mk (Kd.R_below (by (with_reducible repeat (first | apply Kd.R_alloc | apply Kd.R_drewN | apply Kd.R_drew)); exact HO_11.out) hb)
        replace HO_12 := zp.mk (Kd.R_below (by (with_reducible repeat (first | apply Kd.R_alloc | apply Kd.R_drewN | apply Kd.R_drew)); exact HO_12.out) hb)
        replace HO_353001 := zp.mk (Kd.R_below (by (with_reducible repeat (first | apply Kd.R_alloc | apply Kd.R_drewN | apply Kd.R_drew)); exact HO_353001.out) hb)
        replace HO368 := zp.mk (Kd.R_below (by (with_reducible repeat (first | apply Kd.R_alloc | apply Kd.R_drewN | apply Kd.R_drew)); exact HO368.out) hb)
        replace BK329 := zp.mk (zl (zv8 BK329.out) hb)
        replace BK330 := zp.mk (zl (zv8 BK330.out) hb)
        replace BK352 := zp.mk (zl (zv8 BK352.out) hb)
        replace HB := zp.mk (zj (zv7 HB.out) hb)
        (try clear hb)
        (try clear hb2)
        (try clear hk)
        (try clear hi)
        refine hK.out _ _ ⟨(ze BK352.out 0).trans rfl, (ze BK352.out 1).trans rfl, (ze BK329.out 0).trans rfl, (ze BK329.out 1).trans rfl⟩ (fun hHeld => ?_)
        clear hK K
        refine norm_ (a' := ?_) ?_ ?_
        rotate_left
        ·show Act.put _ (some 63) _ = _
         simp only [Act.put, zs1, zs2, zs3, i64_w, i32_w]
         rfl
        refine pure_ (i := 4) (N := some 64) (v := ?_) (a' := ?_) (zB 5 31) rfl rfl (by kernel_rfl) (fun _ _ _ h => h) (Or.inl ⟨by rfl, ?_⟩) ?_ ?_
        rotate_left
        ·intro w'
         go_simp
         with_reducible rfl
        rotate_left
        ·simp only [Act.put, zs1, zs2, zs3, i64_w, i32_w]
         rfl
        refine done_ (by kernel_rfl) ?_
        go_upto_region 21 with (first | ((with_reducible refine zn (f := 54) rfl ?_); refine goesL_ (some 67) rfl rfl Try.func54 (by kernel_rfl) rfl #[.slice A1 l1.length c1] rfl (by (try simp only [List.map_toArray, List.map_cons, List.map_nil]); first | done | rfl | (simp only [List.length_drop, List.length_take]; rfl)) ?_; (with_reducible refine (laws_toPunctS.calls kj25 _ _ l1 t370 _ ?side1 ?side2 A63.out).mono ?_); (case side1 => repeat (first | exact (Kd.zt HR1.out HB.out) | (with_reducible refine Kd.zr ?_ _) | (with_reducible refine Kd.zq ?_ _) | (with_reducible refine Kd.C_drew ?_))); (case side2 => exact HC1.out); rintro e w73 ⟨v371, rfl, ho0, hb⟩; refine ⟨_, rfl, ?_⟩; have HO372 := zp.mk (Kd.R_lower (Kd.R_new' (Kd.R_new' (Kd.R_new' ho0 (Kd.R_lt (by (with_reducible repeat (first | apply Kd.R_alloc | apply Kd.R_drewN | apply Kd.R_drew)); exact HO_8.out))) (Kd.R_lt (by (with_reducible repeat (first | apply Kd.R_alloc | apply Kd.R_drewN | apply Kd.R_drew)); exact HO_11.out))) (Kd.R_lt (by (with_reducible repeat (first | apply Kd.R_alloc | apply Kd.R_drewN | apply Kd.R_drew)); exact HO_12.out))) (zk (zv7 HB.out))); replace HO_8 := zp.mk (Kd.R_elder' (by (with_reducible repeat (first | apply Kd.R_alloc | apply Kd.R_drewN | apply Kd.R_drew)); exact HO_8.out) (Kd.R_base ho0) hb); replace HO_11 := zp.mk (Kd.R_elder' (by (with_reducible repeat (first | apply Kd.R_alloc | apply Kd.R_drewN | apply Kd.R_drew)); exact HO_11.out) (Kd.R_base ho0) hb); replace HO_12 := zp.mk (Kd.R_elder' (by (with_reducible repeat (first | apply Kd.R_alloc | apply Kd.R_drewN | apply Kd.R_drew)); exact HO_12.out) (Kd.R_base ho0) hb); replace HO_353001 := zp.mk (Kd.R_below (by (with_reducible repeat (first | apply Kd.R_alloc | apply Kd.R_drewN | apply Kd.R_drew)); exact HO_353001.out) hb); replace HO368 := zp.mk (Kd.R_below (by (with_reducible repeat (first | apply Kd.R_alloc | apply Kd.R_drewN | apply Kd.R_drew)); exact HO368.out) hb); replace BK329 := zp.mk (zl (zv8 BK329.out) hb); replace BK330 := zp.mk (zl (zv8 BK330.out) hb); replace BK352 := zp.mk (zl (zv8 BK352.out) hb); replace HB := zp.mk (zj (zv7 HB.out) hb); (try clear hb); (try clear hb2); (try clear hk); (try clear hi); (try clear ho0); obtain ⟨Ao74, co74, eo74⟩ := Kd.R_slice HO372.out; subst eo74) | ((with_reducible refine zn (f := 56) rfl ?_); refine goesL_ (some 68) rfl rfl Try.func56 (by kernel_rfl) rfl #[.slice Ao49 t353.length co49, .slice Ao74 t370.length co74] rfl (by (try simp only [List.map_toArray, List.map_cons, List.map_nil]); first | done | rfl | (simp only [List.length_drop, List.length_take]; rfl)) ?_; (with_reducible refine (laws_eqPunctS.calls kj25 _ _ t353 _ _ t370 true _ ?side1 ?side2 ?side3 ?side4 A64.out).mono ?_); (case side1 => repeat (first | exact (Kd.R_reads' HO_11.out).2.2 | (with_reducible refine Kd.zr ?_ _) | (with_reducible refine Kd.zq ?_ _) | (with_reducible refine Kd.C_drew ?_))); (case side2 => exact (Kd.R_reads' HO_11.out).2.1); (case side3 => repeat (first | exact (Kd.R_reads' HO372.out).2.2 | (with_reducible refine Kd.zr ?_ _) | (with_reducible refine Kd.zq ?_ _) | (with_reducible refine Kd.C_drew ?_))); (case side4 => exact (Kd.R_reads' HO372.out).2.1); rintro e w75 ⟨rfl, hb⟩; refine ⟨_, rfl, ?_⟩; replace HO_8 := zp.mk (Kd.R_below (by (with_reducible repeat (first | apply Kd.R_alloc | apply Kd.R_drewN | apply Kd.R_drew)); exact HO_8.out) hb); replace HO_11 := zp.mk (Kd.R_below (by (with_reducible repeat (first | apply Kd.R_alloc | apply Kd.R_drewN | apply Kd.R_drew)); exact HO_11.out) hb); replace HO_12 := zp.mk (Kd.R_below (by (with_reducible repeat (first | apply Kd.R_alloc | apply Kd.R_drewN | apply Kd.R_drew)); exact HO_12.out) hb); replace HO_353001 := zp.mk (Kd.R_below (by (with_reducible repeat (first | apply Kd.R_alloc | apply Kd.R_drewN | apply Kd.R_drew)); exact HO_353001.out) hb); replace HO368 := zp.mk (Kd.R_below (by (with_reducible repeat (first | apply Kd.R_alloc | apply Kd.R_drewN | apply Kd.R_drew)); exact HO368.out) hb); replace HO372 := zp.mk (Kd.R_below (by (with_reducible repeat (first | apply Kd.R_alloc | apply Kd.R_drewN | apply Kd.R_drew)); exact HO372.out) hb); replace BK329 := zp.mk (zl (zv8 BK329.out) hb); replace BK330 := zp.mk (zl (zv8 BK330.out) hb); replace BK352 := zp.mk (zl (zv8 BK352.out) hb); replace HB := zp.mk (zj (zv7 HB.out) hb); (try clear hb); (try clear hb2); (try clear hk); (try clear hi); have hnb76 := NB352_329.out; have hnc76 := NB329_352.out; have hnb77 := NB352_330.out; have hnc77 := NB330_352.out; have y78_0 := zt0 BK352.out; have y78_1 := zt1 BK352.out; have u78_0 := zd BK352.out 0; have u78_1 := zd BK352.out 1) | ((with_reducible refine zn (f := 33) rfl ?_); refine goesL_ (some 72) rfl rfl Try.func33 (by kernel_rfl) rfl #[.agg #[.int .i64 t348, .slice Ao45 t349.length co45], .int .i64 1] rfl (by (try simp only [List.map_toArray, List.map_cons, List.map_nil]); first | done | rfl | (simp only [List.length_drop, List.length_take]; rfl)) ?_; (with_reducible refine (laws_markLat.calls kj25 t348 (fun k_ => some k_ = (.slice Ao45 t349.length co45 : Value).ownBlock) (.slice Ao45 t349.length co45) t349 1 t374 t375 w _ ?side1 ?side2 A66.out).mono ?_); (case side1 => repeat (first | (with_reducible first | exact HB.out | apply zc | apply za | apply zb | refine zh ?_ GE329.out | refine zh ?_ GE330.out | refine zh ?_ GE352.out) | exact HB.out)); (case side2 => exact Kd.R_tight rfl HO_353001.out); rintro e w79 ⟨rfl, hy0, hb, hkp⟩; refine ⟨_, rfl, ?_⟩; replace HO_8 := zp.mk (Kd.R_mono (ok' := fun k_ => some k_ ≠ (.slice Ao49 t353.length co49 : Value).ownBlock ∧ some k_ ≠ (v361 : Value).ownBlock ∧ some k_ ≠ (.slice Ao74 t370.length co74 : Value).ownBlock) (Kd.R_keptB ((Kd.R_apart' HO_8.out (Kd.R_typed HO_353001.out) (by decide))) hkp (fun k_ hk_ hs_ => (hk_.2) hs_)) (fun k_ hk_ => ⟨hk_.1.1.1.1, hk_.1.1.1.2, hk_.1.1.2⟩)); replace HO_11 := zp.mk (Kd.R_mono (ok' := fun k_ => some k_ ≠ (v345 : Value).ownBlock ∧ some k_ ≠ (v361 : Value).ownBlock ∧ some k_ ≠ (.slice Ao74 t370.length co74 : Value).ownBlock) (Kd.R_keptB ((Kd.R_apart' HO_11.out (Kd.R_typed HO_353001.out) (by decide))) hkp (fun k_ hk_ hs_ => (hk_.2) hs_)) (fun k_ hk_ => ⟨hk_.1.1.1.1, hk_.1.1.1.2, hk_.1.1.2⟩)); replace HO_12 := zp.mk (Kd.R_mono (ok' := fun k_ => some k_ ≠ (v345 : Value).ownBlock ∧ some k_ ≠ (.slice Ao49 t353.length co49 : Value).ownBlock ∧ some k_ ≠ (.slice Ao74 t370.length co74 : Value).ownBlock) (Kd.R_keptB ((Kd.R_apart' HO_12.out (Kd.R_typed HO_353001.out) (by decide))) hkp (fun k_ hk_ hs_ => (hk_.2) hs_)) (fun k_ hk_ => ⟨hk_.1.1.1.1, hk_.1.1.1.2, hk_.1.1.2⟩)); replace BK329 := zp.mk (blk_kept (zv8 BK329.out) hkp (fun hs_ => (fun e_ => (Kd.R_ne HO_353001.out BK329.out (by decide)) e_) hs_)); replace BK330 := zp.mk (blk_kept (zv8 BK330.out) hkp (fun hs_ => (fun e_ => (Kd.R_ne HO_353001.out BK330.out (by decide)) e_) hs_)); replace BK352 := zp.mk (blk_kept (zv8 BK352.out) hkp (fun hs_ => (fun e_ => (Kd.R_ne HO_353001.out BK352.out (by decide)) e_) hs_)); replace HO368 := zp.mk (Kd.R_mono (ok' := fun k_ => some k_ ≠ (.slice Ao45 t349.length co45 : Value).ownBlock) (Kd.R_keptB (HO368.out) hkp (fun k_ hk_ hs_ => (hk_.2) hs_)) (fun k_ hk_ => hk_.1.2)); replace HO372 := zp.mk (Kd.R_mono (ok' := fun k_ => some k_ ≠ (v345 : Value).ownBlock ∧ some k_ ≠ (.slice Ao49 t353.length co49 : Value).ownBlock ∧ some k_ ≠ (v361 : Value).ownBlock) (Kd.R_keptB ((Kd.R_apart' HO372.out (Kd.R_typed HO_353001.out) (by decide))) hkp (fun k_ hk_ hs_ => (hk_.2) hs_)) (fun k_ hk_ => ⟨hk_.1.1.1.1.2, hk_.1.1.1.2, hk_.1.1.2⟩)); replace HO_353001 := zp.mk (Kd.R_reok rfl hy0 (fun k_ e_ => HO_353001.out.1 k_ e_)); replace HB := zp.mk (hb); (try clear hb); (try clear hkp); (try clear hy0)) | ((with_reducible refine zn (f := 61) rfl ?_); refine goesL_ (some 75) rfl rfl Try.func61 (by kernel_rfl) rfl #[.slice Ao49 t353.length co49, .int .i64 t374] rfl (by (try simp only [List.map_toArray, List.map_cons, List.map_nil]); first | done | rfl | (simp only [List.length_drop, List.length_take]; rfl)) ?_; (with_reducible refine (laws_markPunctS.calls kj25 (fun k_ => some k_ = (.slice Ao49 t353.length co49 : Value).ownBlock) (.slice Ao49 t353.length co49) t353 t374 t376 t377 w _ ?side1 ?side2 A67.out).mono ?_); (case side1 => repeat (first | (with_reducible first | exact HB.out | apply zc | apply za | apply zb | refine zh ?_ GE329.out | refine zh ?_ GE330.out | refine zh ?_ GE352.out) | exact HB.out)); (case side2 => exact Kd.R_tight rfl HO_11.out); rintro e w80 ⟨rfl, hy0, hb, hkp⟩; refine ⟨_, rfl, ?_⟩; replace HO_8 := zp.mk (Kd.R_mono (ok' := fun k_ => some k_ ≠ (.slice Ao49 t353.length co49 : Value).ownBlock ∧ some k_ ≠ (v361 : Value).ownBlock ∧ some k_ ≠ (.slice Ao74 t370.length co74 : Value).ownBlock) (Kd.R_keptB (HO_8.out) hkp (fun k_ hk_ hs_ => (hk_.1) hs_)) (fun k_ hk_ => ⟨hk_.1.1, hk_.1.2.1, hk_.1.2.2⟩)); replace HO_12 := zp.mk (Kd.R_mono (ok' := fun k_ => some k_ ≠ (v345 : Value).ownBlock ∧ some k_ ≠ (.slice Ao49 t353.length co49 : Value).ownBlock ∧ some k_ ≠ (.slice Ao74 t370.length co74 : Value).ownBlock) (Kd.R_keptB (HO_12.out) hkp (fun k_ hk_ hs_ => (hk_.2.1) hs_)) (fun k_ hk_ => ⟨hk_.1.1, hk_.1.2.1, hk_.1.2.2⟩)); replace HO_353001 := zp.mk (Kd.R_mono (ok' := fun k_ => some k_ ≠ (.slice Ao71 t366.length co71 : Value).ownBlock) (Kd.R_keptB ((Kd.R_apart' HO_353001.out (Kd.R_typed HO_11.out) (by decide))) hkp (fun k_ hk_ hs_ => (hk_.2) hs_)) (fun k_ hk_ => hk_.1.1.2)); replace BK329 := zp.mk (blk_kept (zv8 BK329.out) hkp (fun hs_ => (fun e_ => (Kd.R_ne HO_11.out BK329.out (by decide)) e_) hs_)); replace BK330 := zp.mk (blk_kept (zv8 BK330.out) hkp (fun hs_ => (fun e_ => (Kd.R_ne HO_11.out BK330.out (by decide)) e_) hs_)); replace BK352 := zp.mk (blk_kept (zv8 BK352.out) hkp (fun hs_ => (fun e_ => (Kd.R_ne HO_11.out BK352.out (by decide)) e_) hs_)); replace HO368 := zp.mk (Kd.R_mono (ok' := fun k_ => some k_ ≠ (.slice Ao45 t349.length co45 : Value).ownBlock) (Kd.R_keptB ((Kd.R_apart' HO368.out (Kd.R_typed HO_11.out) (by decide))) hkp (fun k_ hk_ hs_ => (hk_.2) hs_)) (fun k_ hk_ => hk_.1.1)); replace HO_11 := zp.mk (Kd.R_reok rfl hy0 (fun k_ e_ => HO_11.out.1 k_ e_)); replace HO372 := zp.mk (Kd.R_mono (ok' := fun k_ => some k_ ≠ (v345 : Value).ownBlock ∧ some k_ ≠ (.slice Ao49 t353.length co49 : Value).ownBlock ∧ some k_ ≠ (v361 : Value).ownBlock) (Kd.R_keptB (HO372.out) hkp (fun k_ hk_ hs_ => (hk_.2.1) hs_)) (fun k_ hk_ => ⟨hk_.1.1, hk_.1.2.1, hk_.1.2.2⟩)); replace HB := zp.mk (hb); (try clear hb); (try clear hkp); (try clear hy0)))
        (try simp only [Act.put, zs1, zs2, zs3])
        go_cut [88] (fun v88 wc => ∃ (kq : Nat) (x88_67 : Bool), v88 = .bool x88_67 ∧ zp (laws_FnExactPolicySet.j1 kq l1 t344 t347 t360 x88_67 a0_0 l0_1 a2_0 a2_1 a2_2 a2_3 = some r) ∧ zp (kq ≤ kj25) ∧ zp (Kd.R k58 58 wc w.heap.size (fun k_ => some k_ ≠ (v361 : Value).ownBlock) v345 t344) ∧ zp (Kd.R k58 58 wc w.heap.size (fun k_ => some k_ ≠ (v345 : Value).ownBlock) v361 t360) ∧ zp (Kd.R (Kd.int .u64) 76 wc w.heap.size (fun _ => True) (.slice Ao45 t349.length co45) t375) ∧ zp (wc.heap[gb329]? = some (.cells #[.int .i64 a0_0, (.slice A0_1 l0_1.length c0_1)] 24 (0, 0))) ∧ zp (wc.heap[gb330]? = some (.cells #[.int .i64 a2_0, .int .i64 a2_1, .int .i64 a2_2, .int .i64 a2_3] 56 (0, 0))) ∧ zp (wc.heap[gb352]? = some (.cells #[.int .i64 t348, (.slice Ao45 t349.length co45)] 27 (0, 0))) ∧ zp (Below w.heap.size w wc))
        case first =>
         have H := HC68.out
         clear HC68
         by_cases c81 : t376 < 0
         ·rw [if_pos c81] at H
          have c81b0 : decide (t376 < 0) = true := decide_eq_true c81
          clear c81
          (first | rw [c81b0] | (simp only [i64_w, i32_w]; rw [c81b0]) | skip)
          have H' := zp.mk H
          clear H
          go_wp2
          go_meet
          case rel => exact ⟨_, (true), (by first | rfl | (simp; done) | (simp [*]; done)), H', ⟨by have := HJ25.out; first | omega | exact Nat.le_refl _⟩, ⟨by (with_reducible repeat (first | apply Kd.R_alloc | apply Kd.R_drewN | apply Kd.R_drew)); exact Kd.R_mono HO_8.out (fun _ hk => hk.2.1)⟩, ⟨by (with_reducible repeat (first | apply Kd.R_alloc | apply Kd.R_drewN | apply Kd.R_drew)); exact Kd.R_mono HO_12.out (fun _ hk => hk.1)⟩, ⟨by (with_reducible repeat (first | apply Kd.R_alloc | apply Kd.R_drewN | apply Kd.R_drew)); exact Kd.R_mono HO_353001.out (fun _ hk => trivial)⟩, ⟨zv8 BK329.out⟩, ⟨zv8 BK330.out⟩, ⟨zv8 BK352.out⟩, ⟨zv7 HB.out⟩⟩
         ·rw [if_neg c81] at H
          have c81b0 : decide (t376 < 0) = false := decide_eq_false c81
          clear c81
          (first | rw [c81b0] | (simp only [i64_w, i32_w]; rw [c81b0]) | skip)
          replace H := zs4 H
          obtain ⟨t378, A820, H⟩ := H
          replace H : (if t378 = true then (laws_FnExactPolicySet.j1 kj25 l1 t344 t347 t360 (t363 != t347) a0_0 l0_1 a2_0 a2_1 a2_2 a2_3) else (laws_FnExactPolicySet.j1 kj25 l1 t344 t347 t360 true a0_0 l0_1 a2_0 a2_1 a2_2 a2_3)) = some r := H
          have A82 := zp.mk A820
          clear A820
          by_cases c83 : t378 = true
          ·subst c83
           have H1 : (laws_FnExactPolicySet.j1 kj25 l1 t344 t347 t360 (t363 != t347) a0_0 l0_1 a2_0 a2_1 a2_2 a2_3) = some r := by rw [if_pos rfl] at H; exact H
           clear H
           have H := H1
           clear H1
           have H' := zp.mk H
           clear H
           obtain ⟨Ao84, co84, eo84⟩ := Kd.R_slice HO_12.out
           subst eo84
           obtain ⟨Ao85, co85, eo85⟩ := Kd.R_slice HO_8.out
           subst eo85
           go_wp2_with (first | (go_at_call 56; (with_reducible refine (laws_eqPunctS.calls kj25 _ _ t360 _ _ t344 true _ ?side1 ?side2 ?side3 ?side4 A82.out).mono ?_); (case side1 => repeat (first | exact (Kd.R_reads' HO_12.out).2.2 | (with_reducible refine Kd.zr ?_ _) | (with_reducible refine Kd.zq ?_ _) | (with_reducible refine Kd.C_drew ?_))); (case side2 => exact (Kd.R_reads' HO_12.out).2.1); (case side3 => repeat (first | exact (Kd.R_reads' HO_8.out).2.2 | (with_reducible refine Kd.zr ?_ _) | (with_reducible refine Kd.zq ?_ _) | (with_reducible refine Kd.C_drew ?_))); (case side4 => exact (Kd.R_reads' HO_8.out).2.1); rintro e w86 ⟨rfl, hb⟩; replace HO_8 := zp.mk (Kd.R_below (by (with_reducible repeat (first | apply Kd.R_alloc | apply Kd.R_drewN | apply Kd.R_drew)); exact HO_8.out) hb); replace HO_11 := zp.mk (Kd.R_below (by (with_reducible repeat (first | apply Kd.R_alloc | apply Kd.R_drewN | apply Kd.R_drew)); exact HO_11.out) hb); replace HO_12 := zp.mk (Kd.R_below (by (with_reducible repeat (first | apply Kd.R_alloc | apply Kd.R_drewN | apply Kd.R_drew)); exact HO_12.out) hb); replace HO_353001 := zp.mk (Kd.R_below (by (with_reducible repeat (first | apply Kd.R_alloc | apply Kd.R_drewN | apply Kd.R_drew)); exact HO_353001.out) hb); replace HO368 := zp.mk (Kd.R_below (by (with_reducible repeat (first | apply Kd.R_alloc | apply Kd.R_drewN | apply Kd.R_drew)); exact HO368.out) hb); replace HO372 := zp.mk (Kd.R_below (by (with_reducible repeat (first | apply Kd.R_alloc | apply Kd.R_drewN | apply Kd.R_drew)); exact HO372.out) hb); replace BK329 := zp.mk (zl (zv8 BK329.out) hb); replace BK330 := zp.mk (zl (zv8 BK330.out) hb); replace BK352 := zp.mk (zl (zv8 BK352.out) hb); replace HB := zp.mk (zj (zv7 HB.out) hb); (try clear hb); (try clear hb2); (try clear hk); (try clear hi)))
           go_meet
           case rel => exact ⟨_, ((t363 != t347)), (by first | rfl | (simp; done) | (simp [*]; done)), H', ⟨by have := HJ25.out; first | omega | exact Nat.le_refl _⟩, ⟨by (with_reducible repeat (first | apply Kd.R_alloc | apply Kd.R_drewN | apply Kd.R_drew)); exact Kd.R_mono HO_8.out (fun _ hk => hk.2.1)⟩, ⟨by (with_reducible repeat (first | apply Kd.R_alloc | apply Kd.R_drewN | apply Kd.R_drew)); exact Kd.R_mono HO_12.out (fun _ hk => hk.1)⟩, ⟨by (with_reducible repeat (first | apply Kd.R_alloc | apply Kd.R_drewN | apply Kd.R_drew)); exact Kd.R_mono HO_353001.out (fun _ hk => trivial)⟩, ⟨zv8 BK329.out⟩, ⟨zv8 BK330.out⟩, ⟨zv8 BK352.out⟩, ⟨zv7 HB.out⟩⟩
          ·replace c83 := Bool.eq_false_iff.mpr c83
           subst c83
           have H1 : (laws_FnExactPolicySet.j1 kj25 l1 t344 t347 t360 true a0_0 l0_1 a2_0 a2_1 a2_2 a2_3) = some r := by rw [if_neg (show ¬ (false = true) by decide)] at H; exact H
           clear H
           have H := H1
           clear H1
           have H' := zp.mk H
           clear H
           obtain ⟨Ao87, co87, eo87⟩ := Kd.R_slice HO_12.out
           subst eo87
           obtain ⟨Ao88, co88, eo88⟩ := Kd.R_slice HO_8.out
           subst eo88
           go_wp2_with (first | (go_at_call 56; (with_reducible refine (laws_eqPunctS.calls kj25 _ _ t360 _ _ t344 false _ ?side1 ?side2 ?side3 ?side4 A82.out).mono ?_); (case side1 => repeat (first | exact (Kd.R_reads' HO_12.out).2.2 | (with_reducible refine Kd.zr ?_ _) | (with_reducible refine Kd.zq ?_ _) | (with_reducible refine Kd.C_drew ?_))); (case side2 => exact (Kd.R_reads' HO_12.out).2.1); (case side3 => repeat (first | exact (Kd.R_reads' HO_8.out).2.2 | (with_reducible refine Kd.zr ?_ _) | (with_reducible refine Kd.zq ?_ _) | (with_reducible refine Kd.C_drew ?_))); (case side4 => exact (Kd.R_reads' HO_8.out).2.1); rintro e w89 ⟨rfl, hb⟩; replace HO_8 := zp.mk (Kd.R_below (by (with_reducible repeat (first | apply Kd.R_alloc | apply Kd.R_drewN | apply Kd.R_drew)); exact HO_8.out) hb); replace HO_11 := zp.mk (Kd.R_below (by (with_reducible repeat (first | apply Kd.R_alloc | apply Kd.R_drewN | apply Kd.R_drew)); exact HO_11.out) hb); replace HO_12 := zp.mk (Kd.R_below (by (with_reducible repeat (first | apply Kd.R_alloc | apply Kd.R_drewN | apply Kd.R_drew)); exact HO_12.out) hb); replace HO_353001 := zp.mk (Kd.R_below (by (with_reducible repeat (first | apply Kd.R_alloc | apply Kd.R_drewN | apply Kd.R_drew)); exact HO_353001.out) hb); replace HO368 := zp.mk (Kd.R_below (by (with_reducible repeat (first | apply Kd.R_alloc | apply Kd.R_drewN | apply Kd.R_drew)); exact HO368.out) hb); replace HO372 := zp.mk (Kd.R_below (by (with_reducible repeat (first | apply Kd.R_alloc | apply Kd.R_drewN | apply Kd.R_drew)); exact HO372.out) hb); replace BK329 := zp.mk (zl (zv8 BK329.out) hb); replace BK330 := zp.mk (zl (zv8 BK330.out) hb); replace BK352 := zp.mk (zl (zv8 BK352.out) hb); replace HB := zp.mk (zj (zv7 HB.out) hb); (try clear hb); (try clear hb2); (try clear hk); (try clear hi)))
           go_meet
           case rel => exact ⟨_, (true), (by first | rfl | (simp; done) | (simp [*]; done)), H', ⟨by have := HJ25.out; first | omega | exact Nat.le_refl _⟩, ⟨by (with_reducible repeat (first | apply Kd.R_alloc | apply Kd.R_drewN | apply Kd.R_drew)); exact Kd.R_mono HO_8.out (fun _ hk => hk.2.1)⟩, ⟨by (with_reducible repeat (first | apply Kd.R_alloc | apply Kd.R_drewN | apply Kd.R_drew)); exact Kd.R_mono HO_12.out (fun _ hk => hk.1)⟩, ⟨by (with_reducible repeat (first | apply Kd.R_alloc | apply Kd.R_drewN | apply Kd.R_drew)); exact Kd.R_mono HO_353001.out (fun _ hk => trivial)⟩, ⟨zv8 BK329.out⟩, ⟨zv8 BK330.out⟩, ⟨zv8 BK352.out⟩, ⟨zv7 HB.out⟩⟩
        case rest =>
         clear HC68
         try clear c1
         try clear c2
         try clear p2
         try clear c3
         try clear c4
         try clear c5
         try clear c5b0
         try clear c6
         try clear c7
         try clear c8
         try clear c12
         try clear c12b0
         try clear c15
         try clear c16
         try clear c17
         try clear c19
         try clear c21
         try clear c29
         try clear c33
         try clear c42
         try clear c43
         try clear c50
         try clear c52
         try clear c54
         try clear c56
         try clear c59
         try clear c61
         try clear c62
         try clear c64
         try clear c65
         try clear c76
         try clear c77
         try clear c81
         try clear c81b0
         try clear c83
         try clear y16_0
         try clear y16_1
         try clear y30_0
         try clear y30_1
         try clear y39_0
         try clear y39_1
         try clear y44_0
         try clear y44_1
         try clear y78_0
         try clear y78_1
         try clear y9_0
         try clear y9_1
         try clear u16_0
         try clear u16_1
         try clear u30_0
         try clear u30_1
         try clear u39_0
         try clear u39_1
         try clear u44_0
         try clear u44_1
         try clear u78_0
         try clear u78_1
         try clear u9_0
         try clear u9_1
         try clear p2
         obtain ⟨kq, x88_67, rfl, HA, HJ67, HO_8, HO_12, HO_353001, BK329, BK330, BK352, HB⟩ := hcut
         have hl353001_67 := (Kd.R_reads' HO_353001.out).1
         rw [hl353001_67] at HO_353001
         (try simp only [hl353001_67])
         (try simp only [hl353001_67] at BK329)
         (try simp only [hl353001_67] at BK330)
         (try simp only [hl353001_67] at BK352)
         (try simp only [hl353001_67] at HO_8)
         (try simp only [hl353001_67] at HO_12)
         cases kq with
         | zero => exact absurd HA.out (by simp [laws_FnExactPolicySet.j1])
         | succ kj67 =>
          have H := HA.out
          clear HA
          simp only [laws_FnExactPolicySet.j1] at H
          by_cases c90 : x88_67 = true
          ·subst c90
           have H1 : (some false) = some r := by rw [if_pos rfl] at H; exact H
           clear H
           have H := H1
           clear H1
           exact absurd ((Option.some.inj H).trans hr_) (by decide)
          ·replace c90 := Bool.eq_false_iff.mpr c90
           subst c90
           have H1 : ((laws_markPunctS.f kj67 t360 1).bind fun bt379 => ((laws_heldPunctS.f kj67 bt379.2 1).bind fun t381 => (if t381 < 0 then (some false) else (if t381 = bt379.1 then ((laws_toLat.f kj67 a0_0 l0_1).bind fun bt382 => ((laws_toPunctS.f kj67 l1).bind fun t386 => ((laws_toPunct.f a2_0 a2_1 a2_2 a2_3).bind fun bt389 => ((impl_PolicySet.f kj67 bt382.1 bt382.2 t386 bt389.1 bt389.2.1 bt389.2.2.1 bt389.2.2.2).bind fun bt393 => ((laws_eqPunctS.f kj67 bt393.1 t344).bind fun t397 => (if t397 = true then (laws_FnExactPolicySet.j2 kj67 bt379.2 bt379.1 (bt393.2 != t347)) else (laws_FnExactPolicySet.j2 kj67 bt379.2 bt379.1 true))))))) else (some false))))) = some r := by rw [if_neg (show ¬ (false = true) by decide)] at H; exact H
           clear H
           have H := H1
           clear H1
           replace H := zs4 H
           obtain ⟨⟨t379, t380⟩, A910, H⟩ := H
           replace H : ((laws_heldPunctS.f kj67 t380 1).bind fun t381 => (if t381 < 0 then (some false) else (if t381 = t379 then ((laws_toLat.f kj67 a0_0 l0_1).bind fun bt382 => ((laws_toPunctS.f kj67 l1).bind fun t386 => ((laws_toPunct.f a2_0 a2_1 a2_2 a2_3).bind fun bt389 => ((impl_PolicySet.f kj67 bt382.1 bt382.2 t386 bt389.1 bt389.2.1 bt389.2.2.1 bt389.2.2.2).bind fun bt393 => ((laws_eqPunctS.f kj67 bt393.1 t344).bind fun t397 => (if t397 = true then (laws_FnExactPolicySet.j2 kj67 t380 t379 (bt393.2 != t347)) else (laws_FnExactPolicySet.j2 kj67 t380 t379 true))))))) else (some false)))) = some r := H
           have A91 := zp.mk A910
           clear A910
           replace H := zs4 H
           obtain ⟨t381, A920, H⟩ := H
           replace H : (if t381 < 0 then (some false) else (if t381 = t379 then ((laws_toLat.f kj67 a0_0 l0_1).bind fun bt382 => ((laws_toPunctS.f kj67 l1).bind fun t386 => ((laws_toPunct.f a2_0 a2_1 a2_2 a2_3).bind fun bt389 => ((impl_PolicySet.f kj67 bt382.1 bt382.2 t386 bt389.1 bt389.2.1 bt389.2.2.1 bt389.2.2.2).bind fun bt393 => ((laws_eqPunctS.f kj67 bt393.1 t344).bind fun t397 => (if t397 = true then (laws_FnExactPolicySet.j2 kj67 t380 t379 (bt393.2 != t347)) else (laws_FnExactPolicySet.j2 kj67 t380 t379 true))))))) else (some false))) = some r := H
           have A92 := zp.mk A920
           clear A920
           by_cases c93 : t381 < 0
           ·rw [if_pos c93] at H
            have c93b0 : decide (t381 < 0) = true := decide_eq_true c93
            clear c93
            exact absurd ((Option.some.inj H).trans hr_) (by decide)
           ·rw [if_neg c93] at H
            have c93b0 : decide (t381 < 0) = false := decide_eq_false c93
            clear c93
            by_cases c94 : t381 = t379
            ·rw [if_pos c94] at H
             have c94b0 : (t381 == t379) = true := beq_iff_eq.mpr c94
             have c94b1 : (t381 != t379) = false := bne_eq_false_iff_eq.mpr c94
             clear c94
             replace H := zs4 H
             obtain ⟨⟨t382, t383⟩, A950, H⟩ := H
             replace H : ((laws_toPunctS.f kj67 l1).bind fun t386 => ((laws_toPunct.f a2_0 a2_1 a2_2 a2_3).bind fun bt389 => ((impl_PolicySet.f kj67 t382 t383 t386 bt389.1 bt389.2.1 bt389.2.2.1 bt389.2.2.2).bind fun bt393 => ((laws_eqPunctS.f kj67 bt393.1 t344).bind fun t397 => (if t397 = true then (laws_FnExactPolicySet.j2 kj67 t380 t379 (bt393.2 != t347)) else (laws_FnExactPolicySet.j2 kj67 t380 t379 true)))))) = some r := H
             have A95 := zp.mk A950
             clear A950
             replace H := zs4 H
             obtain ⟨t386, A960, H⟩ := H
             replace H : ((laws_toPunct.f a2_0 a2_1 a2_2 a2_3).bind fun bt389 => ((impl_PolicySet.f kj67 t382 t383 t386 bt389.1 bt389.2.1 bt389.2.2.1 bt389.2.2.2).bind fun bt393 => ((laws_eqPunctS.f kj67 bt393.1 t344).bind fun t397 => (if t397 = true then (laws_FnExactPolicySet.j2 kj67 t380 t379 (bt393.2 != t347)) else (laws_FnExactPolicySet.j2 kj67 t380 t379 true))))) = some r := H
             have A96 := zp.mk A960
             clear A960
             replace H := zs4 H
             obtain ⟨⟨t389, t390, t391, t392⟩, A970, H⟩ := H
             replace H : ((impl_PolicySet.f kj67 t382 t383 t386 t389 t390 t391 t392).bind fun bt393 => ((laws_eqPunctS.f kj67 bt393.1 t344).bind fun t397 => (if t397 = true then (laws_FnExactPolicySet.j2 kj67 t380 t379 (bt393.2 != t347)) else (laws_FnExactPolicySet.j2 kj67 t380 t379 true)))) = some r := H
             have A97 := zp.mk A970
             clear A970
             replace H := zs4 H
             obtain ⟨⟨t393, t396⟩, A980, H⟩ := H
             replace H : ((laws_eqPunctS.f kj67 t393 t344).bind fun t397 => (if t397 = true then (laws_FnExactPolicySet.j2 kj67 t380 t379 (t396 != t347)) else (laws_FnExactPolicySet.j2 kj67 t380 t379 true))) = some r := H
             have A98 := zp.mk A980
             clear A980
             have HC99 := zp.mk H
             clear H
             obtain ⟨Ao100, co100, eo100⟩ := Kd.R_slice HO_12.out
             subst eo100
             try go_wp2_with (first | ((with_reducible refine zn (f := 61) rfl ?_); refine goesL_ (some 91) rfl rfl Try.func61 (by kernel_rfl) rfl #[.slice Ao100 t360.length co100, .int .i64 1] rfl (by (try simp only [List.map_toArray, List.map_cons, List.map_nil]); first | done | rfl | (simp only [List.length_drop, List.length_take]; rfl)) ?_; (with_reducible refine (laws_markPunctS.calls kj67 (fun k_ => some k_ = (.slice Ao100 t360.length co100 : Value).ownBlock) (.slice Ao100 t360.length co100) t360 1 t379 t380 w _ ?side1 ?side2 A91.out).mono ?_); (case side1 => repeat (first | (with_reducible first | exact HB.out | apply zc | apply za | apply zb | refine zh ?_ GE329.out | refine zh ?_ GE330.out | refine zh ?_ GE352.out) | exact HB.out)); (case side2 => exact Kd.R_tight rfl HO_12.out); rintro e w101 ⟨rfl, hy0, hb, hkp⟩; refine ⟨_, rfl, ?_⟩; replace HO_8 := zp.mk (Kd.R_mono (ok' := fun k_ => some k_ ≠ (.slice Ao100 t360.length co100 : Value).ownBlock) (Kd.R_keptB (HO_8.out) hkp (fun k_ hk_ hs_ => (hk_) hs_)) (fun k_ hk_ => hk_.1)); replace HO_353001 := zp.mk (Kd.R_mono (ok' := fun k_ => True) (Kd.R_keptB ((Kd.R_apart' HO_353001.out (Kd.R_typed HO_12.out) (by decide))) hkp (fun k_ hk_ hs_ => (hk_.2) hs_)) (fun k_ hk_ => trivial)); replace BK329 := zp.mk (blk_kept (zv8 BK329.out) hkp (fun hs_ => (fun e_ => (Kd.R_ne HO_12.out BK329.out (by decide)) e_) hs_)); replace BK330 := zp.mk (blk_kept (zv8 BK330.out) hkp (fun hs_ => (fun e_ => (Kd.R_ne HO_12.out BK330.out (by decide)) e_) hs_)); replace BK352 := zp.mk (blk_kept (zv8 BK352.out) hkp (fun hs_ => (fun e_ => (Kd.R_ne HO_12.out BK352.out (by decide)) e_) hs_)); replace HO_12 := zp.mk (Kd.R_reok rfl hy0 (fun k_ e_ => HO_12.out.1 k_ e_)); replace HB := zp.mk (hb); (try clear hb); (try clear hkp); (try clear hy0)) | ((with_reducible refine zn (f := 62) rfl ?_); refine goesL_ (some 94) rfl rfl Try.func62 (by kernel_rfl) rfl #[.slice Ao100 t380.length co100, .int .i64 1] rfl (by (try simp only [List.map_toArray, List.map_cons, List.map_nil]); first | done | (rw [show t380.length = t360.length from (Kd.R_reads' HO_12.out).1.symm] <;> rfl) | rfl | (simp only [List.length_drop, List.length_take]; rfl)) ?_; (with_reducible refine (laws_heldPunctS.calls kj67 _ _ t380 1 t381 _ ?side1 ?side2 A92.out).mono ?_); (case side1 => repeat (first | exact (Kd.R_reads' HO_12.out).2.2 | (with_reducible refine Kd.zr ?_ _) | (with_reducible refine Kd.zq ?_ _) | (with_reducible refine Kd.C_drew ?_))); (case side2 => rw [show t380.length = t360.length from (Kd.R_reads' HO_12.out).1.symm]; exact (Kd.R_reads' HO_12.out).2.1); rintro e w' ⟨rfl, ⟨nd, rfl⟩⟩; refine ⟨_, rfl, ?_⟩))
             (try (rw [drewN_self w101]; generalize hq_ : World.drewN w101 _ = w101; have n0_ : zp (Kd.R k58 58 w101 w.heap.size (fun k_ => some k_ ≠ (v345 : Value).ownBlock) (.slice Ao100 t360.length co100) t380) := ⟨by rw [← hq_]; exact (by (with_reducible repeat (first | apply Kd.R_alloc | apply Kd.R_drewN | apply Kd.R_drew)); exact HO_12.out)⟩; have n1_ : zp (Kd.R (Kd.int .u64) 76 w101 w.heap.size (fun _ => True) (.slice Ao45 t375.length co45) t375) := ⟨by rw [← hq_]; exact (by (with_reducible repeat (first | apply Kd.R_alloc | apply Kd.R_drewN | apply Kd.R_drew)); exact HO_353001.out)⟩; have n2_ : zp (Kd.R k58 58 w101 w.heap.size (fun k_ => some k_ ≠ (.slice Ao100 t360.length co100 : Value).ownBlock) v345 t344) := ⟨by rw [← hq_]; exact (by (with_reducible repeat (first | apply Kd.R_alloc | apply Kd.R_drewN | apply Kd.R_drew)); exact HO_8.out)⟩; have n3_ : zp (w101.heap[gb329]? = some (.cells #[.int .i64 a0_0, .slice A0_1 l0_1.length c0_1] 24 (0, 0))) := ⟨by rw [← hq_]; exact (zv8 BK329.out)⟩; have n4_ : zp (w101.heap[gb330]? = some (.cells #[.int .i64 a2_0, .int .i64 a2_1, .int .i64 a2_2, .int .i64 a2_3] 56 (0, 0))) := ⟨by rw [← hq_]; exact (zv8 BK330.out)⟩; have n5_ : zp (w101.heap[gb352]? = some (.cells #[.int .i64 t348, .slice Ao45 t375.length co45] 27 (0, 0))) := ⟨by rw [← hq_]; exact (zv8 BK352.out)⟩; have n6_ : zp (Below w.heap.size w w101) := ⟨by rw [← hq_]; exact (zv7 HB.out)⟩; clear HO_12 HO_353001 HO_8 BK329 BK330 BK352 HB hq_; have HO_12 := n0_; have HO_353001 := n1_; have HO_8 := n2_; have BK329 := n3_; have BK330 := n4_; have BK352 := n5_; have HB := n6_; clear n0_ n1_ n2_ n3_ n4_ n5_ n6_))
             replace HO_8 := zp.mk (Kd.R_drew HO_8.out)
             replace HO_12 := zp.mk (Kd.R_drew HO_12.out)
             replace HO_353001 := zp.mk (Kd.R_drew HO_353001.out)
             replace BK329 := zp.mk (zi BK329.out)
             replace BK330 := zp.mk (zi BK330.out)
             replace BK352 := zp.mk (zi BK352.out)
             replace HB := zp.mk (zb HB.out)
             refine start_ (n := 12) (S := fun w' => w'.cell? ⟨gb329, 0, none⟩ = some (.int .i64 a0_0) ∧ w'.cell? ⟨gb329, 1, none⟩ = some (.slice A0_1 l0_1.length c0_1) ∧ w'.cell? ⟨gb330, 0, none⟩ = some (.int .i64 a2_0) ∧ w'.cell? ⟨gb330, 1, none⟩ = some (.int .i64 a2_1) ∧ w'.cell? ⟨gb330, 2, none⟩ = some (.int .i64 a2_2) ∧ w'.cell? ⟨gb330, 3, none⟩ = some (.int .i64 a2_3)) (ds := []) (zB 12 0) (by kernel_rfl) rfl rfl ⟨(ze BK329.out 0).trans rfl, (ze BK329.out 1).trans rfl, (ze BK330.out 0).trans rfl, (ze BK330.out 1).trans rfl, (ze BK330.out 2).trans rfl, (ze BK330.out 3).trans rfl⟩ (fun hHeld => ?_); refine with_tabW laws_FnExactPolicySet.tab31 laws_FnExactPolicySet.bits31 (fun HT_ HW_ => ?_)
             generalize w101.drew = w102 at HO_8 HO_12 HO_353001 BK329 BK330 BK352 HB hHeld ⊢
             refine pure_ (i := 2) (N := some 103) (v := ?_) (a' := ?_) (zB 12 4) rfl rfl (any_of HT_.out (by kernel_rfl)) (fun _ _ _ h => h) (Or.inl ⟨by rfl, ?_⟩) ?_ ?_
             rotate_left
             ·intro w'
              go_simp
              with_reducible rfl
             rotate_left
             ·simp only [Act.put, zs1, zs2, zs3, i64_w, i32_w]
              rfl
             refine take_ (i := 0) (N := some 101) (v := ?_) (a' := ?_) (zB 12 5) rfl rfl (take_ofW HT_.out HW_.out (by kernel_rfl)) (fun _ _ _ h => h) (Or.inl ⟨by rfl, ?_⟩) hHeld ?_ ?_
             rotate_left
             ·rintro w' ⟨s0, s1, s2, s3, s4, s5⟩
              go_simp
              with_reducible rfl
             rotate_left
             ·simp only [Act.put, zs1, zs2, zs3, i64_w, i32_w]
              rfl
             refine take_ (i := 4) (N := some 105) (v := ?_) (a' := ?_) (zB 12 21) rfl rfl (take_ofW HT_.out HW_.out (by kernel_rfl)) (fun _ _ _ h => h) (Or.inl ⟨by rfl, ?_⟩) hHeld ?_ ?_
             rotate_left
             ·rintro w' ⟨s0, s1, s2, s3, s4, s5⟩
              go_simp
              with_reducible rfl
             rotate_left
             ·simp only [Act.put, zs1, zs2, zs3, i64_w, i32_w]
              rfl
             refine one_ (i := 1) (N := some 102) (zB 12 23) rfl rfl (one_of HT_.out (by kernel_rfl)) (by decide) (fun K hK => ?_)
             refine goes_ Try.func19 (by kernel_rfl) rfl #[.agg #[.int .i64 a0_0, .slice A0_1 l0_1.length c0_1]] (by rfl) rfl rfl (by (try simp only [List.map_toArray, List.map_cons, List.map_nil]); first | done | rfl | (simp only [List.length_drop, List.length_take]; rfl)) ?_
             with_reducible refine (laws_toLat.calls kj67 a0_0 _ _ l0_1 t382 t383 _ ?side1 ?side2 A95.out).mono ?_
             (case side1 => repeat (first | exact (Kd.zt HR0_1.out HB.out) | (with_reducible refine Kd.zr ?_ _) | (with_reducible refine Kd.zq ?_ _) | (with_reducible refine Kd.C_drew ?_)))
             (case side2 => exact HC0_1.out)
             rintro e w103 ⟨v384, rfl, ho0, hb⟩
             refine ⟨_, rfl, ?_⟩
             have HO385 := zp.mk (Kd.R_lower (Kd.R_new' ho0 (Kd.R_lt (by (with_reducible repeat (first | apply Kd.R_alloc | apply Kd.R_drewN | apply Kd.R_drew)); exact HO_353001.out))) (zk (zv7 HB.out)))
             replace HO_8 := zp.mk (Kd.R_below (by (with_reducible repeat (first | apply Kd.R_alloc | apply Kd.R_drewN | apply Kd.R_drew)); exact HO_8.out) hb)
             replace HO_12 := zp.mk (Kd.R_below (by (with_reducible repeat (first | apply Kd.R_alloc | apply Kd.R_drewN | apply Kd.R_drew)); exact HO_12.out) hb)
             replace HO_353001 := zp.mk (Kd.R_elder' (by (with_reducible repeat (first | apply Kd.R_alloc | apply Kd.R_drewN | apply Kd.R_drew)); exact HO_353001.out) (Kd.R_base ho0) hb)
             replace BK329 := zp.mk (zl (zv8 BK329.out) hb)
             replace BK330 := zp.mk (zl (zv8 BK330.out) hb)
             replace BK352 := zp.mk (zl (zv8 BK352.out) hb)
             replace HB := zp.mk (zj (zv7 HB.out) hb)
             (try clear hb)
             (try clear hb2)
             (try clear hk)
             (try clear hi)
             (try clear ho0)
             refine hK.out _ _ ⟨(ze BK329.out 0).trans rfl, (ze BK329.out 1).trans rfl, (ze BK330.out 0).trans rfl, (ze BK330.out 1).trans rfl, (ze BK330.out 2).trans rfl, (ze BK330.out 3).trans rfl⟩ (fun hHeld => ?_)
             clear hK K
             refine norm_ (a' := ?_) ?_ ?_
             rotate_left
             ·show Act.put _ (some 102) _ = _
              simp only [Act.put, zs1, zs2, zs3, i64_w, i32_w]
              rfl
             refine one_ (i := 3) (N := some 104) (zB 12 31) rfl rfl (one_of HT_.out (by kernel_rfl)) (by decide) (fun K hK => ?_)
             refine goes_ Try.func54 (by kernel_rfl) rfl #[.slice A1 l1.length c1] (by rfl) rfl rfl (by (try simp only [List.map_toArray, List.map_cons, List.map_nil]); first | done | rfl | (simp only [List.length_drop, List.length_take]; rfl)) ?_
             with_reducible refine (laws_toPunctS.calls kj67 _ _ l1 t386 _ ?side1 ?side2 A96.out).mono ?_
             (case side1 => repeat (first | exact (Kd.zt HR1.out HB.out) | (with_reducible refine Kd.zr ?_ _) | (with_reducible refine Kd.zq ?_ _) | (with_reducible refine Kd.C_drew ?_)))
             (case side2 => exact HC1.out)
             rintro e w104 ⟨v387, rfl, ho0, hb⟩
             refine ⟨_, rfl, ?_⟩
             have HO388 := zp.mk (Kd.R_lower (Kd.R_new' (Kd.R_new' ho0 (Kd.R_lt (by (with_reducible repeat (first | apply Kd.R_alloc | apply Kd.R_drewN | apply Kd.R_drew)); exact HO_8.out))) (Kd.R_lt (by (with_reducible repeat (first | apply Kd.R_alloc | apply Kd.R_drewN | apply Kd.R_drew)); exact HO_12.out))) (zk (zv7 HB.out)))
             replace HO_8 := zp.mk (Kd.R_elder' (by (with_reducible repeat (first | apply Kd.R_alloc | apply Kd.R_drewN | apply Kd.R_drew)); exact HO_8.out) (Kd.R_base ho0) hb)
             replace HO_12 := zp.mk (Kd.R_elder' (by (with_reducible repeat (first | apply Kd.R_alloc | apply Kd.R_drewN | apply Kd.R_drew)); exact HO_12.out) (Kd.R_base ho0) hb)
             replace HO_353001 := zp.mk (Kd.R_below (by (with_reducible repeat (first | apply Kd.R_alloc | apply Kd.R_drewN | apply Kd.R_drew)); exact HO_353001.out) hb)
             replace HO385 := zp.mk (Kd.R_below (by (with_reducible repeat (first | apply Kd.R_alloc | apply Kd.R_drewN | apply Kd.R_drew)); exact HO385.out) hb)
             replace BK329 := zp.mk (zl (zv8 BK329.out) hb)
             replace BK330 := zp.mk (zl (zv8 BK330.out) hb)
             replace BK352 := zp.mk (zl (zv8 BK352.out) hb)
             replace HB := zp.mk (zj (zv7 HB.out) hb)
             (try clear hb)
             (try clear hb2)
             (try clear hk)
             (try clear hi)
             (try clear ho0)
             refine hK.out _ _ ⟨(ze BK329.out 0).trans rfl, (ze BK329.out 1).trans rfl, (ze BK330.out 0).trans rfl, (ze BK330.out 1).trans rfl, (ze BK330.out 2).trans rfl, (ze BK330.out 3).trans rfl⟩ (fun hHeld => ?_)
             clear hK K
             refine norm_ (a' := ?_) ?_ ?_
             rotate_left
             ·show Act.put _ (some 104) _ = _
              simp only [Act.put, zs1, zs2, zs3, i64_w, i32_w]
              rfl
             refine one_ (i := 5) (N := some 106) (zB 12 63) rfl rfl (one_of HT_.out (by kernel_rfl)) (by decide) (fun K hK => ?_)
             refine goes_ Try.func50 (by kernel_rfl) rfl #[.agg #[.int .i64 a2_0, .int .i64 a2_1, .int .i64 a2_2, .int .i64 a2_3]] (by rfl) rfl rfl (by (try simp only [List.map_toArray, List.map_cons, List.map_nil]); first | done | rfl | (simp only [List.length_drop, List.length_take]; rfl)) ?_
             with_reducible refine (laws_toPunct.calls a2_0 a2_1 a2_2 a2_3 t389 t390 t391 t392 _ A97.out).mono ?_
             rintro e w105 ⟨rfl, hb⟩
             refine ⟨_, rfl, ?_⟩
             replace HO_8 := zp.mk (Kd.R_below (by (with_reducible repeat (first | apply Kd.R_alloc | apply Kd.R_drewN | apply Kd.R_drew)); exact HO_8.out) hb)
             replace HO_12 := zp.mk (Kd.R_below (by (with_reducible repeat (first | apply Kd.R_alloc | apply Kd.R_drewN | apply Kd.R_drew)); exact HO_12.out) hb)
             replace HO_353001 := zp.mk (Kd.R_below (by (with_reducible repeat (first | apply Kd.R_alloc | apply Kd.R_drewN | apply Kd.R_drew)); exact HO_353001.out) hb)
             replace HO385 := zp.mk (Kd.R_below (by (with_reducible repeat (first | apply Kd.R_alloc | apply Kd.R_drewN | apply Kd.R_drew)); exact HO385.out) hb)
             replace HO388 := zp.mk (Kd.R_below (by (with_reducible repeat (first | apply Kd.R_alloc | apply Kd.R_drewN | apply Kd.R_drew)); exact HO388.out) hb)
             replace BK329 := zp.mk (zl (zv8 BK329.out) hb)
             replace BK330 := zp.mk (zl (zv8 BK330.out) hb)
             replace BK352 := zp.mk (zl (zv8 BK352.out) hb)
             replace HB := zp.mk (zj (zv7 HB.out) hb)
             (try clear hb)
             (try clear hb2)
             (try clear hk)
             (try clear hi)
             obtain ⟨Ao106, co106, eo106⟩ := Kd.R_slice HO385.out
             (first | subst eo106 | (injection eo106 with f1_ f2_ f3_; have f4_ := f1_.symm; have f5_ := f3_.symm; clear f1_ f2_ f3_; subst f4_; subst f5_))
             obtain ⟨Ao107, co107, eo107⟩ := Kd.R_slice HO388.out
             (first | subst eo107 | (injection eo107 with f1_ f2_ f3_; have f4_ := f1_.symm; have f5_ := f3_.symm; clear f1_ f2_ f3_; subst f4_; subst f5_))
             refine hK.out _ _ ⟨(ze BK329.out 0).trans rfl, (ze BK329.out 1).trans rfl, (ze BK330.out 0).trans rfl, (ze BK330.out 1).trans rfl, (ze BK330.out 2).trans rfl, (ze BK330.out 3).trans rfl⟩ (fun hHeld => ?_)
             clear hK K
             refine norm_ (a' := ?_) ?_ ?_
             rotate_left
             ·show Act.put _ (some 106) _ = _
              simp only [Act.put, zs1, zs2, zs3, i64_w, i32_w]
              rfl
             refine one_ (i := 6) (N := some 107) (zB 12 127) rfl rfl (one_of HT_.out (by kernel_rfl)) (by decide) (fun K hK => ?_)
             refine goes_ Try.func64 (by kernel_rfl) rfl #[.agg #[.int .i64 t382, .slice Ao106 t383.length co106], .slice Ao107 t386.length co107, .agg #[.int .i64 t389, .int .i64 t390, .int .i64 t391, .int .i64 t392]] (by rfl) rfl rfl (by (try simp only [List.map_toArray, List.map_cons, List.map_nil]); first | done | rfl | (simp only [List.length_drop, List.length_take]; rfl)) ?_
             with_reducible refine (impl_PolicySet.calls kj67 t382 _ _ t383 _ _ t386 t389 t390 t391 t392 t393 t396 _ ?side1 ?side2 ?side3 ?side4 A98.out).mono ?_
             (case side1 => repeat (first | exact (Kd.R_reads' HO385.out).2.2 | (with_reducible refine Kd.zr ?_ _) | (with_reducible refine Kd.zq ?_ _) | (with_reducible refine Kd.C_drew ?_)))
             (case side2 => exact (Kd.R_reads' HO385.out).2.1)
             (case side3 => repeat (first | exact (Kd.R_reads' HO388.out).2.2 | (with_reducible refine Kd.zr ?_ _) | (with_reducible refine Kd.zq ?_ _) | (with_reducible refine Kd.C_drew ?_)))
             (case side4 => exact (Kd.R_reads' HO388.out).2.1)
             rintro e w108 ⟨v394, rfl, ho0, hb⟩
             refine ⟨_, rfl, ?_⟩
             have HO395 := zp.mk (Kd.R_lower (Kd.R_new' (Kd.R_new' (Kd.R_new' ho0 (Kd.R_lt (by (with_reducible repeat (first | apply Kd.R_alloc | apply Kd.R_drewN | apply Kd.R_drew)); exact HO_8.out))) (Kd.R_lt (by (with_reducible repeat (first | apply Kd.R_alloc | apply Kd.R_drewN | apply Kd.R_drew)); exact HO_12.out))) (Kd.R_lt (by (with_reducible repeat (first | apply Kd.R_alloc | apply Kd.R_drewN | apply Kd.R_drew)); exact HO388.out))) (zk (zv7 HB.out)))
             replace HO_8 := zp.mk (Kd.R_elder' (by (with_reducible repeat (first | apply Kd.R_alloc | apply Kd.R_drewN | apply Kd.R_drew)); exact HO_8.out) (Kd.R_base ho0) hb)
             replace HO_12 := zp.mk (Kd.R_elder' (by (with_reducible repeat (first | apply Kd.R_alloc | apply Kd.R_drewN | apply Kd.R_drew)); exact HO_12.out) (Kd.R_base ho0) hb)
             replace HO_353001 := zp.mk (Kd.R_below (by (with_reducible repeat (first | apply Kd.R_alloc | apply Kd.R_drewN | apply Kd.R_drew)); exact HO_353001.out) hb)
             replace HO385 := zp.mk (Kd.R_below (by (with_reducible repeat (first | apply Kd.R_alloc | apply Kd.R_drewN | apply Kd.R_drew)); exact HO385.out) hb)
             replace HO388 := zp.mk (Kd.R_elder' (by (with_reducible repeat (first | apply Kd.R_alloc | apply Kd.R_drewN | apply Kd.R_drew)); exact HO388.out) (Kd.R_base ho0) hb)
             replace BK329 := zp.mk (zl (zv8 BK329.out) hb)
             replace BK330 := zp.mk (zl (zv8 BK330.out) hb)
             replace BK352 := zp.mk (zl (zv8 BK352.out) hb)
             replace HB := zp.mk (zj (zv7 HB.out) hb)
             (try clear hb)
             (try clear hb2)
             (try clear hk)
             (try clear hi)
             (try clear ho0)
             refine hK.out _ _ ⟨(ze BK329.out 0).trans rfl, (ze BK329.out 1).trans rfl, (ze BK330.out 0).trans rfl, (ze BK330.out 1).trans rfl, (ze BK330.out 2).trans rfl, (ze BK330.out 3).trans rfl⟩ (fun hHeld => ?_)
             clear hK K
             refine norm_ (a' := ?_) ?_ ?_
             rotate_left
             ·show Act.put _ (some 107) _ = _
              simp only [Act.put, zs1, zs2, zs3, i64_w, i32_w]
              rfl
             refine pure_ (i := 7) (N := some 100) (v := ?_) (a' := ?_) (zB 12 255) rfl rfl (any_of HT_.out (by kernel_rfl)) (fun _ _ _ h => h) (Or.inl ⟨by rfl, ?_⟩) ?_ ?_
             rotate_left
             ·intro w'
              go_simp
              with_reducible rfl
             rotate_left
             ·simp only [Act.put, zs1, zs2, zs3, i64_w, i32_w]
              rfl
             refine pure_ (i := 8) (N := some 108) (v := ?_) (a' := ?_) (zB 12 511) rfl rfl (any_of HT_.out (by kernel_rfl)) (fun _ _ _ h => h) (Or.inl ⟨by rfl, ?_⟩) ?_ ?_
             rotate_left
             ·intro w'
              go_simp
              with_reducible rfl
             rotate_left
             ·simp only [Act.put, zs1, zs2, zs3, i64_w, i32_w]
              rfl
             refine pure_ (i := 9) (N := some 109) (v := ?_) (a' := ?_) (zB 12 1023) rfl rfl (any_of HT_.out (by kernel_rfl)) (fun _ _ _ h => h) (Or.inl ⟨by rfl, ?_⟩) ?_ ?_
             rotate_left
             ·intro w'
              go_simp
              with_reducible rfl
             rotate_left
             ·simp only [Act.put, zs1, zs2, zs3, i64_w, i32_w]
              rfl
             refine pure_ (i := 10) (N := some 17) (v := ?_) (a' := ?_) (zB 12 2047) rfl rfl (any_of HT_.out (by kernel_rfl)) (fun _ _ _ h => h) (Or.inl ⟨by rfl, ?_⟩) ?_ ?_
             rotate_left
             ·intro w'
              go_simp
              with_reducible rfl
             rotate_left
             ·simp only [Act.put, zs1, zs2, zs3, i64_w, i32_w]
              rfl
             refine pure_ (i := 11) (N := some 18) (v := ?_) (a' := ?_) (zB 12 4095) rfl rfl (any_of HT_.out (by kernel_rfl)) (fun _ _ _ h => h) (Or.inl ⟨by rfl, ?_⟩) ?_ ?_
             rotate_left
             ·intro w'
              go_simp
              with_reducible rfl
             rotate_left
             ·simp only [Act.put, zs1, zs2, zs3, i64_w, i32_w]
              rfl
             refine done_ (done_of HT_.out (by kernel_rfl)) ?_
             go_upto_region 32 with (fail)
             go_cut [118] (fun v118 wc => ∃ (kq : Nat) (x118_98 : Bool), v118 = .bool x118_98 ∧ zp (laws_FnExactPolicySet.j2 kq t380 t379 x118_98 = some r) ∧ zp (kq ≤ kj67) ∧ zp (Kd.R k58 58 wc w.heap.size (fun _ => True) (.slice Ao100 t360.length co100) t380) ∧ zp (Kd.R (Kd.int .u64) 76 wc w.heap.size (fun _ => True) (.slice Ao45 t375.length co45) t375) ∧ zp (wc.heap[gb329]? = some (.cells #[.int .i64 a0_0, (.slice A0_1 l0_1.length c0_1)] 24 (0, 0))) ∧ zp (wc.heap[gb330]? = some (.cells #[.int .i64 a2_0, .int .i64 a2_1, .int .i64 a2_2, .int .i64 a2_3] 56 (0, 0))) ∧ zp (wc.heap[gb352]? = some (.cells #[.int .i64 t348, (.slice Ao45 t375.length co45)] 27 (0, 0))) ∧ zp (Below w.heap.size w wc))
             case first =>
              have H := HC99.out
              clear HC99
              replace H := zs4 H
              obtain ⟨t397, A1090, H⟩ := H
              replace H : (if t397 = true then (laws_FnExactPolicySet.j2 kj67 t380 t379 (t396 != t347)) else (laws_FnExactPolicySet.j2 kj67 t380 t379 true)) = some r := H
              have A109 := zp.mk A1090
              clear A1090
              by_cases c110 : t397 = true
              ·subst c110
               have H1 : (laws_FnExactPolicySet.j2 kj67 t380 t379 (t396 != t347)) = some r := by rw [if_pos rfl] at H; exact H
               clear H
               have H := H1
               clear H1
               have H' := zp.mk H
               clear H
               obtain ⟨Ao111, co111, eo111⟩ := Kd.R_slice HO395.out
               subst eo111
               obtain ⟨Ao112, co112, eo112⟩ := Kd.R_slice HO_8.out
               subst eo112
               go_wp2_with (first | ((with_reducible refine zn (f := 56) rfl ?_); refine goesL_ (some 112) rfl rfl Try.func56 (by kernel_rfl) rfl #[.slice Ao111 t393.length co111, .slice Ao112 t344.length co112] rfl (by (try simp only [List.map_toArray, List.map_cons, List.map_nil]); first | done | rfl | (simp only [List.length_drop, List.length_take]; rfl)) ?_; (with_reducible refine (laws_eqPunctS.calls kj67 _ _ t393 _ _ t344 true _ ?side1 ?side2 ?side3 ?side4 A109.out).mono ?_); (case side1 => repeat (first | exact (Kd.R_reads' HO395.out).2.2 | (with_reducible refine Kd.zr ?_ _) | (with_reducible refine Kd.zq ?_ _) | (with_reducible refine Kd.C_drew ?_))); (case side2 => exact (Kd.R_reads' HO395.out).2.1); (case side3 => repeat (first | exact (Kd.R_reads' HO_8.out).2.2 | (with_reducible refine Kd.zr ?_ _) | (with_reducible refine Kd.zq ?_ _) | (with_reducible refine Kd.C_drew ?_))); (case side4 => exact (Kd.R_reads' HO_8.out).2.1); rintro e w113 ⟨rfl, hb⟩; refine ⟨_, rfl, ?_⟩; replace HO_8 := zp.mk (Kd.R_below (by (with_reducible repeat (first | apply Kd.R_alloc | apply Kd.R_drewN | apply Kd.R_drew)); exact HO_8.out) hb); replace HO_12 := zp.mk (Kd.R_below (by (with_reducible repeat (first | apply Kd.R_alloc | apply Kd.R_drewN | apply Kd.R_drew)); exact HO_12.out) hb); replace HO_353001 := zp.mk (Kd.R_below (by (with_reducible repeat (first | apply Kd.R_alloc | apply Kd.R_drewN | apply Kd.R_drew)); exact HO_353001.out) hb); replace HO385 := zp.mk (Kd.R_below (by (with_reducible repeat (first | apply Kd.R_alloc | apply Kd.R_drewN | apply Kd.R_drew)); exact HO385.out) hb); replace HO388 := zp.mk (Kd.R_below (by (with_reducible repeat (first | apply Kd.R_alloc | apply Kd.R_drewN | apply Kd.R_drew)); exact HO388.out) hb); replace HO395 := zp.mk (Kd.R_below (by (with_reducible repeat (first | apply Kd.R_alloc | apply Kd.R_drewN | apply Kd.R_drew)); exact HO395.out) hb); replace BK329 := zp.mk (zl (zv8 BK329.out) hb); replace BK330 := zp.mk (zl (zv8 BK330.out) hb); replace BK352 := zp.mk (zl (zv8 BK352.out) hb); replace HB := zp.mk (zj (zv7 HB.out) hb); (try clear hb); (try clear hb2); (try clear hk); (try clear hi)))
               go_meet
               case rel => exact ⟨_, ((t396 != t347)), (by first | rfl | (simp; done) | (simp [*]; done)), H', ⟨by have := HJ25.out; have := HJ67.out; first | omega | exact Nat.le_refl _⟩, ⟨by (try simp only [hl353001_67]); (with_reducible repeat (first | apply Kd.R_alloc | apply Kd.R_drewN | apply Kd.R_drew)); exact Kd.R_mono HO_12.out (fun _ hk => trivial)⟩, ⟨by (try simp only [hl353001_67]); (with_reducible repeat (first | apply Kd.R_alloc | apply Kd.R_drewN | apply Kd.R_drew)); exact Kd.R_mono HO_353001.out (fun _ hk => trivial)⟩, ⟨by (try simp only [hl353001_67]); (with_reducible repeat (first | refine zf ?_ _ | refine zi ?_ | refine zg ?_ _)); exact BK329.out⟩, ⟨by (try simp only [hl353001_67]); (with_reducible repeat (first | refine zf ?_ _ | refine zi ?_ | refine zg ?_ _)); exact BK330.out⟩, ⟨by (try simp only [hl353001_67]); (with_reducible repeat (first | refine zf ?_ _ | refine zi ?_ | refine zg ?_ _)); exact BK352.out⟩, ⟨zv7 HB.out⟩⟩
              ·replace c110 := Bool.eq_false_iff.mpr c110
               subst c110
               have H1 : (laws_FnExactPolicySet.j2 kj67 t380 t379 true) = some r := by rw [if_neg (show ¬ (false = true) by decide)] at H; exact H
               clear H
               have H := H1
               clear H1
               have H' := zp.mk H
               clear H
               obtain ⟨Ao114, co114, eo114⟩ := Kd.R_slice HO395.out
               subst eo114
               obtain ⟨Ao115, co115, eo115⟩ := Kd.R_slice HO_8.out
               subst eo115
               go_wp2_with (first | ((with_reducible refine zn (f := 56) rfl ?_); refine goesL_ (some 112) rfl rfl Try.func56 (by kernel_rfl) rfl #[.slice Ao114 t393.length co114, .slice Ao115 t344.length co115] rfl (by (try simp only [List.map_toArray, List.map_cons, List.map_nil]); first | done | rfl | (simp only [List.length_drop, List.length_take]; rfl)) ?_; (with_reducible refine (laws_eqPunctS.calls kj67 _ _ t393 _ _ t344 false _ ?side1 ?side2 ?side3 ?side4 A109.out).mono ?_); (case side1 => repeat (first | exact (Kd.R_reads' HO395.out).2.2 | (with_reducible refine Kd.zr ?_ _) | (with_reducible refine Kd.zq ?_ _) | (with_reducible refine Kd.C_drew ?_))); (case side2 => exact (Kd.R_reads' HO395.out).2.1); (case side3 => repeat (first | exact (Kd.R_reads' HO_8.out).2.2 | (with_reducible refine Kd.zr ?_ _) | (with_reducible refine Kd.zq ?_ _) | (with_reducible refine Kd.C_drew ?_))); (case side4 => exact (Kd.R_reads' HO_8.out).2.1); rintro e w116 ⟨rfl, hb⟩; refine ⟨_, rfl, ?_⟩; replace HO_8 := zp.mk (Kd.R_below (by (with_reducible repeat (first | apply Kd.R_alloc | apply Kd.R_drewN | apply Kd.R_drew)); exact HO_8.out) hb); replace HO_12 := zp.mk (Kd.R_below (by (with_reducible repeat (first | apply Kd.R_alloc | apply Kd.R_drewN | apply Kd.R_drew)); exact HO_12.out) hb); replace HO_353001 := zp.mk (Kd.R_below (by (with_reducible repeat (first | apply Kd.R_alloc | apply Kd.R_drewN | apply Kd.R_drew)); exact HO_353001.out) hb); replace HO385 := zp.mk (Kd.R_below (by (with_reducible repeat (first | apply Kd.R_alloc | apply Kd.R_drewN | apply Kd.R_drew)); exact HO385.out) hb); replace HO388 := zp.mk (Kd.R_below (by (with_reducible repeat (first | apply Kd.R_alloc | apply Kd.R_drewN | apply Kd.R_drew)); exact HO388.out) hb); replace HO395 := zp.mk (Kd.R_below (by (with_reducible repeat (first | apply Kd.R_alloc | apply Kd.R_drewN | apply Kd.R_drew)); exact HO395.out) hb); replace BK329 := zp.mk (zl (zv8 BK329.out) hb); replace BK330 := zp.mk (zl (zv8 BK330.out) hb); replace BK352 := zp.mk (zl (zv8 BK352.out) hb); replace HB := zp.mk (zj (zv7 HB.out) hb); (try clear hb); (try clear hb2); (try clear hk); (try clear hi)))
               go_meet
               case rel => exact ⟨_, (true), (by first | rfl | (simp; done) | (simp [*]; done)), H', ⟨by have := HJ25.out; have := HJ67.out; first | omega | exact Nat.le_refl _⟩, ⟨by (try simp only [hl353001_67]); (with_reducible repeat (first | apply Kd.R_alloc | apply Kd.R_drewN | apply Kd.R_drew)); exact Kd.R_mono HO_12.out (fun _ hk => trivial)⟩, ⟨by (try simp only [hl353001_67]); (with_reducible repeat (first | apply Kd.R_alloc | apply Kd.R_drewN | apply Kd.R_drew)); exact Kd.R_mono HO_353001.out (fun _ hk => trivial)⟩, ⟨by (try simp only [hl353001_67]); (with_reducible repeat (first | refine zf ?_ _ | refine zi ?_ | refine zg ?_ _)); exact BK329.out⟩, ⟨by (try simp only [hl353001_67]); (with_reducible repeat (first | refine zf ?_ _ | refine zi ?_ | refine zg ?_ _)); exact BK330.out⟩, ⟨by (try simp only [hl353001_67]); (with_reducible repeat (first | refine zf ?_ _ | refine zi ?_ | refine zg ?_ _)); exact BK352.out⟩, ⟨zv7 HB.out⟩⟩
             case rest =>
              clear HC99
              try clear c1
              try clear c2
              try clear p2
              try clear c3
              try clear c4
              try clear c5
              try clear c5b0
              try clear c6
              try clear c7
              try clear c8
              try clear c9
              try clear c11
              try clear c12
              try clear c12b0
              try clear c15
              try clear c16
              try clear c17
              try clear c19
              try clear c21
              try clear c29
              try clear c33
              try clear c42
              try clear c43
              try clear c50
              try clear c52
              try clear c54
              try clear c56
              try clear c59
              try clear c61
              try clear c62
              try clear c64
              try clear c65
              try clear c76
              try clear c77
              try clear c81
              try clear c81b0
              try clear c83
              try clear c90
              try clear c93
              try clear c93b0
              try clear c94
              try clear c94b0
              try clear c94b1
              try clear c110
              try clear y16_0
              try clear y16_1
              try clear y30_0
              try clear y30_1
              try clear y39_0
              try clear y39_1
              try clear y44_0
              try clear y44_1
              try clear y78_0
              try clear y78_1
              try clear y9_0
              try clear y9_1
              try clear u16_0
              try clear u16_1
              try clear u30_0
              try clear u30_1
              try clear u39_0
              try clear u39_1
              try clear u44_0
              try clear u44_1
              try clear u78_0
              try clear u78_1
              try clear u9_0
              try clear u9_1
              try clear p2
              obtain ⟨kq, x118_98, rfl, HA, HJ98, HO_12, HO_353001, BK329, BK330, BK352, HB⟩ := hcut
              have hl12_98 := (Kd.R_reads' HO_12.out).1
              rw [hl12_98] at HO_12
              (try simp only [hl12_98])
              (try simp only [hl12_98] at BK329)
              (try simp only [hl12_98] at BK330)
              (try simp only [hl12_98] at BK352)
              (try simp only [hl12_98] at HO_353001)
              cases kq with
              | zero => exact absurd HA.out (by simp [laws_FnExactPolicySet.j2])
              | succ kj98 =>
               have H := HA.out
               clear HA
               simp only [laws_FnExactPolicySet.j2] at H
               by_cases c117 : x118_98 = true
               ·subst c117
                have H1 : (some false) = some r := by rw [if_pos rfl] at H; exact H
                clear H
                have H := H1
                clear H1
                exact absurd ((Option.some.inj H).trans hr_) (by decide)
               ·replace c117 := Bool.eq_false_iff.mpr c117
                subst c117
                have H1 : ((laws_heldPunctS.f kj98 t380 1).bind fun t398 => (if t398 < 0 then (some false) else (if t398 = t379 then (some true) else (some false)))) = some r := by rw [if_neg (show ¬ (false = true) by decide)] at H; exact H
                clear H
                have H := H1
                clear H1
                replace H := zs4 H
                obtain ⟨t398, A1180, H⟩ := H
                replace H : (if t398 < 0 then (some false) else (if t398 = t379 then (some true) else (some false))) = some r := H
                have A118 := zp.mk A1180
                clear A1180
                by_cases c119 : t398 < 0
                ·rw [if_pos c119] at H
                 have c119b0 : decide (t398 < 0) = true := decide_eq_true c119
                 clear c119
                 exact absurd ((Option.some.inj H).trans hr_) (by decide)
                ·rw [if_neg c119] at H
                 have c119b0 : decide (t398 < 0) = false := decide_eq_false c119
                 clear c119
                 by_cases c120 : t398 = t379
                 ·rw [if_pos c120] at H
                  have c120b0 : (t398 == t379) = true := beq_iff_eq.mpr c120
                  have c120b1 : (t398 != t379) = false := bne_eq_false_iff_eq.mpr c120
                  clear c120
                  obtain rfl := Option.some.inj H
                  go_wp2_with (first | ((with_reducible refine zn (f := 62) rfl ?_); refine goesL_ (some 121) rfl rfl Try.func62 (by kernel_rfl) rfl #[.slice Ao100 t380.length co100, .int .i64 1] rfl (by (try simp only [List.map_toArray, List.map_cons, List.map_nil]); first | done | rfl | (simp only [List.length_drop, List.length_take]; rfl)) ?_; (with_reducible refine (laws_heldPunctS.calls kj98 _ _ t380 1 t398 _ ?side1 ?side2 A118.out).mono ?_); (case side1 => repeat (first | exact (Kd.R_reads' HO_12.out).2.2 | (with_reducible refine Kd.zr ?_ _) | (with_reducible refine Kd.zq ?_ _) | (with_reducible refine Kd.C_drew ?_))); (case side2 => exact (Kd.R_reads' HO_12.out).2.1); rintro e w' ⟨rfl, ⟨nd, rfl⟩⟩; refine ⟨_, rfl, ?_⟩))
                  go_ret
                  exact ⟨by first | rfl | (simp [errW_none, errW_some] <;> rfl) | (simp [*, errW_none, errW_some] <;> rfl), zv7 HB.out⟩
                 ·rw [if_neg c120] at H
                  have c120b0 : (t398 == t379) = false := beq_eq_false_iff_ne.mpr c120
                  have c120b1 : (t398 != t379) = true := bne_iff_ne.mpr c120
                  exact absurd ((Option.some.inj H).trans hr_) (by decide)
            ·rw [if_neg c94] at H
             have c94b0 : (t381 == t379) = false := beq_eq_false_iff_ne.mpr c94
             have c94b1 : (t381 != t379) = true := bne_iff_ne.mpr c94
             exact absurd ((Option.some.inj H).trans hr_) (by decide)
       ·replace c65 := Bool.eq_false_iff.mpr c65
        subst c65
        have H1 : (some false) = some r := by rw [if_neg (show ¬ (false = true) by decide)] at H; exact H
        clear H
        have H := H1
        clear H1
        exact absurd ((Option.some.inj H).trans hr_) (by decide)
      ·replace c62 := Bool.eq_false_iff.mpr c62
       subst c62
       have H1 : (some false) = some r := by rw [if_neg (show ¬ (false = true) by decide)] at H; exact H
       clear H
       have H := H1
       clear H1
       exact absurd ((Option.some.inj H).trans hr_) (by decide)

end Go.Proofs.Ytdpoliolinghfaa.QFnExactPolicySet
