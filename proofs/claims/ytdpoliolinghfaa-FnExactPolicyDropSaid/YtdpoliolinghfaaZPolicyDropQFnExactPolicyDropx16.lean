/- Proved: calls of the program come to the answers of the plain Lean functions that stand beside them. Each contract names its conditions. (Written by a program of this session, over the printer of the kit.) -/
import Derived.Test.YtdpoliolinghfaaZPolicyDropQFnExactPolicyDropx0
import Derived.Test.YtdpoliolinghfaaZPolicyDropQFnExactPolicyDropx1
import Derived.Test.YtdpoliolinghfaaZPolicyDropQFnExactPolicyDropx2
import Derived.Test.YtdpoliolinghfaaZPolicyDropQFnExactPolicyDropx7
import Derived.Test.YtdpoliolinghfaaZPolicyDropQFnExactPolicyDropx14
import Derived.Test.YtdpoliolinghfaaZPolicyDropQFnExactPolicyDropx15
namespace Go.Proofs.Ytdpoliolinghfaa.QFnExactPolicyDrop
open Go.RowKit Go.Proofs.YtdpoliolinghfaaW.PrintWords Go.Proofs.YtdpoliolinghfaaW.PrintLast Go.Proofs.YtdpoliolinghfaaW.PrintMore
attribute [local go_sem] max2_int min2_int max_two min_two max_three min_three max_four min_four   -- for this text's walks alone
set_option linter.unusedVariables false
set_option linter.unusedSimpArgs false

/-! ### laws_FnExactPolicyDrop: function 15 -/
mutual
def laws_FnExactPolicyDrop.j0 : Nat → List (S56) → List (S58) → Bool → List (S58) → List (S58) → Bool → Bool → Int → List Int → Int → Int → Int → Int → Int → List Int → Option (Bool)
 | 0, _, _, _, _, _, _, _, _, _, _, _, _, _, _, _ => none
 | k + 1, x1, x8, x9, x11, x12, x13, x59, x280000, x280001, x281000, x281001, x281002, x281003, x303000, x303001 => if x59 = true then (some false) else ((laws_toLat.f k x280000 x280001).bind fun bt315 => ((laws_eqLat.f k x303000 x303001 bt315.1 bt315.2).bind fun t319 => (if t319 = true then ((laws_toPunctS.f k x1).bind fun t320 => ((laws_eqPunctS.f k x11 t320).bind fun t323 => (if t323 = true then ((laws_markLat.f k x303000 x303001 1).bind fun bt324 => ((laws_markPunctS.f k x11 bt324.1).bind fun bt326 => (if bt326.1 < 0 then (laws_FnExactPolicyDrop.j1 k x1 x8 x9 x12 true x280000 x280001 x281000 x281001 x281002 x281003) else ((laws_eqPunctS.f k x12 x8).bind fun t328 => (if t328 = true then (laws_FnExactPolicyDrop.j1 k x1 x8 x9 x12 (x13 != x9) x280000 x280001 x281000 x281001 x281002 x281003) else (laws_FnExactPolicyDrop.j1 k x1 x8 x9 x12 true x280000 x280001 x281000 x281001 x281002 x281003)))))) else (some false)))) else (some false))))
def laws_FnExactPolicyDrop.j1 : Nat → List (S56) → List (S58) → Bool → List (S58) → Bool → Int → List Int → Int → Int → Int → Int → Option (Bool)
 | 0, _, _, _, _, _, _, _, _, _, _, _ => none
 | k + 1, x1, x8, x9, x12, x88, x280000, x280001, x281000, x281001, x281002, x281003 => if x88 = true then (some false) else ((laws_markPunctS.f k x12 1).bind fun bt329 => ((laws_heldPunctS.f k bt329.2 1).bind fun t331 => (if t331 < 0 then (some false) else (if t331 = bt329.1 then ((laws_toLat.f k x280000 x280001).bind fun bt332 => ((laws_toPunctS.f k x1).bind fun t336 => ((laws_toPunct.f x281000 x281001 x281002 x281003).bind fun bt339 => ((impl_PolicyDrop.f k bt332.1 bt332.2 t336 bt339.1 bt339.2.1 bt339.2.2.1 bt339.2.2.2).bind fun bt343 => ((laws_eqPunctS.f k bt343.1 x8).bind fun t347 => (if t347 = true then (laws_FnExactPolicyDrop.j2 k bt329.2 bt329.1 (bt343.2 != x9)) else (laws_FnExactPolicyDrop.j2 k bt329.2 bt329.1 true))))))) else (some false)))))
def laws_FnExactPolicyDrop.j2 : Nat → List (S58) → Int → Bool → Option (Bool)
 | 0, _, _, _ => none
 | k + 1, x12, x15, x118 => if x118 = true then (some false) else ((laws_heldPunctS.f k x12 1).bind fun t348 => (if t348 < 0 then (some false) else (if t348 = x15 then (some true) else (some false))))
end
def laws_FnExactPolicyDrop.f (k : Nat) (a0_0 : Int) (l0_1 : List Int) (l1 : List (S56)) (a2_0 : Int) (a2_1 : Int) (a2_2 : Int) (a2_3 : Int) : Option (Bool) := (laws_szLat.f a0_0 l0_1 1048576).bind fun t281 => (if t281 < 0 then (some true) else ((laws_szPunctS.f l1 t281).bind fun t282 => (if t282 < 0 then (some true) else ((laws_toLat.f k a0_0 l0_1).bind fun bt283 => ((laws_toPunctS.f k l1).bind fun t287 => ((laws_toPunct.f a2_0 a2_1 a2_2 a2_3).bind fun bt290 => ((spec_PolicyDrop.f k bt283.1 bt283.2 t287 bt290.1 bt290.2.1 bt290.2.2.1 bt290.2.2.2).bind fun bt294 => ((laws_toLat.f k a0_0 l0_1).bind fun bt298 => ((laws_toPunctS.f k l1).bind fun t303 => ((laws_toPunct.f a2_0 a2_1 a2_2 a2_3).bind fun bt306 => ((impl_PolicyDrop.f k bt298.1 bt298.2 t303 bt306.1 bt306.2.1 bt306.2.2.1 bt306.2.2.2).bind fun bt310 => ((laws_eqPunctS.f k bt310.1 bt294.1).bind fun t314 => (if t314 = true then (laws_FnExactPolicyDrop.j0 k l1 bt294.1 bt294.2 t303 bt310.1 bt310.2 (bt310.2 != bt294.2) a0_0 l0_1 a2_0 a2_1 a2_2 a2_3 bt298.1 bt298.2) else (laws_FnExactPolicyDrop.j0 k l1 bt294.1 bt294.2 t303 bt310.1 bt310.2 true a0_0 l0_1 a2_0 a2_1 a2_2 a2_3 bt298.1 bt298.2))))))))))))))
def laws_FnExactPolicyDrop.T8 : Bool × List (List Nat × List Nat) := (true, [([], []), ([0], [0]), ([], []), ([2, 1], [2]), ([], []), ([4, 3], [4]), ([1, 3, 5, 5], [1, 3, 5]), ([6], [6]), ([7], [7]), ([7], [7]), ([8, 6, 0, 1, 2, 3, 4, 5, 6, 7, 8], [8]), ([9, 10, 0, 1, 2, 3, 4, 5, 6, 7, 8, 9, 10], [9])])
def laws_FnExactPolicyDrop.B8 : List Nat := [0, 1, 0, 7, 0, 31, 63, 127, 255, 255, 511, 2047]
theorem laws_FnExactPolicyDrop.tab8 : rtab .any (opsOf Try.f15 8) = laws_FnExactPolicyDrop.T8 := by kernel_rfl
theorem laws_FnExactPolicyDrop.bits8 : waitsOk laws_FnExactPolicyDrop.T8.2 laws_FnExactPolicyDrop.B8 = true := by kernel_rfl
def laws_FnExactPolicyDrop.T11 : Bool × List (List Nat × List Nat) := (true, [([], []), ([], []), ([], []), ([2], [2]), ([0, 1, 3, 3], [0, 1, 3]), ([4], [4]), ([5], [5]), ([5], [5]), ([6, 4, 0, 1, 2, 3, 4, 5, 6], [6]), ([7, 8, 0, 1, 2, 3, 4, 5, 6, 7, 8], [7])])
def laws_FnExactPolicyDrop.B11 : List Nat := [0, 0, 0, 4, 15, 31, 63, 63, 127, 511]
theorem laws_FnExactPolicyDrop.tab11 : rtab .any (opsOf Try.f15 11) = laws_FnExactPolicyDrop.T11 := by kernel_rfl
theorem laws_FnExactPolicyDrop.bits11 : waitsOk laws_FnExactPolicyDrop.T11.2 laws_FnExactPolicyDrop.B11 = true := by kernel_rfl
def laws_FnExactPolicyDrop.T31 : Bool × List (List Nat × List Nat) := (true, [([], []), ([0], [0]), ([], []), ([2, 1], [2]), ([], []), ([4, 3], [4]), ([1, 3, 5, 5], [1, 3, 5]), ([6], [6]), ([7], [7]), ([7], [7]), ([8, 6, 0, 1, 2, 3, 4, 5, 6, 7, 8], [8]), ([9, 10, 0, 1, 2, 3, 4, 5, 6, 7, 8, 9, 10], [9])])
def laws_FnExactPolicyDrop.B31 : List Nat := [0, 1, 0, 7, 0, 31, 63, 127, 255, 255, 511, 2047]
theorem laws_FnExactPolicyDrop.tab31 : rtab .any (opsOf Try.f15 31) = laws_FnExactPolicyDrop.T31 := by kernel_rfl
theorem laws_FnExactPolicyDrop.bits31 : waitsOk laws_FnExactPolicyDrop.T31.2 laws_FnExactPolicyDrop.B31 = true := by kernel_rfl
set_option maxHeartbeats 8000000 in
set_option maxRecDepth 100000 in
theorem laws_FnExactPolicyDrop.calls (k : Nat) (a0_0 : Int) (A0_1 : Option Addr) (c0_1 : Nat) (l0_1 : List Int) (A1 : Option Addr) (c1 : Nat) (l1 : List (S56)) (a2_0 : Int) (a2_1 : Int) (a2_2 : Int) (a2_3 : Int) (r : Bool) (w : World) (hr0_1 : Kd.C (Kd.int .u64) w A0_1 l0_1.length l0_1) (hc0_1 : l0_1.length ≤ c0_1) (hr1 : Kd.C k56 w A1 l1.length l1) (hc1 : l1.length ≤ c1) (hr_ : r = true) (h : laws_FnExactPolicyDrop.f k a0_0 l0_1 l1 a2_0 a2_1 a2_2 a2_3 = some r) :
  Calls Try.prog 15 #[.agg #[.int .i64 a0_0, .slice A0_1 l0_1.length c0_1], .slice A1 l1.length c1, .agg #[.int .i64 a2_0, .int .i64 a2_1, .int .i64 a2_2, .int .i64 a2_3]] w fun e w' => e = .returned (.bool r) ∧ Below w.heap.size w w' := by
 have hu24 := Try.underlying24
 have hu56 := Try.underlying56
 have hu27 := Try.underlying27
 have HR0_1 := zp.mk hr0_1
 have HC0_1 := zp.mk hc0_1
 clear hr0_1 hc0_1
 have HR1 := zp.mk hr1
 have HC1 := zp.mk hc1
 clear hr1 hc1
 have HB := zp.mk (Below.refl w.heap.size w)
 have H : ((laws_szLat.f a0_0 l0_1 1048576).bind fun t281 => (if t281 < 0 then (some true) else ((laws_szPunctS.f l1 t281).bind fun t282 => (if t282 < 0 then (some true) else ((laws_toLat.f k a0_0 l0_1).bind fun bt283 => ((laws_toPunctS.f k l1).bind fun t287 => ((laws_toPunct.f a2_0 a2_1 a2_2 a2_3).bind fun bt290 => ((spec_PolicyDrop.f k bt283.1 bt283.2 t287 bt290.1 bt290.2.1 bt290.2.2.1 bt290.2.2.2).bind fun bt294 => ((laws_toLat.f k a0_0 l0_1).bind fun bt298 => ((laws_toPunctS.f k l1).bind fun t303 => ((laws_toPunct.f a2_0 a2_1 a2_2 a2_3).bind fun bt306 => ((impl_PolicyDrop.f k bt298.1 bt298.2 t303 bt306.1 bt306.2.1 bt306.2.2.1 bt306.2.2.2).bind fun bt310 => ((laws_eqPunctS.f k bt310.1 bt294.1).bind fun t314 => (if t314 = true then (laws_FnExactPolicyDrop.j0 k l1 bt294.1 bt294.2 t303 bt310.1 bt310.2 (bt310.2 != bt294.2) a0_0 l0_1 a2_0 a2_1 a2_2 a2_3 bt298.1 bt298.2) else (laws_FnExactPolicyDrop.j0 k l1 bt294.1 bt294.2 t303 bt310.1 bt310.2 true a0_0 l0_1 a2_0 a2_1 a2_2 a2_3 bt298.1 bt298.2))))))))))))))) = some r := h
 clear h
 replace H := zs4 H
 obtain ⟨t281, A40, H⟩ := H
 replace H : (if t281 < 0 then (some true) else ((laws_szPunctS.f l1 t281).bind fun t282 => (if t282 < 0 then (some true) else ((laws_toLat.f k a0_0 l0_1).bind fun bt283 => ((laws_toPunctS.f k l1).bind fun t287 => ((laws_toPunct.f a2_0 a2_1 a2_2 a2_3).bind fun bt290 => ((spec_PolicyDrop.f k bt283.1 bt283.2 t287 bt290.1 bt290.2.1 bt290.2.2.1 bt290.2.2.2).bind fun bt294 => ((laws_toLat.f k a0_0 l0_1).bind fun bt298 => ((laws_toPunctS.f k l1).bind fun t303 => ((laws_toPunct.f a2_0 a2_1 a2_2 a2_3).bind fun bt306 => ((impl_PolicyDrop.f k bt298.1 bt298.2 t303 bt306.1 bt306.2.1 bt306.2.2.1 bt306.2.2.2).bind fun bt310 => ((laws_eqPunctS.f k bt310.1 bt294.1).bind fun t314 => (if t314 = true then (laws_FnExactPolicyDrop.j0 k l1 bt294.1 bt294.2 t303 bt310.1 bt310.2 (bt310.2 != bt294.2) a0_0 l0_1 a2_0 a2_1 a2_2 a2_3 bt298.1 bt298.2) else (laws_FnExactPolicyDrop.j0 k l1 bt294.1 bt294.2 t303 bt310.1 bt310.2 true a0_0 l0_1 a2_0 a2_1 a2_2 a2_3 bt298.1 bt298.2)))))))))))))) = some r := H
 have A4 := zp.mk A40
 clear A40
 by_cases c5 : t281 < 0
 ·rw [if_pos c5] at H
  have c5b0 : decide (t281 < 0) = true := decide_eq_true c5
  clear c5
  obtain rfl := Option.some.inj H
  go_enter Try.func15, Try.ntmps15
  go_wp2_with (first | ((with_reducible refine zo (N := 3) rfl ?_); refine zm ?hg (N := 3) ?hd (cs := #[.int .i64 a0_0, .slice A0_1 l0_1.length c0_1]) (t := 24) ?hr ?_; (case hd => rfl); (case hg => rfl); (case hr => first | (go_simp; done) | (go_simp; rfl)); intro gb279 hg w6 hbox hb; have BK279 := zp.mk (hbox); have GW279 := zp.mk ((zv3 (zv6 HB.out) hg)); have GE279 := zp.mk ((zv3 (zv6 HB.out) hg)); replace HB := zp.mk (zj (zv6 HB.out) hb); clear hb hbox hg) | ((with_reducible refine zo (N := 5) rfl ?_); refine zm ?hg (N := 5) ?hd (cs := #[.int .i64 a2_0, .int .i64 a2_1, .int .i64 a2_2, .int .i64 a2_3]) (t := 56) ?hr ?_; (case hd => rfl); (case hg => rfl); (case hr => first | (go_simp; done) | (go_simp; rfl)); intro gb280 hg w7 hbox hb; have BK280 := zp.mk (hbox); have GW280 := zp.mk ((zv3 (zv7 HB.out) hg)); have GE280 := zp.mk ((zv3 (zv7 HB.out) hg)); have NB279_280 := zp.mk ((by rw [hg]; exact Nat.ne_of_lt (blk_lt (g := gb279) (o := .cells #[.int .i64 a0_0, .slice A0_1 l0_1.length c0_1] 24 (0, 0)) (zv8 BK279.out)) : gb279 ≠ gb280)); have NB280_279 := zp.mk ((by rw [hg]; exact Nat.ne_of_gt (blk_lt (g := gb279) (o := .cells #[.int .i64 a0_0, .slice A0_1 l0_1.length c0_1] 24 (0, 0)) (zv8 BK279.out)) : gb280 ≠ gb279)); replace BK279 := zp.mk (zl (zv8 BK279.out) hb); replace HB := zp.mk (zj (zv7 HB.out) hb); clear hb hbox hg; have hnb8 := NB279_280.out; have hnc8 := NB280_279.out; have y9_0 := zt0 BK279.out; have y9_1 := zt1 BK279.out; have u9_0 := zd BK279.out 0; have u9_1 := zd BK279.out 1) | ((with_reducible refine zn (f := 17) rfl ?_); refine goesL_ (some 21) rfl rfl Try.func17 (by kernel_rfl) rfl #[.agg #[.int .i64 a0_0, .slice A0_1 l0_1.length c0_1], .int .i64 1048576] rfl (by (try simp only [List.map_toArray, List.map_cons, List.map_nil]); first | done | rfl | (simp only [List.length_drop, List.length_take]; rfl)) ?_; (with_reducible refine (laws_szLat.calls a0_0 _ _ l0_1 1048576 t281 _ ?side1 ?side2 A4.out).mono ?_); (case side1 => repeat (first | exact (Kd.zt HR0_1.out HB.out) | (with_reducible refine Kd.zr ?_ _) | (with_reducible refine Kd.zq ?_ _) | (with_reducible refine Kd.C_drew ?_))); (case side2 => exact HC0_1.out); rintro e w10 ⟨rfl, hb⟩; refine ⟨_, rfl, ?_⟩; replace BK279 := zp.mk (zl (zv8 BK279.out) hb); replace BK280 := zp.mk (zl (zv8 BK280.out) hb); replace HB := zp.mk (zj (zv7 HB.out) hb); (try clear hb); (try clear hb2); (try clear hk); (try clear hi)))
  go_ret
  exact ⟨by first | rfl | (simp [errW_none, errW_some] <;> rfl) | (simp [*, errW_none, errW_some] <;> rfl), zv7 HB.out⟩
 ·rw [if_neg c5] at H
  have c5b0 : decide (t281 < 0) = false := decide_eq_false c5
  clear c5
  replace H := zs4 H
  obtain ⟨t282, A110, H⟩ := H
  replace H : (if t282 < 0 then (some true) else ((laws_toLat.f k a0_0 l0_1).bind fun bt283 => ((laws_toPunctS.f k l1).bind fun t287 => ((laws_toPunct.f a2_0 a2_1 a2_2 a2_3).bind fun bt290 => ((spec_PolicyDrop.f k bt283.1 bt283.2 t287 bt290.1 bt290.2.1 bt290.2.2.1 bt290.2.2.2).bind fun bt294 => ((laws_toLat.f k a0_0 l0_1).bind fun bt298 => ((laws_toPunctS.f k l1).bind fun t303 => ((laws_toPunct.f a2_0 a2_1 a2_2 a2_3).bind fun bt306 => ((impl_PolicyDrop.f k bt298.1 bt298.2 t303 bt306.1 bt306.2.1 bt306.2.2.1 bt306.2.2.2).bind fun bt310 => ((laws_eqPunctS.f k bt310.1 bt294.1).bind fun t314 => (if t314 = true then (laws_FnExactPolicyDrop.j0 k l1 bt294.1 bt294.2 t303 bt310.1 bt310.2 (bt310.2 != bt294.2) a0_0 l0_1 a2_0 a2_1 a2_2 a2_3 bt298.1 bt298.2) else (laws_FnExactPolicyDrop.j0 k l1 bt294.1 bt294.2 t303 bt310.1 bt310.2 true a0_0 l0_1 a2_0 a2_1 a2_2 a2_3 bt298.1 bt298.2)))))))))))) = some r := H
  have A11 := zp.mk A110
  clear A110
  by_cases c12 : t282 < 0
  ·rw [if_pos c12] at H
   have c12b0 : decide (t282 < 0) = true := decide_eq_true c12
   clear c12
   obtain rfl := Option.some.inj H
   go_enter Try.func15, Try.ntmps15
   go_wp2_with (first | ((with_reducible refine zo (N := 3) rfl ?_); refine zm ?hg (N := 3) ?hd (cs := #[.int .i64 a0_0, .slice A0_1 l0_1.length c0_1]) (t := 24) ?hr ?_; (case hd => rfl); (case hg => rfl); (case hr => first | (go_simp; done) | (go_simp; rfl)); intro gb279 hg w13 hbox hb; have BK279 := zp.mk (hbox); have GW279 := zp.mk ((zv3 (zv6 HB.out) hg)); have GE279 := zp.mk ((zv3 (zv6 HB.out) hg)); replace HB := zp.mk (zj (zv6 HB.out) hb); clear hb hbox hg) | ((with_reducible refine zo (N := 5) rfl ?_); refine zm ?hg (N := 5) ?hd (cs := #[.int .i64 a2_0, .int .i64 a2_1, .int .i64 a2_2, .int .i64 a2_3]) (t := 56) ?hr ?_; (case hd => rfl); (case hg => rfl); (case hr => first | (go_simp; done) | (go_simp; rfl)); intro gb280 hg w14 hbox hb; have BK280 := zp.mk (hbox); have GW280 := zp.mk ((zv3 (zv7 HB.out) hg)); have GE280 := zp.mk ((zv3 (zv7 HB.out) hg)); have NB279_280 := zp.mk ((by rw [hg]; exact Nat.ne_of_lt (blk_lt (g := gb279) (o := .cells #[.int .i64 a0_0, .slice A0_1 l0_1.length c0_1] 24 (0, 0)) (zv8 BK279.out)) : gb279 ≠ gb280)); have NB280_279 := zp.mk ((by rw [hg]; exact Nat.ne_of_gt (blk_lt (g := gb279) (o := .cells #[.int .i64 a0_0, .slice A0_1 l0_1.length c0_1] 24 (0, 0)) (zv8 BK279.out)) : gb280 ≠ gb279)); replace BK279 := zp.mk (zl (zv8 BK279.out) hb); replace HB := zp.mk (zj (zv7 HB.out) hb); clear hb hbox hg; have hnb15 := NB279_280.out; have hnc15 := NB280_279.out; have y16_0 := zt0 BK279.out; have y16_1 := zt1 BK279.out; have u16_0 := zd BK279.out 0; have u16_1 := zd BK279.out 1) | ((with_reducible refine zn (f := 17) rfl ?_); refine goesL_ (some 21) rfl rfl Try.func17 (by kernel_rfl) rfl #[.agg #[.int .i64 a0_0, .slice A0_1 l0_1.length c0_1], .int .i64 1048576] rfl (by (try simp only [List.map_toArray, List.map_cons, List.map_nil]); first | done | rfl | (simp only [List.length_drop, List.length_take]; rfl)) ?_; (with_reducible refine (laws_szLat.calls a0_0 _ _ l0_1 1048576 t281 _ ?side1 ?side2 A4.out).mono ?_); (case side1 => repeat (first | exact (Kd.zt HR0_1.out HB.out) | (with_reducible refine Kd.zr ?_ _) | (with_reducible refine Kd.zq ?_ _) | (with_reducible refine Kd.C_drew ?_))); (case side2 => exact HC0_1.out); rintro e w17 ⟨rfl, hb⟩; refine ⟨_, rfl, ?_⟩; replace BK279 := zp.mk (zl (zv8 BK279.out) hb); replace BK280 := zp.mk (zl (zv8 BK280.out) hb); replace HB := zp.mk (zj (zv7 HB.out) hb); (try clear hb); (try clear hb2); (try clear hk); (try clear hi)) | ((with_reducible refine zn (f := 52) rfl ?_); refine goesL_ (some 26) rfl rfl Try.func52 (by kernel_rfl) rfl #[.slice A1 l1.length c1, .int .i64 t281] rfl (by (try simp only [List.map_toArray, List.map_cons, List.map_nil]); first | done | rfl | (simp only [List.length_drop, List.length_take]; rfl)) ?_; (with_reducible refine (laws_szPunctS.calls _ _ l1 t281 t282 _ ?side1 ?side2 A11.out).mono ?_); (case side1 => repeat (first | exact (Kd.zt HR1.out HB.out) | (with_reducible refine Kd.zr ?_ _) | (with_reducible refine Kd.zq ?_ _) | (with_reducible refine Kd.C_drew ?_))); (case side2 => exact HC1.out); rintro e w' ⟨rfl, ⟨nd, rfl⟩⟩; refine ⟨_, rfl, ?_⟩))
   go_ret
   exact ⟨by first | rfl | (simp [errW_none, errW_some] <;> rfl) | (simp [*, errW_none, errW_some] <;> rfl), zv7 HB.out⟩
  ·rw [if_neg c12] at H
   have c12b0 : decide (t282 < 0) = false := decide_eq_false c12
   clear c12
   replace H := zs4 H
   obtain ⟨⟨t283, t284⟩, A180, H⟩ := H
   replace H : ((laws_toPunctS.f k l1).bind fun t287 => ((laws_toPunct.f a2_0 a2_1 a2_2 a2_3).bind fun bt290 => ((spec_PolicyDrop.f k t283 t284 t287 bt290.1 bt290.2.1 bt290.2.2.1 bt290.2.2.2).bind fun bt294 => ((laws_toLat.f k a0_0 l0_1).bind fun bt298 => ((laws_toPunctS.f k l1).bind fun t303 => ((laws_toPunct.f a2_0 a2_1 a2_2 a2_3).bind fun bt306 => ((impl_PolicyDrop.f k bt298.1 bt298.2 t303 bt306.1 bt306.2.1 bt306.2.2.1 bt306.2.2.2).bind fun bt310 => ((laws_eqPunctS.f k bt310.1 bt294.1).bind fun t314 => (if t314 = true then (laws_FnExactPolicyDrop.j0 k l1 bt294.1 bt294.2 t303 bt310.1 bt310.2 (bt310.2 != bt294.2) a0_0 l0_1 a2_0 a2_1 a2_2 a2_3 bt298.1 bt298.2) else (laws_FnExactPolicyDrop.j0 k l1 bt294.1 bt294.2 t303 bt310.1 bt310.2 true a0_0 l0_1 a2_0 a2_1 a2_2 a2_3 bt298.1 bt298.2)))))))))) = some r := H
   have A18 := zp.mk A180
   clear A180
   replace H := zs4 H
   obtain ⟨t287, A190, H⟩ := H
   replace H : ((laws_toPunct.f a2_0 a2_1 a2_2 a2_3).bind fun bt290 => ((spec_PolicyDrop.f k t283 t284 t287 bt290.1 bt290.2.1 bt290.2.2.1 bt290.2.2.2).bind fun bt294 => ((laws_toLat.f k a0_0 l0_1).bind fun bt298 => ((laws_toPunctS.f k l1).bind fun t303 => ((laws_toPunct.f a2_0 a2_1 a2_2 a2_3).bind fun bt306 => ((impl_PolicyDrop.f k bt298.1 bt298.2 t303 bt306.1 bt306.2.1 bt306.2.2.1 bt306.2.2.2).bind fun bt310 => ((laws_eqPunctS.f k bt310.1 bt294.1).bind fun t314 => (if t314 = true then (laws_FnExactPolicyDrop.j0 k l1 bt294.1 bt294.2 t303 bt310.1 bt310.2 (bt310.2 != bt294.2) a0_0 l0_1 a2_0 a2_1 a2_2 a2_3 bt298.1 bt298.2) else (laws_FnExactPolicyDrop.j0 k l1 bt294.1 bt294.2 t303 bt310.1 bt310.2 true a0_0 l0_1 a2_0 a2_1 a2_2 a2_3 bt298.1 bt298.2))))))))) = some r := H
   have A19 := zp.mk A190
   clear A190
   replace H := zs4 H
   obtain ⟨⟨t290, t291, t292, t293⟩, A200, H⟩ := H
   replace H : ((spec_PolicyDrop.f k t283 t284 t287 t290 t291 t292 t293).bind fun bt294 => ((laws_toLat.f k a0_0 l0_1).bind fun bt298 => ((laws_toPunctS.f k l1).bind fun t303 => ((laws_toPunct.f a2_0 a2_1 a2_2 a2_3).bind fun bt306 => ((impl_PolicyDrop.f k bt298.1 bt298.2 t303 bt306.1 bt306.2.1 bt306.2.2.1 bt306.2.2.2).bind fun bt310 => ((laws_eqPunctS.f k bt310.1 bt294.1).bind fun t314 => (if t314 = true then (laws_FnExactPolicyDrop.j0 k l1 bt294.1 bt294.2 t303 bt310.1 bt310.2 (bt310.2 != bt294.2) a0_0 l0_1 a2_0 a2_1 a2_2 a2_3 bt298.1 bt298.2) else (laws_FnExactPolicyDrop.j0 k l1 bt294.1 bt294.2 t303 bt310.1 bt310.2 true a0_0 l0_1 a2_0 a2_1 a2_2 a2_3 bt298.1 bt298.2)))))))) = some r := H
   have A20 := zp.mk A200
   clear A200
   replace H := zs4 H
   obtain ⟨⟨t294, t297⟩, A210, H⟩ := H
   replace H : ((laws_toLat.f k a0_0 l0_1).bind fun bt298 => ((laws_toPunctS.f k l1).bind fun t303 => ((laws_toPunct.f a2_0 a2_1 a2_2 a2_3).bind fun bt306 => ((impl_PolicyDrop.f k bt298.1 bt298.2 t303 bt306.1 bt306.2.1 bt306.2.2.1 bt306.2.2.2).bind fun bt310 => ((laws_eqPunctS.f k bt310.1 t294).bind fun t314 => (if t314 = true then (laws_FnExactPolicyDrop.j0 k l1 t294 t297 t303 bt310.1 bt310.2 (bt310.2 != t297) a0_0 l0_1 a2_0 a2_1 a2_2 a2_3 bt298.1 bt298.2) else (laws_FnExactPolicyDrop.j0 k l1 t294 t297 t303 bt310.1 bt310.2 true a0_0 l0_1 a2_0 a2_1 a2_2 a2_3 bt298.1 bt298.2))))))) = some r := H
   have A21 := zp.mk A210
   clear A210
   replace H := zs4 H
   obtain ⟨⟨t298, t299⟩, A220, H⟩ := H
   replace H : ((laws_toPunctS.f k l1).bind fun t303 => ((laws_toPunct.f a2_0 a2_1 a2_2 a2_3).bind fun bt306 => ((impl_PolicyDrop.f k t298 t299 t303 bt306.1 bt306.2.1 bt306.2.2.1 bt306.2.2.2).bind fun bt310 => ((laws_eqPunctS.f k bt310.1 t294).bind fun t314 => (if t314 = true then (laws_FnExactPolicyDrop.j0 k l1 t294 t297 t303 bt310.1 bt310.2 (bt310.2 != t297) a0_0 l0_1 a2_0 a2_1 a2_2 a2_3 t298 t299) else (laws_FnExactPolicyDrop.j0 k l1 t294 t297 t303 bt310.1 bt310.2 true a0_0 l0_1 a2_0 a2_1 a2_2 a2_3 t298 t299)))))) = some r := H
   have A22 := zp.mk A220
   clear A220
   replace H := zs4 H
   obtain ⟨t303, A230, H⟩ := H
   replace H : ((laws_toPunct.f a2_0 a2_1 a2_2 a2_3).bind fun bt306 => ((impl_PolicyDrop.f k t298 t299 t303 bt306.1 bt306.2.1 bt306.2.2.1 bt306.2.2.2).bind fun bt310 => ((laws_eqPunctS.f k bt310.1 t294).bind fun t314 => (if t314 = true then (laws_FnExactPolicyDrop.j0 k l1 t294 t297 t303 bt310.1 bt310.2 (bt310.2 != t297) a0_0 l0_1 a2_0 a2_1 a2_2 a2_3 t298 t299) else (laws_FnExactPolicyDrop.j0 k l1 t294 t297 t303 bt310.1 bt310.2 true a0_0 l0_1 a2_0 a2_1 a2_2 a2_3 t298 t299))))) = some r := H
   have A23 := zp.mk A230
   clear A230
   replace H := zs4 H
   obtain ⟨⟨t306, t307, t308, t309⟩, A240, H⟩ := H
   replace H : ((impl_PolicyDrop.f k t298 t299 t303 t306 t307 t308 t309).bind fun bt310 => ((laws_eqPunctS.f k bt310.1 t294).bind fun t314 => (if t314 = true then (laws_FnExactPolicyDrop.j0 k l1 t294 t297 t303 bt310.1 bt310.2 (bt310.2 != t297) a0_0 l0_1 a2_0 a2_1 a2_2 a2_3 t298 t299) else (laws_FnExactPolicyDrop.j0 k l1 t294 t297 t303 bt310.1 bt310.2 true a0_0 l0_1 a2_0 a2_1 a2_2 a2_3 t298 t299)))) = some r := H
   have A24 := zp.mk A240
   clear A240
   replace H := zs4 H
   obtain ⟨⟨t310, t313⟩, A250, H⟩ := H
   replace H : ((laws_eqPunctS.f k t310 t294).bind fun t314 => (if t314 = true then (laws_FnExactPolicyDrop.j0 k l1 t294 t297 t303 t310 t313 (t313 != t297) a0_0 l0_1 a2_0 a2_1 a2_2 a2_3 t298 t299) else (laws_FnExactPolicyDrop.j0 k l1 t294 t297 t303 t310 t313 true a0_0 l0_1 a2_0 a2_1 a2_2 a2_3 t298 t299))) = some r := H
   have A25 := zp.mk A250
   clear A250
   have HC26 := zp.mk H
   clear H
   go_enter Try.func15, Try.ntmps15
   try go_wp2_with (first | ((with_reducible refine zo (N := 3) rfl ?_); refine zm ?hg (N := 3) ?hd (cs := #[.int .i64 a0_0, .slice A0_1 l0_1.length c0_1]) (t := 24) ?hr ?_; (case hd => rfl); (case hg => rfl); (case hr => first | (go_simp; done) | (go_simp; rfl)); intro gb279 hg w27 hbox hb; have BK279 := zp.mk (hbox); have GW279 := zp.mk ((zv3 (zv6 HB.out) hg)); have GE279 := zp.mk ((zv3 (zv6 HB.out) hg)); replace HB := zp.mk (zj (zv6 HB.out) hb); clear hb hbox hg) | ((with_reducible refine zo (N := 5) rfl ?_); refine zm ?hg (N := 5) ?hd (cs := #[.int .i64 a2_0, .int .i64 a2_1, .int .i64 a2_2, .int .i64 a2_3]) (t := 56) ?hr ?_; (case hd => rfl); (case hg => rfl); (case hr => first | (go_simp; done) | (go_simp; rfl)); intro gb280 hg w28 hbox hb; have BK280 := zp.mk (hbox); have GW280 := zp.mk ((zv3 (zv7 HB.out) hg)); have GE280 := zp.mk ((zv3 (zv7 HB.out) hg)); have NB279_280 := zp.mk ((by rw [hg]; exact Nat.ne_of_lt (blk_lt (g := gb279) (o := .cells #[.int .i64 a0_0, .slice A0_1 l0_1.length c0_1] 24 (0, 0)) (zv8 BK279.out)) : gb279 ≠ gb280)); have NB280_279 := zp.mk ((by rw [hg]; exact Nat.ne_of_gt (blk_lt (g := gb279) (o := .cells #[.int .i64 a0_0, .slice A0_1 l0_1.length c0_1] 24 (0, 0)) (zv8 BK279.out)) : gb280 ≠ gb279)); replace BK279 := zp.mk (zl (zv8 BK279.out) hb); replace HB := zp.mk (zj (zv7 HB.out) hb); clear hb hbox hg; have hnb29 := NB279_280.out; have hnc29 := NB280_279.out; have y30_0 := zt0 BK279.out; have y30_1 := zt1 BK279.out; have u30_0 := zd BK279.out 0; have u30_1 := zd BK279.out 1) | ((with_reducible refine zn (f := 17) rfl ?_); refine goesL_ (some 21) rfl rfl Try.func17 (by kernel_rfl) rfl #[.agg #[.int .i64 a0_0, .slice A0_1 l0_1.length c0_1], .int .i64 1048576] rfl (by (try simp only [List.map_toArray, List.map_cons, List.map_nil]); first | done | rfl | (simp only [List.length_drop, List.length_take]; rfl)) ?_; (with_reducible refine (laws_szLat.calls a0_0 _ _ l0_1 1048576 t281 _ ?side1 ?side2 A4.out).mono ?_); (case side1 => repeat (first | exact (Kd.zt HR0_1.out HB.out) | (with_reducible refine Kd.zr ?_ _) | (with_reducible refine Kd.zq ?_ _) | (with_reducible refine Kd.C_drew ?_))); (case side2 => exact HC0_1.out); rintro e w31 ⟨rfl, hb⟩; refine ⟨_, rfl, ?_⟩; replace BK279 := zp.mk (zl (zv8 BK279.out) hb); replace BK280 := zp.mk (zl (zv8 BK280.out) hb); replace HB := zp.mk (zj (zv7 HB.out) hb); (try clear hb); (try clear hb2); (try clear hk); (try clear hi)) | ((with_reducible refine zn (f := 52) rfl ?_); refine goesL_ (some 26) rfl rfl Try.func52 (by kernel_rfl) rfl #[.slice A1 l1.length c1, .int .i64 t281] rfl (by (try simp only [List.map_toArray, List.map_cons, List.map_nil]); first | done | rfl | (simp only [List.length_drop, List.length_take]; rfl)) ?_; (with_reducible refine (laws_szPunctS.calls _ _ l1 t281 t282 _ ?side1 ?side2 A11.out).mono ?_); (case side1 => repeat (first | exact (Kd.zt HR1.out HB.out) | (with_reducible refine Kd.zr ?_ _) | (with_reducible refine Kd.zq ?_ _) | (with_reducible refine Kd.C_drew ?_))); (case side2 => exact HC1.out); rintro e w' ⟨rfl, ⟨nd, rfl⟩⟩; refine ⟨_, rfl, ?_⟩; (try (rw [drewN_self w31]; generalize hq_ : World.drewN w31 _ = w31; have n0_ : zp (w31.heap[gb279]? = some (.cells #[.int .i64 a0_0, .slice A0_1 l0_1.length c0_1] 24 (0, 0))) := ⟨by rw [← hq_]; exact (zv8 BK279.out)⟩; have n1_ : zp (w31.heap[gb280]? = some (.cells #[.int .i64 a2_0, .int .i64 a2_1, .int .i64 a2_2, .int .i64 a2_3] 56 (0, 0))) := ⟨by rw [← hq_]; exact (zv8 BK280.out)⟩; have n2_ : zp (Below w.heap.size w w31) := ⟨by rw [← hq_]; exact (zv7 HB.out)⟩; clear BK279 BK280 HB hq_; have BK279 := n0_; have BK280 := n1_; have HB := n2_; clear n0_ n1_ n2_))))
   replace BK279 := zp.mk (zi BK279.out)
   replace BK280 := zp.mk (zi BK280.out)
   replace HB := zp.mk (zb HB.out)
   refine start_ (n := 12) (S := fun w' => w'.cell? ⟨gb279, 0, none⟩ = some (.int .i64 a0_0) ∧ w'.cell? ⟨gb279, 1, none⟩ = some (.slice A0_1 l0_1.length c0_1) ∧ w'.cell? ⟨gb280, 0, none⟩ = some (.int .i64 a2_0) ∧ w'.cell? ⟨gb280, 1, none⟩ = some (.int .i64 a2_1) ∧ w'.cell? ⟨gb280, 2, none⟩ = some (.int .i64 a2_2) ∧ w'.cell? ⟨gb280, 3, none⟩ = some (.int .i64 a2_3)) (ds := []) #[false, false, false, false, false, false, false, false, false, false, false, false] (by kernel_rfl) rfl rfl ⟨(ze BK279.out 0).trans rfl, (ze BK279.out 1).trans rfl, (ze BK280.out 0).trans rfl, (ze BK280.out 1).trans rfl, (ze BK280.out 2).trans rfl, (ze BK280.out 3).trans rfl⟩ (fun hHeld => ?_); refine with_tabW laws_FnExactPolicyDrop.tab8 laws_FnExactPolicyDrop.bits8 (fun HT_ HW_ => ?_)
   generalize w31.drew = w32 at BK279 BK280 HB hHeld ⊢
   refine pure_ (i := 2) (N := some 32) (v := ?_) (a' := ?_) #[false, false, true, false, false, false, false, false, false, false, false, false] rfl rfl (any_of HT_.out (by kernel_rfl)) (fun _ _ _ h => h) (Or.inl ⟨by rfl, ?_⟩) ?_ ?_
   rotate_left
   ·intro w'
    go_simp
    with_reducible rfl
   rotate_left
   ·simp only [Act.put, zs1, zs2, zs3, i64_w, i32_w]
    rfl
   refine take_ (i := 0) (N := some 30) (v := ?_) (a' := ?_) #[true, false, true, false, false, false, false, false, false, false, false, false] rfl rfl (take_ofW HT_.out HW_.out (by kernel_rfl)) (fun _ _ _ h => h) (Or.inl ⟨by rfl, ?_⟩) hHeld ?_ ?_
   rotate_left
   ·rintro w' ⟨s0, s1, s2, s3, s4, s5⟩
    go_simp
    with_reducible rfl
   rotate_left
   ·simp only [Act.put, zs1, zs2, zs3, i64_w, i32_w]
    rfl
   refine take_ (i := 4) (N := some 34) (v := ?_) (a' := ?_) #[true, false, true, false, true, false, false, false, false, false, false, false] rfl rfl (take_ofW HT_.out HW_.out (by kernel_rfl)) (fun _ _ _ h => h) (Or.inl ⟨by rfl, ?_⟩) hHeld ?_ ?_
   rotate_left
   ·rintro w' ⟨s0, s1, s2, s3, s4, s5⟩
    go_simp
    with_reducible rfl
   rotate_left
   ·simp only [Act.put, zs1, zs2, zs3, i64_w, i32_w]
    rfl
   refine one_ (i := 1) (N := some 31) #[true, true, true, false, true, false, false, false, false, false, false, false] rfl rfl (one_of HT_.out (by kernel_rfl)) (by decide) (fun K hK => ?_)
   refine goes_ Try.func19 (by kernel_rfl) rfl #[.agg #[.int .i64 a0_0, .slice A0_1 l0_1.length c0_1]] (by rfl) rfl rfl (by (try simp only [List.map_toArray, List.map_cons, List.map_nil]); first | done | rfl | (simp only [List.length_drop, List.length_take]; rfl)) ?_
   with_reducible refine (laws_toLat.calls k a0_0 _ _ l0_1 t283 t284 _ ?side1 ?side2 A18.out).mono ?_
   (case side1 => repeat (first | exact (Kd.zt HR0_1.out HB.out) | (with_reducible refine Kd.zr ?_ _) | (with_reducible refine Kd.zq ?_ _) | (with_reducible refine Kd.C_drew ?_)))
   (case side2 => exact HC0_1.out)
   rintro e w33 ⟨v285, rfl, ho0, hb⟩
   refine ⟨_, rfl, ?_⟩
   have HO286 := zp.mk (Kd.R_lower ho0 (zk (zv7 HB.out)))
   replace BK279 := zp.mk (zl (zv8 BK279.out) hb)
   replace BK280 := zp.mk (zl (zv8 BK280.out) hb)
   replace HB := zp.mk (zj (zv7 HB.out) hb)
   (try clear hb)
   (try clear hb2)
   (try clear hk)
   (try clear hi)
   (try clear ho0)
   refine hK.out _ _ ⟨(ze BK279.out 0).trans rfl, (ze BK279.out 1).trans rfl, (ze BK280.out 0).trans rfl, (ze BK280.out 1).trans rfl, (ze BK280.out 2).trans rfl, (ze BK280.out 3).trans rfl⟩ (fun hHeld => ?_)
   clear hK K
   refine norm_ (a' := ?_) ?_ ?_
   rotate_left
   ·show Act.put _ (some 31) _ = _
    simp only [Act.put, zs1, zs2, zs3, i64_w, i32_w]
    rfl
   refine one_ (i := 3) (N := some 33) #[true, true, true, true, true, false, false, false, false, false, false, false] rfl rfl (one_of HT_.out (by kernel_rfl)) (by decide) (fun K hK => ?_)
   refine goes_ Try.func54 (by kernel_rfl) rfl #[.slice A1 l1.length c1] (by rfl) rfl rfl (by (try simp only [List.map_toArray, List.map_cons, List.map_nil]); first | done | rfl | (simp only [List.length_drop, List.length_take]; rfl)) ?_
   with_reducible refine (laws_toPunctS.calls k _ _ l1 t287 _ ?side1 ?side2 A19.out).mono ?_
   (case side1 => repeat (first | exact (Kd.zt HR1.out HB.out) | (with_reducible refine Kd.zr ?_ _) | (with_reducible refine Kd.zq ?_ _) | (with_reducible refine Kd.C_drew ?_)))
   (case side2 => exact HC1.out)
   rintro e w34 ⟨v288, rfl, ho0, hb⟩
   refine ⟨_, rfl, ?_⟩
   have HO289 := zp.mk (Kd.R_lower ho0 (zk (zv7 HB.out)))
   replace HO286 := zp.mk (Kd.R_below (by (with_reducible repeat (first | apply Kd.R_alloc | apply Kd.R_drewN | apply Kd.R_drew)); exact HO286.out) hb)
   replace BK279 := zp.mk (zl (zv8 BK279.out) hb)
   replace BK280 := zp.mk (zl (zv8 BK280.out) hb)
   replace HB := zp.mk (zj (zv7 HB.out) hb)
   (try clear hb)
   (try clear hb2)
   (try clear hk)
   (try clear hi)
   (try clear ho0)
   refine hK.out _ _ ⟨(ze BK279.out 0).trans rfl, (ze BK279.out 1).trans rfl, (ze BK280.out 0).trans rfl, (ze BK280.out 1).trans rfl, (ze BK280.out 2).trans rfl, (ze BK280.out 3).trans rfl⟩ (fun hHeld => ?_)
   clear hK K
   refine norm_ (a' := ?_) ?_ ?_
   rotate_left
   ·show Act.put _ (some 33) _ = _
    simp only [Act.put, zs1, zs2, zs3, i64_w, i32_w]
    rfl
   refine one_ (i := 5) (N := some 35) #[true, true, true, true, true, true, false, false, false, false, false, false] rfl rfl (one_of HT_.out (by kernel_rfl)) (by decide) (fun K hK => ?_)
   refine goes_ Try.func50 (by kernel_rfl) rfl #[.agg #[.int .i64 a2_0, .int .i64 a2_1, .int .i64 a2_2, .int .i64 a2_3]] (by rfl) rfl rfl (by (try simp only [List.map_toArray, List.map_cons, List.map_nil]); first | done | rfl | (simp only [List.length_drop, List.length_take]; rfl)) ?_
   with_reducible refine (laws_toPunct.calls a2_0 a2_1 a2_2 a2_3 t290 t291 t292 t293 _ A20.out).mono ?_
   rintro e w35 ⟨rfl, hb⟩
   refine ⟨_, rfl, ?_⟩
   replace HO286 := zp.mk (Kd.R_below (by (with_reducible repeat (first | apply Kd.R_alloc | apply Kd.R_drewN | apply Kd.R_drew)); exact HO286.out) hb)
   replace HO289 := zp.mk (Kd.R_below (by (with_reducible repeat (first | apply Kd.R_alloc | apply Kd.R_drewN | apply Kd.R_drew)); exact HO289.out) hb)
   replace BK279 := zp.mk (zl (zv8 BK279.out) hb)
   replace BK280 := zp.mk (zl (zv8 BK280.out) hb)
   replace HB := zp.mk (zj (zv7 HB.out) hb)
   (try clear hb)
   (try clear hb2)
   (try clear hk)
   (try clear hi)
   obtain ⟨Ao36, co36, eo36⟩ := Kd.R_slice HO286.out
   (first | subst eo36 | (injection eo36 with f1_ f2_ f3_; have f4_ := f1_.symm; have f5_ := f3_.symm; clear f1_ f2_ f3_; subst f4_; subst f5_))
   obtain ⟨Ao37, co37, eo37⟩ := Kd.R_slice HO289.out
   (first | subst eo37 | (injection eo37 with f1_ f2_ f3_; have f4_ := f1_.symm; have f5_ := f3_.symm; clear f1_ f2_ f3_; subst f4_; subst f5_))
   refine hK.out _ _ ⟨(ze BK279.out 0).trans rfl, (ze BK279.out 1).trans rfl, (ze BK280.out 0).trans rfl, (ze BK280.out 1).trans rfl, (ze BK280.out 2).trans rfl, (ze BK280.out 3).trans rfl⟩ (fun hHeld => ?_)
   clear hK K
   refine norm_ (a' := ?_) ?_ ?_
   rotate_left
   ·show Act.put _ (some 35) _ = _
    simp only [Act.put, zs1, zs2, zs3, i64_w, i32_w]
    rfl
   refine one_ (i := 6) (N := some 36) #[true, true, true, true, true, true, true, false, false, false, false, false] rfl rfl (one_of HT_.out (by kernel_rfl)) (by decide) (fun K hK => ?_)
   refine goes_ Try.func59 (by kernel_rfl) rfl #[.agg #[.int .i64 t283, .slice Ao36 t284.length co36], .slice Ao37 t287.length co37, .agg #[.int .i64 t290, .int .i64 t291, .int .i64 t292, .int .i64 t293]] (by rfl) rfl rfl (by (try simp only [List.map_toArray, List.map_cons, List.map_nil]); first | done | rfl | (simp only [List.length_drop, List.length_take]; rfl)) ?_
   with_reducible refine (spec_PolicyDrop.calls k t283 _ _ t284 _ _ t287 t290 t291 t292 t293 t294 t297 _ ?side1 ?side2 ?side3 ?side4 A21.out).mono ?_
   (case side1 => repeat (first | exact (Kd.R_reads' HO286.out).2.2 | (with_reducible refine Kd.zr ?_ _) | (with_reducible refine Kd.zq ?_ _) | (with_reducible refine Kd.C_drew ?_)))
   (case side2 => exact (Kd.R_reads' HO286.out).2.1)
   (case side3 => repeat (first | exact (Kd.R_reads' HO289.out).2.2 | (with_reducible refine Kd.zr ?_ _) | (with_reducible refine Kd.zq ?_ _) | (with_reducible refine Kd.C_drew ?_)))
   (case side4 => exact (Kd.R_reads' HO289.out).2.1)
   rintro e w38 ⟨v295, rfl, ho0, hb⟩
   refine ⟨_, rfl, ?_⟩
   have HO296 := zp.mk (Kd.R_lower (Kd.R_new' ho0 (Kd.R_lt (by (with_reducible repeat (first | apply Kd.R_alloc | apply Kd.R_drewN | apply Kd.R_drew)); exact HO289.out))) (zk (zv7 HB.out)))
   replace HO286 := zp.mk (Kd.R_below (by (with_reducible repeat (first | apply Kd.R_alloc | apply Kd.R_drewN | apply Kd.R_drew)); exact HO286.out) hb)
   replace HO289 := zp.mk (Kd.R_elder' (by (with_reducible repeat (first | apply Kd.R_alloc | apply Kd.R_drewN | apply Kd.R_drew)); exact HO289.out) (Kd.R_base ho0) hb)
   replace BK279 := zp.mk (zl (zv8 BK279.out) hb)
   replace BK280 := zp.mk (zl (zv8 BK280.out) hb)
   replace HB := zp.mk (zj (zv7 HB.out) hb)
   (try clear hb)
   (try clear hb2)
   (try clear hk)
   (try clear hi)
   (try clear ho0)
   refine hK.out _ _ ⟨(ze BK279.out 0).trans rfl, (ze BK279.out 1).trans rfl, (ze BK280.out 0).trans rfl, (ze BK280.out 1).trans rfl, (ze BK280.out 2).trans rfl, (ze BK280.out 3).trans rfl⟩ (fun hHeld => ?_)
   clear hK K
   refine norm_ (a' := ?_) ?_ ?_
   rotate_left
   ·show Act.put _ (some 36) _ = _
    simp only [Act.put, zs1, zs2, zs3, i64_w, i32_w]
    rfl
   refine pure_ (i := 7) (N := some 29) (v := ?_) (a' := ?_) #[true, true, true, true, true, true, true, true, false, false, false, false] rfl rfl (any_of HT_.out (by kernel_rfl)) (fun _ _ _ h => h) (Or.inl ⟨by rfl, ?_⟩) ?_ ?_
   rotate_left
   ·intro w'
    go_simp
    with_reducible rfl
   rotate_left
   ·simp only [Act.put, zs1, zs2, zs3, i64_w, i32_w]
    rfl
   refine pure_ (i := 8) (N := some 37) (v := ?_) (a' := ?_) #[true, true, true, true, true, true, true, true, true, false, false, false] rfl rfl (any_of HT_.out (by kernel_rfl)) (fun _ _ _ h => h) (Or.inl ⟨by rfl, ?_⟩) ?_ ?_
   rotate_left
   ·intro w'
    go_simp
    with_reducible rfl
   rotate_left
   ·simp only [Act.put, zs1, zs2, zs3, i64_w, i32_w]
    rfl
   refine pure_ (i := 9) (N := some 38) (v := ?_) (a' := ?_) #[true, true, true, true, true, true, true, true, true, true, false, false] rfl rfl (any_of HT_.out (by kernel_rfl)) (fun _ _ _ h => h) (Or.inl ⟨by rfl, ?_⟩) ?_ ?_
   rotate_left
   ·intro w'
    go_simp
    with_reducible rfl
   rotate_left
   ·simp only [Act.put, zs1, zs2, zs3, i64_w, i32_w]
    rfl
   refine pure_ (i := 10) (N := some 8) (v := ?_) (a' := ?_) #[true, true, true, true, true, true, true, true, true, true, true, false] rfl rfl (any_of HT_.out (by kernel_rfl)) (fun _ _ _ h => h) (Or.inl ⟨by rfl, ?_⟩) ?_ ?_
   rotate_left
   ·intro w'
    go_simp
    with_reducible rfl
   rotate_left
   ·simp only [Act.put, zs1, zs2, zs3, i64_w, i32_w]
    rfl
   refine pure_ (i := 11) (N := some 9) (v := ?_) (a' := ?_) #[true, true, true, true, true, true, true, true, true, true, true, true] rfl rfl (any_of HT_.out (by kernel_rfl)) (fun _ _ _ h => h) (Or.inl ⟨by rfl, ?_⟩) ?_ ?_
   rotate_left
   ·intro w'
    go_simp
    with_reducible rfl
   rotate_left
   ·simp only [Act.put, zs1, zs2, zs3, i64_w, i32_w]
    rfl
   refine done_ (done_of HT_.out (by kernel_rfl)) ?_
   have y39_0 := zt0 BK279.out
   have y39_1 := zt1 BK279.out
   have u39_0 := zd BK279.out 0
   have u39_1 := zd BK279.out 1
   try go_wp2_with (first | ((with_reducible refine zn (f := 19) rfl ?_); refine goesL_ (some 40) rfl rfl Try.func19 (by kernel_rfl) rfl #[.agg #[.int .i64 a0_0, .slice A0_1 l0_1.length c0_1]] rfl (by (try simp only [List.map_toArray, List.map_cons, List.map_nil]); first | done | rfl | (simp only [List.length_drop, List.length_take]; rfl)) ?_; (with_reducible refine (laws_toLat.calls k a0_0 _ _ l0_1 t298 t299 _ ?side1 ?side2 A22.out).mono ?_); (case side1 => repeat (first | exact (Kd.zt HR0_1.out HB.out) | (with_reducible refine Kd.zr ?_ _) | (with_reducible refine Kd.zq ?_ _) | (with_reducible refine Kd.C_drew ?_))); (case side2 => exact HC0_1.out); rintro e w40 ⟨v300, rfl, ho0, hb⟩; refine ⟨_, rfl, ?_⟩; have HO301 := zp.mk (Kd.R_lower (Kd.R_new' ho0 (Kd.R_lt (by (with_reducible repeat (first | apply Kd.R_alloc | apply Kd.R_drewN | apply Kd.R_drew)); exact HO286.out))) (zk (zv7 HB.out))); replace HO286 := zp.mk (Kd.R_elder' (by (with_reducible repeat (first | apply Kd.R_alloc | apply Kd.R_drewN | apply Kd.R_drew)); exact HO286.out) (Kd.R_base ho0) hb); replace HO289 := zp.mk (Kd.R_below (by (with_reducible repeat (first | apply Kd.R_alloc | apply Kd.R_drewN | apply Kd.R_drew)); exact HO289.out) hb); replace HO296 := zp.mk (Kd.R_below (by (with_reducible repeat (first | apply Kd.R_alloc | apply Kd.R_drewN | apply Kd.R_drew)); exact HO296.out) hb); replace BK279 := zp.mk (zl (zv8 BK279.out) hb); replace BK280 := zp.mk (zl (zv8 BK280.out) hb); replace HB := zp.mk (zj (zv7 HB.out) hb); (try clear hb); (try clear hb2); (try clear hk); (try clear hi); (try clear ho0)) | ((with_reducible refine zo (N := 10) rfl ?_); refine zm ?hg (N := 10) ?hd (cs := #[.int .i64 0, .slice none 0 0]) (t := 27) ?hr ?_; (case hd => rfl); (case hg => rfl); (case hr => first | (go_simp; done) | (go_simp; rfl)); intro gb302 hg w41 hbox hb; have BK302 := zp.mk (hbox); have GW302 := zp.mk ((zv3 (zv7 HB.out) hg)); have GE302 := zp.mk ((zv3 (zv7 HB.out) hg)); have NB279_302 := zp.mk ((by rw [hg]; exact Nat.ne_of_lt (blk_lt (g := gb279) (o := .cells #[.int .i64 a0_0, .slice A0_1 l0_1.length c0_1] 24 (0, 0)) (zv8 BK279.out)) : gb279 ≠ gb302)); have NB302_279 := zp.mk ((by rw [hg]; exact Nat.ne_of_gt (blk_lt (g := gb279) (o := .cells #[.int .i64 a0_0, .slice A0_1 l0_1.length c0_1] 24 (0, 0)) (zv8 BK279.out)) : gb302 ≠ gb279)); have NB280_302 := zp.mk ((by rw [hg]; exact Nat.ne_of_lt (blk_lt (g := gb280) (o := .cells #[.int .i64 a2_0, .int .i64 a2_1, .int .i64 a2_2, .int .i64 a2_3] 56 (0, 0)) (zv8 BK280.out)) : gb280 ≠ gb302)); have NB302_280 := zp.mk ((by rw [hg]; exact Nat.ne_of_gt (blk_lt (g := gb280) (o := .cells #[.int .i64 a2_0, .int .i64 a2_1, .int .i64 a2_2, .int .i64 a2_3] 56 (0, 0)) (zv8 BK280.out)) : gb302 ≠ gb280)); replace HO286 := zp.mk (Kd.R_below (by (with_reducible repeat (first | apply Kd.R_alloc | apply Kd.R_drewN | apply Kd.R_drew)); exact HO286.out) hb); replace HO289 := zp.mk (Kd.R_below (by (with_reducible repeat (first | apply Kd.R_alloc | apply Kd.R_drewN | apply Kd.R_drew)); exact HO289.out) hb); replace HO296 := zp.mk (Kd.R_below (by (with_reducible repeat (first | apply Kd.R_alloc | apply Kd.R_drewN | apply Kd.R_drew)); exact HO296.out) hb); replace HO301 := zp.mk (Kd.R_below (by (with_reducible repeat (first | apply Kd.R_alloc | apply Kd.R_drewN | apply Kd.R_drew)); exact HO301.out) hb); replace BK279 := zp.mk (zl (zv8 BK279.out) hb); replace BK280 := zp.mk (zl (zv8 BK280.out) hb); replace HB := zp.mk (zj (zv7 HB.out) hb); clear hb hbox hg; have hnb42 := NB302_279.out; have hnc42 := NB279_302.out; have hnb43 := NB302_280.out; have hnc43 := NB280_302.out; have y44_0 := zt0 BK302.out; have y44_1 := zt1 BK302.out; have u44_0 := zd BK302.out 0; have u44_1 := zd BK302.out 1; obtain ⟨Ao45, co45, eo45⟩ := Kd.R_slice HO301.out; subst eo45) | ((with_reducible refine zn (f := 54) rfl ?_); refine goesL_ (some 42) rfl rfl Try.func54 (by kernel_rfl) rfl #[.slice A1 l1.length c1] rfl (by (try simp only [List.map_toArray, List.map_cons, List.map_nil]); first | done | rfl | (simp only [List.length_drop, List.length_take]; rfl)) ?_; (with_reducible refine (laws_toPunctS.calls k _ _ l1 t303 _ ?side1 ?side2 A23.out).mono ?_); (case side1 => exact Kd.zt HR1.out (zv7 HB.out)); (case side2 => exact HC1.out); rintro e w46 ⟨v304, rfl, ho0, hb⟩; refine ⟨_, rfl, ?_⟩; have HO305 := zp.mk (Kd.R_lower (Kd.R_new' (Kd.R_new' ho0 (Kd.R_lt (by (with_reducible repeat (first | apply Kd.R_alloc | apply Kd.R_drewN | apply Kd.R_drew)); exact (Kd.R_mono (Kd.R_far (p := ⟨gb302, 1, none⟩) (Kd.R_far (p := ⟨gb302, 0, none⟩) (Kd.R_types HO289.out BK302.out (by decide)) (fun _ hk => hk.2) (.int .i64 t298)) (fun _ hk => hk.2) (.slice Ao45 t299.length co45)) (fun _ h_ => h_.1))))) (Kd.R_lt (by (with_reducible repeat (first | apply Kd.R_alloc | apply Kd.R_drewN | apply Kd.R_drew)); exact (Kd.R_mono (Kd.R_far (p := ⟨gb302, 1, none⟩) (Kd.R_far (p := ⟨gb302, 0, none⟩) (Kd.R_types HO296.out BK302.out (by decide)) (fun _ hk => hk.2) (.int .i64 t298)) (fun _ hk => hk.2) (.slice Ao45 t299.length co45)) (fun _ h_ => h_.1))))) (zk (zv7 HB.out))); replace HO286 := zp.mk (Kd.R_below (by (with_reducible repeat (first | apply Kd.R_alloc | apply Kd.R_drewN | apply Kd.R_drew)); exact (Kd.R_mono (Kd.R_far (p := ⟨gb302, 1, none⟩) (Kd.R_far (p := ⟨gb302, 0, none⟩) (Kd.R_types HO286.out BK302.out (by decide)) (fun _ hk => hk.2) (.int .i64 t298)) (fun _ hk => hk.2) (.slice Ao45 t299.length co45)) (fun _ h_ => h_.1))) hb); replace HO289 := zp.mk (Kd.R_elder' (by (with_reducible repeat (first | apply Kd.R_alloc | apply Kd.R_drewN | apply Kd.R_drew)); exact (Kd.R_mono (Kd.R_far (p := ⟨gb302, 1, none⟩) (Kd.R_far (p := ⟨gb302, 0, none⟩) (Kd.R_types HO289.out BK302.out (by decide)) (fun _ hk => hk.2) (.int .i64 t298)) (fun _ hk => hk.2) (.slice Ao45 t299.length co45)) (fun _ h_ => h_.1))) (Kd.R_base ho0) hb); replace HO296 := zp.mk (Kd.R_elder' (by (with_reducible repeat (first | apply Kd.R_alloc | apply Kd.R_drewN | apply Kd.R_drew)); exact (Kd.R_mono (Kd.R_far (p := ⟨gb302, 1, none⟩) (Kd.R_far (p := ⟨gb302, 0, none⟩) (Kd.R_types HO296.out BK302.out (by decide)) (fun _ hk => hk.2) (.int .i64 t298)) (fun _ hk => hk.2) (.slice Ao45 t299.length co45)) (fun _ h_ => h_.1))) (Kd.R_base ho0) hb); replace HO301 := zp.mk (Kd.R_below (by (with_reducible repeat (first | apply Kd.R_alloc | apply Kd.R_drewN | apply Kd.R_drew)); exact (Kd.R_mono (Kd.R_far (p := ⟨gb302, 1, none⟩) (Kd.R_far (p := ⟨gb302, 0, none⟩) (Kd.R_types HO301.out BK302.out (by decide)) (fun _ hk => hk.2) (.int .i64 t298)) (fun _ hk => hk.2) (.slice Ao45 t299.length co45)) (fun _ h_ => h_.1))) hb); replace BK279 := zp.mk (zl (g := gb279) (o := .cells #[.int .i64 a0_0, .slice A0_1 l0_1.length c0_1] 24 (0, 0)) (by (with_reducible repeat (first | refine zf ?_ _ | refine zi ?_ | refine zg ?_ _)); refine blk_far ?_ NB279_302.out _; (with_reducible repeat (first | refine zf ?_ _ | refine zi ?_ | refine zg ?_ _)); refine blk_far ?_ NB279_302.out _; (with_reducible repeat (first | refine zf ?_ _ | refine zi ?_ | refine zg ?_ _)); exact BK279.out) hb); replace BK280 := zp.mk (zl (g := gb280) (o := .cells #[.int .i64 a2_0, .int .i64 a2_1, .int .i64 a2_2, .int .i64 a2_3] 56 (0, 0)) (by (with_reducible repeat (first | refine zf ?_ _ | refine zi ?_ | refine zg ?_ _)); refine blk_far ?_ NB280_302.out _; (with_reducible repeat (first | refine zf ?_ _ | refine zi ?_ | refine zg ?_ _)); refine blk_far ?_ NB280_302.out _; (with_reducible repeat (first | refine zf ?_ _ | refine zi ?_ | refine zg ?_ _)); exact BK280.out) hb); replace BK302 := zp.mk (zl (g := gb302) (o := .cells #[.int .i64 t298, .slice Ao45 t299.length co45] 27 (0, 0)) (by (with_reducible repeat (first | refine zf ?_ _ | refine zi ?_ | refine zg ?_ _)); refine blk_put (cs := #[.int .i64 t298, .slice none 0 0]) ?_ 1 _ rfl; (with_reducible repeat (first | refine zf ?_ _ | refine zi ?_ | refine zg ?_ _)); refine blk_put (cs := #[.int .i64 0, .slice none 0 0]) ?_ 0 _ rfl; (with_reducible repeat (first | refine zf ?_ _ | refine zi ?_ | refine zg ?_ _)); exact BK302.out) hb); replace HB := zp.mk (zj (zv7 HB.out) hb); (try clear hb); (try clear hb2); (try clear hk); (try clear hi); (try clear ho0)))
   replace HO286 := zp.mk (Kd.R_drew HO286.out)
   replace HO289 := zp.mk (Kd.R_drew HO289.out)
   replace HO296 := zp.mk (Kd.R_drew HO296.out)
   replace HO301 := zp.mk (Kd.R_drew HO301.out)
   replace HO305 := zp.mk (Kd.R_drew HO305.out)
   replace BK279 := zp.mk (zi BK279.out)
   replace BK280 := zp.mk (zi BK280.out)
   replace BK302 := zp.mk (zi BK302.out)
   replace HB := zp.mk (zb HB.out)
   refine start_ (n := 10) (S := fun w' => w'.cell? ⟨gb302, 0, none⟩ = some (.int .i64 t298) ∧ w'.cell? ⟨gb302, 1, none⟩ = some (.slice Ao45 t299.length co45) ∧ w'.cell? ⟨gb280, 0, none⟩ = some (.int .i64 a2_0) ∧ w'.cell? ⟨gb280, 1, none⟩ = some (.int .i64 a2_1) ∧ w'.cell? ⟨gb280, 2, none⟩ = some (.int .i64 a2_2) ∧ w'.cell? ⟨gb280, 3, none⟩ = some (.int .i64 a2_3)) (ds := []) #[false, false, false, false, false, false, false, false, false, false] (by kernel_rfl) rfl rfl ⟨(ze BK302.out 0).trans rfl, (ze BK302.out 1).trans rfl, (ze BK280.out 0).trans rfl, (ze BK280.out 1).trans rfl, (ze BK280.out 2).trans rfl, (ze BK280.out 3).trans rfl⟩ (fun hHeld => ?_); refine with_tabW laws_FnExactPolicyDrop.tab11 laws_FnExactPolicyDrop.bits11 (fun HT_ HW_ => ?_)
   generalize w46.drew = w47 at HO286 HO289 HO296 HO301 HO305 BK279 BK280 BK302 HB hHeld ⊢
   refine pure_ (i := 1) (N := some 45) (v := ?_) (a' := ?_) #[false, true, false, false, false, false, false, false, false, false] rfl rfl (any_of HT_.out (by kernel_rfl)) (fun _ _ _ h => h) (Or.inl ⟨by rfl, ?_⟩) ?_ ?_
   rotate_left
   ·intro w'
    go_simp
    with_reducible rfl
   rotate_left
   ·simp only [Act.put, zs1, zs2, zs3, i64_w, i32_w]
    rfl
   refine take_ (i := 0) (N := some 44) (v := ?_) (a' := ?_) #[true, true, false, false, false, false, false, false, false, false] rfl rfl (take_ofW HT_.out HW_.out (by kernel_rfl)) (fun _ _ _ h => h) (Or.inl ⟨by rfl, ?_⟩) hHeld ?_ ?_
   rotate_left
   ·rintro w' ⟨s0, s1, s2, s3, s4, s5⟩
    go_simp
    with_reducible rfl
   rotate_left
   ·simp only [Act.put, zs1, zs2, zs3, i64_w, i32_w]
    rfl
   refine take_ (i := 2) (N := some 46) (v := ?_) (a' := ?_) #[true, true, true, false, false, false, false, false, false, false] rfl rfl (take_ofW HT_.out HW_.out (by kernel_rfl)) (fun _ _ _ h => h) (Or.inl ⟨by rfl, ?_⟩) hHeld ?_ ?_
   rotate_left
   ·rintro w' ⟨s0, s1, s2, s3, s4, s5⟩
    go_simp
    with_reducible rfl
   rotate_left
   ·simp only [Act.put, zs1, zs2, zs3, i64_w, i32_w]
    rfl
   refine one_ (i := 3) (N := some 47) #[true, true, true, true, false, false, false, false, false, false] rfl rfl (one_of HT_.out (by kernel_rfl)) (by decide) (fun K hK => ?_)
   refine goes_ Try.func50 (by kernel_rfl) rfl #[.agg #[.int .i64 a2_0, .int .i64 a2_1, .int .i64 a2_2, .int .i64 a2_3]] (by rfl) rfl rfl (by (try simp only [List.map_toArray, List.map_cons, List.map_nil]); first | done | rfl | (simp only [List.length_drop, List.length_take]; rfl)) ?_
   with_reducible refine (laws_toPunct.calls a2_0 a2_1 a2_2 a2_3 t306 t307 t308 t309 _ A24.out).mono ?_
   rintro e w48 ⟨rfl, hb⟩
   refine ⟨_, rfl, ?_⟩
   replace HO286 := zp.mk (Kd.R_below (by (with_reducible repeat (first | apply Kd.R_alloc | apply Kd.R_drewN | apply Kd.R_drew)); exact HO286.out) hb)
   replace HO289 := zp.mk (Kd.R_below (by (with_reducible repeat (first | apply Kd.R_alloc | apply Kd.R_drewN | apply Kd.R_drew)); exact HO289.out) hb)
   replace HO296 := zp.mk (Kd.R_below (by (with_reducible repeat (first | apply Kd.R_alloc | apply Kd.R_drewN | apply Kd.R_drew)); exact HO296.out) hb)
   replace HO301 := zp.mk (Kd.R_below (by (with_reducible repeat (first | apply Kd.R_alloc | apply Kd.R_drewN | apply Kd.R_drew)); exact HO301.out) hb)
   replace HO305 := zp.mk (Kd.R_below (by (with_reducible repeat (first | apply Kd.R_alloc | apply Kd.R_drewN | apply Kd.R_drew)); exact HO305.out) hb)
   replace BK279 := zp.mk (zl (zv8 BK279.out) hb)
   replace BK280 := zp.mk (zl (zv8 BK280.out) hb)
   replace BK302 := zp.mk (zl (zv8 BK302.out) hb)
   replace HB := zp.mk (zj (zv7 HB.out) hb)
   (try clear hb)
   (try clear hb2)
   (try clear hk)
   (try clear hi)
   obtain ⟨Ao49, co49, eo49⟩ := Kd.R_slice HO305.out
   (first | subst eo49 | (injection eo49 with f1_ f2_ f3_; have f4_ := f1_.symm; have f5_ := f3_.symm; clear f1_ f2_ f3_; subst f4_; subst f5_))
   refine hK.out _ _ ⟨(ze BK302.out 0).trans rfl, (ze BK302.out 1).trans rfl, (ze BK280.out 0).trans rfl, (ze BK280.out 1).trans rfl, (ze BK280.out 2).trans rfl, (ze BK280.out 3).trans rfl⟩ (fun hHeld => ?_)
   clear hK K
   refine norm_ (a' := ?_) ?_ ?_
   rotate_left
   ·show Act.put _ (some 47) _ = _
    simp only [Act.put, zs1, zs2, zs3, i64_w, i32_w]
    rfl
   refine one_ (i := 4) (N := some 48) #[true, true, true, true, true, false, false, false, false, false] rfl rfl (one_of HT_.out (by kernel_rfl)) (by decide) (fun K hK => ?_)
   refine goes_ Try.func60 (by kernel_rfl) rfl #[.agg #[.int .i64 t298, .slice Ao45 t299.length co45], .slice Ao49 t303.length co49, .agg #[.int .i64 t306, .int .i64 t307, .int .i64 t308, .int .i64 t309]] (by rfl) rfl rfl (by (try simp only [List.map_toArray, List.map_cons, List.map_nil]); first | done | rfl | (simp only [List.length_drop, List.length_take]; rfl)) ?_
   with_reducible refine (impl_PolicyDrop.calls k t298 _ _ t299 _ _ t303 t306 t307 t308 t309 t310 t313 _ ?side1 ?side2 ?side3 ?side4 A25.out).mono ?_
   (case side1 => repeat (first | exact (Kd.R_reads' HO301.out).2.2 | (with_reducible refine Kd.zr ?_ _) | (with_reducible refine Kd.zq ?_ _) | (with_reducible refine Kd.C_drew ?_)))
   (case side2 => exact (Kd.R_reads' HO301.out).2.1)
   (case side3 => repeat (first | exact (Kd.R_reads' HO305.out).2.2 | (with_reducible refine Kd.zr ?_ _) | (with_reducible refine Kd.zq ?_ _) | (with_reducible refine Kd.C_drew ?_)))
   (case side4 => exact (Kd.R_reads' HO305.out).2.1)
   rintro e w50 ⟨v311, rfl, ho0, hb⟩
   refine ⟨_, rfl, ?_⟩
   have HO312 := zp.mk (Kd.R_lower (Kd.R_new' (Kd.R_new' (Kd.R_new' ho0 (Kd.R_lt (by (with_reducible repeat (first | apply Kd.R_alloc | apply Kd.R_drewN | apply Kd.R_drew)); exact HO289.out))) (Kd.R_lt (by (with_reducible repeat (first | apply Kd.R_alloc | apply Kd.R_drewN | apply Kd.R_drew)); exact HO296.out))) (Kd.R_lt (by (with_reducible repeat (first | apply Kd.R_alloc | apply Kd.R_drewN | apply Kd.R_drew)); exact HO305.out))) (zk (zv7 HB.out)))
   replace HO286 := zp.mk (Kd.R_below (by (with_reducible repeat (first | apply Kd.R_alloc | apply Kd.R_drewN | apply Kd.R_drew)); exact HO286.out) hb)
   replace HO289 := zp.mk (Kd.R_elder' (by (with_reducible repeat (first | apply Kd.R_alloc | apply Kd.R_drewN | apply Kd.R_drew)); exact HO289.out) (Kd.R_base ho0) hb)
   replace HO296 := zp.mk (Kd.R_elder' (by (with_reducible repeat (first | apply Kd.R_alloc | apply Kd.R_drewN | apply Kd.R_drew)); exact HO296.out) (Kd.R_base ho0) hb)
   replace HO301 := zp.mk (Kd.R_below (by (with_reducible repeat (first | apply Kd.R_alloc | apply Kd.R_drewN | apply Kd.R_drew)); exact HO301.out) hb)
   replace HO305 := zp.mk (Kd.R_elder' (by (with_reducible repeat (first | apply Kd.R_alloc | apply Kd.R_drewN | apply Kd.R_drew)); exact HO305.out) (Kd.R_base ho0) hb)
   replace BK279 := zp.mk (zl (zv8 BK279.out) hb)
   replace BK280 := zp.mk (zl (zv8 BK280.out) hb)
   replace BK302 := zp.mk (zl (zv8 BK302.out) hb)
   replace HB := zp.mk (zj (zv7 HB.out) hb)
   (try clear hb)
   (try clear hb2)
   (try clear hk)
   (try clear hi)
   (try clear ho0)
   refine hK.out _ _ ⟨(ze BK302.out 0).trans rfl, (ze BK302.out 1).trans rfl, (ze BK280.out 0).trans rfl, (ze BK280.out 1).trans rfl, (ze BK280.out 2).trans rfl, (ze BK280.out 3).trans rfl⟩ (fun hHeld => ?_)
   clear hK K
   refine norm_ (a' := ?_) ?_ ?_
   rotate_left
   ·show Act.put _ (some 48) _ = _
    simp only [Act.put, zs1, zs2, zs3, i64_w, i32_w]
    rfl
   refine pure_ (i := 5) (N := some 43) (v := ?_) (a' := ?_) #[true, true, true, true, true, true, false, false, false, false] rfl rfl (any_of HT_.out (by kernel_rfl)) (fun _ _ _ h => h) (Or.inl ⟨by rfl, ?_⟩) ?_ ?_
   rotate_left
   ·intro w'
    go_simp
    with_reducible rfl
   rotate_left
   ·simp only [Act.put, zs1, zs2, zs3, i64_w, i32_w]
    rfl
   refine pure_ (i := 6) (N := some 49) (v := ?_) (a' := ?_) #[true, true, true, true, true, true, true, false, false, false] rfl rfl (any_of HT_.out (by kernel_rfl)) (fun _ _ _ h => h) (Or.inl ⟨by rfl, ?_⟩) ?_ ?_
   rotate_left
   ·intro w'
    go_simp
    with_reducible rfl
   rotate_left
   ·simp only [Act.put, zs1, zs2, zs3, i64_w, i32_w]
    rfl
   refine pure_ (i := 7) (N := some 50) (v := ?_) (a' := ?_) #[true, true, true, true, true, true, true, true, false, false] rfl rfl (any_of HT_.out (by kernel_rfl)) (fun _ _ _ h => h) (Or.inl ⟨by rfl, ?_⟩) ?_ ?_
   rotate_left
   ·intro w'
    go_simp
    with_reducible rfl
   rotate_left
   ·simp only [Act.put, zs1, zs2, zs3, i64_w, i32_w]
    rfl
   refine pure_ (i := 8) (N := some 12) (v := ?_) (a' := ?_) #[true, true, true, true, true, true, true, true, true, false] rfl rfl (any_of HT_.out (by kernel_rfl)) (fun _ _ _ h => h) (Or.inl ⟨by rfl, ?_⟩) ?_ ?_
   rotate_left
   ·intro w'
    go_simp
    with_reducible rfl
   rotate_left
   ·simp only [Act.put, zs1, zs2, zs3, i64_w, i32_w]
    rfl
   refine pure_ (i := 9) (N := some 13) (v := ?_) (a' := ?_) #[true, true, true, true, true, true, true, true, true, true] rfl rfl (any_of HT_.out (by kernel_rfl)) (fun _ _ _ h => h) (Or.inl ⟨by rfl, ?_⟩) ?_ ?_
   rotate_left
   ·intro w'
    go_simp
    with_reducible rfl
   rotate_left
   ·simp only [Act.put, zs1, zs2, zs3, i64_w, i32_w]
    rfl
   refine done_ (done_of HT_.out (by kernel_rfl)) ?_
   go_upto_region 12 with (fail)
   go_cut [59] (fun v59 wc => ∃ (kq : Nat) (x59_25 : Bool), v59 = .bool x59_25 ∧ zp (laws_FnExactPolicyDrop.j0 kq l1 t294 t297 t303 t310 t313 x59_25 a0_0 l0_1 a2_0 a2_1 a2_2 a2_3 t298 t299 = some r) ∧ zp (kq ≤ k) ∧ zp (Kd.R k58 58 wc w.heap.size (fun k_ => some k_ ≠ ((.slice Ao49 t303.length co49) : Value).ownBlock ∧ some k_ ≠ (v311 : Value).ownBlock) v295 t294) ∧ zp (Kd.R k58 58 wc w.heap.size (fun k_ => some k_ ≠ (v295 : Value).ownBlock ∧ some k_ ≠ (v311 : Value).ownBlock) (.slice Ao49 t303.length co49) t303) ∧ zp (Kd.R k58 58 wc w.heap.size (fun k_ => some k_ ≠ (v295 : Value).ownBlock ∧ some k_ ≠ ((.slice Ao49 t303.length co49) : Value).ownBlock) v311 t310) ∧ zp (Kd.R (Kd.int .u64) 76 wc w.heap.size (fun _ => True) (.slice Ao45 t299.length co45) t299) ∧ zp (wc.heap[gb279]? = some (.cells #[.int .i64 a0_0, (.slice A0_1 l0_1.length c0_1)] 24 (0, 0))) ∧ zp (wc.heap[gb280]? = some (.cells #[.int .i64 a2_0, .int .i64 a2_1, .int .i64 a2_2, .int .i64 a2_3] 56 (0, 0))) ∧ zp (wc.heap[gb302]? = some (.cells #[.int .i64 t298, (.slice Ao45 t299.length co45)] 27 (0, 0))) ∧ zp (Below w.heap.size w wc))
   case first =>
    have H := HC26.out
    clear HC26
    replace H := zs4 H
    obtain ⟨t314, A510, H⟩ := H
    replace H : (if t314 = true then (laws_FnExactPolicyDrop.j0 k l1 t294 t297 t303 t310 t313 (t313 != t297) a0_0 l0_1 a2_0 a2_1 a2_2 a2_3 t298 t299) else (laws_FnExactPolicyDrop.j0 k l1 t294 t297 t303 t310 t313 true a0_0 l0_1 a2_0 a2_1 a2_2 a2_3 t298 t299)) = some r := H
    have A51 := zp.mk A510
    clear A510
    by_cases c52 : t314 = true
    ·subst c52
     have H1 : (laws_FnExactPolicyDrop.j0 k l1 t294 t297 t303 t310 t313 (t313 != t297) a0_0 l0_1 a2_0 a2_1 a2_2 a2_3 t298 t299) = some r := by rw [if_pos rfl] at H; exact H
     clear H
     have H := H1
     clear H1
     have H' := zp.mk H
     clear H
     obtain ⟨Ao53, co53, eo53⟩ := Kd.R_slice HO312.out
     subst eo53
     obtain ⟨Ao54, co54, eo54⟩ := Kd.R_slice HO296.out
     subst eo54
     go_wp2_with (first | ((with_reducible refine zn (f := 56) rfl ?_); refine goesL_ (some 53) rfl rfl Try.func56 (by kernel_rfl) rfl #[.slice Ao53 t310.length co53, .slice Ao54 t294.length co54] rfl (by (try simp only [List.map_toArray, List.map_cons, List.map_nil]); first | done | rfl | (simp only [List.length_drop, List.length_take]; rfl)) ?_; (with_reducible refine (laws_eqPunctS.calls k _ _ t310 _ _ t294 true _ ?side1 ?side2 ?side3 ?side4 A51.out).mono ?_); (case side1 => repeat (first | exact (Kd.R_reads' HO312.out).2.2 | (with_reducible refine Kd.zr ?_ _) | (with_reducible refine Kd.zq ?_ _) | (with_reducible refine Kd.C_drew ?_))); (case side2 => exact (Kd.R_reads' HO312.out).2.1); (case side3 => repeat (first | exact (Kd.R_reads' HO296.out).2.2 | (with_reducible refine Kd.zr ?_ _) | (with_reducible refine Kd.zq ?_ _) | (with_reducible refine Kd.C_drew ?_))); (case side4 => exact (Kd.R_reads' HO296.out).2.1); rintro e w55 ⟨rfl, hb⟩; refine ⟨_, rfl, ?_⟩; replace HO286 := zp.mk (Kd.R_below (by (with_reducible repeat (first | apply Kd.R_alloc | apply Kd.R_drewN | apply Kd.R_drew)); exact HO286.out) hb); replace HO289 := zp.mk (Kd.R_below (by (with_reducible repeat (first | apply Kd.R_alloc | apply Kd.R_drewN | apply Kd.R_drew)); exact HO289.out) hb); replace HO296 := zp.mk (Kd.R_below (by (with_reducible repeat (first | apply Kd.R_alloc | apply Kd.R_drewN | apply Kd.R_drew)); exact HO296.out) hb); replace HO301 := zp.mk (Kd.R_below (by (with_reducible repeat (first | apply Kd.R_alloc | apply Kd.R_drewN | apply Kd.R_drew)); exact HO301.out) hb); replace HO305 := zp.mk (Kd.R_below (by (with_reducible repeat (first | apply Kd.R_alloc | apply Kd.R_drewN | apply Kd.R_drew)); exact HO305.out) hb); replace HO312 := zp.mk (Kd.R_below (by (with_reducible repeat (first | apply Kd.R_alloc | apply Kd.R_drewN | apply Kd.R_drew)); exact HO312.out) hb); replace BK279 := zp.mk (zl (zv8 BK279.out) hb); replace BK280 := zp.mk (zl (zv8 BK280.out) hb); replace BK302 := zp.mk (zl (zv8 BK302.out) hb); replace HB := zp.mk (zj (zv7 HB.out) hb); (try clear hb); (try clear hb2); (try clear hk); (try clear hi)))
     go_meet
     case rel => exact ⟨_, ((t313 != t297)), (by first | rfl | (simp; done) | (simp [*]; done)), H', ⟨by first | omega | exact Nat.le_refl _⟩, ⟨by (with_reducible repeat (first | apply Kd.R_alloc | apply Kd.R_drewN | apply Kd.R_drew)); exact Kd.R_mono HO296.out (fun _ hk => ⟨hk.1.2, hk.2⟩)⟩, ⟨by (with_reducible repeat (first | apply Kd.R_alloc | apply Kd.R_drewN | apply Kd.R_drew)); exact Kd.R_mono HO305.out (fun _ hk => ⟨hk.1.2, hk.2⟩)⟩, ⟨by (with_reducible repeat (first | apply Kd.R_alloc | apply Kd.R_drewN | apply Kd.R_drew)); exact Kd.R_mono HO312.out (fun _ hk => ⟨hk.1.2, hk.2⟩)⟩, ⟨by (with_reducible repeat (first | apply Kd.R_alloc | apply Kd.R_drewN | apply Kd.R_drew)); exact Kd.R_mono HO301.out (fun _ hk => trivial)⟩, ⟨zv8 BK279.out⟩, ⟨zv8 BK280.out⟩, ⟨zv8 BK302.out⟩, ⟨zv7 HB.out⟩⟩
    ·replace c52 := Bool.eq_false_iff.mpr c52
     subst c52
     have H1 : (laws_FnExactPolicyDrop.j0 k l1 t294 t297 t303 t310 t313 true a0_0 l0_1 a2_0 a2_1 a2_2 a2_3 t298 t299) = some r := by rw [if_neg (show ¬ (false = true) by decide)] at H; exact H
     clear H
     have H := H1
     clear H1
     have H' := zp.mk H
     clear H
     obtain ⟨Ao56, co56, eo56⟩ := Kd.R_slice HO312.out
     subst eo56
     obtain ⟨Ao57, co57, eo57⟩ := Kd.R_slice HO296.out
     subst eo57
     go_wp2_with (first | ((with_reducible refine zn (f := 56) rfl ?_); refine goesL_ (some 53) rfl rfl Try.func56 (by kernel_rfl) rfl #[.slice Ao56 t310.length co56, .slice Ao57 t294.length co57] rfl (by (try simp only [List.map_toArray, List.map_cons, List.map_nil]); first | done | rfl | (simp only [List.length_drop, List.length_take]; rfl)) ?_; (with_reducible refine (laws_eqPunctS.calls k _ _ t310 _ _ t294 false _ ?side1 ?side2 ?side3 ?side4 A51.out).mono ?_); (case side1 => repeat (first | exact (Kd.R_reads' HO312.out).2.2 | (with_reducible refine Kd.zr ?_ _) | (with_reducible refine Kd.zq ?_ _) | (with_reducible refine Kd.C_drew ?_))); (case side2 => exact (Kd.R_reads' HO312.out).2.1); (case side3 => repeat (first | exact (Kd.R_reads' HO296.out).2.2 | (with_reducible refine Kd.zr ?_ _) | (with_reducible refine Kd.zq ?_ _) | (with_reducible refine Kd.C_drew ?_))); (case side4 => exact (Kd.R_reads' HO296.out).2.1); rintro e w58 ⟨rfl, hb⟩; refine ⟨_, rfl, ?_⟩; replace HO286 := zp.mk (Kd.R_below (by (with_reducible repeat (first | apply Kd.R_alloc | apply Kd.R_drewN | apply Kd.R_drew)); exact HO286.out) hb); replace HO289 := zp.mk (Kd.R_below (by (with_reducible repeat (first | apply Kd.R_alloc | apply Kd.R_drewN | apply Kd.R_drew)); exact HO289.out) hb); replace HO296 := zp.mk (Kd.R_below (by (with_reducible repeat (first | apply Kd.R_alloc | apply Kd.R_drewN | apply Kd.R_drew)); exact HO296.out) hb); replace HO301 := zp.mk (Kd.R_below (by (with_reducible repeat (first | apply Kd.R_alloc | apply Kd.R_drewN | apply Kd.R_drew)); exact HO301.out) hb); replace HO305 := zp.mk (Kd.R_below (by (with_reducible repeat (first | apply Kd.R_alloc | apply Kd.R_drewN | apply Kd.R_drew)); exact HO305.out) hb); replace HO312 := zp.mk (Kd.R_below (by (with_reducible repeat (first | apply Kd.R_alloc | apply Kd.R_drewN | apply Kd.R_drew)); exact HO312.out) hb); replace BK279 := zp.mk (zl (zv8 BK279.out) hb); replace BK280 := zp.mk (zl (zv8 BK280.out) hb); replace BK302 := zp.mk (zl (zv8 BK302.out) hb); replace HB := zp.mk (zj (zv7 HB.out) hb); (try clear hb); (try clear hb2); (try clear hk); (try clear hi)))
     go_meet
     case rel => exact ⟨_, (true), (by first | rfl | (simp; done) | (simp [*]; done)), H', ⟨by first | omega | exact Nat.le_refl _⟩, ⟨by (with_reducible repeat (first | apply Kd.R_alloc | apply Kd.R_drewN | apply Kd.R_drew)); exact Kd.R_mono HO296.out (fun _ hk => ⟨hk.1.2, hk.2⟩)⟩, ⟨by (with_reducible repeat (first | apply Kd.R_alloc | apply Kd.R_drewN | apply Kd.R_drew)); exact Kd.R_mono HO305.out (fun _ hk => ⟨hk.1.2, hk.2⟩)⟩, ⟨by (with_reducible repeat (first | apply Kd.R_alloc | apply Kd.R_drewN | apply Kd.R_drew)); exact Kd.R_mono HO312.out (fun _ hk => ⟨hk.1.2, hk.2⟩)⟩, ⟨by (with_reducible repeat (first | apply Kd.R_alloc | apply Kd.R_drewN | apply Kd.R_drew)); exact Kd.R_mono HO301.out (fun _ hk => trivial)⟩, ⟨zv8 BK279.out⟩, ⟨zv8 BK280.out⟩, ⟨zv8 BK302.out⟩, ⟨zv7 HB.out⟩⟩
   case rest =>
    clear HC26
    try clear c1
    try clear c2
    try clear p2
    try clear c4
    try clear c5
    try clear c5b0
    try clear c6
    try clear c8
    try clear c12
    try clear c12b0
    try clear c15
    try clear c17
    try clear c19
    try clear c29
    try clear c42
    try clear c43
    try clear c50
    try clear c52
    try clear c54
    try clear c56
    try clear y16_0
    try clear y16_1
    try clear y30_0
    try clear y30_1
    try clear y39_0
    try clear y39_1
    try clear y44_0
    try clear y44_1
    try clear y9_0
    try clear y9_1
    try clear u16_0
    try clear u16_1
    try clear u30_0
    try clear u30_1
    try clear u39_0
    try clear u39_1
    try clear u44_0
    try clear u44_1
    try clear u9_0
    try clear u9_1
    obtain ⟨kq, x59_25, rfl, HA, HJ25, HO_8, HO_11, HO_12, HO_303001, BK279, BK280, BK302, HB⟩ := hcut
    cases kq with
    | zero => exact absurd HA.out (by simp [laws_FnExactPolicyDrop.j0])
    | succ kj25 =>
     have H := HA.out
     clear HA
     simp only [laws_FnExactPolicyDrop.j0] at H
     by_cases c59 : x59_25 = true
     ·subst c59
      have H1 : (some false) = some r := by rw [if_pos rfl] at H; exact H
      clear H
      have H := H1
      clear H1
      exact absurd ((Option.some.inj H).trans hr_) (by decide)
     ·replace c59 := Bool.eq_false_iff.mpr c59
      subst c59
      have H1 : ((laws_toLat.f kj25 a0_0 l0_1).bind fun bt315 => ((laws_eqLat.f kj25 t298 t299 bt315.1 bt315.2).bind fun t319 => (if t319 = true then ((laws_toPunctS.f kj25 l1).bind fun t320 => ((laws_eqPunctS.f kj25 t303 t320).bind fun t323 => (if t323 = true then ((laws_markLat.f kj25 t298 t299 1).bind fun bt324 => ((laws_markPunctS.f kj25 t303 bt324.1).bind fun bt326 => (if bt326.1 < 0 then (laws_FnExactPolicyDrop.j1 kj25 l1 t294 t297 t310 true a0_0 l0_1 a2_0 a2_1 a2_2 a2_3) else ((laws_eqPunctS.f kj25 t310 t294).bind fun t328 => (if t328 = true then (laws_FnExactPolicyDrop.j1 kj25 l1 t294 t297 t310 (t313 != t297) a0_0 l0_1 a2_0 a2_1 a2_2 a2_3) else (laws_FnExactPolicyDrop.j1 kj25 l1 t294 t297 t310 true a0_0 l0_1 a2_0 a2_1 a2_2 a2_3)))))) else (some false)))) else (some false)))) = some r := by rw [if_neg (show ¬ (false = true) by decide)] at H; exact H
      clear H
      have H := H1
      clear H1
      replace H := zs4 H
      obtain ⟨⟨t315, t316⟩, A600, H⟩ := H
      replace H : ((laws_eqLat.f kj25 t298 t299 t315 t316).bind fun t319 => (if t319 = true then ((laws_toPunctS.f kj25 l1).bind fun t320 => ((laws_eqPunctS.f kj25 t303 t320).bind fun t323 => (if t323 = true then ((laws_markLat.f kj25 t298 t299 1).bind fun bt324 => ((laws_markPunctS.f kj25 t303 bt324.1).bind fun bt326 => (if bt326.1 < 0 then (laws_FnExactPolicyDrop.j1 kj25 l1 t294 t297 t310 true a0_0 l0_1 a2_0 a2_1 a2_2 a2_3) else ((laws_eqPunctS.f kj25 t310 t294).bind fun t328 => (if t328 = true then (laws_FnExactPolicyDrop.j1 kj25 l1 t294 t297 t310 (t313 != t297) a0_0 l0_1 a2_0 a2_1 a2_2 a2_3) else (laws_FnExactPolicyDrop.j1 kj25 l1 t294 t297 t310 true a0_0 l0_1 a2_0 a2_1 a2_2 a2_3)))))) else (some false)))) else (some false))) = some r := H
      have A60 := zp.mk A600
      clear A600
      replace H := zs4 H
      obtain ⟨t319, A610, H⟩ := H
      replace H : (if t319 = true then ((laws_toPunctS.f kj25 l1).bind fun t320 => ((laws_eqPunctS.f kj25 t303 t320).bind fun t323 => (if t323 = true then ((laws_markLat.f kj25 t298 t299 1).bind fun bt324 => ((laws_markPunctS.f kj25 t303 bt324.1).bind fun bt326 => (if bt326.1 < 0 then (laws_FnExactPolicyDrop.j1 kj25 l1 t294 t297 t310 true a0_0 l0_1 a2_0 a2_1 a2_2 a2_3) else ((laws_eqPunctS.f kj25 t310 t294).bind fun t328 => (if t328 = true then (laws_FnExactPolicyDrop.j1 kj25 l1 t294 t297 t310 (t313 != t297) a0_0 l0_1 a2_0 a2_1 a2_2 a2_3) else (laws_FnExactPolicyDrop.j1 kj25 l1 t294 t297 t310 true a0_0 l0_1 a2_0 a2_1 a2_2 a2_3)))))) else (some false)))) else (some false)) = some r := H
      have A61 := zp.mk A610
      clear A610
      by_cases c62 : t319 = true
      ·subst c62
       have H1 : ((laws_toPunctS.f kj25 l1).bind fun t320 => ((laws_eqPunctS.f kj25 t303 t320).bind fun t323 => (if t323 = true then ((laws_markLat.f kj25 t298 t299 1).bind fun bt324 => ((laws_markPunctS.f kj25 t303 bt324.1).bind fun bt326 => (if bt326.1 < 0 then (laws_FnExactPolicyDrop.j1 kj25 l1 t294 t297 t310 true a0_0 l0_1 a2_0 a2_1 a2_2 a2_3) else ((laws_eqPunctS.f kj25 t310 t294).bind fun t328 => (if t328 = true then (laws_FnExactPolicyDrop.j1 kj25 l1 t294 t297 t310 (t313 != t297) a0_0 l0_1 a2_0 a2_1 a2_2 a2_3) else (laws_FnExactPolicyDrop.j1 kj25 l1 t294 t297 t310 true a0_0 l0_1 a2_0 a2_1 a2_2 a2_3)))))) else (some false)))) = some r := by rw [if_pos rfl] at H; exact H
       clear H
       have H := H1
       clear H1
       replace H := zs4 H
       obtain ⟨t320, A630, H⟩ := H
       replace H : ((laws_eqPunctS.f kj25 t303 t320).bind fun t323 => (if t323 = true then ((laws_markLat.f kj25 t298 t299 1).bind fun bt324 => ((laws_markPunctS.f kj25 t303 bt324.1).bind fun bt326 => (if bt326.1 < 0 then (laws_FnExactPolicyDrop.j1 kj25 l1 t294 t297 t310 true a0_0 l0_1 a2_0 a2_1 a2_2 a2_3) else ((laws_eqPunctS.f kj25 t310 t294).bind fun t328 => (if t328 = true then (laws_FnExactPolicyDrop.j1 kj25 l1 t294 t297 t310 (t313 != t297) a0_0 l0_1 a2_0 a2_1 a2_2 a2_3) else (laws_FnExactPolicyDrop.j1 kj25 l1 t294 t297 t310 true a0_0 l0_1 a2_0 a2_1 a2_2 a2_3)))))) else (some false))) = some r := H
       have A63 := zp.mk A630
       clear A630
       replace H := zs4 H
       obtain ⟨t323, A640, H⟩ := H
       replace H : (if t323 = true then ((laws_markLat.f kj25 t298 t299 1).bind fun bt324 => ((laws_markPunctS.f kj25 t303 bt324.1).bind fun bt326 => (if bt326.1 < 0 then (laws_FnExactPolicyDrop.j1 kj25 l1 t294 t297 t310 true a0_0 l0_1 a2_0 a2_1 a2_2 a2_3) else ((laws_eqPunctS.f kj25 t310 t294).bind fun t328 => (if t328 = true then (laws_FnExactPolicyDrop.j1 kj25 l1 t294 t297 t310 (t313 != t297) a0_0 l0_1 a2_0 a2_1 a2_2 a2_3) else (laws_FnExactPolicyDrop.j1 kj25 l1 t294 t297 t310 true a0_0 l0_1 a2_0 a2_1 a2_2 a2_3)))))) else (some false)) = some r := H
       have A64 := zp.mk A640
       clear A640
       by_cases c65 : t323 = true
       ·subst c65
        have H1 : ((laws_markLat.f kj25 t298 t299 1).bind fun bt324 => ((laws_markPunctS.f kj25 t303 bt324.1).bind fun bt326 => (if bt326.1 < 0 then (laws_FnExactPolicyDrop.j1 kj25 l1 t294 t297 t310 true a0_0 l0_1 a2_0 a2_1 a2_2 a2_3) else ((laws_eqPunctS.f kj25 t310 t294).bind fun t328 => (if t328 = true then (laws_FnExactPolicyDrop.j1 kj25 l1 t294 t297 t310 (t313 != t297) a0_0 l0_1 a2_0 a2_1 a2_2 a2_3) else (laws_FnExactPolicyDrop.j1 kj25 l1 t294 t297 t310 true a0_0 l0_1 a2_0 a2_1 a2_2 a2_3)))))) = some r := by rw [if_pos rfl] at H; exact H
        clear H
        have H := H1
        clear H1
        replace H := zs4 H
        obtain ⟨⟨t324, t325⟩, A660, H⟩ := H
        replace H : ((laws_markPunctS.f kj25 t303 t324).bind fun bt326 => (if bt326.1 < 0 then (laws_FnExactPolicyDrop.j1 kj25 l1 t294 t297 t310 true a0_0 l0_1 a2_0 a2_1 a2_2 a2_3) else ((laws_eqPunctS.f kj25 t310 t294).bind fun t328 => (if t328 = true then (laws_FnExactPolicyDrop.j1 kj25 l1 t294 t297 t310 (t313 != t297) a0_0 l0_1 a2_0 a2_1 a2_2 a2_3) else (laws_FnExactPolicyDrop.j1 kj25 l1 t294 t297 t310 true a0_0 l0_1 a2_0 a2_1 a2_2 a2_3))))) = some r := H
        have A66 := zp.mk A660
        clear A660
        replace H := zs4 H
        obtain ⟨⟨t326, t327⟩, A670, H⟩ := H
        replace H : (if t326 < 0 then (laws_FnExactPolicyDrop.j1 kj25 l1 t294 t297 t310 true a0_0 l0_1 a2_0 a2_1 a2_2 a2_3) else ((laws_eqPunctS.f kj25 t310 t294).bind fun t328 => (if t328 = true then (laws_FnExactPolicyDrop.j1 kj25 l1 t294 t297 t310 (t313 != t297) a0_0 l0_1 a2_0 a2_1 a2_2 a2_3) else (laws_FnExactPolicyDrop.j1 kj25 l1 t294 t297 t310 true a0_0 l0_1 a2_0 a2_1 a2_2 a2_3)))) = some r := H
        have A67 := zp.mk A670
        clear A670
        have HC68 := zp.mk H
        clear H
        try go_wp2
        replace HO_8 := zp.mk (Kd.R_drew HO_8.out)
        replace HO_11 := zp.mk (Kd.R_drew HO_11.out)
        replace HO_12 := zp.mk (Kd.R_drew HO_12.out)
        replace HO_303001 := zp.mk (Kd.R_drew HO_303001.out)
        replace BK279 := zp.mk (zi BK279.out)
        replace BK280 := zp.mk (zi BK280.out)
        replace BK302 := zp.mk (zi BK302.out)
        replace HB := zp.mk (zb HB.out)
        refine start_ (n := 5) (S := fun w' => w'.cell? ⟨gb302, 0, none⟩ = some (.int .i64 t298) ∧ w'.cell? ⟨gb302, 1, none⟩ = some (.slice Ao45 t299.length co45) ∧ w'.cell? ⟨gb279, 0, none⟩ = some (.int .i64 a0_0) ∧ w'.cell? ⟨gb279, 1, none⟩ = some (.slice A0_1 l0_1.length c0_1)) (ds := []) #[false, false, false, false, false] (by kernel_rfl) rfl rfl ⟨(ze BK302.out 0).trans rfl, (ze BK302.out 1).trans rfl, (ze BK279.out 0).trans rfl, (ze BK279.out 1).trans rfl⟩ (fun hHeld => ?_)
        generalize wc.drew = w69 at HO_8 HO_11 HO_12 HO_303001 BK279 BK280 BK302 HB hHeld ⊢
        refine take_ (i := 0) (N := some 60) (v := ?_) (a' := ?_) #[true, false, false, false, false] rfl rfl (by kernel_rfl) (fun _ _ _ h => h) (Or.inl ⟨by rfl, ?_⟩) hHeld ?_ ?_
        rotate_left
        ·rintro w' ⟨s0, s1, s2, s3⟩
         go_simp
         with_reducible rfl
        rotate_left
        ·simp only [Act.put, zs1, zs2, zs3, i64_w, i32_w]
         rfl
        refine take_ (i := 1) (N := some 61) (v := ?_) (a' := ?_) #[true, true, false, false, false] rfl rfl (by kernel_rfl) (fun _ _ _ h => h) (Or.inl ⟨by rfl, ?_⟩) hHeld ?_ ?_
        rotate_left
        ·rintro w' ⟨s0, s1, s2, s3⟩
         go_simp
         with_reducible rfl
        rotate_left
        ·simp only [Act.put, zs1, zs2, zs3, i64_w, i32_w]
         rfl
        refine one_ (i := 2) (N := some 62) #[true, true, true, false, false] rfl rfl (by kernel_rfl) (by decide) (fun K hK => ?_)
        refine goes_ Try.func19 (by kernel_rfl) rfl #[.agg #[.int .i64 a0_0, .slice A0_1 l0_1.length c0_1]] (by rfl) rfl rfl (by (try simp only [List.map_toArray, List.map_cons, List.map_nil]); first | done | rfl | (simp only [List.length_drop, List.length_take]; rfl)) ?_
        with_reducible refine (laws_toLat.calls kj25 a0_0 _ _ l0_1 t315 t316 _ ?side1 ?side2 A60.out).mono ?_
        (case side1 => repeat (first | exact (Kd.zt HR0_1.out HB.out) | (with_reducible refine Kd.zr ?_ _) | (with_reducible refine Kd.zq ?_ _) | (with_reducible refine Kd.C_drew ?_)))
        (case side2 => exact HC0_1.out)
        rintro e w70 ⟨v317, rfl, ho0, hb⟩
        refine ⟨_, rfl, ?_⟩
        have HO318 := zp.mk (Kd.R_lower (Kd.R_new' ho0 (Kd.R_lt (by (with_reducible repeat (first | apply Kd.R_alloc | apply Kd.R_drewN | apply Kd.R_drew)); exact HO_303001.out))) (zk (zv7 HB.out)))
        replace HO_8 := zp.mk (Kd.R_below (by (with_reducible repeat (first | apply Kd.R_alloc | apply Kd.R_drewN | apply Kd.R_drew)); exact HO_8.out) hb)
        replace HO_11 := zp.mk (Kd.R_below (by (with_reducible repeat (first | apply Kd.R_alloc | apply Kd.R_drewN | apply Kd.R_drew)); exact HO_11.out) hb)
        replace HO_12 := zp.mk (Kd.R_below (by (with_reducible repeat (first | apply Kd.R_alloc | apply Kd.R_drewN | apply Kd.R_drew)); exact HO_12.out) hb)
        replace HO_303001 := zp.mk (Kd.R_elder' (by (with_reducible repeat (first | apply Kd.R_alloc | apply Kd.R_drewN | apply Kd.R_drew)); exact HO_303001.out) (Kd.R_base ho0) hb)
        replace BK279 := zp.mk (zl (zv8 BK279.out) hb)
        replace BK280 := zp.mk (zl (zv8 BK280.out) hb)
        replace BK302 := zp.mk (zl (zv8 BK302.out) hb)
        replace HB := zp.mk (zj (zv7 HB.out) hb)
        (try clear hb)
        (try clear hb2)
        (try clear hk)
        (try clear hi)
        (try clear ho0)
        obtain ⟨Ao71, co71, eo71⟩ := Kd.R_slice HO318.out
        (first | subst eo71 | (injection eo71 with f1_ f2_ f3_; have f4_ := f1_.symm; have f5_ := f3_.symm; clear f1_ f2_ f3_; subst f4_; subst f5_))
        refine hK.out _ _ ⟨(ze BK302.out 0).trans rfl, (ze BK302.out 1).trans rfl, (ze BK279.out 0).trans rfl, (ze BK279.out 1).trans rfl⟩ (fun hHeld => ?_)
        clear hK K
        refine norm_ (a' := ?_) ?_ ?_
        rotate_left
        ·show Act.put _ (some 62) _ = _
         simp only [Act.put, zs1, zs2, zs3, i64_w, i32_w]
         rfl
        refine one_ (i := 3) (N := some 63) #[true, true, true, true, false] rfl rfl (by kernel_rfl) (by decide) (fun K hK => ?_)
        refine goes_ Try.func21 (by kernel_rfl) rfl #[.agg #[.int .i64 t298, .slice Ao45 t299.length co45], .agg #[.int .i64 t315, .slice Ao71 t316.length co71]] (by rfl) rfl rfl (by (try simp only [List.map_toArray, List.map_cons, List.map_nil]); first | done | rfl | (simp only [List.length_drop, List.length_take]; rfl)) ?_
        with_reducible refine (laws_eqLat.calls kj25 t298 _ _ t299 t315 _ _ t316 true _ ?side1 ?side2 ?side3 ?side4 A61.out).mono ?_
        (case side1 => repeat (first | exact (Kd.R_reads' HO_303001.out).2.2 | (with_reducible refine Kd.zr ?_ _) | (with_reducible refine Kd.zq ?_ _) | (with_reducible refine Kd.C_drew ?_)))
        (case side2 => exact (Kd.R_reads' HO_303001.out).2.1)
        (case side3 => repeat (first | exact (Kd.R_reads' HO318.out).2.2 | (with_reducible refine Kd.zr ?_ _) | (with_reducible refine Kd.zq ?_ _) | (with_reducible refine Kd.C_drew ?_)))
        (case side4 => exact (Kd.R_reads' HO318.out).2.1)
        rintro e w72 ⟨rfl, hb⟩
        refine ⟨_, rfl, ?_⟩
        replace HO_8 := zp.mk (Kd.R_below (by (with_reducible repeat (first | apply Kd.R_alloc | apply Kd.R_drewN | apply Kd.R_drew)); exact HO_8.out) hb)
        replace HO_11 := zp.mk (Kd.R_below (by (with_reducible repeat (first | apply Kd.R_alloc | apply Kd.R_drewN | apply Kd.R_drew)); exact HO_11.out) hb)
        replace HO_12 := zp.mk (Kd.R_below (by (with_reducible repeat (first | apply Kd.R_alloc | apply Kd.R_drewN | apply Kd.R_drew)); exact HO_12.out) hb)
        replace HO_303001 := zp.mk (Kd.R_below (by (with_reducible repeat (first | apply Kd.R_alloc | apply Kd.R_drewN | apply Kd.R_drew)); exact HO_303001.out) hb)
        replace HO318 := zp.mk (Kd.R_below (by (with_reducible repeat (first | apply Kd.R_alloc | apply Kd.R_drewN | apply Kd.R_drew)); exact HO318.out) hb)
        replace BK279 := zp.mk (zl (zv8 BK279.out) hb)
        replace BK280 := zp.mk (zl (zv8 BK280.out) hb)
        replace BK302 := zp.mk (zl (zv8 BK302.out) hb)
        replace HB := zp.mk (zj (zv7 HB.out) hb)
        (try clear hb)
        (try clear hb2)
        (try clear hk)
        (try clear hi)
        refine hK.out _ _ ⟨(ze BK302.out 0).trans rfl, (ze BK302.out 1).trans rfl, (ze BK279.out 0).trans rfl, (ze BK279.out 1).trans rfl⟩ (fun hHeld => ?_)
        clear hK K
        refine norm_ (a' := ?_) ?_ ?_
        rotate_left
        ·show Act.put _ (some 63) _ = _
         simp only [Act.put, zs1, zs2, zs3, i64_w, i32_w]
         rfl
        refine pure_ (i := 4) (N := some 64) (v := ?_) (a' := ?_) #[true, true, true, true, true] rfl rfl (by kernel_rfl) (fun _ _ _ h => h) (Or.inl ⟨by rfl, ?_⟩) ?_ ?_
        rotate_left
        ·intro w'
         go_simp
         with_reducible rfl
        rotate_left
        ·simp only [Act.put, zs1, zs2, zs3, i64_w, i32_w]
         rfl
        refine done_ (by kernel_rfl) ?_
        go_upto_region 21 with (first | ((with_reducible refine zn (f := 54) rfl ?_); refine goesL_ (some 67) rfl rfl Try.func54 (by kernel_rfl) rfl #[.slice A1 l1.length c1] rfl (by (try simp only [List.map_toArray, List.map_cons, List.map_nil]); first | done | rfl | (simp only [List.length_drop, List.length_take]; rfl)) ?_; (with_reducible refine (laws_toPunctS.calls kj25 _ _ l1 t320 _ ?side1 ?side2 A63.out).mono ?_); (case side1 => repeat (first | exact (Kd.zt HR1.out HB.out) | (with_reducible refine Kd.zr ?_ _) | (with_reducible refine Kd.zq ?_ _) | (with_reducible refine Kd.C_drew ?_))); (case side2 => exact HC1.out); rintro e w73 ⟨v321, rfl, ho0, hb⟩; refine ⟨_, rfl, ?_⟩; have HO322 := zp.mk (Kd.R_lower (Kd.R_new' (Kd.R_new' (Kd.R_new' ho0 (Kd.R_lt (by (with_reducible repeat (first | apply Kd.R_alloc | apply Kd.R_drewN | apply Kd.R_drew)); exact HO_8.out))) (Kd.R_lt (by (with_reducible repeat (first | apply Kd.R_alloc | apply Kd.R_drewN | apply Kd.R_drew)); exact HO_11.out))) (Kd.R_lt (by (with_reducible repeat (first | apply Kd.R_alloc | apply Kd.R_drewN | apply Kd.R_drew)); exact HO_12.out))) (zk (zv7 HB.out))); replace HO_8 := zp.mk (Kd.R_elder' (by (with_reducible repeat (first | apply Kd.R_alloc | apply Kd.R_drewN | apply Kd.R_drew)); exact HO_8.out) (Kd.R_base ho0) hb); replace HO_11 := zp.mk (Kd.R_elder' (by (with_reducible repeat (first | apply Kd.R_alloc | apply Kd.R_drewN | apply Kd.R_drew)); exact HO_11.out) (Kd.R_base ho0) hb); replace HO_12 := zp.mk (Kd.R_elder' (by (with_reducible repeat (first | apply Kd.R_alloc | apply Kd.R_drewN | apply Kd.R_drew)); exact HO_12.out) (Kd.R_base ho0) hb); replace HO_303001 := zp.mk (Kd.R_below (by (with_reducible repeat (first | apply Kd.R_alloc | apply Kd.R_drewN | apply Kd.R_drew)); exact HO_303001.out) hb); replace HO318 := zp.mk (Kd.R_below (by (with_reducible repeat (first | apply Kd.R_alloc | apply Kd.R_drewN | apply Kd.R_drew)); exact HO318.out) hb); replace BK279 := zp.mk (zl (zv8 BK279.out) hb); replace BK280 := zp.mk (zl (zv8 BK280.out) hb); replace BK302 := zp.mk (zl (zv8 BK302.out) hb); replace HB := zp.mk (zj (zv7 HB.out) hb); (try clear hb); (try clear hb2); (try clear hk); (try clear hi); (try clear ho0); obtain ⟨Ao74, co74, eo74⟩ := Kd.R_slice HO322.out; subst eo74) | ((with_reducible refine zn (f := 56) rfl ?_); refine goesL_ (some 68) rfl rfl Try.func56 (by kernel_rfl) rfl #[.slice Ao49 t303.length co49, .slice Ao74 t320.length co74] rfl (by (try simp only [List.map_toArray, List.map_cons, List.map_nil]); first | done | rfl | (simp only [List.length_drop, List.length_take]; rfl)) ?_; (with_reducible refine (laws_eqPunctS.calls kj25 _ _ t303 _ _ t320 true _ ?side1 ?side2 ?side3 ?side4 A64.out).mono ?_); (case side1 => repeat (first | exact (Kd.R_reads' HO_11.out).2.2 | (with_reducible refine Kd.zr ?_ _) | (with_reducible refine Kd.zq ?_ _) | (with_reducible refine Kd.C_drew ?_))); (case side2 => exact (Kd.R_reads' HO_11.out).2.1); (case side3 => repeat (first | exact (Kd.R_reads' HO322.out).2.2 | (with_reducible refine Kd.zr ?_ _) | (with_reducible refine Kd.zq ?_ _) | (with_reducible refine Kd.C_drew ?_))); (case side4 => exact (Kd.R_reads' HO322.out).2.1); rintro e w75 ⟨rfl, hb⟩; refine ⟨_, rfl, ?_⟩; replace HO_8 := zp.mk (Kd.R_below (by (with_reducible repeat (first | apply Kd.R_alloc | apply Kd.R_drewN | apply Kd.R_drew)); exact HO_8.out) hb); replace HO_11 := zp.mk (Kd.R_below (by (with_reducible repeat (first | apply Kd.R_alloc | apply Kd.R_drewN | apply Kd.R_drew)); exact HO_11.out) hb); replace HO_12 := zp.mk (Kd.R_below (by (with_reducible repeat (first | apply Kd.R_alloc | apply Kd.R_drewN | apply Kd.R_drew)); exact HO_12.out) hb); replace HO_303001 := zp.mk (Kd.R_below (by (with_reducible repeat (first | apply Kd.R_alloc | apply Kd.R_drewN | apply Kd.R_drew)); exact HO_303001.out) hb); replace HO318 := zp.mk (Kd.R_below (by (with_reducible repeat (first | apply Kd.R_alloc | apply Kd.R_drewN | apply Kd.R_drew)); exact HO318.out) hb); replace HO322 := zp.mk (Kd.R_below (by (with_reducible repeat (first | apply Kd.R_alloc | apply Kd.R_drewN | apply Kd.R_drew)); exact HO322.out) hb); replace BK279 := zp.mk (zl (zv8 BK279.out) hb); replace BK280 := zp.mk (zl (zv8 BK280.out) hb); replace BK302 := zp.mk (zl (zv8 BK302.out) hb); replace HB := zp.mk (zj (zv7 HB.out) hb); (try clear hb); (try clear hb2); (try clear hk); (try clear hi); have hnb76 := NB302_279.out; have hnc76 := NB279_302.out; have hnb77 := NB302_280.out; have hnc77 := NB280_302.out; have y78_0 := zt0 BK302.out; have y78_1 := zt1 BK302.out; have u78_0 := zd BK302.out 0; have u78_1 := zd BK302.out 1) | ((with_reducible refine zn (f := 33) rfl ?_); refine goesL_ (some 72) rfl rfl Try.func33 (by kernel_rfl) rfl #[.agg #[.int .i64 t298, .slice Ao45 t299.length co45], .int .i64 1] rfl (by (try simp only [List.map_toArray, List.map_cons, List.map_nil]); first | done | rfl | (simp only [List.length_drop, List.length_take]; rfl)) ?_; (with_reducible refine (laws_markLat.calls kj25 t298 (fun k_ => some k_ = (.slice Ao45 t299.length co45 : Value).ownBlock) (.slice Ao45 t299.length co45) t299 1 t324 t325 w _ ?side1 ?side2 A66.out).mono ?_); (case side1 => repeat (first | (with_reducible first | exact HB.out | apply zc | apply za | apply zb | refine zh ?_ GE279.out | refine zh ?_ GE280.out | refine zh ?_ GE302.out) | exact HB.out)); (case side2 => exact Kd.R_tight rfl HO_303001.out); rintro e w79 ⟨rfl, hy0, hb, hkp⟩; refine ⟨_, rfl, ?_⟩; replace HO_8 := zp.mk (Kd.R_mono (ok' := fun k_ => some k_ ≠ (.slice Ao49 t303.length co49 : Value).ownBlock ∧ some k_ ≠ (v311 : Value).ownBlock ∧ some k_ ≠ (.slice Ao74 t320.length co74 : Value).ownBlock) (Kd.R_keptB ((Kd.R_apart' HO_8.out (Kd.R_typed HO_303001.out) (by decide))) hkp (fun k_ hk_ hs_ => (hk_.2) hs_)) (fun k_ hk_ => ⟨hk_.1.1.1.1, hk_.1.1.1.2, hk_.1.1.2⟩)); replace HO_11 := zp.mk (Kd.R_mono (ok' := fun k_ => some k_ ≠ (v295 : Value).ownBlock ∧ some k_ ≠ (v311 : Value).ownBlock ∧ some k_ ≠ (.slice Ao74 t320.length co74 : Value).ownBlock) (Kd.R_keptB ((Kd.R_apart' HO_11.out (Kd.R_typed HO_303001.out) (by decide))) hkp (fun k_ hk_ hs_ => (hk_.2) hs_)) (fun k_ hk_ => ⟨hk_.1.1.1.1, hk_.1.1.1.2, hk_.1.1.2⟩)); replace HO_12 := zp.mk (Kd.R_mono (ok' := fun k_ => some k_ ≠ (v295 : Value).ownBlock ∧ some k_ ≠ (.slice Ao49 t303.length co49 : Value).ownBlock ∧ some k_ ≠ (.slice Ao74 t320.length co74 : Value).ownBlock) (Kd.R_keptB ((Kd.R_apart' HO_12.out (Kd.R_typed HO_303001.out) (by decide))) hkp (fun k_ hk_ hs_ => (hk_.2) hs_)) (fun k_ hk_ => ⟨hk_.1.1.1.1, hk_.1.1.1.2, hk_.1.1.2⟩)); replace BK279 := zp.mk (blk_kept (zv8 BK279.out) hkp (fun hs_ => (fun e_ => (Kd.R_ne HO_303001.out BK279.out (by decide)) e_) hs_)); replace BK280 := zp.mk (blk_kept (zv8 BK280.out) hkp (fun hs_ => (fun e_ => (Kd.R_ne HO_303001.out BK280.out (by decide)) e_) hs_)); replace BK302 := zp.mk (blk_kept (zv8 BK302.out) hkp (fun hs_ => (fun e_ => (Kd.R_ne HO_303001.out BK302.out (by decide)) e_) hs_)); replace HO318 := zp.mk (Kd.R_mono (ok' := fun k_ => some k_ ≠ (.slice Ao45 t299.length co45 : Value).ownBlock) (Kd.R_keptB (HO318.out) hkp (fun k_ hk_ hs_ => (hk_.2) hs_)) (fun k_ hk_ => hk_.1.2)); replace HO322 := zp.mk (Kd.R_mono (ok' := fun k_ => some k_ ≠ (v295 : Value).ownBlock ∧ some k_ ≠ (.slice Ao49 t303.length co49 : Value).ownBlock ∧ some k_ ≠ (v311 : Value).ownBlock) (Kd.R_keptB ((Kd.R_apart' HO322.out (Kd.R_typed HO_303001.out) (by decide))) hkp (fun k_ hk_ hs_ => (hk_.2) hs_)) (fun k_ hk_ => ⟨hk_.1.1.1.1.2, hk_.1.1.1.2, hk_.1.1.2⟩)); replace HO_303001 := zp.mk (Kd.R_reok rfl hy0 (fun k_ e_ => HO_303001.out.1 k_ e_)); replace HB := zp.mk (hb); (try clear hb); (try clear hkp); (try clear hy0)) | ((with_reducible refine zn (f := 61) rfl ?_); refine goesL_ (some 75) rfl rfl Try.func61 (by kernel_rfl) rfl #[.slice Ao49 t303.length co49, .int .i64 t324] rfl (by (try simp only [List.map_toArray, List.map_cons, List.map_nil]); first | done | rfl | (simp only [List.length_drop, List.length_take]; rfl)) ?_; (with_reducible refine (laws_markPunctS.calls kj25 (fun k_ => some k_ = (.slice Ao49 t303.length co49 : Value).ownBlock) (.slice Ao49 t303.length co49) t303 t324 t326 t327 w _ ?side1 ?side2 A67.out).mono ?_); (case side1 => repeat (first | (with_reducible first | exact HB.out | apply zc | apply za | apply zb | refine zh ?_ GE279.out | refine zh ?_ GE280.out | refine zh ?_ GE302.out) | exact HB.out)); (case side2 => exact Kd.R_tight rfl HO_11.out); rintro e w80 ⟨rfl, hy0, hb, hkp⟩; refine ⟨_, rfl, ?_⟩; replace HO_8 := zp.mk (Kd.R_mono (ok' := fun k_ => some k_ ≠ (.slice Ao49 t303.length co49 : Value).ownBlock ∧ some k_ ≠ (v311 : Value).ownBlock ∧ some k_ ≠ (.slice Ao74 t320.length co74 : Value).ownBlock) (Kd.R_keptB (HO_8.out) hkp (fun k_ hk_ hs_ => (hk_.1) hs_)) (fun k_ hk_ => ⟨hk_.1.1, hk_.1.2.1, hk_.1.2.2⟩)); replace HO_12 := zp.mk (Kd.R_mono (ok' := fun k_ => some k_ ≠ (v295 : Value).ownBlock ∧ some k_ ≠ (.slice Ao49 t303.length co49 : Value).ownBlock ∧ some k_ ≠ (.slice Ao74 t320.length co74 : Value).ownBlock) (Kd.R_keptB (HO_12.out) hkp (fun k_ hk_ hs_ => (hk_.2.1) hs_)) (fun k_ hk_ => ⟨hk_.1.1, hk_.1.2.1, hk_.1.2.2⟩)); replace HO_303001 := zp.mk (Kd.R_mono (ok' := fun k_ => some k_ ≠ (.slice Ao71 t316.length co71 : Value).ownBlock) (Kd.R_keptB ((Kd.R_apart' HO_303001.out (Kd.R_typed HO_11.out) (by decide))) hkp (fun k_ hk_ hs_ => (hk_.2) hs_)) (fun k_ hk_ => hk_.1.1.2)); replace BK279 := zp.mk (blk_kept (zv8 BK279.out) hkp (fun hs_ => (fun e_ => (Kd.R_ne HO_11.out BK279.out (by decide)) e_) hs_)); replace BK280 := zp.mk (blk_kept (zv8 BK280.out) hkp (fun hs_ => (fun e_ => (Kd.R_ne HO_11.out BK280.out (by decide)) e_) hs_)); replace BK302 := zp.mk (blk_kept (zv8 BK302.out) hkp (fun hs_ => (fun e_ => (Kd.R_ne HO_11.out BK302.out (by decide)) e_) hs_)); replace HO318 := zp.mk (Kd.R_mono (ok' := fun k_ => some k_ ≠ (.slice Ao45 t299.length co45 : Value).ownBlock) (Kd.R_keptB ((Kd.R_apart' HO318.out (Kd.R_typed HO_11.out) (by decide))) hkp (fun k_ hk_ hs_ => (hk_.2) hs_)) (fun k_ hk_ => hk_.1.1)); replace HO_11 := zp.mk (Kd.R_reok rfl hy0 (fun k_ e_ => HO_11.out.1 k_ e_)); replace HO322 := zp.mk (Kd.R_mono (ok' := fun k_ => some k_ ≠ (v295 : Value).ownBlock ∧ some k_ ≠ (.slice Ao49 t303.length co49 : Value).ownBlock ∧ some k_ ≠ (v311 : Value).ownBlock) (Kd.R_keptB (HO322.out) hkp (fun k_ hk_ hs_ => (hk_.2.1) hs_)) (fun k_ hk_ => ⟨hk_.1.1, hk_.1.2.1, hk_.1.2.2⟩)); replace HB := zp.mk (hb); (try clear hb); (try clear hkp); (try clear hy0)))
        (try simp only [Act.put, zs1, zs2, zs3])
        go_cut [88] (fun v88 wc => ∃ (kq : Nat) (x88_67 : Bool), v88 = .bool x88_67 ∧ zp (laws_FnExactPolicyDrop.j1 kq l1 t294 t297 t310 x88_67 a0_0 l0_1 a2_0 a2_1 a2_2 a2_3 = some r) ∧ zp (kq ≤ kj25) ∧ zp (Kd.R k58 58 wc w.heap.size (fun k_ => some k_ ≠ (v311 : Value).ownBlock) v295 t294) ∧ zp (Kd.R k58 58 wc w.heap.size (fun k_ => some k_ ≠ (v295 : Value).ownBlock) v311 t310) ∧ zp (Kd.R (Kd.int .u64) 76 wc w.heap.size (fun _ => True) (.slice Ao45 t299.length co45) t325) ∧ zp (wc.heap[gb279]? = some (.cells #[.int .i64 a0_0, (.slice A0_1 l0_1.length c0_1)] 24 (0, 0))) ∧ zp (wc.heap[gb280]? = some (.cells #[.int .i64 a2_0, .int .i64 a2_1, .int .i64 a2_2, .int .i64 a2_3] 56 (0, 0))) ∧ zp (wc.heap[gb302]? = some (.cells #[.int .i64 t298, (.slice Ao45 t299.length co45)] 27 (0, 0))) ∧ zp (Below w.heap.size w wc))
        case first =>
         have H := HC68.out
         clear HC68
         by_cases c81 : t326 < 0
         ·rw [if_pos c81] at H
          have c81b0 : decide (t326 < 0) = true := decide_eq_true c81
          clear c81
          (first | rw [c81b0] | (simp only [i64_w, i32_w]; rw [c81b0]) | skip)
          have H' := zp.mk H
          clear H
          go_wp2
          go_meet
          case rel => exact ⟨_, (true), (by first | rfl | (simp; done) | (simp [*]; done)), H', ⟨by have := HJ25.out; first | omega | exact Nat.le_refl _⟩, ⟨by (with_reducible repeat (first | apply Kd.R_alloc | apply Kd.R_drewN | apply Kd.R_drew)); exact Kd.R_mono HO_8.out (fun _ hk => hk.2.1)⟩, ⟨by (with_reducible repeat (first | apply Kd.R_alloc | apply Kd.R_drewN | apply Kd.R_drew)); exact Kd.R_mono HO_12.out (fun _ hk => hk.1)⟩, ⟨by (with_reducible repeat (first | apply Kd.R_alloc | apply Kd.R_drewN | apply Kd.R_drew)); exact Kd.R_mono HO_303001.out (fun _ hk => trivial)⟩, ⟨zv8 BK279.out⟩, ⟨zv8 BK280.out⟩, ⟨zv8 BK302.out⟩, ⟨zv7 HB.out⟩⟩
         ·rw [if_neg c81] at H
          have c81b0 : decide (t326 < 0) = false := decide_eq_false c81
          clear c81
          (first | rw [c81b0] | (simp only [i64_w, i32_w]; rw [c81b0]) | skip)
          replace H := zs4 H
          obtain ⟨t328, A820, H⟩ := H
          replace H : (if t328 = true then (laws_FnExactPolicyDrop.j1 kj25 l1 t294 t297 t310 (t313 != t297) a0_0 l0_1 a2_0 a2_1 a2_2 a2_3) else (laws_FnExactPolicyDrop.j1 kj25 l1 t294 t297 t310 true a0_0 l0_1 a2_0 a2_1 a2_2 a2_3)) = some r := H
          have A82 := zp.mk A820
          clear A820
          by_cases c83 : t328 = true
          ·subst c83
           have H1 : (laws_FnExactPolicyDrop.j1 kj25 l1 t294 t297 t310 (t313 != t297) a0_0 l0_1 a2_0 a2_1 a2_2 a2_3) = some r := by rw [if_pos rfl] at H; exact H
           clear H
           have H := H1
           clear H1
           have H' := zp.mk H
           clear H
           obtain ⟨Ao84, co84, eo84⟩ := Kd.R_slice HO_12.out
           subst eo84
           obtain ⟨Ao85, co85, eo85⟩ := Kd.R_slice HO_8.out
           subst eo85
           go_wp2_with (first | (go_at_call 56; (with_reducible refine (laws_eqPunctS.calls kj25 _ _ t310 _ _ t294 true _ ?side1 ?side2 ?side3 ?side4 A82.out).mono ?_); (case side1 => repeat (first | exact (Kd.R_reads' HO_12.out).2.2 | (with_reducible refine Kd.zr ?_ _) | (with_reducible refine Kd.zq ?_ _) | (with_reducible refine Kd.C_drew ?_))); (case side2 => exact (Kd.R_reads' HO_12.out).2.1); (case side3 => repeat (first | exact (Kd.R_reads' HO_8.out).2.2 | (with_reducible refine Kd.zr ?_ _) | (with_reducible refine Kd.zq ?_ _) | (with_reducible refine Kd.C_drew ?_))); (case side4 => exact (Kd.R_reads' HO_8.out).2.1); rintro e w86 ⟨rfl, hb⟩; replace HO_8 := zp.mk (Kd.R_below (by (with_reducible repeat (first | apply Kd.R_alloc | apply Kd.R_drewN | apply Kd.R_drew)); exact HO_8.out) hb); replace HO_11 := zp.mk (Kd.R_below (by (with_reducible repeat (first | apply Kd.R_alloc | apply Kd.R_drewN | apply Kd.R_drew)); exact HO_11.out) hb); replace HO_12 := zp.mk (Kd.R_below (by (with_reducible repeat (first | apply Kd.R_alloc | apply Kd.R_drewN | apply Kd.R_drew)); exact HO_12.out) hb); replace HO_303001 := zp.mk (Kd.R_below (by (with_reducible repeat (first | apply Kd.R_alloc | apply Kd.R_drewN | apply Kd.R_drew)); exact HO_303001.out) hb); replace HO318 := zp.mk (Kd.R_below (by (with_reducible repeat (first | apply Kd.R_alloc | apply Kd.R_drewN | apply Kd.R_drew)); exact HO318.out) hb); replace HO322 := zp.mk (Kd.R_below (by (with_reducible repeat (first | apply Kd.R_alloc | apply Kd.R_drewN | apply Kd.R_drew)); exact HO322.out) hb); replace BK279 := zp.mk (zl (zv8 BK279.out) hb); replace BK280 := zp.mk (zl (zv8 BK280.out) hb); replace BK302 := zp.mk (zl (zv8 BK302.out) hb); replace HB := zp.mk (zj (zv7 HB.out) hb); (try clear hb); (try clear hb2); (try clear hk); (try clear hi)))
           go_meet
           case rel => exact ⟨_, ((t313 != t297)), (by first | rfl | (simp; done) | (simp [*]; done)), H', ⟨by have := HJ25.out; first | omega | exact Nat.le_refl _⟩, ⟨by (with_reducible repeat (first | apply Kd.R_alloc | apply Kd.R_drewN | apply Kd.R_drew)); exact Kd.R_mono HO_8.out (fun _ hk => hk.2.1)⟩, ⟨by (with_reducible repeat (first | apply Kd.R_alloc | apply Kd.R_drewN | apply Kd.R_drew)); exact Kd.R_mono HO_12.out (fun _ hk => hk.1)⟩, ⟨by (with_reducible repeat (first | apply Kd.R_alloc | apply Kd.R_drewN | apply Kd.R_drew)); exact Kd.R_mono HO_303001.out (fun _ hk => trivial)⟩, ⟨zv8 BK279.out⟩, ⟨zv8 BK280.out⟩, ⟨zv8 BK302.out⟩, ⟨zv7 HB.out⟩⟩
          ·replace c83 := Bool.eq_false_iff.mpr c83
           subst c83
           have H1 : (laws_FnExactPolicyDrop.j1 kj25 l1 t294 t297 t310 true a0_0 l0_1 a2_0 a2_1 a2_2 a2_3) = some r := by rw [if_neg (show ¬ (false = true) by decide)] at H; exact H
           clear H
           have H := H1
           clear H1
           have H' := zp.mk H
           clear H
           obtain ⟨Ao87, co87, eo87⟩ := Kd.R_slice HO_12.out
           subst eo87
           obtain ⟨Ao88, co88, eo88⟩ := Kd.R_slice HO_8.out
           subst eo88
           go_wp2_with (first | (go_at_call 56; (with_reducible refine (laws_eqPunctS.calls kj25 _ _ t310 _ _ t294 false _ ?side1 ?side2 ?side3 ?side4 A82.out).mono ?_); (case side1 => repeat (first | exact (Kd.R_reads' HO_12.out).2.2 | (with_reducible refine Kd.zr ?_ _) | (with_reducible refine Kd.zq ?_ _) | (with_reducible refine Kd.C_drew ?_))); (case side2 => exact (Kd.R_reads' HO_12.out).2.1); (case side3 => repeat (first | exact (Kd.R_reads' HO_8.out).2.2 | (with_reducible refine Kd.zr ?_ _) | (with_reducible refine Kd.zq ?_ _) | (with_reducible refine Kd.C_drew ?_))); (case side4 => exact (Kd.R_reads' HO_8.out).2.1); rintro e w89 ⟨rfl, hb⟩; replace HO_8 := zp.mk (Kd.R_below (by (with_reducible repeat (first | apply Kd.R_alloc | apply Kd.R_drewN | apply Kd.R_drew)); exact HO_8.out) hb); replace HO_11 := zp.mk (Kd.R_below (by (with_reducible repeat (first | apply Kd.R_alloc | apply Kd.R_drewN | apply Kd.R_drew)); exact HO_11.out) hb); replace HO_12 := zp.mk (Kd.R_below (by (with_reducible repeat (first | apply Kd.R_alloc | apply Kd.R_drewN | apply Kd.R_drew)); exact HO_12.out) hb); replace HO_303001 := zp.mk (Kd.R_below (by (with_reducible repeat (first | apply Kd.R_alloc | apply Kd.R_drewN | apply Kd.R_drew)); exact HO_303001.out) hb); replace HO318 := zp.mk (Kd.R_below (by (with_reducible repeat (first | apply Kd.R_alloc | apply Kd.R_drewN | apply Kd.R_drew)); exact HO318.out) hb); replace HO322 := zp.mk (Kd.R_below (by (with_reducible repeat (first | apply Kd.R_alloc | apply Kd.R_drewN | apply Kd.R_drew)); exact HO322.out) hb); replace BK279 := zp.mk (zl (zv8 BK279.out) hb); replace BK280 := zp.mk (zl (zv8 BK280.out) hb); replace BK302 := zp.mk (zl (zv8 BK302.out) hb); replace HB := zp.mk (zj (zv7 HB.out) hb); (try clear hb); (try clear hb2); (try clear hk); (try clear hi)))
           go_meet
           case rel => exact ⟨_, (true), (by first | rfl | (simp; done) | (simp [*]; done)), H', ⟨by have := HJ25.out; first | omega | exact Nat.le_refl _⟩, ⟨by (with_reducible repeat (first | apply Kd.R_alloc | apply Kd.R_drewN | apply Kd.R_drew)); exact Kd.R_mono HO_8.out (fun _ hk => hk.2.1)⟩, ⟨by (with_reducible repeat (first | apply Kd.R_alloc | apply Kd.R_drewN | apply Kd.R_drew)); exact Kd.R_mono HO_12.out (fun _ hk => hk.1)⟩, ⟨by (with_reducible repeat (first | apply Kd.R_alloc | apply Kd.R_drewN | apply Kd.R_drew)); exact Kd.R_mono HO_303001.out (fun _ hk => trivial)⟩, ⟨zv8 BK279.out⟩, ⟨zv8 BK280.out⟩, ⟨zv8 BK302.out⟩, ⟨zv7 HB.out⟩⟩
        case rest =>
         clear HC68
         try clear c1
         try clear c2
         try clear p2
         try clear c3
         try clear c4
         try clear c5
         try clear c5b0
         try clear c6
         try clear c7
         try clear c8
         try clear c12
         try clear c12b0
         try clear c15
         try clear c17
         try clear c19
         try clear c21
         try clear c29
         try clear c33
         try clear c42
         try clear c43
         try clear c50
         try clear c52
         try clear c54
         try clear c56
         try clear c59
         try clear c60
         try clear c61
         try clear c62
         try clear c65
         try clear c76
         try clear c77
         try clear c81
         try clear c81b0
         try clear c83
         try clear y16_0
         try clear y16_1
         try clear y30_0
         try clear y30_1
         try clear y39_0
         try clear y39_1
         try clear y44_0
         try clear y44_1
         try clear y78_0
         try clear y78_1
         try clear y9_0
         try clear y9_1
         try clear u16_0
         try clear u16_1
         try clear u30_0
         try clear u30_1
         try clear u39_0
         try clear u39_1
         try clear u44_0
         try clear u44_1
         try clear u78_0
         try clear u78_1
         try clear u9_0
         try clear u9_1
         try clear p2
         obtain ⟨kq, x88_67, rfl, HA, HJ67, HO_8, HO_12, HO_303001, BK279, BK280, BK302, HB⟩ := hcut
         have hl303001_67 := (Kd.R_reads' HO_303001.out).1
         rw [hl303001_67] at HO_303001
         (try simp only [hl303001_67])
         (try simp only [hl303001_67] at BK279)
         (try simp only [hl303001_67] at BK280)
         (try simp only [hl303001_67] at BK302)
         (try simp only [hl303001_67] at HO_8)
         (try simp only [hl303001_67] at HO_12)
         cases kq with
         | zero => exact absurd HA.out (by simp [laws_FnExactPolicyDrop.j1])
         | succ kj67 =>
          have H := HA.out
          clear HA
          simp only [laws_FnExactPolicyDrop.j1] at H
          by_cases c90 : x88_67 = true
          ·subst c90
           have H1 : (some false) = some r := by rw [if_pos rfl] at H; exact H
           clear H
           have H := H1
           clear H1
           exact absurd ((Option.some.inj H).trans hr_) (by decide)
          ·replace c90 := Bool.eq_false_iff.mpr c90
           subst c90
           have H1 : ((laws_markPunctS.f kj67 t310 1).bind fun bt329 => ((laws_heldPunctS.f kj67 bt329.2 1).bind fun t331 => (if t331 < 0 then (some false) else (if t331 = bt329.1 then ((laws_toLat.f kj67 a0_0 l0_1).bind fun bt332 => ((laws_toPunctS.f kj67 l1).bind fun t336 => ((laws_toPunct.f a2_0 a2_1 a2_2 a2_3).bind fun bt339 => ((impl_PolicyDrop.f kj67 bt332.1 bt332.2 t336 bt339.1 bt339.2.1 bt339.2.2.1 bt339.2.2.2).bind fun bt343 => ((laws_eqPunctS.f kj67 bt343.1 t294).bind fun t347 => (if t347 = true then (laws_FnExactPolicyDrop.j2 kj67 bt329.2 bt329.1 (bt343.2 != t297)) else (laws_FnExactPolicyDrop.j2 kj67 bt329.2 bt329.1 true))))))) else (some false))))) = some r := by rw [if_neg (show ¬ (false = true) by decide)] at H; exact H
           clear H
           have H := H1
           clear H1
           replace H := zs4 H
           obtain ⟨⟨t329, t330⟩, A910, H⟩ := H
           replace H : ((laws_heldPunctS.f kj67 t330 1).bind fun t331 => (if t331 < 0 then (some false) else (if t331 = t329 then ((laws_toLat.f kj67 a0_0 l0_1).bind fun bt332 => ((laws_toPunctS.f kj67 l1).bind fun t336 => ((laws_toPunct.f a2_0 a2_1 a2_2 a2_3).bind fun bt339 => ((impl_PolicyDrop.f kj67 bt332.1 bt332.2 t336 bt339.1 bt339.2.1 bt339.2.2.1 bt339.2.2.2).bind fun bt343 => ((laws_eqPunctS.f kj67 bt343.1 t294).bind fun t347 => (if t347 = true then (laws_FnExactPolicyDrop.j2 kj67 t330 t329 (bt343.2 != t297)) else (laws_FnExactPolicyDrop.j2 kj67 t330 t329 true))))))) else (some false)))) = some r := H
           have A91 := zp.mk A910
           clear A910
           replace H := zs4 H
           obtain ⟨t331, A920, H⟩ := H
           replace H : (if t331 < 0 then (some false) else (if t331 = t329 then ((laws_toLat.f kj67 a0_0 l0_1).bind fun bt332 => ((laws_toPunctS.f kj67 l1).bind fun t336 => ((laws_toPunct.f a2_0 a2_1 a2_2 a2_3).bind fun bt339 => ((impl_PolicyDrop.f kj67 bt332.1 bt332.2 t336 bt339.1 bt339.2.1 bt339.2.2.1 bt339.2.2.2).bind fun bt343 => ((laws_eqPunctS.f kj67 bt343.1 t294).bind fun t347 => (if t347 = true then (laws_FnExactPolicyDrop.j2 kj67 t330 t329 (bt343.2 != t297)) else (laws_FnExactPolicyDrop.j2 kj67 t330 t329 true))))))) else (some false))) = some r := H
           have A92 := zp.mk A920
           clear A920
           by_cases c93 : t331 < 0
           ·rw [if_pos c93] at H
            have c93b0 : decide (t331 < 0) = true := decide_eq_true c93
            clear c93
            exact absurd ((Option.some.inj H).trans hr_) (by decide)
           ·rw [if_neg c93] at H
            have c93b0 : decide (t331 < 0) = false := decide_eq_false c93
            clear c93
            by_cases c94 : t331 = t329
            ·rw [if_pos c94] at H
             have c94b0 : (t331 == t329) = true := beq_iff_eq.mpr c94
             have c94b1 : (t331 != t329) = false := bne_eq_false_iff_eq.mpr c94
             clear c94
             replace H := zs4 H
             obtain ⟨⟨t332, t333⟩, A950, H⟩ := H
             replace H : ((laws_toPunctS.f kj67 l1).bind fun t336 => ((laws_toPunct.f a2_0 a2_1 a2_2 a2_3).bind fun bt339 => ((impl_PolicyDrop.f kj67 t332 t333 t336 bt339.1 bt339.2.1 bt339.2.2.1 bt339.2.2.2).bind fun bt343 => ((laws_eqPunctS.f kj67 bt343.1 t294).bind fun t347 => (if t347 = true then (laws_FnExactPolicyDrop.j2 kj67 t330 t329 (bt343.2 != t297)) else (laws_FnExactPolicyDrop.j2 kj67 t330 t329 true)))))) = some r := H
             have A95 := zp.mk A950
             clear A950
             replace H := zs4 H
             obtain ⟨t336, A960, H⟩ := H
             replace H : ((laws_toPunct.f a2_0 a2_1 a2_2 a2_3).bind fun bt339 => ((impl_PolicyDrop.f kj67 t332 t333 t336 bt339.1 bt339.2.1 bt339.2.2.1 bt339.2.2.2).bind fun bt343 => ((laws_eqPunctS.f kj67 bt343.1 t294).bind fun t347 => (if t347 = true then (laws_FnExactPolicyDrop.j2 kj67 t330 t329 (bt343.2 != t297)) else (laws_FnExactPolicyDrop.j2 kj67 t330 t329 true))))) = some r := H
             have A96 := zp.mk A960
             clear A960
             replace H := zs4 H
             obtain ⟨⟨t339, t340, t341, t342⟩, A970, H⟩ := H
             replace H : ((impl_PolicyDrop.f kj67 t332 t333 t336 t339 t340 t341 t342).bind fun bt343 => ((laws_eqPunctS.f kj67 bt343.1 t294).bind fun t347 => (if t347 = true then (laws_FnExactPolicyDrop.j2 kj67 t330 t329 (bt343.2 != t297)) else (laws_FnExactPolicyDrop.j2 kj67 t330 t329 true)))) = some r := H
             have A97 := zp.mk A970
             clear A970
             replace H := zs4 H
             obtain ⟨⟨t343, t346⟩, A980, H⟩ := H
             replace H : ((laws_eqPunctS.f kj67 t343 t294).bind fun t347 => (if t347 = true then (laws_FnExactPolicyDrop.j2 kj67 t330 t329 (t346 != t297)) else (laws_FnExactPolicyDrop.j2 kj67 t330 t329 true))) = some r := H
             have A98 := zp.mk A980
             clear A980
             have HC99 := zp.mk H
             clear H
             obtain ⟨Ao100, co100, eo100⟩ := Kd.R_slice HO_12.out
             subst eo100
             try go_wp2_with (first | ((with_reducible refine zn (f := 61) rfl ?_); refine goesL_ (some 91) rfl rfl Try.func61 (by kernel_rfl) rfl #[.slice Ao100 t310.length co100, .int .i64 1] rfl (by (try simp only [List.map_toArray, List.map_cons, List.map_nil]); first | done | rfl | (simp only [List.length_drop, List.length_take]; rfl)) ?_; (with_reducible refine (laws_markPunctS.calls kj67 (fun k_ => some k_ = (.slice Ao100 t310.length co100 : Value).ownBlock) (.slice Ao100 t310.length co100) t310 1 t329 t330 w _ ?side1 ?side2 A91.out).mono ?_); (case side1 => repeat (first | (with_reducible first | exact HB.out | apply zc | apply za | apply zb | refine zh ?_ GE279.out | refine zh ?_ GE280.out | refine zh ?_ GE302.out) | exact HB.out)); (case side2 => exact Kd.R_tight rfl HO_12.out); rintro e w101 ⟨rfl, hy0, hb, hkp⟩; refine ⟨_, rfl, ?_⟩; replace HO_8 := zp.mk (Kd.R_mono (ok' := fun k_ => some k_ ≠ (.slice Ao100 t310.length co100 : Value).ownBlock) (Kd.R_keptB (HO_8.out) hkp (fun k_ hk_ hs_ => (hk_) hs_)) (fun k_ hk_ => hk_.1)); replace HO_303001 := zp.mk (Kd.R_mono (ok' := fun k_ => True) (Kd.R_keptB ((Kd.R_apart' HO_303001.out (Kd.R_typed HO_12.out) (by decide))) hkp (fun k_ hk_ hs_ => (hk_.2) hs_)) (fun k_ hk_ => trivial)); replace BK279 := zp.mk (blk_kept (zv8 BK279.out) hkp (fun hs_ => (fun e_ => (Kd.R_ne HO_12.out BK279.out (by decide)) e_) hs_)); replace BK280 := zp.mk (blk_kept (zv8 BK280.out) hkp (fun hs_ => (fun e_ => (Kd.R_ne HO_12.out BK280.out (by decide)) e_) hs_)); replace BK302 := zp.mk (blk_kept (zv8 BK302.out) hkp (fun hs_ => (fun e_ => (Kd.R_ne HO_12.out BK302.out (by decide)) e_) hs_)); replace HO_12 := zp.mk (Kd.R_reok rfl hy0 (fun k_ e_ => HO_12.out.1 k_ e_)); replace HB := zp.mk (hb); (try clear hb); (try clear hkp); (try clear hy0)) | ((with_reducible refine zn (f := 62) rfl ?_); refine goesL_ (some 94) rfl rfl Try.func62 (by kernel_rfl) rfl #[.slice Ao100 t330.length co100, .int .i64 1] rfl (by (try simp only [List.map_toArray, List.map_cons, List.map_nil]); first | done | (rw [show t330.length = t310.length from (Kd.R_reads' HO_12.out).1.symm] <;> rfl) | rfl | (simp only [List.length_drop, List.length_take]; rfl)) ?_; (with_reducible refine (laws_heldPunctS.calls kj67 _ _ t330 1 t331 _ ?side1 ?side2 A92.out).mono ?_); (case side1 => repeat (first | exact (Kd.R_reads' HO_12.out).2.2 | (with_reducible refine Kd.zr ?_ _) | (with_reducible refine Kd.zq ?_ _) | (with_reducible refine Kd.C_drew ?_))); (case side2 => rw [show t330.length = t310.length from (Kd.R_reads' HO_12.out).1.symm]; exact (Kd.R_reads' HO_12.out).2.1); rintro e w' ⟨rfl, ⟨nd, rfl⟩⟩; refine ⟨_, rfl, ?_⟩))
             (try (rw [drewN_self w101]; generalize hq_ : World.drewN w101 _ = w101; have n0_ : zp (Kd.R k58 58 w101 w.heap.size (fun k_ => some k_ ≠ (v295 : Value).ownBlock) (.slice Ao100 t310.length co100) t330) := ⟨by rw [← hq_]; exact (by (with_reducible repeat (first | apply Kd.R_alloc | apply Kd.R_drewN | apply Kd.R_drew)); exact HO_12.out)⟩; have n1_ : zp (Kd.R (Kd.int .u64) 76 w101 w.heap.size (fun _ => True) (.slice Ao45 t325.length co45) t325) := ⟨by rw [← hq_]; exact (by (with_reducible repeat (first | apply Kd.R_alloc | apply Kd.R_drewN | apply Kd.R_drew)); exact HO_303001.out)⟩; have n2_ : zp (Kd.R k58 58 w101 w.heap.size (fun k_ => some k_ ≠ (.slice Ao100 t310.length co100 : Value).ownBlock) v295 t294) := ⟨by rw [← hq_]; exact (by (with_reducible repeat (first | apply Kd.R_alloc | apply Kd.R_drewN | apply Kd.R_drew)); exact HO_8.out)⟩; have n3_ : zp (w101.heap[gb279]? = some (.cells #[.int .i64 a0_0, .slice A0_1 l0_1.length c0_1] 24 (0, 0))) := ⟨by rw [← hq_]; exact (zv8 BK279.out)⟩; have n4_ : zp (w101.heap[gb280]? = some (.cells #[.int .i64 a2_0, .int .i64 a2_1, .int .i64 a2_2, .int .i64 a2_3] 56 (0, 0))) := ⟨by rw [← hq_]; exact (zv8 BK280.out)⟩; have n5_ : zp (w101.heap[gb302]? = some (.cells #[.int .i64 t298, .slice Ao45 t325.length co45] 27 (0, 0))) := ⟨by rw [← hq_]; exact (zv8 BK302.out)⟩; have n6_ : zp (Below w.heap.size w w101) := ⟨by rw [← hq_]; exact (zv7 HB.out)⟩; clear HO_12 HO_303001 HO_8 BK279 BK280 BK302 HB hq_; have HO_12 := n0_; have HO_303001 := n1_; have HO_8 := n2_; have BK279 := n3_; have BK280 := n4_; have BK302 := n5_; have HB := n6_; clear n0_ n1_ n2_ n3_ n4_ n5_ n6_))
             replace HO_8 := zp.mk (Kd.R_drew HO_8.out)
             replace HO_12 := zp.mk (Kd.R_drew HO_12.out)
             replace HO_303001 := zp.mk (Kd.R_drew HO_303001.out)
             replace BK279 := zp.mk (zi BK279.out)
             replace BK280 := zp.mk (zi BK280.out)
             replace BK302 := zp.mk (zi BK302.out)
             replace HB := zp.mk (zb HB.out)
             refine start_ (n := 12) (S := fun w' => w'.cell? ⟨gb279, 0, none⟩ = some (.int .i64 a0_0) ∧ w'.cell? ⟨gb279, 1, none⟩ = some (.slice A0_1 l0_1.length c0_1) ∧ w'.cell? ⟨gb280, 0, none⟩ = some (.int .i64 a2_0) ∧ w'.cell? ⟨gb280, 1, none⟩ = some (.int .i64 a2_1) ∧ w'.cell? ⟨gb280, 2, none⟩ = some (.int .i64 a2_2) ∧ w'.cell? ⟨gb280, 3, none⟩ = some (.int .i64 a2_3)) (ds := []) #[false, false, false, false, false, false, false, false, false, false, false, false] (by kernel_rfl) rfl rfl ⟨(ze BK279.out 0).trans rfl, (ze BK279.out 1).trans rfl, (ze BK280.out 0).trans rfl, (ze BK280.out 1).trans rfl, (ze BK280.out 2).trans rfl, (ze BK280.out 3).trans rfl⟩ (fun hHeld => ?_); refine with_tabW laws_FnExactPolicyDrop.tab31 laws_FnExactPolicyDrop.bits31 (fun HT_ HW_ => ?_)
             generalize w101.drew = w102 at HO_8 HO_12 HO_303001 BK279 BK280 BK302 HB hHeld ⊢
             refine pure_ (i := 2) (N := some 103) (v := ?_) (a' := ?_) #[false, false, true, false, false, false, false, false, false, false, false, false] rfl rfl (any_of HT_.out (by kernel_rfl)) (fun _ _ _ h => h) (Or.inl ⟨by rfl, ?_⟩) ?_ ?_
             rotate_left
             ·intro w'
              go_simp
              with_reducible rfl
             rotate_left
             ·simp only [Act.put, zs1, zs2, zs3, i64_w, i32_w]
              rfl
             refine take_ (i := 0) (N := some 101) (v := ?_) (a' := ?_) #[true, false, true, false, false, false, false, false, false, false, false, false] rfl rfl (take_ofW HT_.out HW_.out (by kernel_rfl)) (fun _ _ _ h => h) (Or.inl ⟨by rfl, ?_⟩) hHeld ?_ ?_
             rotate_left
             ·rintro w' ⟨s0, s1, s2, s3, s4, s5⟩
              go_simp
              with_reducible rfl
             rotate_left
             ·simp only [Act.put, zs1, zs2, zs3, i64_w, i32_w]
              rfl
             refine take_ (i := 4) (N := some 105) (v := ?_) (a' := ?_) #[true, false, true, false, true, false, false, false, false, false, false, false] rfl rfl (take_ofW HT_.out HW_.out (by kernel_rfl)) (fun _ _ _ h => h) (Or.inl ⟨by rfl, ?_⟩) hHeld ?_ ?_
             rotate_left
             ·rintro w' ⟨s0, s1, s2, s3, s4, s5⟩
              go_simp
              with_reducible rfl
             rotate_left
             ·simp only [Act.put, zs1, zs2, zs3, i64_w, i32_w]
              rfl
             refine one_ (i := 1) (N := some 102) #[true, true, true, false, true, false, false, false, false, false, false, false] rfl rfl (one_of HT_.out (by kernel_rfl)) (by decide) (fun K hK => ?_)
             refine goes_ Try.func19 (by kernel_rfl) rfl #[.agg #[.int .i64 a0_0, .slice A0_1 l0_1.length c0_1]] (by rfl) rfl rfl (by (try simp only [List.map_toArray, List.map_cons, List.map_nil]); first | done | rfl | (simp only [List.length_drop, List.length_take]; rfl)) ?_
             with_reducible refine (laws_toLat.calls kj67 a0_0 _ _ l0_1 t332 t333 _ ?side1 ?side2 A95.out).mono ?_
             (case side1 => repeat (first | exact (Kd.zt HR0_1.out HB.out) | (with_reducible refine Kd.zr ?_ _) | (with_reducible refine Kd.zq ?_ _) | (with_reducible refine Kd.C_drew ?_)))
             (case side2 => exact HC0_1.out)
             rintro e w103 ⟨v334, rfl, ho0, hb⟩
             refine ⟨_, rfl, ?_⟩
             have HO335 := zp.mk (Kd.R_lower (Kd.R_new' ho0 (Kd.R_lt (by (with_reducible repeat (first | apply Kd.R_alloc | apply Kd.R_drewN | apply Kd.R_drew)); exact HO_303001.out))) (zk (zv7 HB.out)))
             replace HO_8 := zp.mk (Kd.R_below (by (with_reducible repeat (first | apply Kd.R_alloc | apply Kd.R_drewN | apply Kd.R_drew)); exact HO_8.out) hb)
             replace HO_12 := zp.mk (Kd.R_below (by (with_reducible repeat (first | apply Kd.R_alloc | apply Kd.R_drewN | apply Kd.R_drew)); exact HO_12.out) hb)
             replace HO_303001 := zp.mk (Kd.R_elder' (by (with_reducible repeat (first | apply Kd.R_alloc | apply Kd.R_drewN | apply Kd.R_drew)); exact HO_303001.out) (Kd.R_base ho0) hb)
             replace BK279 := zp.mk (zl (zv8 BK279.out) hb)
             replace BK280 := zp.mk (zl (zv8 BK280.out) hb)
             replace BK302 := zp.mk (zl (zv8 BK302.out) hb)
             replace HB := zp.mk (zj (zv7 HB.out) hb)
             (try clear hb)
             (try clear hb2)
             (try clear hk)
             (try clear hi)
             (try clear ho0)
             refine hK.out _ _ ⟨(ze BK279.out 0).trans rfl, (ze BK279.out 1).trans rfl, (ze BK280.out 0).trans rfl, (ze BK280.out 1).trans rfl, (ze BK280.out 2).trans rfl, (ze BK280.out 3).trans rfl⟩ (fun hHeld => ?_)
             clear hK K
             refine norm_ (a' := ?_) ?_ ?_
             rotate_left
             ·show Act.put _ (some 102) _ = _
              simp only [Act.put, zs1, zs2, zs3, i64_w, i32_w]
              rfl
             refine one_ (i := 3) (N := some 104) #[true, true, true, true, true, false, false, false, false, false, false, false] rfl rfl (one_of HT_.out (by kernel_rfl)) (by decide) (fun K hK => ?_)
             refine goes_ Try.func54 (by kernel_rfl) rfl #[.slice A1 l1.length c1] (by rfl) rfl rfl (by (try simp only [List.map_toArray, List.map_cons, List.map_nil]); first | done | rfl | (simp only [List.length_drop, List.length_take]; rfl)) ?_
             with_reducible refine (laws_toPunctS.calls kj67 _ _ l1 t336 _ ?side1 ?side2 A96.out).mono ?_
             (case side1 => repeat (first | exact (Kd.zt HR1.out HB.out) | (with_reducible refine Kd.zr ?_ _) | (with_reducible refine Kd.zq ?_ _) | (with_reducible refine Kd.C_drew ?_)))
             (case side2 => exact HC1.out)
             rintro e w104 ⟨v337, rfl, ho0, hb⟩
             refine ⟨_, rfl, ?_⟩
             have HO338 := zp.mk (Kd.R_lower (Kd.R_new' (Kd.R_new' ho0 (Kd.R_lt (by (with_reducible repeat (first | apply Kd.R_alloc | apply Kd.R_drewN | apply Kd.R_drew)); exact HO_8.out))) (Kd.R_lt (by (with_reducible repeat (first | apply Kd.R_alloc | apply Kd.R_drewN | apply Kd.R_drew)); exact HO_12.out))) (zk (zv7 HB.out)))
             replace HO_8 := zp.mk (Kd.R_elder' (by (with_reducible repeat (first | apply Kd.R_alloc | apply Kd.R_drewN | apply Kd.R_drew)); exact HO_8.out) (Kd.R_base ho0) hb)
             replace HO_12 := zp.mk (Kd.R_elder' (by (with_reducible repeat (first | apply Kd.R_alloc | apply Kd.R_drewN | apply Kd.R_drew)); exact HO_12.out) (Kd.R_base ho0) hb)
             replace HO_303001 := zp.mk (Kd.R_below (by (with_reducible repeat (first | apply Kd.R_alloc | apply Kd.R_drewN | apply Kd.R_drew)); exact HO_303001.out) hb)
             replace HO335 := zp.mk (Kd.R_below (by (with_reducible repeat (first | apply Kd.R_alloc | apply Kd.R_drewN | apply Kd.R_drew)); exact HO335.out) hb)
             replace BK279 := zp.mk (zl (zv8 BK279.out) hb)
             replace BK280 := zp.mk (zl (zv8 BK280.out) hb)
             replace BK302 := zp.mk (zl (zv8 BK302.out) hb)
             replace HB := zp.mk (zj (zv7 HB.out) hb)
             (try clear hb)
             (try clear hb2)
             (try clear hk)
             (try clear hi)
             (try clear ho0)
             refine hK.out _ _ ⟨(ze BK279.out 0).trans rfl, (ze BK279.out 1).trans rfl, (ze BK280.out 0).trans rfl, (ze BK280.out 1).trans rfl, (ze BK280.out 2).trans rfl, (ze BK280.out 3).trans rfl⟩ (fun hHeld => ?_)
             clear hK K
             refine norm_ (a' := ?_) ?_ ?_
             rotate_left
             ·show Act.put _ (some 104) _ = _
              simp only [Act.put, zs1, zs2, zs3, i64_w, i32_w]
              rfl
             refine one_ (i := 5) (N := some 106) #[true, true, true, true, true, true, false, false, false, false, false, false] rfl rfl (one_of HT_.out (by kernel_rfl)) (by decide) (fun K hK => ?_)
             refine goes_ Try.func50 (by kernel_rfl) rfl #[.agg #[.int .i64 a2_0, .int .i64 a2_1, .int .i64 a2_2, .int .i64 a2_3]] (by rfl) rfl rfl (by (try simp only [List.map_toArray, List.map_cons, List.map_nil]); first | done | rfl | (simp only [List.length_drop, List.length_take]; rfl)) ?_
             with_reducible refine (laws_toPunct.calls a2_0 a2_1 a2_2 a2_3 t339 t340 t341 t342 _ A97.out).mono ?_
             rintro e w105 ⟨rfl, hb⟩
             refine ⟨_, rfl, ?_⟩
             replace HO_8 := zp.mk (Kd.R_below (by (with_reducible repeat (first | apply Kd.R_alloc | apply Kd.R_drewN | apply Kd.R_drew)); exact HO_8.out) hb)
             replace HO_12 := zp.mk (Kd.R_below (by (with_reducible repeat (first | apply Kd.R_alloc | apply Kd.R_drewN | apply Kd.R_drew)); exact HO_12.out) hb)
             replace HO_303001 := zp.mk (Kd.R_below (by (with_reducible repeat (first | apply Kd.R_alloc | apply Kd.R_drewN | apply Kd.R_drew)); exact HO_303001.out) hb)
             replace HO335 := zp.mk (Kd.R_below (by (with_reducible repeat (first | apply Kd.R_alloc | apply Kd.R_drewN | apply Kd.R_drew)); exact HO335.out) hb)
             replace HO338 := zp.mk (Kd.R_below (by (with_reducible repeat (first | apply Kd.R_alloc | apply Kd.R_drewN | apply Kd.R_drew)); exact HO338.out) hb)
             replace BK279 := zp.mk (zl (zv8 BK279.out) hb)
             replace BK280 := zp.mk (zl (zv8 BK280.out) hb)
             replace BK302 := zp.mk (zl (zv8 BK302.out) hb)
             replace HB := zp.mk (zj (zv7 HB.out) hb)
             (try clear hb)
             (try clear hb2)
             (try clear hk)
             (try clear hi)
             obtain ⟨Ao106, co106, eo106⟩ := Kd.R_slice HO335.out
             (first | subst eo106 | (injection eo106 with f1_ f2_ f3_; have f4_ := f1_.symm; have f5_ := f3_.symm; clear f1_ f2_ f3_; subst f4_; subst f5_))
             obtain ⟨Ao107, co107, eo107⟩ := Kd.R_slice HO338.out
             (first | subst eo107 | (injection eo107 with f1_ f2_ f3_; have f4_ := f1_.symm; have f5_ := f3_.symm; clear f1_ f2_ f3_; subst f4_; subst f5_))
             refine hK.out _ _ ⟨(ze BK279.out 0).trans rfl, (ze BK279.out 1).trans rfl, (ze BK280.out 0).trans rfl, (ze BK280.out 1).trans rfl, (ze BK280.out 2).trans rfl, (ze BK280.out 3).trans rfl⟩ (fun hHeld => ?_)
             clear hK K
             refine norm_ (a' := ?_) ?_ ?_
             rotate_left
             ·show Act.put _ (some 106) _ = _
              simp only [Act.put, zs1, zs2, zs3, i64_w, i32_w]
              rfl
             refine one_ (i := 6) (N := some 107) #[true, true, true, true, true, true, true, false, false, false, false, false] rfl rfl (one_of HT_.out (by kernel_rfl)) (by decide) (fun K hK => ?_)
             refine goes_ Try.func60 (by kernel_rfl) rfl #[.agg #[.int .i64 t332, .slice Ao106 t333.length co106], .slice Ao107 t336.length co107, .agg #[.int .i64 t339, .int .i64 t340, .int .i64 t341, .int .i64 t342]] (by rfl) rfl rfl (by (try simp only [List.map_toArray, List.map_cons, List.map_nil]); first | done | rfl | (simp only [List.length_drop, List.length_take]; rfl)) ?_
             with_reducible refine (impl_PolicyDrop.calls kj67 t332 _ _ t333 _ _ t336 t339 t340 t341 t342 t343 t346 _ ?side1 ?side2 ?side3 ?side4 A98.out).mono ?_
             (case side1 => repeat (first | exact (Kd.R_reads' HO335.out).2.2 | (with_reducible refine Kd.zr ?_ _) | (with_reducible refine Kd.zq ?_ _) | (with_reducible refine Kd.C_drew ?_)))
             (case side2 => exact (Kd.R_reads' HO335.out).2.1)
             (case side3 => repeat (first | exact (Kd.R_reads' HO338.out).2.2 | (with_reducible refine Kd.zr ?_ _) | (with_reducible refine Kd.zq ?_ _) | (with_reducible refine Kd.C_drew ?_)))
             (case side4 => exact (Kd.R_reads' HO338.out).2.1)
             rintro e w108 ⟨v344, rfl, ho0, hb⟩
             refine ⟨_, rfl, ?_⟩
             have HO345 := zp.mk (Kd.R_lower (Kd.R_new' (Kd.R_new' (Kd.R_new' ho0 (Kd.R_lt (by (with_reducible repeat (first | apply Kd.R_alloc | apply Kd.R_drewN | apply Kd.R_drew)); exact HO_8.out))) (Kd.R_lt (by (with_reducible repeat (first | apply Kd.R_alloc | apply Kd.R_drewN | apply Kd.R_drew)); exact HO_12.out))) (Kd.R_lt (by (with_reducible repeat (first | apply Kd.R_alloc | apply Kd.R_drewN | apply Kd.R_drew)); exact HO338.out))) (zk (zv7 HB.out)))
             replace HO_8 := zp.mk (Kd.R_elder' (by (with_reducible repeat (first | apply Kd.R_alloc | apply Kd.R_drewN | apply Kd.R_drew)); exact HO_8.out) (Kd.R_base ho0) hb)
             replace HO_12 := zp.mk (Kd.R_elder' (by (with_reducible repeat (first | apply Kd.R_alloc | apply Kd.R_drewN | apply Kd.R_drew)); exact HO_12.out) (Kd.R_base ho0) hb)
             replace HO_303001 := zp.mk (Kd.R_below (by (with_reducible repeat (first | apply Kd.R_alloc | apply Kd.R_drewN | apply Kd.R_drew)); exact HO_303001.out) hb)
             replace HO335 := zp.mk (Kd.R_below (by (with_reducible repeat (first | apply Kd.R_alloc | apply Kd.R_drewN | apply Kd.R_drew)); exact HO335.out) hb)
             replace HO338 := zp.mk (Kd.R_elder' (by (with_reducible repeat (first | apply Kd.R_alloc | apply Kd.R_drewN | apply Kd.R_drew)); exact HO338.out) (Kd.R_base ho0) hb)
             replace BK279 := zp.mk (zl (zv8 BK279.out) hb)
             replace BK280 := zp.mk (zl (zv8 BK280.out) hb)
             replace BK302 := zp.mk (zl (zv8 BK302.out) hb)
             replace HB := zp.mk (zj (zv7 HB.out) hb)
             (try clear hb)
             (try clear hb2)
             (try clear hk)
             (try clear hi)
             (try clear ho0)
             refine hK.out _ _ ⟨(ze BK279.out 0).trans rfl, (ze BK279.out 1).trans rfl, (ze BK280.out 0).trans rfl, (ze BK280.out 1).trans rfl, (ze BK280.out 2).trans rfl, (ze BK280.out 3).trans rfl⟩ (fun hHeld => ?_)
             clear hK K
             refine norm_ (a' := ?_) ?_ ?_
             rotate_left
             ·show Act.put _ (some 107) _ = _
              simp only [Act.put, zs1, zs2, zs3, i64_w, i32_w]
              rfl
             refine pure_ (i := 7) (N := some 100) (v := ?_) (a' := ?_) #[true, true, true, true, true, true, true, true, false, false, false, false] rfl rfl (any_of HT_.out (by kernel_rfl)) (fun _ _ _ h => h) (Or.inl ⟨by rfl, ?_⟩) ?_ ?_
             rotate_left
             ·intro w'
              go_simp
              with_reducible rfl
             rotate_left
             ·simp only [Act.put, zs1, zs2, zs3, i64_w, i32_w]
              rfl
             refine pure_ (i := 8) (N := some 108) (v := ?_) (a' := ?_) #[true, true, true, true, true, true, true, true, true, false, false, false] rfl rfl (any_of HT_.out (by kernel_rfl)) (fun _ _ _ h => h) (Or.inl ⟨by rfl, ?_⟩) ?_ ?_
             rotate_left
             ·intro w'
              go_simp
              with_reducible rfl
             rotate_left
             ·simp only [Act.put, zs1, zs2, zs3, i64_w, i32_w]
              rfl
             refine pure_ (i := 9) (N := some 109) (v := ?_) (a' := ?_) #[true, true, true, true, true, true, true, true, true, true, false, false] rfl rfl (any_of HT_.out (by kernel_rfl)) (fun _ _ _ h => h) (Or.inl ⟨by rfl, ?_⟩) ?_ ?_
             rotate_left
             ·intro w'
              go_simp
              with_reducible rfl
             rotate_left
             ·simp only [Act.put, zs1, zs2, zs3, i64_w, i32_w]
              rfl
             refine pure_ (i := 10) (N := some 17) (v := ?_) (a' := ?_) #[true, true, true, true, true, true, true, true, true, true, true, false] rfl rfl (any_of HT_.out (by kernel_rfl)) (fun _ _ _ h => h) (Or.inl ⟨by rfl, ?_⟩) ?_ ?_
             rotate_left
             ·intro w'
              go_simp
              with_reducible rfl
             rotate_left
             ·simp only [Act.put, zs1, zs2, zs3, i64_w, i32_w]
              rfl
             refine pure_ (i := 11) (N := some 18) (v := ?_) (a' := ?_) #[true, true, true, true, true, true, true, true, true, true, true, true] rfl rfl (any_of HT_.out (by kernel_rfl)) (fun _ _ _ h => h) (Or.inl ⟨by rfl, ?_⟩) ?_ ?_
             rotate_left
             ·intro w'
              go_simp
              with_reducible rfl
             rotate_left
             ·simp only [Act.put, zs1, zs2, zs3, i64_w, i32_w]
              rfl
             refine done_ (done_of HT_.out (by kernel_rfl)) ?_
             go_upto_region 32 with (fail)
             go_cut [118] (fun v118 wc => ∃ (kq : Nat) (x118_98 : Bool), v118 = .bool x118_98 ∧ zp (laws_FnExactPolicyDrop.j2 kq t330 t329 x118_98 = some r) ∧ zp (kq ≤ kj67) ∧ zp (Kd.R k58 58 wc w.heap.size (fun _ => True) (.slice Ao100 t310.length co100) t330) ∧ zp (Kd.R (Kd.int .u64) 76 wc w.heap.size (fun _ => True) (.slice Ao45 t325.length co45) t325) ∧ zp (wc.heap[gb279]? = some (.cells #[.int .i64 a0_0, (.slice A0_1 l0_1.length c0_1)] 24 (0, 0))) ∧ zp (wc.heap[gb280]? = some (.cells #[.int .i64 a2_0, .int .i64 a2_1, .int .i64 a2_2, .int .i64 a2_3] 56 (0, 0))) ∧ zp (wc.heap[gb302]? = some (.cells #[.int .i64 t298, (.slice Ao45 t325.length co45)] 27 (0, 0))) ∧ zp (Below w.heap.size w wc))
             case first =>
              have H := HC99.out
              clear HC99
              replace H := zs4 H
              obtain ⟨t347, A1090, H⟩ := H
              replace H : (if t347 = true then (laws_FnExactPolicyDrop.j2 kj67 t330 t329 (t346 != t297)) else (laws_FnExactPolicyDrop.j2 kj67 t330 t329 true)) = some r := H
              have A109 := zp.mk A1090
              clear A1090
              by_cases c110 : t347 = true
              ·subst c110
               have H1 : (laws_FnExactPolicyDrop.j2 kj67 t330 t329 (t346 != t297)) = some r := by rw [if_pos rfl] at H; exact H
               clear H
               have H := H1
               clear H1
               have H' := zp.mk H
               clear H
               obtain ⟨Ao111, co111, eo111⟩ := Kd.R_slice HO345.out
               subst eo111
               obtain ⟨Ao112, co112, eo112⟩ := Kd.R_slice HO_8.out
               subst eo112
               go_wp2_with (first | ((with_reducible refine zn (f := 56) rfl ?_); refine goesL_ (some 112) rfl rfl Try.func56 (by kernel_rfl) rfl #[.slice Ao111 t343.length co111, .slice Ao112 t294.length co112] rfl (by (try simp only [List.map_toArray, List.map_cons, List.map_nil]); first | done | rfl | (simp only [List.length_drop, List.length_take]; rfl)) ?_; (with_reducible refine (laws_eqPunctS.calls kj67 _ _ t343 _ _ t294 true _ ?side1 ?side2 ?side3 ?side4 A109.out).mono ?_); (case side1 => repeat (first | exact (Kd.R_reads' HO345.out).2.2 | (with_reducible refine Kd.zr ?_ _) | (with_reducible refine Kd.zq ?_ _) | (with_reducible refine Kd.C_drew ?_))); (case side2 => exact (Kd.R_reads' HO345.out).2.1); (case side3 => repeat (first | exact (Kd.R_reads' HO_8.out).2.2 | (with_reducible refine Kd.zr ?_ _) | (with_reducible refine Kd.zq ?_ _) | (with_reducible refine Kd.C_drew ?_))); (case side4 => exact (Kd.R_reads' HO_8.out).2.1); rintro e w113 ⟨rfl, hb⟩; refine ⟨_, rfl, ?_⟩; replace HO_8 := zp.mk (Kd.R_below (by (with_reducible repeat (first | apply Kd.R_alloc | apply Kd.R_drewN | apply Kd.R_drew)); exact HO_8.out) hb); replace HO_12 := zp.mk (Kd.R_below (by (with_reducible repeat (first | apply Kd.R_alloc | apply Kd.R_drewN | apply Kd.R_drew)); exact HO_12.out) hb); replace HO_303001 := zp.mk (Kd.R_below (by (with_reducible repeat (first | apply Kd.R_alloc | apply Kd.R_drewN | apply Kd.R_drew)); exact HO_303001.out) hb); replace HO335 := zp.mk (Kd.R_below (by (with_reducible repeat (first | apply Kd.R_alloc | apply Kd.R_drewN | apply Kd.R_drew)); exact HO335.out) hb); replace HO338 := zp.mk (Kd.R_below (by (with_reducible repeat (first | apply Kd.R_alloc | apply Kd.R_drewN | apply Kd.R_drew)); exact HO338.out) hb); replace HO345 := zp.mk (Kd.R_below (by (with_reducible repeat (first | apply Kd.R_alloc | apply Kd.R_drewN | apply Kd.R_drew)); exact HO345.out) hb); replace BK279 := zp.mk (zl (zv8 BK279.out) hb); replace BK280 := zp.mk (zl (zv8 BK280.out) hb); replace BK302 := zp.mk (zl (zv8 BK302.out) hb); replace HB := zp.mk (zj (zv7 HB.out) hb); (try clear hb); (try clear hb2); (try clear hk); (try clear hi)))
               go_meet
               case rel => exact ⟨_, ((t346 != t297)), (by first | rfl | (simp; done) | (simp [*]; done)), H', ⟨by have := HJ25.out; have := HJ67.out; first | omega | exact Nat.le_refl _⟩, ⟨by (try simp only [hl303001_67]); (with_reducible repeat (first | apply Kd.R_alloc | apply Kd.R_drewN | apply Kd.R_drew)); exact Kd.R_mono HO_12.out (fun _ hk => trivial)⟩, ⟨by (try simp only [hl303001_67]); (with_reducible repeat (first | apply Kd.R_alloc | apply Kd.R_drewN | apply Kd.R_drew)); exact Kd.R_mono HO_303001.out (fun _ hk => trivial)⟩, ⟨by (try simp only [hl303001_67]); (with_reducible repeat (first | refine zf ?_ _ | refine zi ?_ | refine zg ?_ _)); exact BK279.out⟩, ⟨by (try simp only [hl303001_67]); (with_reducible repeat (first | refine zf ?_ _ | refine zi ?_ | refine zg ?_ _)); exact BK280.out⟩, ⟨by (try simp only [hl303001_67]); (with_reducible repeat (first | refine zf ?_ _ | refine zi ?_ | refine zg ?_ _)); exact BK302.out⟩, ⟨zv7 HB.out⟩⟩
              ·replace c110 := Bool.eq_false_iff.mpr c110
               subst c110
               have H1 : (laws_FnExactPolicyDrop.j2 kj67 t330 t329 true) = some r := by rw [if_neg (show ¬ (false = true) by decide)] at H; exact H
               clear H
               have H := H1
               clear H1
               have H' := zp.mk H
               clear H
               obtain ⟨Ao114, co114, eo114⟩ := Kd.R_slice HO345.out
               subst eo114
               obtain ⟨Ao115, co115, eo115⟩ := Kd.R_slice HO_8.out
               subst eo115
               go_wp2_with (first | ((with_reducible refine zn (f := 56) rfl ?_); refine goesL_ (some 112) rfl rfl Try.func56 (by kernel_rfl) rfl #[.slice Ao114 t343.length co114, .slice Ao115 t294.length co115] rfl (by (try simp only [List.map_toArray, List.map_cons, List.map_nil]); first | done | rfl | (simp only [List.length_drop, List.length_take]; rfl)) ?_; (with_reducible refine (laws_eqPunctS.calls kj67 _ _ t343 _ _ t294 false _ ?side1 ?side2 ?side3 ?side4 A109.out).mono ?_); (case side1 => repeat (first | exact (Kd.R_reads' HO345.out).2.2 | (with_reducible refine Kd.zr ?_ _) | (with_reducible refine Kd.zq ?_ _) | (with_reducible refine Kd.C_drew ?_))); (case side2 => exact (Kd.R_reads' HO345.out).2.1); (case side3 => repeat (first | exact (Kd.R_reads' HO_8.out).2.2 | (with_reducible refine Kd.zr ?_ _) | (with_reducible refine Kd.zq ?_ _) | (with_reducible refine Kd.C_drew ?_))); (case side4 => exact (Kd.R_reads' HO_8.out).2.1); rintro e w116 ⟨rfl, hb⟩; refine ⟨_, rfl, ?_⟩; replace HO_8 := zp.mk (Kd.R_below (by (with_reducible repeat (first | apply Kd.R_alloc | apply Kd.R_drewN | apply Kd.R_drew)); exact HO_8.out) hb); replace HO_12 := zp.mk (Kd.R_below (by (with_reducible repeat (first | apply Kd.R_alloc | apply Kd.R_drewN | apply Kd.R_drew)); exact HO_12.out) hb); replace HO_303001 := zp.mk (Kd.R_below (by (with_reducible repeat (first | apply Kd.R_alloc | apply Kd.R_drewN | apply Kd.R_drew)); exact HO_303001.out) hb); replace HO335 := zp.mk (Kd.R_below (by (with_reducible repeat (first | apply Kd.R_alloc | apply Kd.R_drewN | apply Kd.R_drew)); exact HO335.out) hb); replace HO338 := zp.mk (Kd.R_below (by (with_reducible repeat (first | apply Kd.R_alloc | apply Kd.R_drewN | apply Kd.R_drew)); exact HO338.out) hb); replace HO345 := zp.mk (Kd.R_below (by (with_reducible repeat (first | apply Kd.R_alloc | apply Kd.R_drewN | apply Kd.R_drew)); exact HO345.out) hb); replace BK279 := zp.mk (zl (zv8 BK279.out) hb); replace BK280 := zp.mk (zl (zv8 BK280.out) hb); replace BK302 := zp.mk (zl (zv8 BK302.out) hb); replace HB := zp.mk (zj (zv7 HB.out) hb); (try clear hb); (try clear hb2); (try clear hk); (try clear hi)))
               go_meet
               case rel => exact ⟨_, (true), (by first | rfl | (simp; done) | (simp [*]; done)), H', ⟨by have := HJ25.out; have := HJ67.out; first | omega | exact Nat.le_refl _⟩, ⟨by (try simp only [hl303001_67]); (with_reducible repeat (first | apply Kd.R_alloc | apply Kd.R_drewN | apply Kd.R_drew)); exact Kd.R_mono HO_12.out (fun _ hk => trivial)⟩, ⟨by (try simp only [hl303001_67]); (with_reducible repeat (first | apply Kd.R_alloc | apply Kd.R_drewN | apply Kd.R_drew)); exact Kd.R_mono HO_303001.out (fun _ hk => trivial)⟩, ⟨by (try simp only [hl303001_67]); (with_reducible repeat (first | refine zf ?_ _ | refine zi ?_ | refine zg ?_ _)); exact BK279.out⟩, ⟨by (try simp only [hl303001_67]); (with_reducible repeat (first | refine zf ?_ _ | refine zi ?_ | refine zg ?_ _)); exact BK280.out⟩, ⟨by (try simp only [hl303001_67]); (with_reducible repeat (first | refine zf ?_ _ | refine zi ?_ | refine zg ?_ _)); exact BK302.out⟩, ⟨zv7 HB.out⟩⟩
             case rest =>
              clear HC99
              try clear c1
              try clear c2
              try clear p2
              try clear c3
              try clear c4
              try clear c5
              try clear c5b0
              try clear c6
              try clear c7
              try clear c8
              try clear c9
              try clear c11
              try clear c12
              try clear c12b0
              try clear c15
              try clear c17
              try clear c19
              try clear c21
              try clear c29
              try clear c33
              try clear c42
              try clear c43
              try clear c50
              try clear c52
              try clear c54
              try clear c56
              try clear c59
              try clear c60
              try clear c61
              try clear c62
              try clear c65
              try clear c76
              try clear c77
              try clear c81
              try clear c81b0
              try clear c83
              try clear c90
              try clear c93
              try clear c93b0
              try clear c94
              try clear c94b0
              try clear c94b1
              try clear c110
              try clear y16_0
              try clear y16_1
              try clear y30_0
              try clear y30_1
              try clear y39_0
              try clear y39_1
              try clear y44_0
              try clear y44_1
              try clear y78_0
              try clear y78_1
              try clear y9_0
              try clear y9_1
              try clear u16_0
              try clear u16_1
              try clear u30_0
              try clear u30_1
              try clear u39_0
              try clear u39_1
              try clear u44_0
              try clear u44_1
              try clear u78_0
              try clear u78_1
              try clear u9_0
              try clear u9_1
              try clear p2
              obtain ⟨kq, x118_98, rfl, HA, HJ98, HO_12, HO_303001, BK279, BK280, BK302, HB⟩ := hcut
              have hl12_98 := (Kd.R_reads' HO_12.out).1
              rw [hl12_98] at HO_12
              (try simp only [hl12_98])
              (try simp only [hl12_98] at BK279)
              (try simp only [hl12_98] at BK280)
              (try simp only [hl12_98] at BK302)
              (try simp only [hl12_98] at HO_303001)
              cases kq with
              | zero => exact absurd HA.out (by simp [laws_FnExactPolicyDrop.j2])
              | succ kj98 =>
               have H := HA.out
               clear HA
               simp only [laws_FnExactPolicyDrop.j2] at H
               by_cases c117 : x118_98 = true
               ·subst c117
                have H1 : (some false) = some r := by rw [if_pos rfl] at H; exact H
                clear H
                have H := H1
                clear H1
                exact absurd ((Option.some.inj H).trans hr_) (by decide)
               ·replace c117 := Bool.eq_false_iff.mpr c117
                subst c117
                have H1 : ((laws_heldPunctS.f kj98 t330 1).bind fun t348 => (if t348 < 0 then (some false) else (if t348 = t329 then (some true) else (some false)))) = some r := by rw [if_neg (show ¬ (false = true) by decide)] at H; exact H
                clear H
                have H := H1
                clear H1
                replace H := zs4 H
                obtain ⟨t348, A1180, H⟩ := H
                replace H : (if t348 < 0 then (some false) else (if t348 = t329 then (some true) else (some false))) = some r := H
                have A118 := zp.mk A1180
                clear A1180
                by_cases c119 : t348 < 0
                ·rw [if_pos c119] at H
                 have c119b0 : decide (t348 < 0) = true := decide_eq_true c119
                 clear c119
                 exact absurd ((Option.some.inj H).trans hr_) (by decide)
                ·rw [if_neg c119] at H
                 have c119b0 : decide (t348 < 0) = false := decide_eq_false c119
                 clear c119
                 by_cases c120 : t348 = t329
                 ·rw [if_pos c120] at H
                  have c120b0 : (t348 == t329) = true := beq_iff_eq.mpr c120
                  have c120b1 : (t348 != t329) = false := bne_eq_false_iff_eq.mpr c120
                  clear c120
                  obtain rfl := Option.some.inj H
                  go_wp2_with (first | ((with_reducible refine zn (f := 62) rfl ?_); refine goesL_ (some 121) rfl rfl Try.func62 (by kernel_rfl) rfl #[.slice Ao100 t330.length co100, .int .i64 1] rfl (by (try simp only [List.map_toArray, List.map_cons, List.map_nil]); first | done | rfl | (simp only [List.length_drop, List.length_take]; rfl)) ?_; (with_reducible refine (laws_heldPunctS.calls kj98 _ _ t330 1 t348 _ ?side1 ?side2 A118.out).mono ?_); (case side1 => repeat (first | exact (Kd.R_reads' HO_12.out).2.2 | (with_reducible refine Kd.zr ?_ _) | (with_reducible refine Kd.zq ?_ _) | (with_reducible refine Kd.C_drew ?_))); (case side2 => exact (Kd.R_reads' HO_12.out).2.1); rintro e w' ⟨rfl, ⟨nd, rfl⟩⟩; refine ⟨_, rfl, ?_⟩))
                  go_ret
                  exact ⟨by first | rfl | (simp [errW_none, errW_some] <;> rfl) | (simp [*, errW_none, errW_some] <;> rfl), zv7 HB.out⟩
                 ·rw [if_neg c120] at H
                  have c120b0 : (t348 == t329) = false := beq_eq_false_iff_ne.mpr c120
                  have c120b1 : (t348 != t329) = true := bne_iff_ne.mpr c120
                  exact absurd ((Option.some.inj H).trans hr_) (by decide)
            ·rw [if_neg c94] at H
             have c94b0 : (t331 == t329) = false := beq_eq_false_iff_ne.mpr c94
             have c94b1 : (t331 != t329) = true := bne_iff_ne.mpr c94
             exact absurd ((Option.some.inj H).trans hr_) (by decide)
       ·replace c65 := Bool.eq_false_iff.mpr c65
        subst c65
        have H1 : (some false) = some r := by rw [if_neg (show ¬ (false = true) by decide)] at H; exact H
        clear H
        have H := H1
        clear H1
        exact absurd ((Option.some.inj H).trans hr_) (by decide)
      ·replace c62 := Bool.eq_false_iff.mpr c62
       subst c62
       have H1 : (some false) = some r := by rw [if_neg (show ¬ (false = true) by decide)] at H; exact H
       clear H
       have H := H1
       clear H1
       exact absurd ((Option.some.inj H).trans hr_) (by decide)

end Go.Proofs.Ytdpoliolinghfaa.QFnExactPolicyDrop
