/- Proved: calls of the program come to the answers of the plain Lean functions that stand beside them. Each contract names its conditions. (Written by a program of this session, over the printer of the kit.) -/
import Derived.Test.YtdpoliolinghfaaZPolicyForQFnExactPolicyForx0
import Derived.Test.YtdpoliolinghfaaZPolicyForQFnExactPolicyForx8
import Derived.Test.YtdpoliolinghfaaZPolicyForQFnExactPolicyForx10
import Derived.Test.YtdpoliolinghfaaZPolicyForQFnExactPolicyForx13
namespace Go.Proofs.Ytdpoliolinghfaa.QFnExactPolicyFor
open Go.RowKit Go.Proofs.YtdpoliolinghfaaW.PrintWords Go.Proofs.YtdpoliolinghfaaW.PrintLast Go.Proofs.YtdpoliolinghfaaW.PrintMore
attribute [local go_sem] max2_int min2_int max_two min_two max_three min_three max_four min_four   -- for this text's walks alone
set_option linter.unusedVariables false
set_option linter.unusedSimpArgs false

/-! ### impl_PolicyOk: function 55 -/
def impl_PolicyOk.f (k : Nat) (a0_0 : Int) (l0_1 : List Int) (l1 : List (S58)) : Option (Bool) := (impl_isLat.f k a0_0 l0_1).bind fun t256 => (if t256 = true then ((impl_isPolicy.f k a0_0 l0_1 l1).bind fun t257 => (some t257)) else (some false))
theorem impl_PolicyOk.mono : ∀ a0 a1 a2 k, LeO (impl_PolicyOk.f k a0 a1 a2) (impl_PolicyOk.f (k + 1) a0 a1 a2) := by
 intro a0 a1 a2 k
 unfold impl_PolicyOk.f
 repeat' first
   | (with_reducible exact impl_isLat.mono _ _ _)
   | (with_reducible exact impl_isPolicy.mono _ _ _ _)
   | (with_reducible exact LeO.refl _)
   | (with_reducible exact LeO.none _)
   | (with_reducible refine LeO.ite ?_ ?_)
   | (with_reducible refine LeO.bind ?_ (fun _ => ?_))
   | exact impl_isLat.mono _ _ _
   | exact impl_isPolicy.mono _ _ _ _
   | exact LeO.none _
   | refine LeO.ite ?_ ?_
   | refine LeO.bind ?_ (fun _ => ?_)
set_option maxHeartbeats 8000000 in
set_option maxRecDepth 100000 in
theorem impl_PolicyOk.calls (k : Nat) (a0_0 : Int) (A0_1 : Option Addr) (c0_1 : Nat) (l0_1 : List Int) (A1 : Option Addr) (c1 : Nat) (l1 : List (S58)) (r : Bool) (w : World) (hr0_1 : Kd.C (Kd.int .u64) w A0_1 l0_1.length l0_1) (hc0_1 : l0_1.length ≤ c0_1) (hr1 : Kd.C k58 w A1 l1.length l1) (hc1 : l1.length ≤ c1) (h : impl_PolicyOk.f k a0_0 l0_1 l1 = some r) :
  Calls Try.prog 55 #[.agg #[.int .i64 a0_0, .slice A0_1 l0_1.length c0_1], .slice A1 l1.length c1] w fun e w' => e = .returned (.bool r) ∧ Below w.heap.size w w' := by
 have hu27 := Try.underlying27
 have HR0_1 := zp.mk hr0_1
 have HC0_1 := zp.mk hc0_1
 clear hr0_1 hc0_1
 have HR1 := zp.mk hr1
 have HC1 := zp.mk hc1
 clear hr1 hc1
 have HB := zp.mk (Below.refl w.heap.size w)
 have H : ((impl_isLat.f k a0_0 l0_1).bind fun t256 => (if t256 = true then ((impl_isPolicy.f k a0_0 l0_1 l1).bind fun t257 => (some t257)) else (some false))) = some r := h
 clear h
 replace H := Option.bind_eq_some_iff.mp H
 obtain ⟨t256, A30, H⟩ := H
 replace H : (if t256 = true then ((impl_isPolicy.f k a0_0 l0_1 l1).bind fun t257 => (some t257)) else (some false)) = some r := H
 have A3 := zp.mk A30
 clear A30
 by_cases c4 : t256 = true
 ·subst c4
  have H1 : ((impl_isPolicy.f k a0_0 l0_1 l1).bind fun t257 => (some t257)) = some r := by rw [if_pos rfl] at H; exact H
  clear H
  have H := H1
  clear H1
  replace H := Option.bind_eq_some_iff.mp H
  obtain ⟨t257, A50, H⟩ := H
  replace H : (some t257) = some r := H
  have A5 := zp.mk A50
  clear A50
  obtain rfl := Option.some.inj H
  go_enter Try.func55, Try.ntmps55
  go_wp2_with (first | ((with_reducible refine zo (N := 2) rfl ?_); refine zm ?hg (N := 2) ?hd (cs := #[.int .i64 a0_0, .slice A0_1 l0_1.length c0_1]) (t := 27) ?hr ?_; (case hd => rfl); (case hg => rfl); (case hr => first | (go_simp; done) | (go_simp; rfl)); intro gb255 hg w6 hbox hb; have n0_ := zp.mk (zj (by repeat (first | (with_reducible first | exact HB.out | apply zc | apply za | apply zb) | exact HB.out)) hb); have n1_ := zp.mk (hbox); have n2_ := zp.mk ((by rw [hg]; exact (zk (by repeat (first | (with_reducible first | exact HB.out | apply zc | apply za | apply zb) | exact HB.out))) : w.heap.size ≤ gb255)); have n3_ := zp.mk ((by rw [hg]; exact (zk (by repeat (first | (with_reducible first | exact HB.out | apply zc | apply za | apply zb) | exact HB.out))) : w.heap.size ≤ gb255)); clear HB; have HB := n0_; have BK255 := n1_; have GW255 := n2_; have GE255 := n3_; clear n0_ n1_ n2_ n3_; clear hb hbox hg; have hcz7_0 : w6.cell? ⟨gb255, 0, none⟩ = some (.int .i64 a0_0) := (ze BK255.out 0).trans rfl; have hcz7_1 : w6.cell? ⟨gb255, 1, none⟩ = some (.slice A0_1 l0_1.length c0_1) := (ze BK255.out 1).trans rfl; have hfz7_0 := zd BK255.out 0; have hfz7_1 := zd BK255.out 1) | ((with_reducible refine zn (f := 70) rfl ?_); refine goesL_ (some 6) rfl rfl Try.func70 (by kernel_rfl) rfl #[.agg #[.int .i64 a0_0, .slice A0_1 l0_1.length c0_1]] rfl (by (try simp only [List.map_toArray, List.map_cons, List.map_nil]); first | done | rfl | (simp only [List.length_drop, List.length_take]; rfl)) ?_; (with_reducible refine (impl_isLat.calls k a0_0 _ _ l0_1 true _ ?side1 ?side2 A3.out).mono ?_); (case side1 => repeat (first | exact (Kd.zs HR0_1.out HB.out) | (with_reducible refine Kd.zr ?_ _) | (with_reducible refine Kd.zq ?_ _) | (with_reducible refine Kd.C_drew ?_))); (case side2 => exact HC0_1.out); rintro e w8 ⟨rfl, hb⟩; refine ⟨_, rfl, ?_⟩; have n0_ := zp.mk (zl (g := gb255) (o := .cells #[.int .i64 a0_0, .slice A0_1 l0_1.length c0_1] 27 (0, 0)) (by (with_reducible repeat (first | refine zf ?_ _ | refine zi ?_ | refine zg ?_ _)); exact BK255.out) hb); have n1_ := zp.mk (zj (by repeat (first | (with_reducible first | exact HB.out | apply zc | apply za | apply zb | refine zh ?_ GE255.out) | exact HB.out)) hb); clear BK255; clear HB; have BK255 := n0_; have HB := n1_; clear n0_ n1_; (try clear hb); (try clear hb2); (try clear hk); (try clear hi); have hcz9_0 : w8.cell? ⟨gb255, 0, none⟩ = some (.int .i64 a0_0) := (ze BK255.out 0).trans rfl; have hcz9_1 : w8.cell? ⟨gb255, 1, none⟩ = some (.slice A0_1 l0_1.length c0_1) := (ze BK255.out 1).trans rfl; have hfz9_0 := zd BK255.out 0; have hfz9_1 := zd BK255.out 1) | (go_at_call 89; (with_reducible refine (impl_isPolicy.calls k a0_0 _ _ l0_1 _ _ l1 t257 _ ?side1 ?side2 ?side3 ?side4 A5.out).mono ?_); (case side1 => repeat (first | exact (Kd.zs HR0_1.out HB.out) | (with_reducible refine Kd.zr ?_ _) | (with_reducible refine Kd.zq ?_ _) | (with_reducible refine Kd.C_drew ?_))); (case side2 => exact HC0_1.out); (case side3 => repeat (first | exact (Kd.zs HR1.out HB.out) | (with_reducible refine Kd.zr ?_ _) | (with_reducible refine Kd.zq ?_ _) | (with_reducible refine Kd.C_drew ?_))); (case side4 => exact HC1.out); rintro e w10 ⟨rfl, hb⟩; have n0_ := zp.mk (zl (g := gb255) (o := .cells #[.int .i64 a0_0, .slice A0_1 l0_1.length c0_1] 27 (0, 0)) (by (with_reducible repeat (first | refine zf ?_ _ | refine zi ?_ | refine zg ?_ _)); exact BK255.out) hb); have n1_ := zp.mk (zj (by repeat (first | (with_reducible first | exact HB.out | apply zc | apply za | apply zb | refine zh ?_ GE255.out) | exact HB.out)) hb); clear BK255; clear HB; have BK255 := n0_; have HB := n1_; clear n0_ n1_; (try clear hb); (try clear hb2); (try clear hk); (try clear hi)))
  go_ret
  exact ⟨by first | rfl | (simp [errW_none, errW_some] <;> rfl) | (simp [*, errW_none, errW_some] <;> rfl), by repeat (first | (with_reducible first | exact HB.out | apply zc | apply za | apply zb | refine zh ?_ GE255.out) | exact HB.out)⟩
 ·replace c4 := Bool.eq_false_iff.mpr c4
  subst c4
  have H1 : (some false) = some r := by rw [if_neg (show ¬ (false = true) by decide)] at H; exact H
  clear H
  have H := H1
  clear H1
  obtain rfl := Option.some.inj H
  go_enter Try.func55, Try.ntmps55
  go_wp2_with (first | ((with_reducible refine zo (N := 2) rfl ?_); refine zm ?hg (N := 2) ?hd (cs := #[.int .i64 a0_0, .slice A0_1 l0_1.length c0_1]) (t := 27) ?hr ?_; (case hd => rfl); (case hg => rfl); (case hr => first | (go_simp; done) | (go_simp; rfl)); intro gb255 hg w11 hbox hb; have n0_ := zp.mk (zj (by repeat (first | (with_reducible first | exact HB.out | apply zc | apply za | apply zb) | exact HB.out)) hb); have n1_ := zp.mk (hbox); have n2_ := zp.mk ((by rw [hg]; exact (zk (by repeat (first | (with_reducible first | exact HB.out | apply zc | apply za | apply zb) | exact HB.out))) : w.heap.size ≤ gb255)); have n3_ := zp.mk ((by rw [hg]; exact (zk (by repeat (first | (with_reducible first | exact HB.out | apply zc | apply za | apply zb) | exact HB.out))) : w.heap.size ≤ gb255)); clear HB; have HB := n0_; have BK255 := n1_; have GW255 := n2_; have GE255 := n3_; clear n0_ n1_ n2_ n3_; clear hb hbox hg; have hcz12_0 : w11.cell? ⟨gb255, 0, none⟩ = some (.int .i64 a0_0) := (ze BK255.out 0).trans rfl; have hcz12_1 : w11.cell? ⟨gb255, 1, none⟩ = some (.slice A0_1 l0_1.length c0_1) := (ze BK255.out 1).trans rfl; have hfz12_0 := zd BK255.out 0; have hfz12_1 := zd BK255.out 1) | ((with_reducible refine zn (f := 70) rfl ?_); refine goesL_ (some 6) rfl rfl Try.func70 (by kernel_rfl) rfl #[.agg #[.int .i64 a0_0, .slice A0_1 l0_1.length c0_1]] rfl (by (try simp only [List.map_toArray, List.map_cons, List.map_nil]); first | done | rfl | (simp only [List.length_drop, List.length_take]; rfl)) ?_; (with_reducible refine (impl_isLat.calls k a0_0 _ _ l0_1 false _ ?side1 ?side2 A3.out).mono ?_); (case side1 => repeat (first | exact (Kd.zs HR0_1.out HB.out) | (with_reducible refine Kd.zr ?_ _) | (with_reducible refine Kd.zq ?_ _) | (with_reducible refine Kd.C_drew ?_))); (case side2 => exact HC0_1.out); rintro e w13 ⟨rfl, hb⟩; refine ⟨_, rfl, ?_⟩; have n0_ := zp.mk (zl (g := gb255) (o := .cells #[.int .i64 a0_0, .slice A0_1 l0_1.length c0_1] 27 (0, 0)) (by (with_reducible repeat (first | refine zf ?_ _ | refine zi ?_ | refine zg ?_ _)); exact BK255.out) hb); have n1_ := zp.mk (zj (by repeat (first | (with_reducible first | exact HB.out | apply zc | apply za | apply zb | refine zh ?_ GE255.out) | exact HB.out)) hb); clear BK255; clear HB; have BK255 := n0_; have HB := n1_; clear n0_ n1_; (try clear hb); (try clear hb2); (try clear hk); (try clear hi)))
  go_ret
  exact ⟨by first | rfl | (simp [errW_none, errW_some] <;> rfl) | (simp [*, errW_none, errW_some] <;> rfl), by repeat (first | (with_reducible first | exact HB.out | apply zc | apply za | apply zb | refine zh ?_ GE255.out) | exact HB.out)⟩

/-! ### impl_Lat_join: function 77 -/
def impl_Lat_join.f (k : Nat) (a0_0 : Int) (l0_1 : List Int) (a1 : Int) (a2 : Int) : Option (Int) := (impl_Lat_bound.f k a0_0 l0_1 a1 a2 true).bind fun t259 => (some t259)
theorem impl_Lat_join.mono : ∀ a0 a1 a2 a3 k, LeO (impl_Lat_join.f k a0 a1 a2 a3) (impl_Lat_join.f (k + 1) a0 a1 a2 a3) := by
 intro a0 a1 a2 a3 k
 unfold impl_Lat_join.f
 repeat' first
   | (with_reducible exact impl_Lat_bound.mono _ _ _ _ _ _)
   | (with_reducible exact LeO.refl _)
   | (with_reducible exact LeO.none _)
   | (with_reducible refine LeO.ite ?_ ?_)
   | (with_reducible refine LeO.bind ?_ (fun _ => ?_))
   | exact impl_Lat_bound.mono _ _ _ _ _ _
   | exact LeO.none _
   | refine LeO.ite ?_ ?_
   | refine LeO.bind ?_ (fun _ => ?_)
set_option maxHeartbeats 8000000 in
set_option maxRecDepth 100000 in
theorem impl_Lat_join.calls (k : Nat) (a0_0 : Int) (A0_1 : Option Addr) (c0_1 : Nat) (l0_1 : List Int) (a1 : Int) (a2 : Int) (r : Int) (w : World) (hr0_1 : Kd.C (Kd.int .u64) w A0_1 l0_1.length l0_1) (hc0_1 : l0_1.length ≤ c0_1) (h : impl_Lat_join.f k a0_0 l0_1 a1 a2 = some r) :
  Calls Try.prog 77 #[.agg #[.int .i64 a0_0, .slice A0_1 l0_1.length c0_1], .int .i64 a1, .int .i64 a2] w fun e w' => e = .returned (.int .i64 r) ∧ Below w.heap.size w w' := by
 have hu27 := Try.underlying27
 have HR0_1 := zp.mk hr0_1
 have HC0_1 := zp.mk hc0_1
 clear hr0_1 hc0_1
 have HB := zp.mk (Below.refl w.heap.size w)
 have H : ((impl_Lat_bound.f k a0_0 l0_1 a1 a2 true).bind fun t259 => (some t259)) = some r := h
 clear h
 replace H := Option.bind_eq_some_iff.mp H
 obtain ⟨t259, A40, H⟩ := H
 replace H : (some t259) = some r := H
 have A4 := zp.mk A40
 clear A40
 obtain rfl := Option.some.inj H
 go_enter Try.func77, Try.ntmps77
 go_wp2_with (first | ((with_reducible refine zo (N := 3) rfl ?_); refine zm ?hg (N := 3) ?hd (cs := #[.int .i64 a0_0, .slice A0_1 l0_1.length c0_1]) (t := 27) ?hr ?_; (case hd => rfl); (case hg => rfl); (case hr => first | (go_simp; done) | (go_simp; rfl)); intro gb258 hg w5 hbox hb; have n0_ := zp.mk (zj (by repeat (first | (with_reducible first | exact HB.out | apply zc | apply za | apply zb) | exact HB.out)) hb); have n1_ := zp.mk (hbox); have n2_ := zp.mk ((by rw [hg]; exact (zk (by repeat (first | (with_reducible first | exact HB.out | apply zc | apply za | apply zb) | exact HB.out))) : w.heap.size ≤ gb258)); have n3_ := zp.mk ((by rw [hg]; exact (zk (by repeat (first | (with_reducible first | exact HB.out | apply zc | apply za | apply zb) | exact HB.out))) : w.heap.size ≤ gb258)); clear HB; have HB := n0_; have BK258 := n1_; have GW258 := n2_; have GE258 := n3_; clear n0_ n1_ n2_ n3_; clear hb hbox hg; have hcz6_0 : w5.cell? ⟨gb258, 0, none⟩ = some (.int .i64 a0_0) := (ze BK258.out 0).trans rfl; have hcz6_1 : w5.cell? ⟨gb258, 1, none⟩ = some (.slice A0_1 l0_1.length c0_1) := (ze BK258.out 1).trans rfl; have hfz6_0 := zd BK258.out 0; have hfz6_1 := zd BK258.out 1) | ((with_reducible refine zn (f := 75) rfl ?_); refine goesL_ (some 10) rfl rfl Try.func75 (by kernel_rfl) rfl #[.agg #[.int .i64 a0_0, .slice A0_1 l0_1.length c0_1], .int .i64 a1, .int .i64 a2, .bool true] rfl (by (try simp only [List.map_toArray, List.map_cons, List.map_nil]); first | done | rfl | (simp only [List.length_drop, List.length_take]; rfl)) ?_; (with_reducible refine (impl_Lat_bound.calls k a0_0 _ _ l0_1 a1 a2 true t259 _ ?side1 ?side2 A4.out).mono ?_); (case side1 => repeat (first | exact (Kd.zs HR0_1.out HB.out) | (with_reducible refine Kd.zr ?_ _) | (with_reducible refine Kd.zq ?_ _) | (with_reducible refine Kd.C_drew ?_))); (case side2 => exact HC0_1.out); rintro e w7 ⟨rfl, hb⟩; refine ⟨_, rfl, ?_⟩; have n0_ := zp.mk (zl (g := gb258) (o := .cells #[.int .i64 a0_0, .slice A0_1 l0_1.length c0_1] 27 (0, 0)) (by (with_reducible repeat (first | refine zf ?_ _ | refine zi ?_ | refine zg ?_ _)); exact BK258.out) hb); have n1_ := zp.mk (zj (by repeat (first | (with_reducible first | exact HB.out | apply zc | apply za | apply zb | refine zh ?_ GE258.out) | exact HB.out)) hb); clear BK258; clear HB; have BK258 := n0_; have HB := n1_; clear n0_ n1_; (try clear hb); (try clear hb2); (try clear hk); (try clear hi)))
 go_ret
 exact ⟨by first | rfl | (simp [errW_none, errW_some] <;> rfl) | (simp [*, errW_none, errW_some] <;> rfl), by repeat (first | (with_reducible first | exact HB.out | apply zc | apply za | apply zb | refine zh ?_ GE258.out) | exact HB.out)⟩

/-! ### impl_Lat_ends: function 76 -/
def impl_Lat_ends.l0 : Nat → Int → Int → Int → Int → Int → List Int → Option (Int × Int)
 | 0, _, _, _, _, _, _ => none
 | k + 1, x4, x5, x8, x9, x261000, x261001 => if x9 < x8 then ((impl_Lat_bound.f k x261000 x261001 x4 x9 false).bind fun t261 => ((impl_Lat_join.f k x261000 x261001 x5 x9).bind fun t262 => (impl_Lat_ends.l0 k t261 t262 x8 (wrap64 (x9 + 1)) x261000 x261001))) else (some (x4, x5))
def impl_Lat_ends.f (k : Nat) (a0_0 : Int) (l0_1 : List Int) : Option (Int × Int) := impl_Lat_ends.l0 k 0 0 a0_0 0 a0_0 l0_1
theorem impl_Lat_ends.mono_l : ∀ k, (∀ y0 y1 y2 y3 y4 y5, LeO (impl_Lat_ends.l0 k y0 y1 y2 y3 y4 y5) (impl_Lat_ends.l0 (k + 1) y0 y1 y2 y3 y4 y5))
 | 0 => fun _ _ _ _ _ _ r h => by simp [impl_Lat_ends.l0] at h
 | k + 1 => by
  have ih0 := impl_Lat_ends.mono_l k
  ·intro y0 y1 y2 y3 y4 y5
   unfold impl_Lat_ends.l0
   repeat' first
   | (with_reducible exact ih0 _ _ _ _ _ _)
   | (with_reducible exact impl_Lat_bound.mono _ _ _ _ _ _)
   | (with_reducible exact impl_Lat_join.mono _ _ _ _ _)
   | (with_reducible exact LeO.refl _)
   | (with_reducible exact LeO.none _)
   | (with_reducible refine LeO.ite ?_ ?_)
   | (with_reducible refine LeO.bind ?_ (fun _ => ?_))
   | exact ih0 _ _ _ _ _ _
   | exact impl_Lat_bound.mono _ _ _ _ _ _
   | exact impl_Lat_join.mono _ _ _ _ _
   | exact LeO.none _
   | refine LeO.ite ?_ ?_
   | refine LeO.bind ?_ (fun _ => ?_)
theorem impl_Lat_ends.mono : ∀ a0 a1 k, LeO (impl_Lat_ends.f k a0 a1) (impl_Lat_ends.f (k + 1) a0 a1) := by
 intro a0 a1 k
 have ih0 := impl_Lat_ends.mono_l k
 unfold impl_Lat_ends.f
 repeat' first
   | (with_reducible exact ih0 _ _ _ _ _ _)
   | (with_reducible exact impl_Lat_bound.mono _ _ _ _ _ _)
   | (with_reducible exact impl_Lat_join.mono _ _ _ _ _)
   | (with_reducible exact LeO.refl _)
   | (with_reducible exact LeO.none _)
   | (with_reducible refine LeO.ite ?_ ?_)
   | (with_reducible refine LeO.bind ?_ (fun _ => ?_))
   | exact ih0 _ _ _ _ _ _
   | exact impl_Lat_bound.mono _ _ _ _ _ _
   | exact impl_Lat_join.mono _ _ _ _ _
   | exact LeO.none _
   | refine LeO.ite ?_ ?_
   | refine LeO.bind ?_ (fun _ => ?_)
def impl_Lat_ends.T5 : Bool × List (List Nat × List Nat) := (true, [([], []), ([], []), ([], []), ([0, 1, 2], [0, 1, 2]), ([], []), ([], []), ([], []), ([4, 5, 6, 3], [4, 5, 6]), ([3, 7, 0, 1, 2, 3], [1, 3]), ([7, 8, 0, 1, 2, 3, 4, 5, 6, 7, 8], [5, 7])])
def impl_Lat_ends.B5 : List Nat := [0, 0, 0, 7, 0, 0, 0, 127, 255, 511]
theorem impl_Lat_ends.tab5 : rtab .any (opsOf Try.f76 5) = impl_Lat_ends.T5 := by kernel_rfl
theorem impl_Lat_ends.bits5 : waitsOk impl_Lat_ends.T5.2 impl_Lat_ends.B5 = true := by kernel_rfl
set_option maxHeartbeats 8000000 in
set_option maxRecDepth 100000 in
theorem impl_Lat_ends.calls (k : Nat) (a0_0 : Int) (A0_1 : Option Addr) (c0_1 : Nat) (l0_1 : List Int) (r1 : Int) (r2 : Int) (w : World) (hr0_1 : Kd.C (Kd.int .u64) w A0_1 l0_1.length l0_1) (hc0_1 : l0_1.length ≤ c0_1) (h : impl_Lat_ends.f k a0_0 l0_1 = some (r1, r2)) :
  Calls Try.prog 76 #[.agg #[.int .i64 a0_0, .slice A0_1 l0_1.length c0_1]] w fun e w' => e = .returned (.tuple #[.int .i64 r1, .int .i64 r2]) ∧ Below w.heap.size w w' := by
 have hu27 := Try.underlying27
 have HR0_1 := zp.mk hr0_1
 have HC0_1 := zp.mk hc0_1
 clear hr0_1 hc0_1
 have HB := zp.mk (Below.refl w.heap.size w)
 have H : (impl_Lat_ends.l0 k 0 0 a0_0 0 a0_0 l0_1) = some (r1, r2) := h
 clear h
 have H' := zp.mk H
 clear H
 go_enter Try.func76, Try.ntmps76
 go_wp2_with (first | ((with_reducible refine zo (N := 1) rfl ?_); refine zm ?hg (N := 1) ?hd (cs := #[.int .i64 a0_0, .slice A0_1 l0_1.length c0_1]) (t := 27) ?hr ?_; (case hd => rfl); (case hg => rfl); (case hr => first | (go_simp; done) | (go_simp; rfl)); intro gb260 hg w2 hbox hb; have n0_ := zp.mk (zj (by repeat (first | (with_reducible first | exact HB.out | apply zc | apply za | apply zb) | exact HB.out)) hb); have n1_ := zp.mk (hbox); have n2_ := zp.mk ((by rw [hg]; exact (zk (by repeat (first | (with_reducible first | exact HB.out | apply zc | apply za | apply zb) | exact HB.out))) : w.heap.size ≤ gb260)); have n3_ := zp.mk ((by rw [hg]; exact (zk (by repeat (first | (with_reducible first | exact HB.out | apply zc | apply za | apply zb) | exact HB.out))) : w.heap.size ≤ gb260)); clear HB; have HB := n0_; have BK260 := n1_; have GW260 := n2_; have GE260 := n3_; clear n0_ n1_ n2_ n3_; clear hb hbox hg; have hcz3_0 : w2.cell? ⟨gb260, 0, none⟩ = some (.int .i64 a0_0) := (ze BK260.out 0).trans rfl; have hcz3_1 : w2.cell? ⟨gb260, 1, none⟩ = some (.slice A0_1 l0_1.length c0_1) := (ze BK260.out 1).trans rfl; have hfz3_0 := zd BK260.out 0; have hfz3_1 := zd BK260.out 1))
 go_loopg [4, 5, 9] k (fun kq v4 v5 v9 w' => ∃ (x4_1 : Int) (x5_1 : Int) (x9_1 : Int), v4 = .int .i64 x4_1 ∧ v5 = .int .i64 x5_1 ∧ v9 = .int .i64 x9_1 ∧ zp (impl_Lat_ends.l0 kq x4_1 x5_1 a0_0 x9_1 a0_0 l0_1 = some (r1, r2)) ∧ zp (kq ≤ k) ∧ zp (w'.heap[gb260]? = some (.cells #[.int .i64 a0_0, (.slice A0_1 l0_1.length c0_1)] 27 (0, 0))) ∧ zp (Below w.heap.size w w'))
 case atStart => exact ⟨(0), (0), (0), (by first | rfl | (simp; done) | (simp [*]; done)), (by first | rfl | (simp; done) | (simp [*]; done)), (by first | rfl | (simp; done) | (simp [*]; done)), H', ⟨Nat.le_refl _⟩, ⟨by (with_reducible repeat (first | refine zf ?_ _ | refine zi ?_ | refine zg ?_ _)); exact BK260.out⟩, ⟨by repeat (first | (with_reducible first | exact HB.out | apply zc | apply za | apply zb | refine zh ?_ GE260.out) | exact HB.out)⟩⟩
 case round =>
  clear H'
  try clear p2
  try clear hcz3_0
  try clear hcz3_1
  try clear hfz3_0
  try clear hfz3_1
  obtain ⟨x4_1, x5_1, x9_1, rfl, rfl, rfl, HA, HK1, BK260, HB⟩ := hrel
  cases gk with
  | zero => exact absurd HA.out (by simp [impl_Lat_ends.l0])
  | succ k1 =>
   have H := HA.out
   clear HA
   simp only [impl_Lat_ends.l0] at H
   by_cases c4 : x9_1 < a0_0
   ·rw [if_pos c4] at H
    have c4b0 : decide (x9_1 < a0_0) = true := decide_eq_true c4
    clear c4
    replace H := Option.bind_eq_some_iff.mp H
    obtain ⟨t261, A50, H⟩ := H
    replace H : ((impl_Lat_join.f k1 a0_0 l0_1 x5_1 x9_1).bind fun t262 => (impl_Lat_ends.l0 k1 t261 t262 a0_0 (wrap64 (x9_1 + 1)) a0_0 l0_1)) = some (r1, r2) := H
    have A5 := zp.mk A50
    clear A50
    replace H := Option.bind_eq_some_iff.mp H
    obtain ⟨t262, A60, H⟩ := H
    replace H : (impl_Lat_ends.l0 k1 t261 t262 a0_0 (wrap64 (x9_1 + 1)) a0_0 l0_1) = some (r1, r2) := H
    have A6 := zp.mk A60
    clear A60
    have H' := zp.mk H
    clear H
    try go_wp2
    have n0_ := zp.mk (zi BK260.out)
    have n1_ := zp.mk (zb HB.out)
    clear BK260
    clear HB
    have BK260 := n0_
    have HB := n1_
    clear n0_ n1_
    refine start_ (n := 10) (S := fun w' => w'.cell? ⟨gb260, 0, none⟩ = some (.int .i64 a0_0) ∧ w'.cell? ⟨gb260, 1, none⟩ = some (.slice A0_1 l0_1.length c0_1)) (ds := []) #[false, false, false, false, false, false, false, false, false, false] (by kernel_rfl) rfl rfl ⟨(ze BK260.out 0).trans rfl, (ze BK260.out 1).trans rfl⟩ (fun hHeld => ?_); refine with_tabW impl_Lat_ends.tab5 impl_Lat_ends.bits5 (fun HT_ HW_ => ?_)
    generalize wr.drew = w7 at BK260 HB hHeld ⊢
    refine pure_ (i := 1) (N := some 13) (v := ?_) (a' := ?_) #[false, true, false, false, false, false, false, false, false, false] rfl rfl (any_of HT_.out (by kernel_rfl)) (fun _ _ _ h => h) (Or.inl ⟨by rfl, ?_⟩) ?_ ?_
    rotate_left
    ·intro w'
     go_simp
     with_reducible rfl
    rotate_left
    ·simp only [Act.put, List.setIfInBounds_toArray, List.set_cons_zero, List.set_cons_succ, i64_w, i32_w]
     rfl
    refine pure_ (i := 2) (N := some 14) (v := ?_) (a' := ?_) #[false, true, true, false, false, false, false, false, false, false] rfl rfl (any_of HT_.out (by kernel_rfl)) (fun _ _ _ h => h) (Or.inl ⟨by rfl, ?_⟩) ?_ ?_
    rotate_left
    ·intro w'
     go_simp
     with_reducible rfl
    rotate_left
    ·simp only [Act.put, List.setIfInBounds_toArray, List.set_cons_zero, List.set_cons_succ, i64_w, i32_w]
     rfl
    refine pure_ (i := 5) (N := some 17) (v := ?_) (a' := ?_) #[false, true, true, false, false, true, false, false, false, false] rfl rfl (any_of HT_.out (by kernel_rfl)) (fun _ _ _ h => h) (Or.inl ⟨by rfl, ?_⟩) ?_ ?_
    rotate_left
    ·intro w'
     go_simp
     with_reducible rfl
    rotate_left
    ·simp only [Act.put, List.setIfInBounds_toArray, List.set_cons_zero, List.set_cons_succ, i64_w, i32_w]
     rfl
    refine pure_ (i := 6) (N := some 18) (v := ?_) (a' := ?_) #[false, true, true, false, false, true, true, false, false, false] rfl rfl (any_of HT_.out (by kernel_rfl)) (fun _ _ _ h => h) (Or.inl ⟨by rfl, ?_⟩) ?_ ?_
    rotate_left
    ·intro w'
     go_simp
     with_reducible rfl
    rotate_left
    ·simp only [Act.put, List.setIfInBounds_toArray, List.set_cons_zero, List.set_cons_succ, i64_w, i32_w]
     rfl
    refine take_ (i := 0) (N := some 12) (v := ?_) (a' := ?_) #[true, true, true, false, false, true, true, false, false, false] rfl rfl (take_ofW HT_.out HW_.out (by kernel_rfl)) (fun _ _ _ h => h) (Or.inl ⟨by rfl, ?_⟩) hHeld ?_ ?_
    rotate_left
    ·rintro w' ⟨s0, s1⟩
     go_simp
     with_reducible rfl
    rotate_left
    ·simp only [Act.put, List.setIfInBounds_toArray, List.set_cons_zero, List.set_cons_succ, i64_w, i32_w]
     rfl
    refine take_ (i := 4) (N := some 16) (v := ?_) (a' := ?_) #[true, true, true, false, true, true, true, false, false, false] rfl rfl (take_ofW HT_.out HW_.out (by kernel_rfl)) (fun _ _ _ h => h) (Or.inl ⟨by rfl, ?_⟩) hHeld ?_ ?_
    rotate_left
    ·rintro w' ⟨s0, s1⟩
     go_simp
     with_reducible rfl
    rotate_left
    ·simp only [Act.put, List.setIfInBounds_toArray, List.set_cons_zero, List.set_cons_succ, i64_w, i32_w]
     rfl
    refine one_ (i := 3) (N := some 15) #[true, true, true, true, true, true, true, false, false, false] rfl rfl (one_of HT_.out (by kernel_rfl)) (by decide) (fun K hK => ?_)
    refine goes_ Try.func75 (by kernel_rfl) rfl #[.agg #[.int .i64 a0_0, .slice A0_1 l0_1.length c0_1], .int .i64 x4_1, .int .i64 x9_1, .bool false] (by rfl) rfl rfl (by (try simp only [List.map_toArray, List.map_cons, List.map_nil]); first | done | rfl | (simp only [List.length_drop, List.length_take]; rfl)) ?_
    with_reducible refine (impl_Lat_bound.calls k1 a0_0 _ _ l0_1 x4_1 x9_1 false t261 _ ?side1 ?side2 A5.out).mono ?_
    (case side1 => repeat (first | exact (Kd.zs HR0_1.out HB.out) | (with_reducible refine Kd.zr ?_ _) | (with_reducible refine Kd.zq ?_ _) | (with_reducible refine Kd.C_drew ?_)))
    (case side2 => exact HC0_1.out)
    rintro e w8 ⟨rfl, hb⟩
    refine ⟨_, rfl, ?_⟩
    have n0_ := zp.mk (zl (g := gb260) (o := .cells #[.int .i64 a0_0, .slice A0_1 l0_1.length c0_1] 27 (0, 0)) (by (with_reducible repeat (first | refine zf ?_ _ | refine zi ?_ | refine zg ?_ _)); exact BK260.out) hb)
    have n1_ := zp.mk (zj (by repeat (first | (with_reducible first | exact HB.out | apply zc | apply za | apply zb | refine zh ?_ GE260.out) | exact HB.out)) hb)
    clear BK260
    clear HB
    have BK260 := n0_
    have HB := n1_
    clear n0_ n1_
    (try clear hb)
    (try clear hb2)
    (try clear hk)
    (try clear hi)
    refine hK.out _ _ ⟨(ze BK260.out 0).trans rfl, (ze BK260.out 1).trans rfl⟩ (fun hHeld => ?_)
    clear hK K
    refine norm_ (a' := ?_) ?_ ?_
    rotate_left
    ·show Act.put _ (some 15) _ = _
     simp only [Act.put, List.setIfInBounds_toArray, List.set_cons_zero, List.set_cons_succ, i64_w, i32_w]
     rfl
    refine one_ (i := 7) (N := some 19) #[true, true, true, true, true, true, true, true, false, false] rfl rfl (one_of HT_.out (by kernel_rfl)) (by decide) (fun K hK => ?_)
    refine goes_ Try.func77 (by kernel_rfl) rfl #[.agg #[.int .i64 a0_0, .slice A0_1 l0_1.length c0_1], .int .i64 x5_1, .int .i64 x9_1] (by rfl) rfl rfl (by (try simp only [List.map_toArray, List.map_cons, List.map_nil]); first | done | rfl | (simp only [List.length_drop, List.length_take]; rfl)) ?_
    with_reducible refine (impl_Lat_join.calls k1 a0_0 _ _ l0_1 x5_1 x9_1 t262 _ ?side1 ?side2 A6.out).mono ?_
    (case side1 => repeat (first | exact (Kd.zs HR0_1.out HB.out) | (with_reducible refine Kd.zr ?_ _) | (with_reducible refine Kd.zq ?_ _) | (with_reducible refine Kd.C_drew ?_)))
    (case side2 => exact HC0_1.out)
    rintro e w9 ⟨rfl, hb⟩
    refine ⟨_, rfl, ?_⟩
    have n0_ := zp.mk (zl (g := gb260) (o := .cells #[.int .i64 a0_0, .slice A0_1 l0_1.length c0_1] 27 (0, 0)) (by (with_reducible repeat (first | refine zf ?_ _ | refine zi ?_ | refine zg ?_ _)); exact BK260.out) hb)
    have n1_ := zp.mk (zj (by repeat (first | (with_reducible first | exact HB.out | apply zc | apply za | apply zb | refine zh ?_ GE260.out) | exact HB.out)) hb)
    clear BK260
    clear HB
    have BK260 := n0_
    have HB := n1_
    clear n0_ n1_
    (try clear hb)
    (try clear hb2)
    (try clear hk)
    (try clear hi)
    refine hK.out _ _ ⟨(ze BK260.out 0).trans rfl, (ze BK260.out 1).trans rfl⟩ (fun hHeld => ?_)
    clear hK K
    refine norm_ (a' := ?_) ?_ ?_
    rotate_left
    ·show Act.put _ (some 19) _ = _
     simp only [Act.put, List.setIfInBounds_toArray, List.set_cons_zero, List.set_cons_succ, i64_w, i32_w]
     rfl
    refine pure_ (i := 8) (N := some 4) (v := ?_) (a' := ?_) #[true, true, true, true, true, true, true, true, true, false] rfl rfl (any_of HT_.out (by kernel_rfl)) (fun _ _ _ h => h) (Or.inl ⟨by rfl, ?_⟩) ?_ ?_
    rotate_left
    ·intro w'
     go_simp
     with_reducible rfl
    rotate_left
    ·simp only [Act.put, List.setIfInBounds_toArray, List.set_cons_zero, List.set_cons_succ, i64_w, i32_w]
     rfl
    refine pure_ (i := 9) (N := some 5) (v := ?_) (a' := ?_) #[true, true, true, true, true, true, true, true, true, true] rfl rfl (any_of HT_.out (by kernel_rfl)) (fun _ _ _ h => h) (Or.inl ⟨by rfl, ?_⟩) ?_ ?_
    rotate_left
    ·intro w'
     go_simp
     with_reducible rfl
    rotate_left
    ·simp only [Act.put, List.setIfInBounds_toArray, List.set_cons_zero, List.set_cons_succ, i64_w, i32_w]
     rfl
    refine done_ (done_of HT_.out (by kernel_rfl)) ?_
    try go_wp2
    go_roundg k1
    case measure => have := HK1.out; omega
    case rel => exact ⟨(t261), (t262), (wrap64 (x9_1 + 1)), (by first | rfl | (simp; done) | (simp [*]; done)), (by first | rfl | (simp; done) | (simp [*]; done)), (by first | rfl | (simp; done) | (simp [*]; done)), H', ⟨by have := HK1.out; omega⟩, ⟨by (with_reducible repeat (first | refine zf ?_ _ | refine zi ?_ | refine zg ?_ _)); exact BK260.out⟩, ⟨by repeat (first | (with_reducible first | exact HB.out | apply zc | apply za | apply zb | refine zh ?_ GE260.out) | exact HB.out)⟩⟩
   ·rw [if_neg c4] at H
    have c4b0 : decide (x9_1 < a0_0) = false := decide_eq_false c4
    clear c4
    simp only [Option.some.injEq, Prod.mk.injEq] at H
    obtain ⟨rfl, rfl⟩ := H
    go_wp2
    go_ret2
    exact ⟨by first | rfl | (simp [errW_none, errW_some] <;> rfl) | (simp [*, errW_none, errW_some] <;> rfl), by repeat (first | (with_reducible first | exact HB.out | apply zc | apply za | apply zb | refine zh ?_ GE260.out) | exact HB.out)⟩

/-! ### impl_Lat_top: function 108 -/
def impl_Lat_top.f (k : Nat) (a0_0 : Int) (l0_1 : List Int) : Option (Int) := (impl_Lat_ends.f k a0_0 l0_1).bind fun bt264 => (some bt264.2)
theorem impl_Lat_top.mono : ∀ a0 a1 k, LeO (impl_Lat_top.f k a0 a1) (impl_Lat_top.f (k + 1) a0 a1) := by
 intro a0 a1 k
 unfold impl_Lat_top.f
 repeat' first
   | (with_reducible exact impl_Lat_ends.mono _ _ _)
   | (with_reducible exact LeO.refl _)
   | (with_reducible exact LeO.none _)
   | (with_reducible refine LeO.ite ?_ ?_)
   | (with_reducible refine LeO.bind ?_ (fun _ => ?_))
   | exact impl_Lat_ends.mono _ _ _
   | exact LeO.none _
   | refine LeO.ite ?_ ?_
   | refine LeO.bind ?_ (fun _ => ?_)
set_option maxHeartbeats 8000000 in
set_option maxRecDepth 100000 in
theorem impl_Lat_top.calls (k : Nat) (a0_0 : Int) (A0_1 : Option Addr) (c0_1 : Nat) (l0_1 : List Int) (r : Int) (w : World) (hr0_1 : Kd.C (Kd.int .u64) w A0_1 l0_1.length l0_1) (hc0_1 : l0_1.length ≤ c0_1) (h : impl_Lat_top.f k a0_0 l0_1 = some r) :
  Calls Try.prog 108 #[.agg #[.int .i64 a0_0, .slice A0_1 l0_1.length c0_1]] w fun e w' => e = .returned (.int .i64 r) ∧ Below w.heap.size w w' := by
 have hu27 := Try.underlying27
 have HR0_1 := zp.mk hr0_1
 have HC0_1 := zp.mk hc0_1
 clear hr0_1 hc0_1
 have HB := zp.mk (Below.refl w.heap.size w)
 have H : ((impl_Lat_ends.f k a0_0 l0_1).bind fun bt264 => (some bt264.2)) = some r := h
 clear h
 replace H := Option.bind_eq_some_iff.mp H
 obtain ⟨⟨t264, t265⟩, A20, H⟩ := H
 replace H : (some t265) = some r := H
 have A2 := zp.mk A20
 clear A20
 obtain rfl := Option.some.inj H
 go_enter Try.func108, Try.ntmps108
 go_wp2_with (first | ((with_reducible refine zo (N := 1) rfl ?_); refine zm ?hg (N := 1) ?hd (cs := #[.int .i64 a0_0, .slice A0_1 l0_1.length c0_1]) (t := 27) ?hr ?_; (case hd => rfl); (case hg => rfl); (case hr => first | (go_simp; done) | (go_simp; rfl)); intro gb263 hg w3 hbox hb; have n0_ := zp.mk (zj (by repeat (first | (with_reducible first | exact HB.out | apply zc | apply za | apply zb) | exact HB.out)) hb); have n1_ := zp.mk (hbox); have n2_ := zp.mk ((by rw [hg]; exact (zk (by repeat (first | (with_reducible first | exact HB.out | apply zc | apply za | apply zb) | exact HB.out))) : w.heap.size ≤ gb263)); have n3_ := zp.mk ((by rw [hg]; exact (zk (by repeat (first | (with_reducible first | exact HB.out | apply zc | apply za | apply zb) | exact HB.out))) : w.heap.size ≤ gb263)); clear HB; have HB := n0_; have BK263 := n1_; have GW263 := n2_; have GE263 := n3_; clear n0_ n1_ n2_ n3_; clear hb hbox hg; have hcz4_0 : w3.cell? ⟨gb263, 0, none⟩ = some (.int .i64 a0_0) := (ze BK263.out 0).trans rfl; have hcz4_1 : w3.cell? ⟨gb263, 1, none⟩ = some (.slice A0_1 l0_1.length c0_1) := (ze BK263.out 1).trans rfl; have hfz4_0 := zd BK263.out 0; have hfz4_1 := zd BK263.out 1) | ((with_reducible refine zn (f := 76) rfl ?_); refine goesL_ (some 7) rfl rfl Try.func76 (by kernel_rfl) rfl #[.agg #[.int .i64 a0_0, .slice A0_1 l0_1.length c0_1]] rfl (by (try simp only [List.map_toArray, List.map_cons, List.map_nil]); first | done | rfl | (simp only [List.length_drop, List.length_take]; rfl)) ?_; (with_reducible refine (impl_Lat_ends.calls k a0_0 _ _ l0_1 t264 t265 _ ?side1 ?side2 A2.out).mono ?_); (case side1 => repeat (first | exact (Kd.zs HR0_1.out HB.out) | (with_reducible refine Kd.zr ?_ _) | (with_reducible refine Kd.zq ?_ _) | (with_reducible refine Kd.C_drew ?_))); (case side2 => exact HC0_1.out); rintro e w5 ⟨rfl, hb⟩; refine ⟨_, rfl, ?_⟩; have n0_ := zp.mk (zl (g := gb263) (o := .cells #[.int .i64 a0_0, .slice A0_1 l0_1.length c0_1] 27 (0, 0)) (by (with_reducible repeat (first | refine zf ?_ _ | refine zi ?_ | refine zg ?_ _)); exact BK263.out) hb); have n1_ := zp.mk (zj (by repeat (first | (with_reducible first | exact HB.out | apply zc | apply za | apply zb | refine zh ?_ GE263.out) | exact HB.out)) hb); clear BK263; clear HB; have BK263 := n0_; have HB := n1_; clear n0_ n1_; (try clear hb); (try clear hb2); (try clear hk); (try clear hi)))
 go_ret
 exact ⟨by first | rfl | (simp [errW_none, errW_some] <;> rfl) | (simp [*, errW_none, errW_some] <;> rfl), by repeat (first | (with_reducible first | exact HB.out | apply zc | apply za | apply zb | refine zh ?_ GE263.out) | exact HB.out)⟩

/-! ### impl_Punct_matches: function 109 -/
def impl_Punct_matches.f (a0_0 : Int) (a0_1 : Int) (a0_2 : Int) (a0_3 : Int) (a1 : Int) (a2 : Int) : Option (Bool) := if a1 = a0_0 then ((impl_Punct_front.f a0_0 a0_1 a0_2 a0_3 a2).bind fun t267 => ((impl_Punct_front.f a0_0 a0_1 a0_2 a0_3 a0_2).bind fun t268 => (some (t267 == t268)))) else (some false)
def impl_Punct_matches.T1 : Bool × List (List Nat × List Nat) := (true, [([], []), ([], []), ([1], [1]), ([0, 2], [0, 2]), ([3], [3]), ([4], [4]), ([4], [4]), ([5, 6, 4, 4], [4, 5, 6]), ([4], [4]), ([4], [4]), ([9, 4], [4, 9]), ([8, 10, 7, 4], [4, 8, 10]), ([7, 11, 4], [4, 7, 11]), ([4, 12], [4, 12]), ([13, 11, 0, 1, 2, 3, 4, 5, 6, 7, 8, 9, 10, 11, 12, 13], [13])])
def impl_Punct_matches.B1 : List Nat := [0, 0, 2, 7, 15, 31, 31, 127, 31, 31, 543, 2047, 4095, 8191, 16383]
theorem impl_Punct_matches.tab1 : rtab .any (opsOf Try.f109 1) = impl_Punct_matches.T1 := by kernel_rfl
theorem impl_Punct_matches.bits1 : waitsOk impl_Punct_matches.T1.2 impl_Punct_matches.B1 = true := by kernel_rfl
set_option maxHeartbeats 8000000 in
set_option maxRecDepth 100000 in
theorem impl_Punct_matches.calls (a0_0 : Int) (a0_1 : Int) (a0_2 : Int) (a0_3 : Int) (a1 : Int) (a2 : Int) (r : Bool) (w : World) (h : impl_Punct_matches.f a0_0 a0_1 a0_2 a0_3 a1 a2 = some r) :
  Calls Try.prog 109 #[.agg #[.int .i64 a0_0, .int .i64 a0_1, .int .i64 a0_2, .int .i64 a0_3], .int .i64 a1, .int .i64 a2] w fun e w' => e = .returned (.bool r) ∧ Below w.heap.size w w' := by
 have hu58 := Try.underlying58
 have HB := zp.mk (Below.refl w.heap.size w)
 have H : (if a1 = a0_0 then ((impl_Punct_front.f a0_0 a0_1 a0_2 a0_3 a2).bind fun t267 => ((impl_Punct_front.f a0_0 a0_1 a0_2 a0_3 a0_2).bind fun t268 => (some (t267 == t268)))) else (some false)) = some r := h
 clear h
 by_cases c4 : a1 = a0_0
 ·rw [if_pos c4] at H
  have c4b0 : (a1 == a0_0) = true := beq_iff_eq.mpr c4
  have c4b1 : (a1 != a0_0) = false := bne_eq_false_iff_eq.mpr c4
  clear c4
  replace H := Option.bind_eq_some_iff.mp H
  obtain ⟨t267, A50, H⟩ := H
  replace H : ((impl_Punct_front.f a0_0 a0_1 a0_2 a0_3 a0_2).bind fun t268 => (some (t267 == t268))) = some r := H
  have A5 := zp.mk A50
  clear A50
  replace H := Option.bind_eq_some_iff.mp H
  obtain ⟨t268, A60, H⟩ := H
  replace H : (some (t267 == t268)) = some r := H
  have A6 := zp.mk A60
  clear A60
  obtain rfl := Option.some.inj H
  go_enter Try.func109, Try.ntmps109
  try go_wp2_with (first | ((with_reducible refine zo (N := 3) rfl ?_); refine zm ?hg (N := 3) ?hd (cs := #[.int .i64 a0_0, .int .i64 a0_1, .int .i64 a0_2, .int .i64 a0_3]) (t := 58) ?hr ?_; (case hd => rfl); (case hg => rfl); (case hr => first | (go_simp; done) | (go_simp; rfl)); intro gb266 hg w7 hbox hb; have n0_ := zp.mk (zj (by repeat (first | (with_reducible first | exact HB.out | apply zc | apply za | apply zb) | exact HB.out)) hb); have n1_ := zp.mk (hbox); have n2_ := zp.mk ((by rw [hg]; exact (zk (by repeat (first | (with_reducible first | exact HB.out | apply zc | apply za | apply zb) | exact HB.out))) : w.heap.size ≤ gb266)); have n3_ := zp.mk ((by rw [hg]; exact (zk (by repeat (first | (with_reducible first | exact HB.out | apply zc | apply za | apply zb) | exact HB.out))) : w.heap.size ≤ gb266)); clear HB; have HB := n0_; have BK266 := n1_; have GW266 := n2_; have GE266 := n3_; clear n0_ n1_ n2_ n3_; clear hb hbox hg))
  have n0_ := zp.mk (zi BK266.out)
  have n1_ := zp.mk (zb HB.out)
  clear BK266
  clear HB
  have BK266 := n0_
  have HB := n1_
  clear n0_ n1_
  refine start_ (n := 15) (S := fun w' => w'.cell? ⟨gb266, 0, none⟩ = some (.int .i64 a0_0) ∧ w'.cell? ⟨gb266, 1, none⟩ = some (.int .i64 a0_1) ∧ w'.cell? ⟨gb266, 2, none⟩ = some (.int .i64 a0_2) ∧ w'.cell? ⟨gb266, 3, none⟩ = some (.int .i64 a0_3)) (ds := []) #[false, false, false, false, false, false, false, false, false, false, false, false, false, false, false] (by kernel_rfl) rfl rfl ⟨(ze BK266.out 0).trans rfl, (ze BK266.out 1).trans rfl, (ze BK266.out 2).trans rfl, (ze BK266.out 3).trans rfl⟩ (fun hHeld => ?_); refine with_tabW impl_Punct_matches.tab1 impl_Punct_matches.bits1 (fun HT_ HW_ => ?_)
  generalize w7.drew = w8 at BK266 HB hHeld ⊢
  refine pure_ (i := 0) (N := some 7) (v := ?_) (a' := ?_) #[true, false, false, false, false, false, false, false, false, false, false, false, false, false, false] rfl rfl (any_of HT_.out (by kernel_rfl)) (fun _ _ _ h => h) (Or.inl ⟨by rfl, ?_⟩) ?_ ?_
  rotate_left
  ·intro w'
   go_simp
   with_reducible rfl
  rotate_left
  ·simp only [Act.put, List.setIfInBounds_toArray, List.set_cons_zero, List.set_cons_succ, i64_w, i32_w]
   rfl
  refine pure_ (i := 1) (N := some 8) (v := ?_) (a' := ?_) #[true, true, false, false, false, false, false, false, false, false, false, false, false, false, false] rfl rfl (any_of HT_.out (by kernel_rfl)) (fun _ _ _ h => h) (Or.inl ⟨by rfl, ?_⟩) ?_ ?_
  rotate_left
  ·intro w'
   go_simp
   with_reducible rfl
  rotate_left
  ·simp only [Act.put, List.setIfInBounds_toArray, List.set_cons_zero, List.set_cons_succ, i64_w, i32_w]
   rfl
  refine take_ (i := 2) (N := some 9) (v := ?_) (a' := ?_) #[true, true, true, false, false, false, false, false, false, false, false, false, false, false, false] rfl rfl (take_ofW HT_.out HW_.out (by kernel_rfl)) (fun _ _ _ h => h) (Or.inl ⟨by rfl, ?_⟩) hHeld ?_ ?_
  rotate_left
  ·rintro w' ⟨s0, s1, s2, s3⟩
   go_simp
   with_reducible rfl
  rotate_left
  ·simp only [Act.put, List.setIfInBounds_toArray, List.set_cons_zero, List.set_cons_succ, i64_w, i32_w]
   rfl
  refine pure_ (i := 3) (N := some 10) (v := ?_) (a' := ?_) #[true, true, true, true, false, false, false, false, false, false, false, false, false, false, false] rfl rfl (any_of HT_.out (by kernel_rfl)) (fun _ _ _ h => h) (Or.inl ⟨by rfl, ?_⟩) ?_ ?_
  rotate_left
  ·intro w'
   go_simp
   with_reducible rfl
  rotate_left
  ·simp only [Act.put, List.setIfInBounds_toArray, List.set_cons_zero, List.set_cons_succ, i64_w, i32_w]
   rfl
  refine pure_ (i := 4) (N := some 11) (v := ?_) (a' := ?_) #[true, true, true, true, true, false, false, false, false, false, false, false, false, false, false] rfl rfl (any_of HT_.out (by kernel_rfl)) (fun _ _ _ h => h) (Or.inl ⟨by rfl, ?_⟩) ?_ ?_
  rotate_left
  ·intro w'
   go_simp
   with_reducible rfl
  rotate_left
  ·simp only [Act.put, List.setIfInBounds_toArray, List.set_cons_zero, List.set_cons_succ, i64_w, i32_w]
   rfl
  refine pure_ (i := 6) (N := some 13) (v := ?_) (a' := ?_) #[true, true, true, true, true, false, true, false, false, false, false, false, false, false, false] rfl rfl (any_of HT_.out (by kernel_rfl)) (fun _ _ _ h => h) (Or.inl ⟨by rfl, ?_⟩) ?_ ?_
  rotate_left
  ·intro w'
   go_simp
   with_reducible rfl
  rotate_left
  ·simp only [Act.put, List.setIfInBounds_toArray, List.set_cons_zero, List.set_cons_succ, i64_w, i32_w]
   rfl
  refine pure_ (i := 9) (N := some 16) (v := ?_) (a' := ?_) #[true, true, true, true, true, false, true, false, false, true, false, false, false, false, false] rfl rfl (any_of HT_.out (by kernel_rfl)) (fun _ _ _ h => h) (Or.inl ⟨by rfl, ?_⟩) ?_ ?_
  rotate_left
  ·intro w'
   go_simp
   with_reducible rfl
  rotate_left
  ·simp only [Act.put, List.setIfInBounds_toArray, List.set_cons_zero, List.set_cons_succ, i64_w, i32_w]
   rfl
  refine take_ (i := 5) (N := some 12) (v := ?_) (a' := ?_) #[true, true, true, true, true, true, true, false, false, true, false, false, false, false, false] rfl rfl (take_ofW HT_.out HW_.out (by kernel_rfl)) (fun _ _ _ h => h) (Or.inl ⟨by rfl, ?_⟩) hHeld ?_ ?_
  rotate_left
  ·rintro w' ⟨s0, s1, s2, s3⟩
   go_simp
   with_reducible rfl
  rotate_left
  ·simp only [Act.put, List.setIfInBounds_toArray, List.set_cons_zero, List.set_cons_succ, i64_w, i32_w]
   rfl
  refine take_ (i := 8) (N := some 15) (v := ?_) (a' := ?_) #[true, true, true, true, true, true, true, false, true, true, false, false, false, false, false] rfl rfl (take_ofW HT_.out HW_.out (by kernel_rfl)) (fun _ _ _ h => h) (Or.inl ⟨by rfl, ?_⟩) hHeld ?_ ?_
  rotate_left
  ·rintro w' ⟨s0, s1, s2, s3⟩
   go_simp
   with_reducible rfl
  rotate_left
  ·simp only [Act.put, List.setIfInBounds_toArray, List.set_cons_zero, List.set_cons_succ, i64_w, i32_w]
   rfl
  refine take_ (i := 10) (N := some 17) (v := ?_) (a' := ?_) #[true, true, true, true, true, true, true, false, true, true, true, false, false, false, false] rfl rfl (take_ofW HT_.out HW_.out (by kernel_rfl)) (fun _ _ _ h => h) (Or.inl ⟨by rfl, ?_⟩) hHeld ?_ ?_
  rotate_left
  ·rintro w' ⟨s0, s1, s2, s3⟩
   go_simp
   with_reducible rfl
  rotate_left
  ·simp only [Act.put, List.setIfInBounds_toArray, List.set_cons_zero, List.set_cons_succ, i64_w, i32_w]
   rfl
  refine one_ (i := 7) (N := some 14) #[true, true, true, true, true, true, true, true, true, true, true, false, false, false, false] rfl rfl (one_of HT_.out (by kernel_rfl)) (by decide) (fun K hK => ?_)
  refine goes_ Try.func106 (by kernel_rfl) rfl #[.agg #[.int .i64 a0_0, .int .i64 a0_1, .int .i64 a0_2, .int .i64 a0_3], .int .i64 a2] (by rfl) rfl rfl (by (try simp only [List.map_toArray, List.map_cons, List.map_nil]); first | done | rfl | (simp only [List.length_drop, List.length_take]; rfl)) ?_
  with_reducible refine (impl_Punct_front.calls a0_0 a0_1 a0_2 a0_3 a2 t267 _ A5.out).mono ?_
  rintro e w9 ⟨rfl, hb⟩
  refine ⟨_, rfl, ?_⟩
  have n0_ := zp.mk (zl (g := gb266) (o := .cells #[.int .i64 a0_0, .int .i64 a0_1, .int .i64 a0_2, .int .i64 a0_3] 58 (0, 0)) (by (with_reducible repeat (first | refine zf ?_ _ | refine zi ?_ | refine zg ?_ _)); exact BK266.out) hb)
  have n1_ := zp.mk (zj (by repeat (first | (with_reducible first | exact HB.out | apply zc | apply za | apply zb | refine zh ?_ GE266.out) | exact HB.out)) hb)
  clear BK266
  clear HB
  have BK266 := n0_
  have HB := n1_
  clear n0_ n1_
  (try clear hb)
  (try clear hb2)
  (try clear hk)
  (try clear hi)
  refine hK.out _ _ ⟨(ze BK266.out 0).trans rfl, (ze BK266.out 1).trans rfl, (ze BK266.out 2).trans rfl, (ze BK266.out 3).trans rfl⟩ (fun hHeld => ?_)
  clear hK K
  refine norm_ (a' := ?_) ?_ ?_
  rotate_left
  ·show Act.put _ (some 14) _ = _
   simp only [Act.put, List.setIfInBounds_toArray, List.set_cons_zero, List.set_cons_succ, i64_w, i32_w]
   rfl
  refine one_ (i := 11) (N := some 18) #[true, true, true, true, true, true, true, true, true, true, true, true, false, false, false] rfl rfl (one_of HT_.out (by kernel_rfl)) (by decide) (fun K hK => ?_)
  refine goes_ Try.func106 (by kernel_rfl) rfl #[.agg #[.int .i64 a0_0, .int .i64 a0_1, .int .i64 a0_2, .int .i64 a0_3], .int .i64 a0_2] (by rfl) rfl rfl (by (try simp only [List.map_toArray, List.map_cons, List.map_nil]); first | done | rfl | (simp only [List.length_drop, List.length_take]; rfl)) ?_
  with_reducible refine (impl_Punct_front.calls a0_0 a0_1 a0_2 a0_3 a0_2 t268 _ A6.out).mono ?_
  rintro e w10 ⟨rfl, hb⟩
  refine ⟨_, rfl, ?_⟩
  have n0_ := zp.mk (zl (g := gb266) (o := .cells #[.int .i64 a0_0, .int .i64 a0_1, .int .i64 a0_2, .int .i64 a0_3] 58 (0, 0)) (by (with_reducible repeat (first | refine zf ?_ _ | refine zi ?_ | refine zg ?_ _)); exact BK266.out) hb)
  have n1_ := zp.mk (zj (by repeat (first | (with_reducible first | exact HB.out | apply zc | apply za | apply zb | refine zh ?_ GE266.out) | exact HB.out)) hb)
  clear BK266
  clear HB
  have BK266 := n0_
  have HB := n1_
  clear n0_ n1_
  (try clear hb)
  (try clear hb2)
  (try clear hk)
  (try clear hi)
  refine hK.out _ _ ⟨(ze BK266.out 0).trans rfl, (ze BK266.out 1).trans rfl, (ze BK266.out 2).trans rfl, (ze BK266.out 3).trans rfl⟩ (fun hHeld => ?_)
  clear hK K
  refine norm_ (a' := ?_) ?_ ?_
  rotate_left
  ·show Act.put _ (some 18) _ = _
   simp only [Act.put, List.setIfInBounds_toArray, List.set_cons_zero, List.set_cons_succ, i64_w, i32_w]
   rfl
  refine pure_ (i := 12) (N := some 19) (v := ?_) (a' := ?_) #[true, true, true, true, true, true, true, true, true, true, true, true, true, false, false] rfl rfl (any_of HT_.out (by kernel_rfl)) (fun _ _ _ h => h) (Or.inl ⟨by rfl, ?_⟩) ?_ ?_
  rotate_left
  ·intro w'
   go_simp
   with_reducible rfl
  rotate_left
  ·simp only [Act.put, List.setIfInBounds_toArray, List.set_cons_zero, List.set_cons_succ, i64_w, i32_w]
   rfl
  refine pure_ (i := 13) (N := some 20) (v := ?_) (a' := ?_) #[true, true, true, true, true, true, true, true, true, true, true, true, true, true, false] rfl rfl (any_of HT_.out (by kernel_rfl)) (fun _ _ _ h => h) (Or.inl ⟨by rfl, ?_⟩) ?_ ?_
  rotate_left
  ·intro w'
   go_simp
   with_reducible rfl
  rotate_left
  ·simp only [Act.put, List.setIfInBounds_toArray, List.set_cons_zero, List.set_cons_succ, i64_w, i32_w]
   rfl
  refine pure_ (i := 14) (N := some 6) (v := ?_) (a' := ?_) #[true, true, true, true, true, true, true, true, true, true, true, true, true, true, true] rfl rfl (any_of HT_.out (by kernel_rfl)) (fun _ _ _ h => h) (Or.inl ⟨by rfl, ?_⟩) ?_ ?_
  rotate_left
  ·intro w'
   go_simp
   with_reducible rfl
  rotate_left
  ·simp only [Act.put, List.setIfInBounds_toArray, List.set_cons_zero, List.set_cons_succ, i64_w, i32_w]
   rfl
  refine done_ (done_of HT_.out (by kernel_rfl)) ?_
  try go_wp2
  go_ret
  exact ⟨by first | rfl | (simp [errW_none, errW_some] <;> rfl) | (simp [*, errW_none, errW_some] <;> rfl), by repeat (first | (with_reducible first | exact HB.out | apply zc | apply za | apply zb | refine zh ?_ GE266.out) | exact HB.out)⟩
 ·rw [if_neg c4] at H
  have c4b0 : (a1 == a0_0) = false := beq_eq_false_iff_ne.mpr c4
  have c4b1 : (a1 != a0_0) = true := bne_iff_ne.mpr c4
  obtain rfl := Option.some.inj H
  go_enter Try.func109, Try.ntmps109
  try go_wp2_with (first | ((with_reducible refine zo (N := 3) rfl ?_); refine zm ?hg (N := 3) ?hd (cs := #[.int .i64 a0_0, .int .i64 a0_1, .int .i64 a0_2, .int .i64 a0_3]) (t := 58) ?hr ?_; (case hd => rfl); (case hg => rfl); (case hr => first | (go_simp; done) | (go_simp; rfl)); intro gb266 hg w11 hbox hb; have n0_ := zp.mk (zj (by repeat (first | (with_reducible first | exact HB.out | apply zc | apply za | apply zb) | exact HB.out)) hb); have n1_ := zp.mk (hbox); have n2_ := zp.mk ((by rw [hg]; exact (zk (by repeat (first | (with_reducible first | exact HB.out | apply zc | apply za | apply zb) | exact HB.out))) : w.heap.size ≤ gb266)); have n3_ := zp.mk ((by rw [hg]; exact (zk (by repeat (first | (with_reducible first | exact HB.out | apply zc | apply za | apply zb) | exact HB.out))) : w.heap.size ≤ gb266)); clear HB; have HB := n0_; have BK266 := n1_; have GW266 := n2_; have GE266 := n3_; clear n0_ n1_ n2_ n3_; clear hb hbox hg))
  have n0_ := zp.mk (zi BK266.out)
  have n1_ := zp.mk (zb HB.out)
  clear BK266
  clear HB
  have BK266 := n0_
  have HB := n1_
  clear n0_ n1_
  refine start_ (n := 15) (S := fun w' => w'.cell? ⟨gb266, 0, none⟩ = some (.int .i64 a0_0) ∧ w'.cell? ⟨gb266, 1, none⟩ = some (.int .i64 a0_1) ∧ w'.cell? ⟨gb266, 2, none⟩ = some (.int .i64 a0_2) ∧ w'.cell? ⟨gb266, 3, none⟩ = some (.int .i64 a0_3)) (ds := []) #[false, false, false, false, false, false, false, false, false, false, false, false, false, false, false] (by kernel_rfl) rfl rfl ⟨(ze BK266.out 0).trans rfl, (ze BK266.out 1).trans rfl, (ze BK266.out 2).trans rfl, (ze BK266.out 3).trans rfl⟩ (fun hHeld => ?_); refine with_tabW impl_Punct_matches.tab1 impl_Punct_matches.bits1 (fun HT_ HW_ => ?_)
  generalize w11.drew = w12 at BK266 HB hHeld ⊢
  refine pure_ (i := 0) (N := some 7) (v := ?_) (a' := ?_) #[true, false, false, false, false, false, false, false, false, false, false, false, false, false, false] rfl rfl (any_of HT_.out (by kernel_rfl)) (fun _ _ _ h => h) (Or.inl ⟨by rfl, ?_⟩) ?_ ?_
  rotate_left
  ·intro w'
   go_simp
   with_reducible rfl
  rotate_left
  ·simp only [Act.put, List.setIfInBounds_toArray, List.set_cons_zero, List.set_cons_succ, i64_w, i32_w]
   rfl
  refine pure_ (i := 1) (N := some 8) (v := ?_) (a' := ?_) #[true, true, false, false, false, false, false, false, false, false, false, false, false, false, false] rfl rfl (any_of HT_.out (by kernel_rfl)) (fun _ _ _ h => h) (Or.inl ⟨by rfl, ?_⟩) ?_ ?_
  rotate_left
  ·intro w'
   go_simp
   with_reducible rfl
  rotate_left
  ·simp only [Act.put, List.setIfInBounds_toArray, List.set_cons_zero, List.set_cons_succ, i64_w, i32_w]
   rfl
  refine take_ (i := 2) (N := some 9) (v := ?_) (a' := ?_) #[true, true, true, false, false, false, false, false, false, false, false, false, false, false, false] rfl rfl (take_ofW HT_.out HW_.out (by kernel_rfl)) (fun _ _ _ h => h) (Or.inl ⟨by rfl, ?_⟩) hHeld ?_ ?_
  rotate_left
  ·rintro w' ⟨s0, s1, s2, s3⟩
   go_simp
   with_reducible rfl
  rotate_left
  ·simp only [Act.put, List.setIfInBounds_toArray, List.set_cons_zero, List.set_cons_succ, i64_w, i32_w]
   rfl
  refine pure_ (i := 3) (N := some 10) (v := ?_) (a' := ?_) #[true, true, true, true, false, false, false, false, false, false, false, false, false, false, false] rfl rfl (any_of HT_.out (by kernel_rfl)) (fun _ _ _ h => h) (Or.inl ⟨by rfl, ?_⟩) ?_ ?_
  rotate_left
  ·intro w'
   go_simp
   with_reducible rfl
  rotate_left
  ·simp only [Act.put, List.setIfInBounds_toArray, List.set_cons_zero, List.set_cons_succ, i64_w, i32_w]
   rfl
  refine pure_ (i := 4) (N := some 11) (v := ?_) (a' := ?_) #[true, true, true, true, true, false, false, false, false, false, false, false, false, false, false] rfl rfl (any_of HT_.out (by kernel_rfl)) (fun _ _ _ h => h) (Or.inl ⟨by rfl, ?_⟩) ?_ ?_
  rotate_left
  ·intro w'
   go_simp
   with_reducible rfl
  rotate_left
  ·simp only [Act.put, List.setIfInBounds_toArray, List.set_cons_zero, List.set_cons_succ, i64_w, i32_w]
   rfl
  refine pure_ (i := 5) (N := some 12) (v := undef) (a' := ?_) #[true, true, true, true, true, true, false, false, false, false, false, false, false, false, false] rfl rfl (any_of HT_.out (by kernel_rfl)) (fun _ _ _ h => h) (Or.inr ⟨by rfl, rfl⟩) ?_ ?_
  rotate_left
  ·simp only [Act.put, List.setIfInBounds_toArray, List.set_cons_zero, List.set_cons_succ, i64_w, i32_w]
   rfl
  refine pure_ (i := 6) (N := some 13) (v := undef) (a' := ?_) #[true, true, true, true, true, true, true, false, false, false, false, false, false, false, false] rfl rfl (any_of HT_.out (by kernel_rfl)) (fun _ _ _ h => h) (Or.inr ⟨by rfl, rfl⟩) ?_ ?_
  rotate_left
  ·simp only [Act.put, List.setIfInBounds_toArray, List.set_cons_zero, List.set_cons_succ, i64_w, i32_w]
   rfl
  refine pure_ (i := 7) (N := some 14) (v := undef) (a' := ?_) #[true, true, true, true, true, true, true, true, false, false, false, false, false, false, false] rfl rfl (any_of HT_.out (by kernel_rfl)) (fun _ _ _ h => h) (Or.inr ⟨by rfl, rfl⟩) ?_ ?_
  rotate_left
  ·simp only [Act.put, List.setIfInBounds_toArray, List.set_cons_zero, List.set_cons_succ, i64_w, i32_w]
   rfl
  refine pure_ (i := 8) (N := some 15) (v := undef) (a' := ?_) #[true, true, true, true, true, true, true, true, true, false, false, false, false, false, false] rfl rfl (any_of HT_.out (by kernel_rfl)) (fun _ _ _ h => h) (Or.inr ⟨by rfl, rfl⟩) ?_ ?_
  rotate_left
  ·simp only [Act.put, List.setIfInBounds_toArray, List.set_cons_zero, List.set_cons_succ, i64_w, i32_w]
   rfl
  refine pure_ (i := 9) (N := some 16) (v := undef) (a' := ?_) #[true, true, true, true, true, true, true, true, true, true, false, false, false, false, false] rfl rfl (any_of HT_.out (by kernel_rfl)) (fun _ _ _ h => h) (Or.inr ⟨by rfl, rfl⟩) ?_ ?_
  rotate_left
  ·simp only [Act.put, List.setIfInBounds_toArray, List.set_cons_zero, List.set_cons_succ, i64_w, i32_w]
   rfl
  refine pure_ (i := 10) (N := some 17) (v := undef) (a' := ?_) #[true, true, true, true, true, true, true, true, true, true, true, false, false, false, false] rfl rfl (any_of HT_.out (by kernel_rfl)) (fun _ _ _ h => h) (Or.inr ⟨by rfl, rfl⟩) ?_ ?_
  rotate_left
  ·simp only [Act.put, List.setIfInBounds_toArray, List.set_cons_zero, List.set_cons_succ, i64_w, i32_w]
   rfl
  refine pure_ (i := 11) (N := some 18) (v := undef) (a' := ?_) #[true, true, true, true, true, true, true, true, true, true, true, true, false, false, false] rfl rfl (any_of HT_.out (by kernel_rfl)) (fun _ _ _ h => h) (Or.inr ⟨by rfl, rfl⟩) ?_ ?_
  rotate_left
  ·simp only [Act.put, List.setIfInBounds_toArray, List.set_cons_zero, List.set_cons_succ, i64_w, i32_w]
   rfl
  refine pure_ (i := 12) (N := some 19) (v := undef) (a' := ?_) #[true, true, true, true, true, true, true, true, true, true, true, true, true, false, false] rfl rfl (any_of HT_.out (by kernel_rfl)) (fun _ _ _ h => h) (Or.inr ⟨by rfl, rfl⟩) ?_ ?_
  rotate_left
  ·simp only [Act.put, List.setIfInBounds_toArray, List.set_cons_zero, List.set_cons_succ, i64_w, i32_w]
   rfl
  refine pure_ (i := 13) (N := some 20) (v := ?_) (a' := ?_) #[true, true, true, true, true, true, true, true, true, true, true, true, true, true, false] rfl rfl (any_of HT_.out (by kernel_rfl)) (fun _ _ _ h => h) (Or.inl ⟨by rfl, ?_⟩) ?_ ?_
  rotate_left
  ·intro w'
   go_simp
   with_reducible rfl
  rotate_left
  ·simp only [Act.put, List.setIfInBounds_toArray, List.set_cons_zero, List.set_cons_succ, i64_w, i32_w]
   rfl
  refine pure_ (i := 14) (N := some 6) (v := ?_) (a' := ?_) #[true, true, true, true, true, true, true, true, true, true, true, true, true, true, true] rfl rfl (any_of HT_.out (by kernel_rfl)) (fun _ _ _ h => h) (Or.inl ⟨by rfl, ?_⟩) ?_ ?_
  rotate_left
  ·intro w'
   go_simp
   with_reducible rfl
  rotate_left
  ·simp only [Act.put, List.setIfInBounds_toArray, List.set_cons_zero, List.set_cons_succ, i64_w, i32_w]
   rfl
  refine done_ (done_of HT_.out (by kernel_rfl)) ?_
  try go_wp2
  go_ret
  exact ⟨by first | rfl | (simp [errW_none, errW_some] <;> rfl) | (simp [*, errW_none, errW_some] <;> rfl), by repeat (first | (with_reducible first | exact HB.out | apply zc | apply za | apply zb | refine zh ?_ GE266.out) | exact HB.out)⟩

/-! ### impl_labelFor: function 96 -/
def impl_labelFor.l0 : Nat → Int → Int → Int → Int → List (S58) → Int → Int → Option (Int)
 | 0, _, _, _, _, _, _, _ => none
 | k + 1, x2, x3, x9, x10, x15, x16, x17 => if x17 < x16 then (if 0 ≤ x17 then (if x17 < (x15.length : Int) then (if ((rd_T58 x15 x17).f1) > x10 then ((impl_Punct_matches.f ((rd_T58 x15 x17).f0) ((rd_T58 x15 x17).f1) ((rd_T58 x15 x17).f2) ((rd_T58 x15 x17).f3) x2 x3).bind fun t273 => (if t273 = true then (impl_labelFor.l0 k x2 x3 ((rd_T58 x15 x17).f3) ((rd_T58 x15 x17).f1) x15 x16 (wrap64 (x17 + 1))) else (impl_labelFor.l0 k x2 x3 x9 x10 x15 x16 (wrap64 (x17 + 1))))) else (impl_labelFor.l0 k x2 x3 x9 x10 x15 x16 (wrap64 (x17 + 1)))) else (none)) else (none)) else (some x9)
def impl_labelFor.f (k : Nat) (a0_0 : Int) (l0_1 : List Int) (l1 : List (S58)) (a2 : Int) (a3 : Int) : Option (Int) := (impl_Lat_top.f k a0_0 l0_1).bind fun t270 => (impl_labelFor.l0 k a2 a3 t270 (-1) l1 (l1.length : Int) 0)
theorem impl_labelFor.mono_l : ∀ k, (∀ y0 y1 y2 y3 y4 y5 y6, LeO (impl_labelFor.l0 k y0 y1 y2 y3 y4 y5 y6) (impl_labelFor.l0 (k + 1) y0 y1 y2 y3 y4 y5 y6))
 | 0 => fun _ _ _ _ _ _ _ r h => by simp [impl_labelFor.l0] at h
 | k + 1 => by
  have ih0 := impl_labelFor.mono_l k
  ·intro y0 y1 y2 y3 y4 y5 y6
   unfold impl_labelFor.l0
   repeat' first
   | (with_reducible exact ih0 _ _ _ _ _ _ _)
   | (with_reducible exact impl_Lat_top.mono _ _ _)
   | (with_reducible exact LeO.refl _)
   | (with_reducible exact LeO.none _)
   | (with_reducible refine LeO.ite ?_ ?_)
   | (with_reducible refine LeO.bind ?_ (fun _ => ?_))
   | exact ih0 _ _ _ _ _ _ _
   | exact impl_Lat_top.mono _ _ _
   | exact LeO.none _
   | refine LeO.ite ?_ ?_
   | refine LeO.bind ?_ (fun _ => ?_)
theorem impl_labelFor.mono : ∀ a0 a1 a2 a3 a4 k, LeO (impl_labelFor.f k a0 a1 a2 a3 a4) (impl_labelFor.f (k + 1) a0 a1 a2 a3 a4) := by
 intro a0 a1 a2 a3 a4 k
 have ih0 := impl_labelFor.mono_l k
 unfold impl_labelFor.f
 repeat' first
   | (with_reducible exact ih0 _ _ _ _ _ _ _)
   | (with_reducible exact impl_Lat_top.mono _ _ _)
   | (with_reducible exact LeO.refl _)
   | (with_reducible exact LeO.none _)
   | (with_reducible refine LeO.ite ?_ ?_)
   | (with_reducible refine LeO.bind ?_ (fun _ => ?_))
   | exact ih0 _ _ _ _ _ _ _
   | exact impl_Lat_top.mono _ _ _
   | exact LeO.none _
   | refine LeO.ite ?_ ?_
   | refine LeO.bind ?_ (fun _ => ?_)
set_option maxHeartbeats 8000000 in
set_option maxRecDepth 100000 in
theorem impl_labelFor.calls (k : Nat) (a0_0 : Int) (A0_1 : Option Addr) (c0_1 : Nat) (l0_1 : List Int) (A1 : Option Addr) (c1 : Nat) (l1 : List (S58)) (a2 : Int) (a3 : Int) (r : Int) (w : World) (hr0_1 : Kd.C (Kd.int .u64) w A0_1 l0_1.length l0_1) (hc0_1 : l0_1.length ≤ c0_1) (hr1 : Kd.C k58 w A1 l1.length l1) (hc1 : l1.length ≤ c1) (h : impl_labelFor.f k a0_0 l0_1 l1 a2 a3 = some r) :
  Calls Try.prog 96 #[.agg #[.int .i64 a0_0, .slice A0_1 l0_1.length c0_1], .slice A1 l1.length c1, .int .i64 a2, .int .i64 a3] w fun e w' => e = .returned (.int .i64 r) ∧ Below w.heap.size w w' := by
 have hu27 := Try.underlying27
 have hu58 := Try.underlying58
 have HR0_1 := zp.mk hr0_1
 have HC0_1 := zp.mk hc0_1
 clear hr0_1 hc0_1
 have HR1 := zp.mk hr1
 have HC1 := zp.mk hc1
 clear hr1 hc1
 have HB := zp.mk (Below.refl w.heap.size w)
 have H : ((impl_Lat_top.f k a0_0 l0_1).bind fun t270 => (impl_labelFor.l0 k a2 a3 t270 (-1) l1 (l1.length : Int) 0)) = some r := h
 clear h
 replace H := Option.bind_eq_some_iff.mp H
 obtain ⟨t270, A50, H⟩ := H
 replace H : (impl_labelFor.l0 k a2 a3 t270 (-1) l1 (l1.length : Int) 0) = some r := H
 have A5 := zp.mk A50
 clear A50
 have H' := zp.mk H
 clear H
 go_enter Try.func96, Try.ntmps96
 go_wp2_with (first | ((with_reducible refine zo (N := 4) rfl ?_); refine zm ?hg (N := 4) ?hd (cs := #[.int .i64 a0_0, .slice A0_1 l0_1.length c0_1]) (t := 27) ?hr ?_; (case hd => rfl); (case hg => rfl); (case hr => first | (go_simp; done) | (go_simp; rfl)); intro gb269 hg w6 hbox hb; have n0_ := zp.mk (zj (by repeat (first | (with_reducible first | exact HB.out | apply zc | apply za | apply zb) | exact HB.out)) hb); have n1_ := zp.mk (hbox); have n2_ := zp.mk ((by rw [hg]; exact (zk (by repeat (first | (with_reducible first | exact HB.out | apply zc | apply za | apply zb) | exact HB.out))) : w.heap.size ≤ gb269)); have n3_ := zp.mk ((by rw [hg]; exact (zk (by repeat (first | (with_reducible first | exact HB.out | apply zc | apply za | apply zb) | exact HB.out))) : w.heap.size ≤ gb269)); clear HB; have HB := n0_; have BK269 := n1_; have GW269 := n2_; have GE269 := n3_; clear n0_ n1_ n2_ n3_; clear hb hbox hg; have hcz7_0 : w6.cell? ⟨gb269, 0, none⟩ = some (.int .i64 a0_0) := (ze BK269.out 0).trans rfl; have hcz7_1 : w6.cell? ⟨gb269, 1, none⟩ = some (.slice A0_1 l0_1.length c0_1) := (ze BK269.out 1).trans rfl; have hfz7_0 := zd BK269.out 0; have hfz7_1 := zd BK269.out 1) | (go_at_call 108; (with_reducible refine (impl_Lat_top.calls k a0_0 _ _ l0_1 t270 _ ?side1 ?side2 A5.out).mono ?_); (case side1 => repeat (first | exact (Kd.zs HR0_1.out HB.out) | (with_reducible refine Kd.zr ?_ _) | (with_reducible refine Kd.zq ?_ _) | (with_reducible refine Kd.C_drew ?_))); (case side2 => exact HC0_1.out); rintro e w8 ⟨rfl, hb⟩; have n0_ := zp.mk (zl (g := gb269) (o := .cells #[.int .i64 a0_0, .slice A0_1 l0_1.length c0_1] 27 (0, 0)) (by (with_reducible repeat (first | refine zf ?_ _ | refine zi ?_ | refine zg ?_ _)); exact BK269.out) hb); have n1_ := zp.mk (zj (by repeat (first | (with_reducible first | exact HB.out | apply zc | apply za | apply zb | refine zh ?_ GE269.out) | exact HB.out)) hb); clear BK269; clear HB; have BK269 := n0_; have HB := n1_; clear n0_ n1_; (try clear hb); (try clear hb2); (try clear hk); (try clear hi)))
 repeat (go_quiet (first | ((with_reducible refine zo (N := 4) rfl ?_); refine zm ?hg (N := 4) ?hd (cs := #[.int .i64 a0_0, .slice A0_1 l0_1.length c0_1]) (t := 27) ?hr ?_; (case hd => rfl); (case hg => rfl); (case hr => first | (go_simp; done) | (go_simp; rfl)); intro gb269 hg w6 hbox hb; have n0_ := zp.mk (zj (by repeat (first | (with_reducible first | exact HB.out | apply zc | apply za | apply zb) | exact HB.out)) hb); have n1_ := zp.mk (hbox); have n2_ := zp.mk ((by rw [hg]; exact (zk (by repeat (first | (with_reducible first | exact HB.out | apply zc | apply za | apply zb) | exact HB.out))) : w.heap.size ≤ gb269)); have n3_ := zp.mk ((by rw [hg]; exact (zk (by repeat (first | (with_reducible first | exact HB.out | apply zc | apply za | apply zb) | exact HB.out))) : w.heap.size ≤ gb269)); clear HB; have HB := n0_; have BK269 := n1_; have GW269 := n2_; have GE269 := n3_; clear n0_ n1_ n2_ n3_; clear hb hbox hg; have hcz7_0 : w6.cell? ⟨gb269, 0, none⟩ = some (.int .i64 a0_0) := (ze BK269.out 0).trans rfl; have hcz7_1 : w6.cell? ⟨gb269, 1, none⟩ = some (.slice A0_1 l0_1.length c0_1) := (ze BK269.out 1).trans rfl; have hfz7_0 := zd BK269.out 0; have hfz7_1 := zd BK269.out 1) | (go_at_call 108; (with_reducible refine (impl_Lat_top.calls k a0_0 _ _ l0_1 t270 _ ?side1 ?side2 A5.out).mono ?_); (case side1 => repeat (first | exact (Kd.zs HR0_1.out HB.out) | (with_reducible refine Kd.zr ?_ _) | (with_reducible refine Kd.zq ?_ _) | (with_reducible refine Kd.C_drew ?_))); (case side2 => exact HC0_1.out); rintro e w8 ⟨rfl, hb⟩; have n0_ := zp.mk (zl (g := gb269) (o := .cells #[.int .i64 a0_0, .slice A0_1 l0_1.length c0_1] 27 (0, 0)) (by (with_reducible repeat (first | refine zf ?_ _ | refine zi ?_ | refine zg ?_ _)); exact BK269.out) hb); have n1_ := zp.mk (zj (by repeat (first | (with_reducible first | exact HB.out | apply zc | apply za | apply zb | refine zh ?_ GE269.out) | exact HB.out)) hb); clear BK269; clear HB; have BK269 := n0_; have HB := n1_; clear n0_ n1_; (try clear hb); (try clear hb2); (try clear hk); (try clear hi))); try go_wp2_with (first | ((with_reducible refine zo (N := 4) rfl ?_); refine zm ?hg (N := 4) ?hd (cs := #[.int .i64 a0_0, .slice A0_1 l0_1.length c0_1]) (t := 27) ?hr ?_; (case hd => rfl); (case hg => rfl); (case hr => first | (go_simp; done) | (go_simp; rfl)); intro gb269 hg w6 hbox hb; have n0_ := zp.mk (zj (by repeat (first | (with_reducible first | exact HB.out | apply zc | apply za | apply zb) | exact HB.out)) hb); have n1_ := zp.mk (hbox); have n2_ := zp.mk ((by rw [hg]; exact (zk (by repeat (first | (with_reducible first | exact HB.out | apply zc | apply za | apply zb) | exact HB.out))) : w.heap.size ≤ gb269)); have n3_ := zp.mk ((by rw [hg]; exact (zk (by repeat (first | (with_reducible first | exact HB.out | apply zc | apply za | apply zb) | exact HB.out))) : w.heap.size ≤ gb269)); clear HB; have HB := n0_; have BK269 := n1_; have GW269 := n2_; have GE269 := n3_; clear n0_ n1_ n2_ n3_; clear hb hbox hg; have hcz7_0 : w6.cell? ⟨gb269, 0, none⟩ = some (.int .i64 a0_0) := (ze BK269.out 0).trans rfl; have hcz7_1 : w6.cell? ⟨gb269, 1, none⟩ = some (.slice A0_1 l0_1.length c0_1) := (ze BK269.out 1).trans rfl; have hfz7_0 := zd BK269.out 0; have hfz7_1 := zd BK269.out 1) | (go_at_call 108; (with_reducible refine (impl_Lat_top.calls k a0_0 _ _ l0_1 t270 _ ?side1 ?side2 A5.out).mono ?_); (case side1 => repeat (first | exact (Kd.zs HR0_1.out HB.out) | (with_reducible refine Kd.zr ?_ _) | (with_reducible refine Kd.zq ?_ _) | (with_reducible refine Kd.C_drew ?_))); (case side2 => exact HC0_1.out); rintro e w8 ⟨rfl, hb⟩; have n0_ := zp.mk (zl (g := gb269) (o := .cells #[.int .i64 a0_0, .slice A0_1 l0_1.length c0_1] 27 (0, 0)) (by (with_reducible repeat (first | refine zf ?_ _ | refine zi ?_ | refine zg ?_ _)); exact BK269.out) hb); have n1_ := zp.mk (zj (by repeat (first | (with_reducible first | exact HB.out | apply zc | apply za | apply zb | refine zh ?_ GE269.out) | exact HB.out)) hb); clear BK269; clear HB; have BK269 := n0_; have HB := n1_; clear n0_ n1_; (try clear hb); (try clear hb2); (try clear hk); (try clear hi))))
 go_loopg [9, 10, 17] k (fun kq v9 v10 v17 w' => ∃ (x9_1 : Int) (x10_1 : Int) (x17_1 : Int), v9 = .int .i64 x9_1 ∧ v10 = .int .i64 x10_1 ∧ v17 = .int .i64 x17_1 ∧ zp (impl_labelFor.l0 kq a2 a3 x9_1 x10_1 l1 (l1.length : Int) x17_1 = some r) ∧ zp (kq ≤ k) ∧ zp (w'.heap[gb269]? = some (.cells #[.int .i64 a0_0, (.slice A0_1 l0_1.length c0_1)] 27 (0, 0))) ∧ zp (Below w.heap.size w w'))
 case atStart => exact ⟨(t270), ((-1)), (0), (by first | rfl | (simp; done) | (simp [*]; done)), (by first | rfl | (simp; done) | (simp [*]; done)), (by first | rfl | (simp; done) | (simp [*]; done)), H', ⟨Nat.le_refl _⟩, ⟨by (with_reducible repeat (first | refine zf ?_ _ | refine zi ?_ | refine zg ?_ _)); exact BK269.out⟩, ⟨by repeat (first | (with_reducible first | exact HB.out | apply zc | apply za | apply zb | refine zh ?_ GE269.out) | exact HB.out)⟩⟩
 case round =>
  clear H'
  try clear c1
  try clear p2
  try clear hcz7_0
  try clear hcz7_1
  try clear hfz7_0
  try clear hfz7_1
  obtain ⟨x9_1, x10_1, x17_1, rfl, rfl, rfl, HA, HK1, BK269, HB⟩ := hrel
  cases gk with
  | zero => exact absurd HA.out (by simp [impl_labelFor.l0])
  | succ k1 =>
   have H := HA.out
   clear HA
   simp only [impl_labelFor.l0] at H
   by_cases c9 : x17_1 < (l1.length : Int)
   ·rw [if_pos c9] at H
    have c9b0 : decide (x17_1 < (l1.length : Int)) = true := decide_eq_true c9
    clear c9
    by_cases c10 : 0 ≤ x17_1
    ·rw [if_pos c10] at H
     have c10b0 : decide (0 ≤ x17_1) = true := decide_eq_true c10
     clear c10
     by_cases c11 : x17_1 < (l1.length : Int)
     ·rw [if_pos c11] at H
      have c11b0 : decide (x17_1 < (l1.length : Int)) = true := decide_eq_true c11
      clear c11
      by_cases c12 : ((rd_T58 l1 x17_1).f1) > x10_1
      ·rw [if_pos c12] at H
       have c12b0 : decide (x10_1 < ((rd_T58 l1 x17_1).f1)) = true := decide_eq_true c12
       clear c12
       replace H := Option.bind_eq_some_iff.mp H
       obtain ⟨t273, A130, H⟩ := H
       replace H : (if t273 = true then (impl_labelFor.l0 k1 a2 a3 ((rd_T58 l1 x17_1).f3) ((rd_T58 l1 x17_1).f1) l1 (l1.length : Int) (wrap64 (x17_1 + 1))) else (impl_labelFor.l0 k1 a2 a3 x9_1 x10_1 l1 (l1.length : Int) (wrap64 (x17_1 + 1)))) = some r := H
       have A13 := zp.mk A130
       clear A130
       by_cases c14 : t273 = true
       ·subst c14
        have H1 : (impl_labelFor.l0 k1 a2 a3 ((rd_T58 l1 x17_1).f3) ((rd_T58 l1 x17_1).f1) l1 (l1.length : Int) (wrap64 (x17_1 + 1))) = some r := by rw [if_pos rfl] at H; exact H
        clear H
        have H := H1
        clear H1
        have H' := zp.mk H
        clear H
        have p271 : 0 ≤ (x17_1 : Int) := of_decide_eq_true (by first | (with_reducible assumption) | assumption)
        have q271 : x17_1 < (l1.length : Int) := of_decide_eq_true (by first | (with_reducible assumption) | assumption)
        obtain ⟨ad271, e271, hx271_0, hx271_1, hx271_2, hx271_3⟩ := at_T58 HR1.out x17_1 p271 q271
        cases e271
        replace hx271_0 := (HB.out.cell (World.block_lt_of_cell? w _ hx271_0)).trans hx271_0
        replace hx271_1 := (HB.out.cell (World.block_lt_of_cell? w _ hx271_1)).trans hx271_1
        replace hx271_2 := (HB.out.cell (World.block_lt_of_cell? w _ hx271_2)).trans hx271_2
        replace hx271_3 := (HB.out.cell (World.block_lt_of_cell? w _ hx271_3)).trans hx271_3
        replace p271 := eq_true p271
        replace q271 := eq_true q271
        go_wp2_with (first | ((with_reducible refine zo (N := 12) rfl ?_); refine zm ?hg (N := 12) ?hd (cs := #[.int .i64 0, .int .i64 0, .int .i64 0, .int .i64 0]) (t := 58) ?hr ?_; (case hd => rfl); (case hg => rfl); (case hr => first | (go_simp; done) | (go_simp; rfl)); intro gb272 hg w15 hbox hb; have n0_ := zp.mk (zl (g := gb269) (o := .cells #[.int .i64 a0_0, .slice A0_1 l0_1.length c0_1] 27 (0, 0)) (by (with_reducible repeat (first | refine zf ?_ _ | refine zi ?_ | refine zg ?_ _)); exact BK269.out) hb); have n1_ := zp.mk (zj (by repeat (first | (with_reducible first | exact HB.out | apply zc | apply za | apply zb | refine zh ?_ GE269.out) | exact HB.out)) hb); have n2_ := zp.mk (hbox); have n3_ := zp.mk ((by rw [hg]; exact (zk (by repeat (first | (with_reducible first | exact HB.out | apply zc | apply za | apply zb | refine zh ?_ GE269.out) | exact HB.out))) : w.heap.size ≤ gb272)); have n4_ := zp.mk ((by rw [hg]; exact (zk (by repeat (first | (with_reducible first | exact HB.out | apply zc | apply za | apply zb | refine zh ?_ GE269.out) | exact HB.out))) : w.heap.size ≤ gb272)); have n5_ := zp.mk ((by rw [hg]; exact Nat.ne_of_lt (blk_lt (g := gb269) (o := .cells #[.int .i64 a0_0, .slice A0_1 l0_1.length c0_1] 27 (0, 0)) (by (with_reducible repeat (first | refine zf ?_ _ | refine zi ?_ | refine zg ?_ _)); exact BK269.out)) : gb269 ≠ gb272)); have n6_ := zp.mk ((by rw [hg]; exact Nat.ne_of_gt (blk_lt (g := gb269) (o := .cells #[.int .i64 a0_0, .slice A0_1 l0_1.length c0_1] 27 (0, 0)) (by (with_reducible repeat (first | refine zf ?_ _ | refine zi ?_ | refine zg ?_ _)); exact BK269.out)) : gb272 ≠ gb269)); clear BK269; clear HB; have BK269 := n0_; have HB := n1_; have BK272 := n2_; have GW272 := n3_; have GE272 := n4_; have NB269_272 := n5_; have NB272_269 := n6_; clear n0_ n1_ n2_ n3_ n4_ n5_ n6_; clear hb hbox hg; have hnb16 := NB272_269.out; have hnc16 := NB269_272.out; have hcz17_0 : w15.cell? ⟨gb272, 0, none⟩ = some (.int .i64 0) := (ze BK272.out 0).trans rfl; have hcz17_1 : w15.cell? ⟨gb272, 1, none⟩ = some (.int .i64 0) := (ze BK272.out 1).trans rfl; have hcz17_2 : w15.cell? ⟨gb272, 2, none⟩ = some (.int .i64 0) := (ze BK272.out 2).trans rfl; have hcz17_3 : w15.cell? ⟨gb272, 3, none⟩ = some (.int .i64 0) := (ze BK272.out 3).trans rfl; have hfz17_0 := zd BK272.out 0; have hfz17_1 := zd BK272.out 1; have hfz17_2 := zd BK272.out 2; have hfz17_3 := zd BK272.out 3) | (go_at_call 109; (with_reducible refine (impl_Punct_matches.calls ((rd_T58 l1 x17_1).f0) ((rd_T58 l1 x17_1).f1) ((rd_T58 l1 x17_1).f2) ((rd_T58 l1 x17_1).f3) a2 a3 true _ A13.out).mono ?_); rintro e w18 ⟨rfl, hb⟩; have n0_ := zp.mk (zl (g := gb269) (o := .cells #[.int .i64 a0_0, .slice A0_1 l0_1.length c0_1] 27 (0, 0)) (by (with_reducible repeat (first | refine zf ?_ _ | refine zi ?_ | refine zg ?_ _)); refine blk_far ?_ NB269_272.out _; (with_reducible repeat (first | refine zf ?_ _ | refine zi ?_ | refine zg ?_ _)); refine blk_far ?_ NB269_272.out _; (with_reducible repeat (first | refine zf ?_ _ | refine zi ?_ | refine zg ?_ _)); refine blk_far ?_ NB269_272.out _; (with_reducible repeat (first | refine zf ?_ _ | refine zi ?_ | refine zg ?_ _)); refine blk_far ?_ NB269_272.out _; (with_reducible repeat (first | refine zf ?_ _ | refine zi ?_ | refine zg ?_ _)); exact BK269.out) hb); have n1_ := zp.mk (zl (g := gb272) (o := .cells #[.int .i64 ((rd_T58 l1 x17_1).f0), .int .i64 ((rd_T58 l1 x17_1).f1), .int .i64 ((rd_T58 l1 x17_1).f2), .int .i64 ((rd_T58 l1 x17_1).f3)] 58 (0, 0)) (by (with_reducible repeat (first | refine zf ?_ _ | refine zi ?_ | refine zg ?_ _)); refine blk_put (cs := #[.int .i64 ((rd_T58 l1 x17_1).f0), .int .i64 ((rd_T58 l1 x17_1).f1), .int .i64 ((rd_T58 l1 x17_1).f2), .int .i64 0]) ?_ 3 _ rfl; (with_reducible repeat (first | refine zf ?_ _ | refine zi ?_ | refine zg ?_ _)); refine blk_put (cs := #[.int .i64 ((rd_T58 l1 x17_1).f0), .int .i64 ((rd_T58 l1 x17_1).f1), .int .i64 0, .int .i64 0]) ?_ 2 _ rfl; (with_reducible repeat (first | refine zf ?_ _ | refine zi ?_ | refine zg ?_ _)); refine blk_put (cs := #[.int .i64 ((rd_T58 l1 x17_1).f0), .int .i64 0, .int .i64 0, .int .i64 0]) ?_ 1 _ rfl; (with_reducible repeat (first | refine zf ?_ _ | refine zi ?_ | refine zg ?_ _)); refine blk_put (cs := #[.int .i64 0, .int .i64 0, .int .i64 0, .int .i64 0]) ?_ 0 _ rfl; (with_reducible repeat (first | refine zf ?_ _ | refine zi ?_ | refine zg ?_ _)); exact BK272.out) hb); have n2_ := zp.mk (zj (by repeat (first | (with_reducible first | exact HB.out | apply zc | apply za | apply zb | refine zh ?_ GE269.out | refine zh ?_ GE272.out) | exact HB.out)) hb); clear BK269; clear BK272; clear HB; have BK269 := n0_; have BK272 := n1_; have HB := n2_; clear n0_ n1_ n2_; (try clear hb); (try clear hb2); (try clear hk); (try clear hi); have hcz19_0 : w18.cell? ⟨gb272, 0, none⟩ = some (.int .i64 ((rd_T58 l1 x17_1).f0)) := (ze BK272.out 0).trans rfl; have hcz19_1 : w18.cell? ⟨gb272, 1, none⟩ = some (.int .i64 ((rd_T58 l1 x17_1).f1)) := (ze BK272.out 1).trans rfl; have hcz19_2 : w18.cell? ⟨gb272, 2, none⟩ = some (.int .i64 ((rd_T58 l1 x17_1).f2)) := (ze BK272.out 2).trans rfl; have hcz19_3 : w18.cell? ⟨gb272, 3, none⟩ = some (.int .i64 ((rd_T58 l1 x17_1).f3)) := (ze BK272.out 3).trans rfl; have hfz19_0 := zd BK272.out 0; have hfz19_1 := zd BK272.out 1; have hfz19_2 := zd BK272.out 2; have hfz19_3 := zd BK272.out 3))
        repeat (go_quiet (first | ((with_reducible refine zo (N := 12) rfl ?_); refine zm ?hg (N := 12) ?hd (cs := #[.int .i64 0, .int .i64 0, .int .i64 0, .int .i64 0]) (t := 58) ?hr ?_; (case hd => rfl); (case hg => rfl); (case hr => first | (go_simp; done) | (go_simp; rfl)); intro gb272 hg w15 hbox hb; have n0_ := zp.mk (zl (g := gb269) (o := .cells #[.int .i64 a0_0, .slice A0_1 l0_1.length c0_1] 27 (0, 0)) (by (with_reducible repeat (first | refine zf ?_ _ | refine zi ?_ | refine zg ?_ _)); exact BK269.out) hb); have n1_ := zp.mk (zj (by repeat (first | (with_reducible first | exact HB.out | apply zc | apply za | apply zb | refine zh ?_ GE269.out) | exact HB.out)) hb); have n2_ := zp.mk (hbox); have n3_ := zp.mk ((by rw [hg]; exact (zk (by repeat (first | (with_reducible first | exact HB.out | apply zc | apply za | apply zb | refine zh ?_ GE269.out) | exact HB.out))) : w.heap.size ≤ gb272)); have n4_ := zp.mk ((by rw [hg]; exact (zk (by repeat (first | (with_reducible first | exact HB.out | apply zc | apply za | apply zb | refine zh ?_ GE269.out) | exact HB.out))) : w.heap.size ≤ gb272)); have n5_ := zp.mk ((by rw [hg]; exact Nat.ne_of_lt (blk_lt (g := gb269) (o := .cells #[.int .i64 a0_0, .slice A0_1 l0_1.length c0_1] 27 (0, 0)) (by (with_reducible repeat (first | refine zf ?_ _ | refine zi ?_ | refine zg ?_ _)); exact BK269.out)) : gb269 ≠ gb272)); have n6_ := zp.mk ((by rw [hg]; exact Nat.ne_of_gt (blk_lt (g := gb269) (o := .cells #[.int .i64 a0_0, .slice A0_1 l0_1.length c0_1] 27 (0, 0)) (by (with_reducible repeat (first | refine zf ?_ _ | refine zi ?_ | refine zg ?_ _)); exact BK269.out)) : gb272 ≠ gb269)); clear BK269; clear HB; have BK269 := n0_; have HB := n1_; have BK272 := n2_; have GW272 := n3_; have GE272 := n4_; have NB269_272 := n5_; have NB272_269 := n6_; clear n0_ n1_ n2_ n3_ n4_ n5_ n6_; clear hb hbox hg; have hnb16 := NB272_269.out; have hnc16 := NB269_272.out; have hcz17_0 : w15.cell? ⟨gb272, 0, none⟩ = some (.int .i64 0) := (ze BK272.out 0).trans rfl; have hcz17_1 : w15.cell? ⟨gb272, 1, none⟩ = some (.int .i64 0) := (ze BK272.out 1).trans rfl; have hcz17_2 : w15.cell? ⟨gb272, 2, none⟩ = some (.int .i64 0) := (ze BK272.out 2).trans rfl; have hcz17_3 : w15.cell? ⟨gb272, 3, none⟩ = some (.int .i64 0) := (ze BK272.out 3).trans rfl; have hfz17_0 := zd BK272.out 0; have hfz17_1 := zd BK272.out 1; have hfz17_2 := zd BK272.out 2; have hfz17_3 := zd BK272.out 3) | (go_at_call 109; (with_reducible refine (impl_Punct_matches.calls ((rd_T58 l1 x17_1).f0) ((rd_T58 l1 x17_1).f1) ((rd_T58 l1 x17_1).f2) ((rd_T58 l1 x17_1).f3) a2 a3 true _ A13.out).mono ?_); rintro e w18 ⟨rfl, hb⟩; have n0_ := zp.mk (zl (g := gb269) (o := .cells #[.int .i64 a0_0, .slice A0_1 l0_1.length c0_1] 27 (0, 0)) (by (with_reducible repeat (first | refine zf ?_ _ | refine zi ?_ | refine zg ?_ _)); refine blk_far ?_ NB269_272.out _; (with_reducible repeat (first | refine zf ?_ _ | refine zi ?_ | refine zg ?_ _)); refine blk_far ?_ NB269_272.out _; (with_reducible repeat (first | refine zf ?_ _ | refine zi ?_ | refine zg ?_ _)); refine blk_far ?_ NB269_272.out _; (with_reducible repeat (first | refine zf ?_ _ | refine zi ?_ | refine zg ?_ _)); refine blk_far ?_ NB269_272.out _; (with_reducible repeat (first | refine zf ?_ _ | refine zi ?_ | refine zg ?_ _)); exact BK269.out) hb); have n1_ := zp.mk (zl (g := gb272) (o := .cells #[.int .i64 ((rd_T58 l1 x17_1).f0), .int .i64 ((rd_T58 l1 x17_1).f1), .int .i64 ((rd_T58 l1 x17_1).f2), .int .i64 ((rd_T58 l1 x17_1).f3)] 58 (0, 0)) (by (with_reducible repeat (first | refine zf ?_ _ | refine zi ?_ | refine zg ?_ _)); refine blk_put (cs := #[.int .i64 ((rd_T58 l1 x17_1).f0), .int .i64 ((rd_T58 l1 x17_1).f1), .int .i64 ((rd_T58 l1 x17_1).f2), .int .i64 0]) ?_ 3 _ rfl; (with_reducible repeat (first | refine zf ?_ _ | refine zi ?_ | refine zg ?_ _)); refine blk_put (cs := #[.int .i64 ((rd_T58 l1 x17_1).f0), .int .i64 ((rd_T58 l1 x17_1).f1), .int .i64 0, .int .i64 0]) ?_ 2 _ rfl; (with_reducible repeat (first | refine zf ?_ _ | refine zi ?_ | refine zg ?_ _)); refine blk_put (cs := #[.int .i64 ((rd_T58 l1 x17_1).f0), .int .i64 0, .int .i64 0, .int .i64 0]) ?_ 1 _ rfl; (with_reducible repeat (first | refine zf ?_ _ | refine zi ?_ | refine zg ?_ _)); refine blk_put (cs := #[.int .i64 0, .int .i64 0, .int .i64 0, .int .i64 0]) ?_ 0 _ rfl; (with_reducible repeat (first | refine zf ?_ _ | refine zi ?_ | refine zg ?_ _)); exact BK272.out) hb); have n2_ := zp.mk (zj (by repeat (first | (with_reducible first | exact HB.out | apply zc | apply za | apply zb | refine zh ?_ GE269.out | refine zh ?_ GE272.out) | exact HB.out)) hb); clear BK269; clear BK272; clear HB; have BK269 := n0_; have BK272 := n1_; have HB := n2_; clear n0_ n1_ n2_; (try clear hb); (try clear hb2); (try clear hk); (try clear hi); have hcz19_0 : w18.cell? ⟨gb272, 0, none⟩ = some (.int .i64 ((rd_T58 l1 x17_1).f0)) := (ze BK272.out 0).trans rfl; have hcz19_1 : w18.cell? ⟨gb272, 1, none⟩ = some (.int .i64 ((rd_T58 l1 x17_1).f1)) := (ze BK272.out 1).trans rfl; have hcz19_2 : w18.cell? ⟨gb272, 2, none⟩ = some (.int .i64 ((rd_T58 l1 x17_1).f2)) := (ze BK272.out 2).trans rfl; have hcz19_3 : w18.cell? ⟨gb272, 3, none⟩ = some (.int .i64 ((rd_T58 l1 x17_1).f3)) := (ze BK272.out 3).trans rfl; have hfz19_0 := zd BK272.out 0; have hfz19_1 := zd BK272.out 1; have hfz19_2 := zd BK272.out 2; have hfz19_3 := zd BK272.out 3)); try go_wp2_with (first | ((with_reducible refine zo (N := 12) rfl ?_); refine zm ?hg (N := 12) ?hd (cs := #[.int .i64 0, .int .i64 0, .int .i64 0, .int .i64 0]) (t := 58) ?hr ?_; (case hd => rfl); (case hg => rfl); (case hr => first | (go_simp; done) | (go_simp; rfl)); intro gb272 hg w15 hbox hb; have n0_ := zp.mk (zl (g := gb269) (o := .cells #[.int .i64 a0_0, .slice A0_1 l0_1.length c0_1] 27 (0, 0)) (by (with_reducible repeat (first | refine zf ?_ _ | refine zi ?_ | refine zg ?_ _)); exact BK269.out) hb); have n1_ := zp.mk (zj (by repeat (first | (with_reducible first | exact HB.out | apply zc | apply za | apply zb | refine zh ?_ GE269.out) | exact HB.out)) hb); have n2_ := zp.mk (hbox); have n3_ := zp.mk ((by rw [hg]; exact (zk (by repeat (first | (with_reducible first | exact HB.out | apply zc | apply za | apply zb | refine zh ?_ GE269.out) | exact HB.out))) : w.heap.size ≤ gb272)); have n4_ := zp.mk ((by rw [hg]; exact (zk (by repeat (first | (with_reducible first | exact HB.out | apply zc | apply za | apply zb | refine zh ?_ GE269.out) | exact HB.out))) : w.heap.size ≤ gb272)); have n5_ := zp.mk ((by rw [hg]; exact Nat.ne_of_lt (blk_lt (g := gb269) (o := .cells #[.int .i64 a0_0, .slice A0_1 l0_1.length c0_1] 27 (0, 0)) (by (with_reducible repeat (first | refine zf ?_ _ | refine zi ?_ | refine zg ?_ _)); exact BK269.out)) : gb269 ≠ gb272)); have n6_ := zp.mk ((by rw [hg]; exact Nat.ne_of_gt (blk_lt (g := gb269) (o := .cells #[.int .i64 a0_0, .slice A0_1 l0_1.length c0_1] 27 (0, 0)) (by (with_reducible repeat (first | refine zf ?_ _ | refine zi ?_ | refine zg ?_ _)); exact BK269.out)) : gb272 ≠ gb269)); clear BK269; clear HB; have BK269 := n0_; have HB := n1_; have BK272 := n2_; have GW272 := n3_; have GE272 := n4_; have NB269_272 := n5_; have NB272_269 := n6_; clear n0_ n1_ n2_ n3_ n4_ n5_ n6_; clear hb hbox hg; have hnb16 := NB272_269.out; have hnc16 := NB269_272.out; have hcz17_0 : w15.cell? ⟨gb272, 0, none⟩ = some (.int .i64 0) := (ze BK272.out 0).trans rfl; have hcz17_1 : w15.cell? ⟨gb272, 1, none⟩ = some (.int .i64 0) := (ze BK272.out 1).trans rfl; have hcz17_2 : w15.cell? ⟨gb272, 2, none⟩ = some (.int .i64 0) := (ze BK272.out 2).trans rfl; have hcz17_3 : w15.cell? ⟨gb272, 3, none⟩ = some (.int .i64 0) := (ze BK272.out 3).trans rfl; have hfz17_0 := zd BK272.out 0; have hfz17_1 := zd BK272.out 1; have hfz17_2 := zd BK272.out 2; have hfz17_3 := zd BK272.out 3) | (go_at_call 109; (with_reducible refine (impl_Punct_matches.calls ((rd_T58 l1 x17_1).f0) ((rd_T58 l1 x17_1).f1) ((rd_T58 l1 x17_1).f2) ((rd_T58 l1 x17_1).f3) a2 a3 true _ A13.out).mono ?_); rintro e w18 ⟨rfl, hb⟩; have n0_ := zp.mk (zl (g := gb269) (o := .cells #[.int .i64 a0_0, .slice A0_1 l0_1.length c0_1] 27 (0, 0)) (by (with_reducible repeat (first | refine zf ?_ _ | refine zi ?_ | refine zg ?_ _)); refine blk_far ?_ NB269_272.out _; (with_reducible repeat (first | refine zf ?_ _ | refine zi ?_ | refine zg ?_ _)); refine blk_far ?_ NB269_272.out _; (with_reducible repeat (first | refine zf ?_ _ | refine zi ?_ | refine zg ?_ _)); refine blk_far ?_ NB269_272.out _; (with_reducible repeat (first | refine zf ?_ _ | refine zi ?_ | refine zg ?_ _)); refine blk_far ?_ NB269_272.out _; (with_reducible repeat (first | refine zf ?_ _ | refine zi ?_ | refine zg ?_ _)); exact BK269.out) hb); have n1_ := zp.mk (zl (g := gb272) (o := .cells #[.int .i64 ((rd_T58 l1 x17_1).f0), .int .i64 ((rd_T58 l1 x17_1).f1), .int .i64 ((rd_T58 l1 x17_1).f2), .int .i64 ((rd_T58 l1 x17_1).f3)] 58 (0, 0)) (by (with_reducible repeat (first | refine zf ?_ _ | refine zi ?_ | refine zg ?_ _)); refine blk_put (cs := #[.int .i64 ((rd_T58 l1 x17_1).f0), .int .i64 ((rd_T58 l1 x17_1).f1), .int .i64 ((rd_T58 l1 x17_1).f2), .int .i64 0]) ?_ 3 _ rfl; (with_reducible repeat (first | refine zf ?_ _ | refine zi ?_ | refine zg ?_ _)); refine blk_put (cs := #[.int .i64 ((rd_T58 l1 x17_1).f0), .int .i64 ((rd_T58 l1 x17_1).f1), .int .i64 0, .int .i64 0]) ?_ 2 _ rfl; (with_reducible repeat (first | refine zf ?_ _ | refine zi ?_ | refine zg ?_ _)); refine blk_put (cs := #[.int .i64 ((rd_T58 l1 x17_1).f0), .int .i64 0, .int .i64 0, .int .i64 0]) ?_ 1 _ rfl; (with_reducible repeat (first | refine zf ?_ _ | refine zi ?_ | refine zg ?_ _)); refine blk_put (cs := #[.int .i64 0, .int .i64 0, .int .i64 0, .int .i64 0]) ?_ 0 _ rfl; (with_reducible repeat (first | refine zf ?_ _ | refine zi ?_ | refine zg ?_ _)); exact BK272.out) hb); have n2_ := zp.mk (zj (by repeat (first | (with_reducible first | exact HB.out | apply zc | apply za | apply zb | refine zh ?_ GE269.out | refine zh ?_ GE272.out) | exact HB.out)) hb); clear BK269; clear BK272; clear HB; have BK269 := n0_; have BK272 := n1_; have HB := n2_; clear n0_ n1_ n2_; (try clear hb); (try clear hb2); (try clear hk); (try clear hi); have hcz19_0 : w18.cell? ⟨gb272, 0, none⟩ = some (.int .i64 ((rd_T58 l1 x17_1).f0)) := (ze BK272.out 0).trans rfl; have hcz19_1 : w18.cell? ⟨gb272, 1, none⟩ = some (.int .i64 ((rd_T58 l1 x17_1).f1)) := (ze BK272.out 1).trans rfl; have hcz19_2 : w18.cell? ⟨gb272, 2, none⟩ = some (.int .i64 ((rd_T58 l1 x17_1).f2)) := (ze BK272.out 2).trans rfl; have hcz19_3 : w18.cell? ⟨gb272, 3, none⟩ = some (.int .i64 ((rd_T58 l1 x17_1).f3)) := (ze BK272.out 3).trans rfl; have hfz19_0 := zd BK272.out 0; have hfz19_1 := zd BK272.out 1; have hfz19_2 := zd BK272.out 2; have hfz19_3 := zd BK272.out 3)))
        go_roundg k1
        case measure => have := HK1.out; omega
        case rel => exact ⟨((rd_T58 l1 x17_1).f3), ((rd_T58 l1 x17_1).f1), (wrap64 (x17_1 + 1)), (by first | rfl | (simp; done) | (simp [*]; done)), (by first | rfl | (simp; done) | (simp [*]; done)), (by first | rfl | (simp; done) | (simp [*]; done)), H', ⟨by have := HK1.out; omega⟩, ⟨by (with_reducible repeat (first | refine zf ?_ _ | refine zi ?_ | refine zg ?_ _)); exact BK269.out⟩, ⟨by repeat (first | (with_reducible first | exact HB.out | apply zc | apply za | apply zb | refine zh ?_ GE269.out | refine zh ?_ GE272.out) | exact HB.out)⟩⟩
       ·replace c14 := Bool.eq_false_iff.mpr c14
        subst c14
        have H1 : (impl_labelFor.l0 k1 a2 a3 x9_1 x10_1 l1 (l1.length : Int) (wrap64 (x17_1 + 1))) = some r := by rw [if_neg (show ¬ (false = true) by decide)] at H; exact H
        clear H
        have H := H1
        clear H1
        have H' := zp.mk H
        clear H
        have p271 : 0 ≤ (x17_1 : Int) := of_decide_eq_true (by first | (with_reducible assumption) | assumption)
        have q271 : x17_1 < (l1.length : Int) := of_decide_eq_true (by first | (with_reducible assumption) | assumption)
        obtain ⟨ad271, e271, hx271_0, hx271_1, hx271_2, hx271_3⟩ := at_T58 HR1.out x17_1 p271 q271
        cases e271
        replace hx271_0 := (HB.out.cell (World.block_lt_of_cell? w _ hx271_0)).trans hx271_0
        replace hx271_1 := (HB.out.cell (World.block_lt_of_cell? w _ hx271_1)).trans hx271_1
        replace hx271_2 := (HB.out.cell (World.block_lt_of_cell? w _ hx271_2)).trans hx271_2
        replace hx271_3 := (HB.out.cell (World.block_lt_of_cell? w _ hx271_3)).trans hx271_3
        replace p271 := eq_true p271
        replace q271 := eq_true q271
        go_wp2_with (first | ((with_reducible refine zo (N := 12) rfl ?_); refine zm ?hg (N := 12) ?hd (cs := #[.int .i64 0, .int .i64 0, .int .i64 0, .int .i64 0]) (t := 58) ?hr ?_; (case hd => rfl); (case hg => rfl); (case hr => first | (go_simp; done) | (go_simp; rfl)); intro gb272 hg w20 hbox hb; have n0_ := zp.mk (zl (g := gb269) (o := .cells #[.int .i64 a0_0, .slice A0_1 l0_1.length c0_1] 27 (0, 0)) (by (with_reducible repeat (first | refine zf ?_ _ | refine zi ?_ | refine zg ?_ _)); exact BK269.out) hb); have n1_ := zp.mk (zj (by repeat (first | (with_reducible first | exact HB.out | apply zc | apply za | apply zb | refine zh ?_ GE269.out) | exact HB.out)) hb); have n2_ := zp.mk (hbox); have n3_ := zp.mk ((by rw [hg]; exact (zk (by repeat (first | (with_reducible first | exact HB.out | apply zc | apply za | apply zb | refine zh ?_ GE269.out) | exact HB.out))) : w.heap.size ≤ gb272)); have n4_ := zp.mk ((by rw [hg]; exact (zk (by repeat (first | (with_reducible first | exact HB.out | apply zc | apply za | apply zb | refine zh ?_ GE269.out) | exact HB.out))) : w.heap.size ≤ gb272)); have n5_ := zp.mk ((by rw [hg]; exact Nat.ne_of_lt (blk_lt (g := gb269) (o := .cells #[.int .i64 a0_0, .slice A0_1 l0_1.length c0_1] 27 (0, 0)) (by (with_reducible repeat (first | refine zf ?_ _ | refine zi ?_ | refine zg ?_ _)); exact BK269.out)) : gb269 ≠ gb272)); have n6_ := zp.mk ((by rw [hg]; exact Nat.ne_of_gt (blk_lt (g := gb269) (o := .cells #[.int .i64 a0_0, .slice A0_1 l0_1.length c0_1] 27 (0, 0)) (by (with_reducible repeat (first | refine zf ?_ _ | refine zi ?_ | refine zg ?_ _)); exact BK269.out)) : gb272 ≠ gb269)); clear BK269; clear HB; have BK269 := n0_; have HB := n1_; have BK272 := n2_; have GW272 := n3_; have GE272 := n4_; have NB269_272 := n5_; have NB272_269 := n6_; clear n0_ n1_ n2_ n3_ n4_ n5_ n6_; clear hb hbox hg; have hnb21 := NB272_269.out; have hnc21 := NB269_272.out; have hcz22_0 : w20.cell? ⟨gb272, 0, none⟩ = some (.int .i64 0) := (ze BK272.out 0).trans rfl; have hcz22_1 : w20.cell? ⟨gb272, 1, none⟩ = some (.int .i64 0) := (ze BK272.out 1).trans rfl; have hcz22_2 : w20.cell? ⟨gb272, 2, none⟩ = some (.int .i64 0) := (ze BK272.out 2).trans rfl; have hcz22_3 : w20.cell? ⟨gb272, 3, none⟩ = some (.int .i64 0) := (ze BK272.out 3).trans rfl; have hfz22_0 := zd BK272.out 0; have hfz22_1 := zd BK272.out 1; have hfz22_2 := zd BK272.out 2; have hfz22_3 := zd BK272.out 3) | (go_at_call 109; (with_reducible refine (impl_Punct_matches.calls ((rd_T58 l1 x17_1).f0) ((rd_T58 l1 x17_1).f1) ((rd_T58 l1 x17_1).f2) ((rd_T58 l1 x17_1).f3) a2 a3 false _ A13.out).mono ?_); rintro e w23 ⟨rfl, hb⟩; have n0_ := zp.mk (zl (g := gb269) (o := .cells #[.int .i64 a0_0, .slice A0_1 l0_1.length c0_1] 27 (0, 0)) (by (with_reducible repeat (first | refine zf ?_ _ | refine zi ?_ | refine zg ?_ _)); refine blk_far ?_ NB269_272.out _; (with_reducible repeat (first | refine zf ?_ _ | refine zi ?_ | refine zg ?_ _)); refine blk_far ?_ NB269_272.out _; (with_reducible repeat (first | refine zf ?_ _ | refine zi ?_ | refine zg ?_ _)); refine blk_far ?_ NB269_272.out _; (with_reducible repeat (first | refine zf ?_ _ | refine zi ?_ | refine zg ?_ _)); refine blk_far ?_ NB269_272.out _; (with_reducible repeat (first | refine zf ?_ _ | refine zi ?_ | refine zg ?_ _)); exact BK269.out) hb); have n1_ := zp.mk (zl (g := gb272) (o := .cells #[.int .i64 ((rd_T58 l1 x17_1).f0), .int .i64 ((rd_T58 l1 x17_1).f1), .int .i64 ((rd_T58 l1 x17_1).f2), .int .i64 ((rd_T58 l1 x17_1).f3)] 58 (0, 0)) (by (with_reducible repeat (first | refine zf ?_ _ | refine zi ?_ | refine zg ?_ _)); refine blk_put (cs := #[.int .i64 ((rd_T58 l1 x17_1).f0), .int .i64 ((rd_T58 l1 x17_1).f1), .int .i64 ((rd_T58 l1 x17_1).f2), .int .i64 0]) ?_ 3 _ rfl; (with_reducible repeat (first | refine zf ?_ _ | refine zi ?_ | refine zg ?_ _)); refine blk_put (cs := #[.int .i64 ((rd_T58 l1 x17_1).f0), .int .i64 ((rd_T58 l1 x17_1).f1), .int .i64 0, .int .i64 0]) ?_ 2 _ rfl; (with_reducible repeat (first | refine zf ?_ _ | refine zi ?_ | refine zg ?_ _)); refine blk_put (cs := #[.int .i64 ((rd_T58 l1 x17_1).f0), .int .i64 0, .int .i64 0, .int .i64 0]) ?_ 1 _ rfl; (with_reducible repeat (first | refine zf ?_ _ | refine zi ?_ | refine zg ?_ _)); refine blk_put (cs := #[.int .i64 0, .int .i64 0, .int .i64 0, .int .i64 0]) ?_ 0 _ rfl; (with_reducible repeat (first | refine zf ?_ _ | refine zi ?_ | refine zg ?_ _)); exact BK272.out) hb); have n2_ := zp.mk (zj (by repeat (first | (with_reducible first | exact HB.out | apply zc | apply za | apply zb | refine zh ?_ GE269.out | refine zh ?_ GE272.out) | exact HB.out)) hb); clear BK269; clear BK272; clear HB; have BK269 := n0_; have BK272 := n1_; have HB := n2_; clear n0_ n1_ n2_; (try clear hb); (try clear hb2); (try clear hk); (try clear hi)))
        repeat (go_quiet (first | ((with_reducible refine zo (N := 12) rfl ?_); refine zm ?hg (N := 12) ?hd (cs := #[.int .i64 0, .int .i64 0, .int .i64 0, .int .i64 0]) (t := 58) ?hr ?_; (case hd => rfl); (case hg => rfl); (case hr => first | (go_simp; done) | (go_simp; rfl)); intro gb272 hg w20 hbox hb; have n0_ := zp.mk (zl (g := gb269) (o := .cells #[.int .i64 a0_0, .slice A0_1 l0_1.length c0_1] 27 (0, 0)) (by (with_reducible repeat (first | refine zf ?_ _ | refine zi ?_ | refine zg ?_ _)); exact BK269.out) hb); have n1_ := zp.mk (zj (by repeat (first | (with_reducible first | exact HB.out | apply zc | apply za | apply zb | refine zh ?_ GE269.out) | exact HB.out)) hb); have n2_ := zp.mk (hbox); have n3_ := zp.mk ((by rw [hg]; exact (zk (by repeat (first | (with_reducible first | exact HB.out | apply zc | apply za | apply zb | refine zh ?_ GE269.out) | exact HB.out))) : w.heap.size ≤ gb272)); have n4_ := zp.mk ((by rw [hg]; exact (zk (by repeat (first | (with_reducible first | exact HB.out | apply zc | apply za | apply zb | refine zh ?_ GE269.out) | exact HB.out))) : w.heap.size ≤ gb272)); have n5_ := zp.mk ((by rw [hg]; exact Nat.ne_of_lt (blk_lt (g := gb269) (o := .cells #[.int .i64 a0_0, .slice A0_1 l0_1.length c0_1] 27 (0, 0)) (by (with_reducible repeat (first | refine zf ?_ _ | refine zi ?_ | refine zg ?_ _)); exact BK269.out)) : gb269 ≠ gb272)); have n6_ := zp.mk ((by rw [hg]; exact Nat.ne_of_gt (blk_lt (g := gb269) (o := .cells #[.int .i64 a0_0, .slice A0_1 l0_1.length c0_1] 27 (0, 0)) (by (with_reducible repeat (first | refine zf ?_ _ | refine zi ?_ | refine zg ?_ _)); exact BK269.out)) : gb272 ≠ gb269)); clear BK269; clear HB; have BK269 := n0_; have HB := n1_; have BK272 := n2_; have GW272 := n3_; have GE272 := n4_; have NB269_272 := n5_; have NB272_269 := n6_; clear n0_ n1_ n2_ n3_ n4_ n5_ n6_; clear hb hbox hg; have hnb21 := NB272_269.out; have hnc21 := NB269_272.out; have hcz22_0 : w20.cell? ⟨gb272, 0, none⟩ = some (.int .i64 0) := (ze BK272.out 0).trans rfl; have hcz22_1 : w20.cell? ⟨gb272, 1, none⟩ = some (.int .i64 0) := (ze BK272.out 1).trans rfl; have hcz22_2 : w20.cell? ⟨gb272, 2, none⟩ = some (.int .i64 0) := (ze BK272.out 2).trans rfl; have hcz22_3 : w20.cell? ⟨gb272, 3, none⟩ = some (.int .i64 0) := (ze BK272.out 3).trans rfl; have hfz22_0 := zd BK272.out 0; have hfz22_1 := zd BK272.out 1; have hfz22_2 := zd BK272.out 2; have hfz22_3 := zd BK272.out 3) | (go_at_call 109; (with_reducible refine (impl_Punct_matches.calls ((rd_T58 l1 x17_1).f0) ((rd_T58 l1 x17_1).f1) ((rd_T58 l1 x17_1).f2) ((rd_T58 l1 x17_1).f3) a2 a3 false _ A13.out).mono ?_); rintro e w23 ⟨rfl, hb⟩; have n0_ := zp.mk (zl (g := gb269) (o := .cells #[.int .i64 a0_0, .slice A0_1 l0_1.length c0_1] 27 (0, 0)) (by (with_reducible repeat (first | refine zf ?_ _ | refine zi ?_ | refine zg ?_ _)); refine blk_far ?_ NB269_272.out _; (with_reducible repeat (first | refine zf ?_ _ | refine zi ?_ | refine zg ?_ _)); refine blk_far ?_ NB269_272.out _; (with_reducible repeat (first | refine zf ?_ _ | refine zi ?_ | refine zg ?_ _)); refine blk_far ?_ NB269_272.out _; (with_reducible repeat (first | refine zf ?_ _ | refine zi ?_ | refine zg ?_ _)); refine blk_far ?_ NB269_272.out _; (with_reducible repeat (first | refine zf ?_ _ | refine zi ?_ | refine zg ?_ _)); exact BK269.out) hb); have n1_ := zp.mk (zl (g := gb272) (o := .cells #[.int .i64 ((rd_T58 l1 x17_1).f0), .int .i64 ((rd_T58 l1 x17_1).f1), .int .i64 ((rd_T58 l1 x17_1).f2), .int .i64 ((rd_T58 l1 x17_1).f3)] 58 (0, 0)) (by (with_reducible repeat (first | refine zf ?_ _ | refine zi ?_ | refine zg ?_ _)); refine blk_put (cs := #[.int .i64 ((rd_T58 l1 x17_1).f0), .int .i64 ((rd_T58 l1 x17_1).f1), .int .i64 ((rd_T58 l1 x17_1).f2), .int .i64 0]) ?_ 3 _ rfl; (with_reducible repeat (first | refine zf ?_ _ | refine zi ?_ | refine zg ?_ _)); refine blk_put (cs := #[.int .i64 ((rd_T58 l1 x17_1).f0), .int .i64 ((rd_T58 l1 x17_1).f1), .int .i64 0, .int .i64 0]) ?_ 2 _ rfl; (with_reducible repeat (first | refine zf ?_ _ | refine zi ?_ | refine zg ?_ _)); refine blk_put (cs := #[.int .i64 ((rd_T58 l1 x17_1).f0), .int .i64 0, .int .i64 0, .int .i64 0]) ?_ 1 _ rfl; (with_reducible repeat (first | refine zf ?_ _ | refine zi ?_ | refine zg ?_ _)); refine blk_put (cs := #[.int .i64 0, .int .i64 0, .int .i64 0, .int .i64 0]) ?_ 0 _ rfl; (with_reducible repeat (first | refine zf ?_ _ | refine zi ?_ | refine zg ?_ _)); exact BK272.out) hb); have n2_ := zp.mk (zj (by repeat (first | (with_reducible first | exact HB.out | apply zc | apply za | apply zb | refine zh ?_ GE269.out | refine zh ?_ GE272.out) | exact HB.out)) hb); clear BK269; clear BK272; clear HB; have BK269 := n0_; have BK272 := n1_; have HB := n2_; clear n0_ n1_ n2_; (try clear hb); (try clear hb2); (try clear hk); (try clear hi))); try go_wp2_with (first | ((with_reducible refine zo (N := 12) rfl ?_); refine zm ?hg (N := 12) ?hd (cs := #[.int .i64 0, .int .i64 0, .int .i64 0, .int .i64 0]) (t := 58) ?hr ?_; (case hd => rfl); (case hg => rfl); (case hr => first | (go_simp; done) | (go_simp; rfl)); intro gb272 hg w20 hbox hb; have n0_ := zp.mk (zl (g := gb269) (o := .cells #[.int .i64 a0_0, .slice A0_1 l0_1.length c0_1] 27 (0, 0)) (by (with_reducible repeat (first | refine zf ?_ _ | refine zi ?_ | refine zg ?_ _)); exact BK269.out) hb); have n1_ := zp.mk (zj (by repeat (first | (with_reducible first | exact HB.out | apply zc | apply za | apply zb | refine zh ?_ GE269.out) | exact HB.out)) hb); have n2_ := zp.mk (hbox); have n3_ := zp.mk ((by rw [hg]; exact (zk (by repeat (first | (with_reducible first | exact HB.out | apply zc | apply za | apply zb | refine zh ?_ GE269.out) | exact HB.out))) : w.heap.size ≤ gb272)); have n4_ := zp.mk ((by rw [hg]; exact (zk (by repeat (first | (with_reducible first | exact HB.out | apply zc | apply za | apply zb | refine zh ?_ GE269.out) | exact HB.out))) : w.heap.size ≤ gb272)); have n5_ := zp.mk ((by rw [hg]; exact Nat.ne_of_lt (blk_lt (g := gb269) (o := .cells #[.int .i64 a0_0, .slice A0_1 l0_1.length c0_1] 27 (0, 0)) (by (with_reducible repeat (first | refine zf ?_ _ | refine zi ?_ | refine zg ?_ _)); exact BK269.out)) : gb269 ≠ gb272)); have n6_ := zp.mk ((by rw [hg]; exact Nat.ne_of_gt (blk_lt (g := gb269) (o := .cells #[.int .i64 a0_0, .slice A0_1 l0_1.length c0_1] 27 (0, 0)) (by (with_reducible repeat (first | refine zf ?_ _ | refine zi ?_ | refine zg ?_ _)); exact BK269.out)) : gb272 ≠ gb269)); clear BK269; clear HB; have BK269 := n0_; have HB := n1_; have BK272 := n2_; have GW272 := n3_; have GE272 := n4_; have NB269_272 := n5_; have NB272_269 := n6_; clear n0_ n1_ n2_ n3_ n4_ n5_ n6_; clear hb hbox hg; have hnb21 := NB272_269.out; have hnc21 := NB269_272.out; have hcz22_0 : w20.cell? ⟨gb272, 0, none⟩ = some (.int .i64 0) := (ze BK272.out 0).trans rfl; have hcz22_1 : w20.cell? ⟨gb272, 1, none⟩ = some (.int .i64 0) := (ze BK272.out 1).trans rfl; have hcz22_2 : w20.cell? ⟨gb272, 2, none⟩ = some (.int .i64 0) := (ze BK272.out 2).trans rfl; have hcz22_3 : w20.cell? ⟨gb272, 3, none⟩ = some (.int .i64 0) := (ze BK272.out 3).trans rfl; have hfz22_0 := zd BK272.out 0; have hfz22_1 := zd BK272.out 1; have hfz22_2 := zd BK272.out 2; have hfz22_3 := zd BK272.out 3) | (go_at_call 109; (with_reducible refine (impl_Punct_matches.calls ((rd_T58 l1 x17_1).f0) ((rd_T58 l1 x17_1).f1) ((rd_T58 l1 x17_1).f2) ((rd_T58 l1 x17_1).f3) a2 a3 false _ A13.out).mono ?_); rintro e w23 ⟨rfl, hb⟩; have n0_ := zp.mk (zl (g := gb269) (o := .cells #[.int .i64 a0_0, .slice A0_1 l0_1.length c0_1] 27 (0, 0)) (by (with_reducible repeat (first | refine zf ?_ _ | refine zi ?_ | refine zg ?_ _)); refine blk_far ?_ NB269_272.out _; (with_reducible repeat (first | refine zf ?_ _ | refine zi ?_ | refine zg ?_ _)); refine blk_far ?_ NB269_272.out _; (with_reducible repeat (first | refine zf ?_ _ | refine zi ?_ | refine zg ?_ _)); refine blk_far ?_ NB269_272.out _; (with_reducible repeat (first | refine zf ?_ _ | refine zi ?_ | refine zg ?_ _)); refine blk_far ?_ NB269_272.out _; (with_reducible repeat (first | refine zf ?_ _ | refine zi ?_ | refine zg ?_ _)); exact BK269.out) hb); have n1_ := zp.mk (zl (g := gb272) (o := .cells #[.int .i64 ((rd_T58 l1 x17_1).f0), .int .i64 ((rd_T58 l1 x17_1).f1), .int .i64 ((rd_T58 l1 x17_1).f2), .int .i64 ((rd_T58 l1 x17_1).f3)] 58 (0, 0)) (by (with_reducible repeat (first | refine zf ?_ _ | refine zi ?_ | refine zg ?_ _)); refine blk_put (cs := #[.int .i64 ((rd_T58 l1 x17_1).f0), .int .i64 ((rd_T58 l1 x17_1).f1), .int .i64 ((rd_T58 l1 x17_1).f2), .int .i64 0]) ?_ 3 _ rfl; (with_reducible repeat (first | refine zf ?_ _ | refine zi ?_ | refine zg ?_ _)); refine blk_put (cs := #[.int .i64 ((rd_T58 l1 x17_1).f0), .int .i64 ((rd_T58 l1 x17_1).f1), .int .i64 0, .int .i64 0]) ?_ 2 _ rfl; (with_reducible repeat (first | refine zf ?_ _ | refine zi ?_ | refine zg ?_ _)); refine blk_put (cs := #[.int .i64 ((rd_T58 l1 x17_1).f0), .int .i64 0, .int .i64 0, .int .i64 0]) ?_ 1 _ rfl; (with_reducible repeat (first | refine zf ?_ _ | refine zi ?_ | refine zg ?_ _)); refine blk_put (cs := #[.int .i64 0, .int .i64 0, .int .i64 0, .int .i64 0]) ?_ 0 _ rfl; (with_reducible repeat (first | refine zf ?_ _ | refine zi ?_ | refine zg ?_ _)); exact BK272.out) hb); have n2_ := zp.mk (zj (by repeat (first | (with_reducible first | exact HB.out | apply zc | apply za | apply zb | refine zh ?_ GE269.out | refine zh ?_ GE272.out) | exact HB.out)) hb); clear BK269; clear BK272; clear HB; have BK269 := n0_; have BK272 := n1_; have HB := n2_; clear n0_ n1_ n2_; (try clear hb); (try clear hb2); (try clear hk); (try clear hi))))
        go_roundg k1
        case measure => have := HK1.out; omega
        case rel => exact ⟨(x9_1), (x10_1), (wrap64 (x17_1 + 1)), (by first | rfl | (simp; done) | (simp [*]; done)), (by first | rfl | (simp; done) | (simp [*]; done)), (by first | rfl | (simp; done) | (simp [*]; done)), H', ⟨by have := HK1.out; omega⟩, ⟨by (with_reducible repeat (first | refine zf ?_ _ | refine zi ?_ | refine zg ?_ _)); exact BK269.out⟩, ⟨by repeat (first | (with_reducible first | exact HB.out | apply zc | apply za | apply zb | refine zh ?_ GE269.out | refine zh ?_ GE272.out) | exact HB.out)⟩⟩
      ·rw [if_neg c12] at H
       have c12b0 : decide (x10_1 < ((rd_T58 l1 x17_1).f1)) = false := decide_eq_false c12
       clear c12
       have H' := zp.mk H
       clear H
       have p271 : 0 ≤ (x17_1 : Int) := of_decide_eq_true (by first | (with_reducible assumption) | assumption)
       have q271 : x17_1 < (l1.length : Int) := of_decide_eq_true (by first | (with_reducible assumption) | assumption)
       obtain ⟨ad271, e271, hx271_0, hx271_1, hx271_2, hx271_3⟩ := at_T58 HR1.out x17_1 p271 q271
       cases e271
       replace hx271_0 := (HB.out.cell (World.block_lt_of_cell? w _ hx271_0)).trans hx271_0
       replace hx271_1 := (HB.out.cell (World.block_lt_of_cell? w _ hx271_1)).trans hx271_1
       replace hx271_2 := (HB.out.cell (World.block_lt_of_cell? w _ hx271_2)).trans hx271_2
       replace hx271_3 := (HB.out.cell (World.block_lt_of_cell? w _ hx271_3)).trans hx271_3
       replace p271 := eq_true p271
       replace q271 := eq_true q271
       go_wp2_with (first | ((with_reducible refine zo (N := 12) rfl ?_); refine zm ?hg (N := 12) ?hd (cs := #[.int .i64 0, .int .i64 0, .int .i64 0, .int .i64 0]) (t := 58) ?hr ?_; (case hd => rfl); (case hg => rfl); (case hr => first | (go_simp; done) | (go_simp; rfl)); intro gb272 hg w24 hbox hb; have n0_ := zp.mk (zl (g := gb269) (o := .cells #[.int .i64 a0_0, .slice A0_1 l0_1.length c0_1] 27 (0, 0)) (by (with_reducible repeat (first | refine zf ?_ _ | refine zi ?_ | refine zg ?_ _)); exact BK269.out) hb); have n1_ := zp.mk (zj (by repeat (first | (with_reducible first | exact HB.out | apply zc | apply za | apply zb | refine zh ?_ GE269.out) | exact HB.out)) hb); have n2_ := zp.mk (hbox); have n3_ := zp.mk ((by rw [hg]; exact (zk (by repeat (first | (with_reducible first | exact HB.out | apply zc | apply za | apply zb | refine zh ?_ GE269.out) | exact HB.out))) : w.heap.size ≤ gb272)); have n4_ := zp.mk ((by rw [hg]; exact (zk (by repeat (first | (with_reducible first | exact HB.out | apply zc | apply za | apply zb | refine zh ?_ GE269.out) | exact HB.out))) : w.heap.size ≤ gb272)); have n5_ := zp.mk ((by rw [hg]; exact Nat.ne_of_lt (blk_lt (g := gb269) (o := .cells #[.int .i64 a0_0, .slice A0_1 l0_1.length c0_1] 27 (0, 0)) (by (with_reducible repeat (first | refine zf ?_ _ | refine zi ?_ | refine zg ?_ _)); exact BK269.out)) : gb269 ≠ gb272)); have n6_ := zp.mk ((by rw [hg]; exact Nat.ne_of_gt (blk_lt (g := gb269) (o := .cells #[.int .i64 a0_0, .slice A0_1 l0_1.length c0_1] 27 (0, 0)) (by (with_reducible repeat (first | refine zf ?_ _ | refine zi ?_ | refine zg ?_ _)); exact BK269.out)) : gb272 ≠ gb269)); clear BK269; clear HB; have BK269 := n0_; have HB := n1_; have BK272 := n2_; have GW272 := n3_; have GE272 := n4_; have NB269_272 := n5_; have NB272_269 := n6_; clear n0_ n1_ n2_ n3_ n4_ n5_ n6_; clear hb hbox hg; have hnb25 := NB272_269.out; have hnc25 := NB269_272.out; have hcz26_0 : w24.cell? ⟨gb272, 0, none⟩ = some (.int .i64 0) := (ze BK272.out 0).trans rfl; have hcz26_1 : w24.cell? ⟨gb272, 1, none⟩ = some (.int .i64 0) := (ze BK272.out 1).trans rfl; have hcz26_2 : w24.cell? ⟨gb272, 2, none⟩ = some (.int .i64 0) := (ze BK272.out 2).trans rfl; have hcz26_3 : w24.cell? ⟨gb272, 3, none⟩ = some (.int .i64 0) := (ze BK272.out 3).trans rfl; have hfz26_0 := zd BK272.out 0; have hfz26_1 := zd BK272.out 1; have hfz26_2 := zd BK272.out 2; have hfz26_3 := zd BK272.out 3))
       repeat (go_quiet (first | ((with_reducible refine zo (N := 12) rfl ?_); refine zm ?hg (N := 12) ?hd (cs := #[.int .i64 0, .int .i64 0, .int .i64 0, .int .i64 0]) (t := 58) ?hr ?_; (case hd => rfl); (case hg => rfl); (case hr => first | (go_simp; done) | (go_simp; rfl)); intro gb272 hg w24 hbox hb; have n0_ := zp.mk (zl (g := gb269) (o := .cells #[.int .i64 a0_0, .slice A0_1 l0_1.length c0_1] 27 (0, 0)) (by (with_reducible repeat (first | refine zf ?_ _ | refine zi ?_ | refine zg ?_ _)); exact BK269.out) hb); have n1_ := zp.mk (zj (by repeat (first | (with_reducible first | exact HB.out | apply zc | apply za | apply zb | refine zh ?_ GE269.out) | exact HB.out)) hb); have n2_ := zp.mk (hbox); have n3_ := zp.mk ((by rw [hg]; exact (zk (by repeat (first | (with_reducible first | exact HB.out | apply zc | apply za | apply zb | refine zh ?_ GE269.out) | exact HB.out))) : w.heap.size ≤ gb272)); have n4_ := zp.mk ((by rw [hg]; exact (zk (by repeat (first | (with_reducible first | exact HB.out | apply zc | apply za | apply zb | refine zh ?_ GE269.out) | exact HB.out))) : w.heap.size ≤ gb272)); have n5_ := zp.mk ((by rw [hg]; exact Nat.ne_of_lt (blk_lt (g := gb269) (o := .cells #[.int .i64 a0_0, .slice A0_1 l0_1.length c0_1] 27 (0, 0)) (by (with_reducible repeat (first | refine zf ?_ _ | refine zi ?_ | refine zg ?_ _)); exact BK269.out)) : gb269 ≠ gb272)); have n6_ := zp.mk ((by rw [hg]; exact Nat.ne_of_gt (blk_lt (g := gb269) (o := .cells #[.int .i64 a0_0, .slice A0_1 l0_1.length c0_1] 27 (0, 0)) (by (with_reducible repeat (first | refine zf ?_ _ | refine zi ?_ | refine zg ?_ _)); exact BK269.out)) : gb272 ≠ gb269)); clear BK269; clear HB; have BK269 := n0_; have HB := n1_; have BK272 := n2_; have GW272 := n3_; have GE272 := n4_; have NB269_272 := n5_; have NB272_269 := n6_; clear n0_ n1_ n2_ n3_ n4_ n5_ n6_; clear hb hbox hg; have hnb25 := NB272_269.out; have hnc25 := NB269_272.out; have hcz26_0 : w24.cell? ⟨gb272, 0, none⟩ = some (.int .i64 0) := (ze BK272.out 0).trans rfl; have hcz26_1 : w24.cell? ⟨gb272, 1, none⟩ = some (.int .i64 0) := (ze BK272.out 1).trans rfl; have hcz26_2 : w24.cell? ⟨gb272, 2, none⟩ = some (.int .i64 0) := (ze BK272.out 2).trans rfl; have hcz26_3 : w24.cell? ⟨gb272, 3, none⟩ = some (.int .i64 0) := (ze BK272.out 3).trans rfl; have hfz26_0 := zd BK272.out 0; have hfz26_1 := zd BK272.out 1; have hfz26_2 := zd BK272.out 2; have hfz26_3 := zd BK272.out 3)); try go_wp2_with (first | ((with_reducible refine zo (N := 12) rfl ?_); refine zm ?hg (N := 12) ?hd (cs := #[.int .i64 0, .int .i64 0, .int .i64 0, .int .i64 0]) (t := 58) ?hr ?_; (case hd => rfl); (case hg => rfl); (case hr => first | (go_simp; done) | (go_simp; rfl)); intro gb272 hg w24 hbox hb; have n0_ := zp.mk (zl (g := gb269) (o := .cells #[.int .i64 a0_0, .slice A0_1 l0_1.length c0_1] 27 (0, 0)) (by (with_reducible repeat (first | refine zf ?_ _ | refine zi ?_ | refine zg ?_ _)); exact BK269.out) hb); have n1_ := zp.mk (zj (by repeat (first | (with_reducible first | exact HB.out | apply zc | apply za | apply zb | refine zh ?_ GE269.out) | exact HB.out)) hb); have n2_ := zp.mk (hbox); have n3_ := zp.mk ((by rw [hg]; exact (zk (by repeat (first | (with_reducible first | exact HB.out | apply zc | apply za | apply zb | refine zh ?_ GE269.out) | exact HB.out))) : w.heap.size ≤ gb272)); have n4_ := zp.mk ((by rw [hg]; exact (zk (by repeat (first | (with_reducible first | exact HB.out | apply zc | apply za | apply zb | refine zh ?_ GE269.out) | exact HB.out))) : w.heap.size ≤ gb272)); have n5_ := zp.mk ((by rw [hg]; exact Nat.ne_of_lt (blk_lt (g := gb269) (o := .cells #[.int .i64 a0_0, .slice A0_1 l0_1.length c0_1] 27 (0, 0)) (by (with_reducible repeat (first | refine zf ?_ _ | refine zi ?_ | refine zg ?_ _)); exact BK269.out)) : gb269 ≠ gb272)); have n6_ := zp.mk ((by rw [hg]; exact Nat.ne_of_gt (blk_lt (g := gb269) (o := .cells #[.int .i64 a0_0, .slice A0_1 l0_1.length c0_1] 27 (0, 0)) (by (with_reducible repeat (first | refine zf ?_ _ | refine zi ?_ | refine zg ?_ _)); exact BK269.out)) : gb272 ≠ gb269)); clear BK269; clear HB; have BK269 := n0_; have HB := n1_; have BK272 := n2_; have GW272 := n3_; have GE272 := n4_; have NB269_272 := n5_; have NB272_269 := n6_; clear n0_ n1_ n2_ n3_ n4_ n5_ n6_; clear hb hbox hg; have hnb25 := NB272_269.out; have hnc25 := NB269_272.out; have hcz26_0 : w24.cell? ⟨gb272, 0, none⟩ = some (.int .i64 0) := (ze BK272.out 0).trans rfl; have hcz26_1 : w24.cell? ⟨gb272, 1, none⟩ = some (.int .i64 0) := (ze BK272.out 1).trans rfl; have hcz26_2 : w24.cell? ⟨gb272, 2, none⟩ = some (.int .i64 0) := (ze BK272.out 2).trans rfl; have hcz26_3 : w24.cell? ⟨gb272, 3, none⟩ = some (.int .i64 0) := (ze BK272.out 3).trans rfl; have hfz26_0 := zd BK272.out 0; have hfz26_1 := zd BK272.out 1; have hfz26_2 := zd BK272.out 2; have hfz26_3 := zd BK272.out 3)))
       go_roundg k1
       case measure => have := HK1.out; omega
       case rel => exact ⟨(x9_1), (x10_1), (wrap64 (x17_1 + 1)), (by first | rfl | (simp; done) | (simp [*]; done)), (by first | rfl | (simp; done) | (simp [*]; done)), (by first | rfl | (simp; done) | (simp [*]; done)), H', ⟨by have := HK1.out; omega⟩, ⟨by (with_reducible repeat (first | refine zf ?_ _ | refine zi ?_ | refine zg ?_ _)); refine blk_far ?_ NB269_272.out _; (with_reducible repeat (first | refine zf ?_ _ | refine zi ?_ | refine zg ?_ _)); refine blk_far ?_ NB269_272.out _; (with_reducible repeat (first | refine zf ?_ _ | refine zi ?_ | refine zg ?_ _)); refine blk_far ?_ NB269_272.out _; (with_reducible repeat (first | refine zf ?_ _ | refine zi ?_ | refine zg ?_ _)); refine blk_far ?_ NB269_272.out _; (with_reducible repeat (first | refine zf ?_ _ | refine zi ?_ | refine zg ?_ _)); exact BK269.out⟩, ⟨by repeat (first | (with_reducible first | exact HB.out | apply zc | apply za | apply zb | refine zh ?_ GE269.out | refine zh ?_ GE272.out) | exact HB.out)⟩⟩
     ·rw [if_neg c11] at H
      exact absurd H (by simp)
    ·rw [if_neg c10] at H
     exact absurd H (by simp)
   ·rw [if_neg c9] at H
    have c9b0 : decide (x17_1 < (l1.length : Int)) = false := decide_eq_false c9
    clear c9
    obtain rfl := Option.some.inj H
    go_wp2
    repeat (go_quiet (fail); try go_wp2)
    go_ret
    exact ⟨by first | rfl | (simp [errW_none, errW_some] <;> rfl) | (simp [*, errW_none, errW_some] <;> rfl), by repeat (first | (with_reducible first | exact HB.out | apply zc | apply za | apply zb | refine zh ?_ GE269.out) | exact HB.out)⟩

end Go.Proofs.Ytdpoliolinghfaa.QFnExactPolicyFor
