/- Proved: calls of the program come to the answers of the plain Lean functions that stand beside them. Each contract names its conditions. (Written by a program of this session, over the printer of the kit.) -/
import Derived.Test.YtdpoliolinghfaaZPolicySetQFnExactPolicySetx0
import Derived.Test.YtdpoliolinghfaaZPolicySetQFnExactPolicySetx12
import Derived.Test.YtdpoliolinghfaaZPolicySetQFnExactPolicySetx15
namespace Go.Proofs.Ytdpoliolinghfaa.QFnExactPolicySet
open Go.RowKit Go.Proofs.YtdpoliolinghfaaW.PrintWords Go.Proofs.YtdpoliolinghfaaW.PrintLast Go.Proofs.YtdpoliolinghfaaW.PrintMore
attribute [local go_sem] max2_int min2_int max_two min_two max_three min_three max_four min_four   -- for this text's walks alone
set_option linter.unusedVariables false
set_option linter.unusedSimpArgs false

/-! ### impl_PolicySet: function 64 -/
def impl_PolicySet.f (k : Nat) (a0_0 : Int) (l0_1 : List Int) (l1 : List (S58)) (a2_0 : Int) (a2_1 : Int) (a2_2 : Int) (a2_3 : Int) : Option ((List (S58)) × Bool) := (impl_PolicyOk.f k a0_0 l0_1 l1).bind fun t323 => (if t323 = true then ((impl_isPunct.f a0_0 l0_1 a2_0 a2_1 a2_2 a2_3).bind fun t324 => (if t324 = true then ((impl_policySet.f k l1 a2_0 a2_1 a2_2 a2_3).bind fun bt325 => (some (bt325.1, bt325.2))) else (some (([] : List (S58)), false)))) else (some (([] : List (S58)), false)))
set_option maxHeartbeats 8000000 in
set_option maxRecDepth 100000 in
theorem impl_PolicySet.calls (k : Nat) (a0_0 : Int) (A0_1 : Option Addr) (c0_1 : Nat) (l0_1 : List Int) (A1 : Option Addr) (c1 : Nat) (l1 : List (S58)) (a2_0 : Int) (a2_1 : Int) (a2_2 : Int) (a2_3 : Int) (r1 : List (S58)) (r2 : Bool) (w : World) (hr0_1 : Kd.C (Kd.int .u64) w A0_1 l0_1.length l0_1) (hc0_1 : l0_1.length ≤ c0_1) (hr1 : Kd.C k58 w A1 l1.length l1) (hc1 : l1.length ≤ c1) (h : impl_PolicySet.f k a0_0 l0_1 l1 a2_0 a2_1 a2_2 a2_3 = some (r1, r2)) :
  Calls Try.prog 64 #[.agg #[.int .i64 a0_0, .slice A0_1 l0_1.length c0_1], .slice A1 l1.length c1, .agg #[.int .i64 a2_0, .int .i64 a2_1, .int .i64 a2_2, .int .i64 a2_3]] w fun e w' => ∃ v0_ : Value, e = .returned (.tuple #[v0_, .bool r2]) ∧ Kd.R k58 58 w' w.heap.size (fun _ => True) v0_ r1 ∧ Below w.heap.size w w' := by
 have hu27 := Try.underlying27
 have hu58 := Try.underlying58
 have HR0_1 := zp.mk hr0_1
 have HC0_1 := zp.mk hc0_1
 clear hr0_1 hc0_1
 have HR1 := zp.mk hr1
 have HC1 := zp.mk hc1
 clear hr1 hc1
 have HB := zp.mk (Below.refl w.heap.size w)
 have H : ((impl_PolicyOk.f k a0_0 l0_1 l1).bind fun t323 => (if t323 = true then ((impl_isPunct.f a0_0 l0_1 a2_0 a2_1 a2_2 a2_3).bind fun t324 => (if t324 = true then ((impl_policySet.f k l1 a2_0 a2_1 a2_2 a2_3).bind fun bt325 => (some (bt325.1, bt325.2))) else (some (([] : List (S58)), false)))) else (some (([] : List (S58)), false)))) = some (r1, r2) := h
 clear h
 replace H := zs4 H
 obtain ⟨t323, A40, H⟩ := H
 replace H : (if t323 = true then ((impl_isPunct.f a0_0 l0_1 a2_0 a2_1 a2_2 a2_3).bind fun t324 => (if t324 = true then ((impl_policySet.f k l1 a2_0 a2_1 a2_2 a2_3).bind fun bt325 => (some (bt325.1, bt325.2))) else (some (([] : List (S58)), false)))) else (some (([] : List (S58)), false))) = some (r1, r2) := H
 have A4 := zp.mk A40
 clear A40
 by_cases c5 : t323 = true
 ·subst c5
  have H1 : ((impl_isPunct.f a0_0 l0_1 a2_0 a2_1 a2_2 a2_3).bind fun t324 => (if t324 = true then ((impl_policySet.f k l1 a2_0 a2_1 a2_2 a2_3).bind fun bt325 => (some (bt325.1, bt325.2))) else (some (([] : List (S58)), false)))) = some (r1, r2) := by rw [if_pos rfl] at H; exact H
  clear H
  have H := H1
  clear H1
  replace H := zs4 H
  obtain ⟨t324, A60, H⟩ := H
  replace H : (if t324 = true then ((impl_policySet.f k l1 a2_0 a2_1 a2_2 a2_3).bind fun bt325 => (some (bt325.1, bt325.2))) else (some (([] : List (S58)), false))) = some (r1, r2) := H
  have A6 := zp.mk A60
  clear A60
  by_cases c7 : t324 = true
  ·subst c7
   have H1 : ((impl_policySet.f k l1 a2_0 a2_1 a2_2 a2_3).bind fun bt325 => (some (bt325.1, bt325.2))) = some (r1, r2) := by rw [if_pos rfl] at H; exact H
   clear H
   have H := H1
   clear H1
   replace H := zs4 H
   obtain ⟨⟨t325, t328⟩, A80, H⟩ := H
   replace H : (some (t325, t328)) = some (r1, r2) := H
   have A8 := zp.mk A80
   clear A80
   simp only [Option.some.injEq, Prod.mk.injEq] at H
   obtain ⟨rfl, rfl⟩ := H
   go_enter Try.func64, Try.ntmps64
   go_wp2_with (first | ((with_reducible refine zo (N := 3) rfl ?_); refine zm ?hg (N := 3) ?hd (cs := #[.int .i64 a0_0, .slice A0_1 l0_1.length c0_1]) (t := 27) ?hr ?_; (case hd => rfl); (case hg => rfl); (case hr => first | (go_simp; done) | (go_simp; rfl)); intro gb321 hg w9 hbox hb; have BK321 := zp.mk (hbox); have GW321 := zp.mk ((zv3 (zv6 HB.out) hg)); have GE321 := zp.mk ((zv3 (zv6 HB.out) hg)); replace HB := zp.mk (zj (zv6 HB.out) hb); clear hb hbox hg) | ((with_reducible refine zo (N := 5) rfl ?_); refine zm ?hg (N := 5) ?hd (cs := #[.int .i64 a2_0, .int .i64 a2_1, .int .i64 a2_2, .int .i64 a2_3]) (t := 58) ?hr ?_; (case hd => rfl); (case hg => rfl); (case hr => first | (go_simp; done) | (go_simp; rfl)); intro gb322 hg w10 hbox hb; have BK322 := zp.mk (hbox); have GW322 := zp.mk ((zv3 (zv7 HB.out) hg)); have GE322 := zp.mk ((zv3 (zv7 HB.out) hg)); have NB321_322 := zp.mk ((by rw [hg]; exact Nat.ne_of_lt (blk_lt (g := gb321) (o := .cells #[.int .i64 a0_0, .slice A0_1 l0_1.length c0_1] 27 (0, 0)) (zv8 BK321.out)) : gb321 ≠ gb322)); have NB322_321 := zp.mk ((by rw [hg]; exact Nat.ne_of_gt (blk_lt (g := gb321) (o := .cells #[.int .i64 a0_0, .slice A0_1 l0_1.length c0_1] 27 (0, 0)) (zv8 BK321.out)) : gb322 ≠ gb321)); replace BK321 := zp.mk (zl (zv8 BK321.out) hb); replace HB := zp.mk (zj (zv7 HB.out) hb); clear hb hbox hg; have hnb11 := NB321_322.out; have hnc11 := NB322_321.out; have y12_0 := zt0 BK321.out; have y12_1 := zt1 BK321.out; have u12_0 := zd BK321.out 0; have u12_1 := zd BK321.out 1) | ((with_reducible refine zn (f := 55) rfl ?_); refine goesL_ (some 10) rfl rfl Try.func55 (by kernel_rfl) rfl #[.agg #[.int .i64 a0_0, .slice A0_1 l0_1.length c0_1], .slice A1 l1.length c1] rfl (by (try simp only [List.map_toArray, List.map_cons, List.map_nil]); first | done | rfl | (simp only [List.length_drop, List.length_take]; rfl)) ?_; (with_reducible refine (impl_PolicyOk.calls k a0_0 _ _ l0_1 _ _ l1 true _ ?side1 ?side2 ?side3 ?side4 A4.out).mono ?_); (case side1 => repeat (first | exact (Kd.zt HR0_1.out HB.out) | (with_reducible refine Kd.zr ?_ _) | (with_reducible refine Kd.zq ?_ _) | (with_reducible refine Kd.C_drew ?_))); (case side2 => exact HC0_1.out); (case side3 => repeat (first | exact (Kd.zt HR1.out HB.out) | (with_reducible refine Kd.zr ?_ _) | (with_reducible refine Kd.zq ?_ _) | (with_reducible refine Kd.C_drew ?_))); (case side4 => exact HC1.out); rintro e w13 ⟨rfl, hb⟩; refine ⟨_, rfl, ?_⟩; replace BK321 := zp.mk (zl (zv8 BK321.out) hb); replace BK322 := zp.mk (zl (zv8 BK322.out) hb); replace HB := zp.mk (zj (zv7 HB.out) hb); (try clear hb); (try clear hb2); (try clear hk); (try clear hi); have y14_0 := zt0 BK321.out; have y14_1 := zt1 BK321.out; have u14_0 := zd BK321.out 0; have u14_1 := zd BK321.out 1; have y15_0 := zt0 BK322.out; have y15_1 := zt1 BK322.out; have y15_2 := zt2 BK322.out; have y15_3 := zt3 BK322.out; have u15_0 := zd BK322.out 0; have u15_1 := zd BK322.out 1; have u15_2 := zd BK322.out 2; have u15_3 := zd BK322.out 3) | (go_at_call 86; (with_reducible refine (impl_isPunct.calls a0_0 _ _ l0_1 a2_0 a2_1 a2_2 a2_3 true _ ?side1 ?side2 A6.out).mono ?_); (case side1 => repeat (first | exact (Kd.zt HR0_1.out HB.out) | (with_reducible refine Kd.zr ?_ _) | (with_reducible refine Kd.zq ?_ _) | (with_reducible refine Kd.C_drew ?_))); (case side2 => exact HC0_1.out); rintro e w16 ⟨rfl, hb⟩; replace BK321 := zp.mk (zl (zv8 BK321.out) hb); replace BK322 := zp.mk (zl (zv8 BK322.out) hb); replace HB := zp.mk (zj (zv7 HB.out) hb); (try clear hb); (try clear hb2); (try clear hk); (try clear hi); have y17_0 := zt0 BK322.out; have y17_1 := zt1 BK322.out; have y17_2 := zt2 BK322.out; have y17_3 := zt3 BK322.out; have u17_0 := zd BK322.out 0; have u17_1 := zd BK322.out 1; have u17_2 := zd BK322.out 2; have u17_3 := zd BK322.out 3) | ((with_reducible refine zn (f := 99) rfl ?_); refine goesL_ (some 20) rfl rfl Try.func99 (by kernel_rfl) rfl #[.slice A1 l1.length c1, .agg #[.int .i64 a2_0, .int .i64 a2_1, .int .i64 a2_2, .int .i64 a2_3]] rfl (by (try simp only [List.map_toArray, List.map_cons, List.map_nil]); first | done | rfl | (simp only [List.length_drop, List.length_take]; rfl)) ?_; (with_reducible refine (impl_policySet.calls k _ _ l1 a2_0 a2_1 a2_2 a2_3 t325 t328 _ ?side1 ?side2 A8.out).mono ?_); (case side1 => repeat (first | exact (Kd.zt HR1.out HB.out) | (with_reducible refine Kd.zr ?_ _) | (with_reducible refine Kd.zq ?_ _) | (with_reducible refine Kd.C_drew ?_))); (case side2 => exact HC1.out); rintro e w18 ⟨v326, rfl, ho0, hb⟩; refine ⟨_, rfl, ?_⟩; have HO327 := zp.mk (Kd.R_lower (Kd.R_newB ho0 (g := gb322) (o := .cells #[.int .i64 a2_0, .int .i64 a2_1, .int .i64 a2_2, .int .i64 a2_3] 58 (0, 0)) (zv8 BK322.out)) (zk (zv7 HB.out))); replace BK321 := zp.mk (zl (zv8 BK321.out) hb); replace BK322 := zp.mk (zl (zv8 BK322.out) hb); replace HB := zp.mk (zj (zv7 HB.out) hb); (try clear hb); (try clear hb2); (try clear hk); (try clear hi); (try clear ho0)))
   go_ret2
   exact ⟨_, by first | rfl | (simp [errW_none, errW_some] <;> rfl) | (simp [*, errW_none, errW_some] <;> rfl), by (with_reducible repeat (first | apply Kd.R_alloc | apply Kd.R_drewN | apply Kd.R_drew)); exact Kd.R_mono HO327.out (fun _ hk => trivial), zv7 HB.out⟩
  ·replace c7 := Bool.eq_false_iff.mpr c7
   subst c7
   have H1 : (some (([] : List (S58)), false)) = some (r1, r2) := by rw [if_neg (show ¬ (false = true) by decide)] at H; exact H
   clear H
   have H := H1
   clear H1
   simp only [Option.some.injEq, Prod.mk.injEq] at H
   obtain ⟨rfl, rfl⟩ := H
   go_enter Try.func64, Try.ntmps64
   go_wp2_with (first | ((with_reducible refine zo (N := 3) rfl ?_); refine zm ?hg (N := 3) ?hd (cs := #[.int .i64 a0_0, .slice A0_1 l0_1.length c0_1]) (t := 27) ?hr ?_; (case hd => rfl); (case hg => rfl); (case hr => first | (go_simp; done) | (go_simp; rfl)); intro gb321 hg w19 hbox hb; have BK321 := zp.mk (hbox); have GW321 := zp.mk ((zv3 (zv6 HB.out) hg)); have GE321 := zp.mk ((zv3 (zv6 HB.out) hg)); replace HB := zp.mk (zj (zv6 HB.out) hb); clear hb hbox hg) | ((with_reducible refine zo (N := 5) rfl ?_); refine zm ?hg (N := 5) ?hd (cs := #[.int .i64 a2_0, .int .i64 a2_1, .int .i64 a2_2, .int .i64 a2_3]) (t := 58) ?hr ?_; (case hd => rfl); (case hg => rfl); (case hr => first | (go_simp; done) | (go_simp; rfl)); intro gb322 hg w20 hbox hb; have BK322 := zp.mk (hbox); have GW322 := zp.mk ((zv3 (zv7 HB.out) hg)); have GE322 := zp.mk ((zv3 (zv7 HB.out) hg)); have NB321_322 := zp.mk ((by rw [hg]; exact Nat.ne_of_lt (blk_lt (g := gb321) (o := .cells #[.int .i64 a0_0, .slice A0_1 l0_1.length c0_1] 27 (0, 0)) (zv8 BK321.out)) : gb321 ≠ gb322)); have NB322_321 := zp.mk ((by rw [hg]; exact Nat.ne_of_gt (blk_lt (g := gb321) (o := .cells #[.int .i64 a0_0, .slice A0_1 l0_1.length c0_1] 27 (0, 0)) (zv8 BK321.out)) : gb322 ≠ gb321)); replace BK321 := zp.mk (zl (zv8 BK321.out) hb); replace HB := zp.mk (zj (zv7 HB.out) hb); clear hb hbox hg; have hnb21 := NB321_322.out; have hnc21 := NB322_321.out; have y22_0 := zt0 BK321.out; have y22_1 := zt1 BK321.out; have u22_0 := zd BK321.out 0; have u22_1 := zd BK321.out 1) | ((with_reducible refine zn (f := 55) rfl ?_); refine goesL_ (some 10) rfl rfl Try.func55 (by kernel_rfl) rfl #[.agg #[.int .i64 a0_0, .slice A0_1 l0_1.length c0_1], .slice A1 l1.length c1] rfl (by (try simp only [List.map_toArray, List.map_cons, List.map_nil]); first | done | rfl | (simp only [List.length_drop, List.length_take]; rfl)) ?_; (with_reducible refine (impl_PolicyOk.calls k a0_0 _ _ l0_1 _ _ l1 true _ ?side1 ?side2 ?side3 ?side4 A4.out).mono ?_); (case side1 => repeat (first | exact (Kd.zt HR0_1.out HB.out) | (with_reducible refine Kd.zr ?_ _) | (with_reducible refine Kd.zq ?_ _) | (with_reducible refine Kd.C_drew ?_))); (case side2 => exact HC0_1.out); (case side3 => repeat (first | exact (Kd.zt HR1.out HB.out) | (with_reducible refine Kd.zr ?_ _) | (with_reducible refine Kd.zq ?_ _) | (with_reducible refine Kd.C_drew ?_))); (case side4 => exact HC1.out); rintro e w23 ⟨rfl, hb⟩; refine ⟨_, rfl, ?_⟩; replace BK321 := zp.mk (zl (zv8 BK321.out) hb); replace BK322 := zp.mk (zl (zv8 BK322.out) hb); replace HB := zp.mk (zj (zv7 HB.out) hb); (try clear hb); (try clear hb2); (try clear hk); (try clear hi); have y24_0 := zt0 BK321.out; have y24_1 := zt1 BK321.out; have u24_0 := zd BK321.out 0; have u24_1 := zd BK321.out 1; have y25_0 := zt0 BK322.out; have y25_1 := zt1 BK322.out; have y25_2 := zt2 BK322.out; have y25_3 := zt3 BK322.out; have u25_0 := zd BK322.out 0; have u25_1 := zd BK322.out 1; have u25_2 := zd BK322.out 2; have u25_3 := zd BK322.out 3) | (go_at_call 86; (with_reducible refine (impl_isPunct.calls a0_0 _ _ l0_1 a2_0 a2_1 a2_2 a2_3 false _ ?side1 ?side2 A6.out).mono ?_); (case side1 => repeat (first | exact (Kd.zt HR0_1.out HB.out) | (with_reducible refine Kd.zr ?_ _) | (with_reducible refine Kd.zq ?_ _) | (with_reducible refine Kd.C_drew ?_))); (case side2 => exact HC0_1.out); rintro e w26 ⟨rfl, hb⟩; replace BK321 := zp.mk (zl (zv8 BK321.out) hb); replace BK322 := zp.mk (zl (zv8 BK322.out) hb); replace HB := zp.mk (zj (zv7 HB.out) hb); (try clear hb); (try clear hb2); (try clear hk); (try clear hi)))
   go_ret2
   exact ⟨_, by first | rfl | (simp [errW_none, errW_some] <;> rfl) | (simp [*, errW_none, errW_some] <;> rfl), by first | exact Kd.R_nil _ _ _ _ _ | exact Kd.N_nil _ _ _ _ _ | exact Kd.V_nil _ _ _ _ _ | exact Kd.Q_nil _ _ _ _ _ | exact Kd.S_nil _ _ _ _ _, zv7 HB.out⟩
 ·replace c5 := Bool.eq_false_iff.mpr c5
  subst c5
  have H1 : (some (([] : List (S58)), false)) = some (r1, r2) := by rw [if_neg (show ¬ (false = true) by decide)] at H; exact H
  clear H
  have H := H1
  clear H1
  simp only [Option.some.injEq, Prod.mk.injEq] at H
  obtain ⟨rfl, rfl⟩ := H
  go_enter Try.func64, Try.ntmps64
  go_wp2_with (first | ((with_reducible refine zo (N := 3) rfl ?_); refine zm ?hg (N := 3) ?hd (cs := #[.int .i64 a0_0, .slice A0_1 l0_1.length c0_1]) (t := 27) ?hr ?_; (case hd => rfl); (case hg => rfl); (case hr => first | (go_simp; done) | (go_simp; rfl)); intro gb321 hg w27 hbox hb; have BK321 := zp.mk (hbox); have GW321 := zp.mk ((zv3 (zv6 HB.out) hg)); have GE321 := zp.mk ((zv3 (zv6 HB.out) hg)); replace HB := zp.mk (zj (zv6 HB.out) hb); clear hb hbox hg) | ((with_reducible refine zo (N := 5) rfl ?_); refine zm ?hg (N := 5) ?hd (cs := #[.int .i64 a2_0, .int .i64 a2_1, .int .i64 a2_2, .int .i64 a2_3]) (t := 58) ?hr ?_; (case hd => rfl); (case hg => rfl); (case hr => first | (go_simp; done) | (go_simp; rfl)); intro gb322 hg w28 hbox hb; have BK322 := zp.mk (hbox); have GW322 := zp.mk ((zv3 (zv7 HB.out) hg)); have GE322 := zp.mk ((zv3 (zv7 HB.out) hg)); have NB321_322 := zp.mk ((by rw [hg]; exact Nat.ne_of_lt (blk_lt (g := gb321) (o := .cells #[.int .i64 a0_0, .slice A0_1 l0_1.length c0_1] 27 (0, 0)) (zv8 BK321.out)) : gb321 ≠ gb322)); have NB322_321 := zp.mk ((by rw [hg]; exact Nat.ne_of_gt (blk_lt (g := gb321) (o := .cells #[.int .i64 a0_0, .slice A0_1 l0_1.length c0_1] 27 (0, 0)) (zv8 BK321.out)) : gb322 ≠ gb321)); replace BK321 := zp.mk (zl (zv8 BK321.out) hb); replace HB := zp.mk (zj (zv7 HB.out) hb); clear hb hbox hg; have hnb29 := NB321_322.out; have hnc29 := NB322_321.out; have y30_0 := zt0 BK321.out; have y30_1 := zt1 BK321.out; have u30_0 := zd BK321.out 0; have u30_1 := zd BK321.out 1) | ((with_reducible refine zn (f := 55) rfl ?_); refine goesL_ (some 10) rfl rfl Try.func55 (by kernel_rfl) rfl #[.agg #[.int .i64 a0_0, .slice A0_1 l0_1.length c0_1], .slice A1 l1.length c1] rfl (by (try simp only [List.map_toArray, List.map_cons, List.map_nil]); first | done | rfl | (simp only [List.length_drop, List.length_take]; rfl)) ?_; (with_reducible refine (impl_PolicyOk.calls k a0_0 _ _ l0_1 _ _ l1 false _ ?side1 ?side2 ?side3 ?side4 A4.out).mono ?_); (case side1 => repeat (first | exact (Kd.zt HR0_1.out HB.out) | (with_reducible refine Kd.zr ?_ _) | (with_reducible refine Kd.zq ?_ _) | (with_reducible refine Kd.C_drew ?_))); (case side2 => exact HC0_1.out); (case side3 => repeat (first | exact (Kd.zt HR1.out HB.out) | (with_reducible refine Kd.zr ?_ _) | (with_reducible refine Kd.zq ?_ _) | (with_reducible refine Kd.C_drew ?_))); (case side4 => exact HC1.out); rintro e w31 ⟨rfl, hb⟩; refine ⟨_, rfl, ?_⟩; replace BK321 := zp.mk (zl (zv8 BK321.out) hb); replace BK322 := zp.mk (zl (zv8 BK322.out) hb); replace HB := zp.mk (zj (zv7 HB.out) hb); (try clear hb); (try clear hb2); (try clear hk); (try clear hi)))
  go_ret2
  exact ⟨_, by first | rfl | (simp [errW_none, errW_some] <;> rfl) | (simp [*, errW_none, errW_some] <;> rfl), by first | exact Kd.R_nil _ _ _ _ _ | exact Kd.N_nil _ _ _ _ _ | exact Kd.V_nil _ _ _ _ _ | exact Kd.Q_nil _ _ _ _ _ | exact Kd.S_nil _ _ _ _ _, zv7 HB.out⟩

end Go.Proofs.Ytdpoliolinghfaa.QFnExactPolicySet
