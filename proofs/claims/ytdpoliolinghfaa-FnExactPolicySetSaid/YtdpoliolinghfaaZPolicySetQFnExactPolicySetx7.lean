/- Proved: calls of the program come to the answers of the plain Lean functions that stand beside them. Each contract names its conditions. (Written by a program of this session, over the printer of the kit.) -/
import Derived.Test.YtdpoliolinghfaaZPolicySetQFnExactPolicySetx0
namespace Go.Proofs.Ytdpoliolinghfaa.QFnExactPolicySet
open Go.RowKit Go.Proofs.YtdpoliolinghfaaW.PrintWords Go.Proofs.YtdpoliolinghfaaW.PrintLast Go.Proofs.YtdpoliolinghfaaW.PrintMore
attribute [local go_sem] max2_int min2_int max_two min_two max_three min_three max_four min_four   -- for this text's walks alone
set_option linter.unusedVariables false
set_option linter.unusedSimpArgs false

/-! ### spec_l04One: function 110 -/
def spec_l04One.f (a0_0 : Int) (a0_1 : Int) (a0_2 : Int) (a0_3 : Int) (a1_0 : Int) (a1_1 : Int) (a1_2 : Int) (a1_3 : Int) : Option (Bool) := if a0_0 = a1_0 then (if a0_1 = a1_1 then (some (a0_2 == a1_2)) else (some false)) else (some false)
set_option maxHeartbeats 8000000 in
set_option maxRecDepth 100000 in
theorem spec_l04One.calls (a0_0 : Int) (a0_1 : Int) (a0_2 : Int) (a0_3 : Int) (a1_0 : Int) (a1_1 : Int) (a1_2 : Int) (a1_3 : Int) (r : Bool) (w : World) (h : spec_l04One.f a0_0 a0_1 a0_2 a0_3 a1_0 a1_1 a1_2 a1_3 = some r) :
  Calls Try.prog 110 #[.agg #[.int .i64 a0_0, .int .i64 a0_1, .int .i64 a0_2, .int .i64 a0_3], .agg #[.int .i64 a1_0, .int .i64 a1_1, .int .i64 a1_2, .int .i64 a1_3]] w fun e w' => e = .returned (.bool r) ∧ Below w.heap.size w w' := by
 have hu58 := Try.underlying58
 have HB := zp.mk (Below.refl w.heap.size w)
 have H : (if a0_0 = a1_0 then (if a0_1 = a1_1 then (some (a0_2 == a1_2)) else (some false)) else (some false)) = some r := h
 clear h
 by_cases c3 : a0_0 = a1_0
 ·rw [if_pos c3] at H
  have c3b0 : (a0_0 == a1_0) = true := beq_iff_eq.mpr c3
  have c3b1 : (a0_0 != a1_0) = false := bne_eq_false_iff_eq.mpr c3
  clear c3
  by_cases c4 : a0_1 = a1_1
  ·rw [if_pos c4] at H
   have c4b0 : (a0_1 == a1_1) = true := beq_iff_eq.mpr c4
   have c4b1 : (a0_1 != a1_1) = false := bne_eq_false_iff_eq.mpr c4
   clear c4
   obtain rfl := Option.some.inj H
   go_enter Try.func110, Try.ntmps110
   go_wp2_with (first | ((with_reducible refine zo (N := 2) rfl ?_); refine zm ?hg (N := 2) ?hd (cs := #[.int .i64 a0_0, .int .i64 a0_1, .int .i64 a0_2, .int .i64 a0_3]) (t := 58) ?hr ?_; (case hd => rfl); (case hg => rfl); (case hr => first | (go_simp; done) | (go_simp; rfl)); intro gb199 hg w5 hbox hb; have BK199 := zp.mk (hbox); have GW199 := zp.mk ((zv3 (zv6 HB.out) hg)); have GE199 := zp.mk ((zv3 (zv6 HB.out) hg)); replace HB := zp.mk (zj (zv6 HB.out) hb); clear hb hbox hg) | ((with_reducible refine zo (N := 3) rfl ?_); refine zm ?hg (N := 3) ?hd (cs := #[.int .i64 a1_0, .int .i64 a1_1, .int .i64 a1_2, .int .i64 a1_3]) (t := 58) ?hr ?_; (case hd => rfl); (case hg => rfl); (case hr => first | (go_simp; done) | (go_simp; rfl)); intro gb200 hg w6 hbox hb; have BK200 := zp.mk (hbox); have GW200 := zp.mk ((zv3 (zv7 HB.out) hg)); have GE200 := zp.mk ((zv3 (zv7 HB.out) hg)); have NB199_200 := zp.mk ((by rw [hg]; exact Nat.ne_of_lt (blk_lt (g := gb199) (o := .cells #[.int .i64 a0_0, .int .i64 a0_1, .int .i64 a0_2, .int .i64 a0_3] 58 (0, 0)) (zv8 BK199.out)) : gb199 ≠ gb200)); have NB200_199 := zp.mk ((by rw [hg]; exact Nat.ne_of_gt (blk_lt (g := gb199) (o := .cells #[.int .i64 a0_0, .int .i64 a0_1, .int .i64 a0_2, .int .i64 a0_3] 58 (0, 0)) (zv8 BK199.out)) : gb200 ≠ gb199)); replace BK199 := zp.mk (zl (zv8 BK199.out) hb); replace HB := zp.mk (zj (zv7 HB.out) hb); clear hb hbox hg; have hnb7 := NB199_200.out; have hnc7 := NB200_199.out; have y8_0 := zt0 BK199.out; have y8_1 := zt1 BK199.out; have y8_2 := zt2 BK199.out; have y8_3 := zt3 BK199.out; have u8_0 := zd BK199.out 0; have u8_1 := zd BK199.out 1; have u8_2 := zd BK199.out 2; have u8_3 := zd BK199.out 3; have y9_0 := zt0 BK200.out; have y9_1 := zt1 BK200.out; have y9_2 := zt2 BK200.out; have y9_3 := zt3 BK200.out; have u9_0 := zd BK200.out 0; have u9_1 := zd BK200.out 1; have u9_2 := zd BK200.out 2; have u9_3 := zd BK200.out 3))
   go_ret
   exact ⟨by first | rfl | (simp [errW_none, errW_some] <;> rfl) | (simp [*, errW_none, errW_some] <;> rfl), zv7 HB.out⟩
  ·rw [if_neg c4] at H
   have c4b0 : (a0_1 == a1_1) = false := beq_eq_false_iff_ne.mpr c4
   have c4b1 : (a0_1 != a1_1) = true := bne_iff_ne.mpr c4
   obtain rfl := Option.some.inj H
   go_enter Try.func110, Try.ntmps110
   go_wp2_with (first | ((with_reducible refine zo (N := 2) rfl ?_); refine zm ?hg (N := 2) ?hd (cs := #[.int .i64 a0_0, .int .i64 a0_1, .int .i64 a0_2, .int .i64 a0_3]) (t := 58) ?hr ?_; (case hd => rfl); (case hg => rfl); (case hr => first | (go_simp; done) | (go_simp; rfl)); intro gb199 hg w10 hbox hb; have BK199 := zp.mk (hbox); have GW199 := zp.mk ((zv3 (zv6 HB.out) hg)); have GE199 := zp.mk ((zv3 (zv6 HB.out) hg)); replace HB := zp.mk (zj (zv6 HB.out) hb); clear hb hbox hg) | ((with_reducible refine zo (N := 3) rfl ?_); refine zm ?hg (N := 3) ?hd (cs := #[.int .i64 a1_0, .int .i64 a1_1, .int .i64 a1_2, .int .i64 a1_3]) (t := 58) ?hr ?_; (case hd => rfl); (case hg => rfl); (case hr => first | (go_simp; done) | (go_simp; rfl)); intro gb200 hg w11 hbox hb; have BK200 := zp.mk (hbox); have GW200 := zp.mk ((zv3 (zv7 HB.out) hg)); have GE200 := zp.mk ((zv3 (zv7 HB.out) hg)); have NB199_200 := zp.mk ((by rw [hg]; exact Nat.ne_of_lt (blk_lt (g := gb199) (o := .cells #[.int .i64 a0_0, .int .i64 a0_1, .int .i64 a0_2, .int .i64 a0_3] 58 (0, 0)) (zv8 BK199.out)) : gb199 ≠ gb200)); have NB200_199 := zp.mk ((by rw [hg]; exact Nat.ne_of_gt (blk_lt (g := gb199) (o := .cells #[.int .i64 a0_0, .int .i64 a0_1, .int .i64 a0_2, .int .i64 a0_3] 58 (0, 0)) (zv8 BK199.out)) : gb200 ≠ gb199)); replace BK199 := zp.mk (zl (zv8 BK199.out) hb); replace HB := zp.mk (zj (zv7 HB.out) hb); clear hb hbox hg; have hnb12 := NB199_200.out; have hnc12 := NB200_199.out; have y13_0 := zt0 BK199.out; have y13_1 := zt1 BK199.out; have y13_2 := zt2 BK199.out; have y13_3 := zt3 BK199.out; have u13_0 := zd BK199.out 0; have u13_1 := zd BK199.out 1; have u13_2 := zd BK199.out 2; have u13_3 := zd BK199.out 3; have y14_0 := zt0 BK200.out; have y14_1 := zt1 BK200.out; have y14_2 := zt2 BK200.out; have y14_3 := zt3 BK200.out; have u14_0 := zd BK200.out 0; have u14_1 := zd BK200.out 1; have u14_2 := zd BK200.out 2; have u14_3 := zd BK200.out 3))
   go_ret
   exact ⟨by first | rfl | (simp [errW_none, errW_some] <;> rfl) | (simp [*, errW_none, errW_some] <;> rfl), zv7 HB.out⟩
 ·rw [if_neg c3] at H
  have c3b0 : (a0_0 == a1_0) = false := beq_eq_false_iff_ne.mpr c3
  have c3b1 : (a0_0 != a1_0) = true := bne_iff_ne.mpr c3
  obtain rfl := Option.some.inj H
  go_enter Try.func110, Try.ntmps110
  go_wp2_with (first | ((with_reducible refine zo (N := 2) rfl ?_); refine zm ?hg (N := 2) ?hd (cs := #[.int .i64 a0_0, .int .i64 a0_1, .int .i64 a0_2, .int .i64 a0_3]) (t := 58) ?hr ?_; (case hd => rfl); (case hg => rfl); (case hr => first | (go_simp; done) | (go_simp; rfl)); intro gb199 hg w15 hbox hb; have BK199 := zp.mk (hbox); have GW199 := zp.mk ((zv3 (zv6 HB.out) hg)); have GE199 := zp.mk ((zv3 (zv6 HB.out) hg)); replace HB := zp.mk (zj (zv6 HB.out) hb); clear hb hbox hg) | ((with_reducible refine zo (N := 3) rfl ?_); refine zm ?hg (N := 3) ?hd (cs := #[.int .i64 a1_0, .int .i64 a1_1, .int .i64 a1_2, .int .i64 a1_3]) (t := 58) ?hr ?_; (case hd => rfl); (case hg => rfl); (case hr => first | (go_simp; done) | (go_simp; rfl)); intro gb200 hg w16 hbox hb; have BK200 := zp.mk (hbox); have GW200 := zp.mk ((zv3 (zv7 HB.out) hg)); have GE200 := zp.mk ((zv3 (zv7 HB.out) hg)); have NB199_200 := zp.mk ((by rw [hg]; exact Nat.ne_of_lt (blk_lt (g := gb199) (o := .cells #[.int .i64 a0_0, .int .i64 a0_1, .int .i64 a0_2, .int .i64 a0_3] 58 (0, 0)) (zv8 BK199.out)) : gb199 ≠ gb200)); have NB200_199 := zp.mk ((by rw [hg]; exact Nat.ne_of_gt (blk_lt (g := gb199) (o := .cells #[.int .i64 a0_0, .int .i64 a0_1, .int .i64 a0_2, .int .i64 a0_3] 58 (0, 0)) (zv8 BK199.out)) : gb200 ≠ gb199)); replace BK199 := zp.mk (zl (zv8 BK199.out) hb); replace HB := zp.mk (zj (zv7 HB.out) hb); clear hb hbox hg; have hnb17 := NB199_200.out; have hnc17 := NB200_199.out; have y18_0 := zt0 BK199.out; have y18_1 := zt1 BK199.out; have y18_2 := zt2 BK199.out; have y18_3 := zt3 BK199.out; have u18_0 := zd BK199.out 0; have u18_1 := zd BK199.out 1; have u18_2 := zd BK199.out 2; have u18_3 := zd BK199.out 3; have y19_0 := zt0 BK200.out; have y19_1 := zt1 BK200.out; have y19_2 := zt2 BK200.out; have y19_3 := zt3 BK200.out; have u19_0 := zd BK200.out 0; have u19_1 := zd BK200.out 1; have u19_2 := zd BK200.out 2; have u19_3 := zd BK200.out 3))
  go_ret
  exact ⟨by first | rfl | (simp [errW_none, errW_some] <;> rfl) | (simp [*, errW_none, errW_some] <;> rfl), zv7 HB.out⟩

/-! ### spec_l04Without: function 97 -/
def spec_l04Without.l0 : Nat → List (S58) → List (S58) → Int → Int → Int → Int → Int → Option ((List (S58)))
 | 0, _, _, _, _, _, _, _ => none
 | k + 1, x0, x5, x6, x202000, x202001, x202002, x202003 => if x6 < (x0.length : Int) then (if 0 ≤ x6 then ((spec_l04One.f ((rd_T58 x0 x6).f0) ((rd_T58 x0 x6).f1) ((rd_T58 x0 x6).f2) ((rd_T58 x0 x6).f3) x202000 x202001 x202002 x202003).bind fun t206 => (if t206 = true then (spec_l04Without.l0 k x0 x5 (wrap64 (x6 + 1)) x202000 x202001 x202002 x202003) else (if x5.length < 4398046511104 then (spec_l04Without.l0 k x0 (x5 ++ [(⟨(rd_T58 x0 x6).f0, (rd_T58 x0 x6).f1, (rd_T58 x0 x6).f2, (rd_T58 x0 x6).f3⟩ : S58)]) (wrap64 (x6 + 1)) x202000 x202001 x202002 x202003) else (none)))) else (none)) else (some x5)
def spec_l04Without.f (k : Nat) (l0 : List (S58)) (a1_0 : Int) (a1_1 : Int) (a1_2 : Int) (a1_3 : Int) : Option ((List (S58))) := spec_l04Without.l0 k l0 (([] : List (S58))) 0 a1_0 a1_1 a1_2 a1_3
set_option maxHeartbeats 8000000 in
set_option maxRecDepth 100000 in
theorem spec_l04Without.calls (k : Nat) (A0 : Option Addr) (c0 : Nat) (l0 : List (S58)) (a1_0 : Int) (a1_1 : Int) (a1_2 : Int) (a1_3 : Int) (r : List (S58)) (w : World) (hr0 : Kd.C k58 w A0 l0.length l0) (hc0 : l0.length ≤ c0) (h : spec_l04Without.f k l0 a1_0 a1_1 a1_2 a1_3 = some r) :
  Calls Try.prog 97 #[.slice A0 l0.length c0, .agg #[.int .i64 a1_0, .int .i64 a1_1, .int .i64 a1_2, .int .i64 a1_3]] w fun e w' => ∃ v0_ : Value, e = .returned (v0_) ∧ Kd.R k58 58 w' w.heap.size (fun _ => True) v0_ r ∧ Below w.heap.size w w' := by
 have hu58 := Try.underlying58
 have HR0 := zp.mk hr0
 have HC0 := zp.mk hc0
 clear hr0 hc0
 have HB := zp.mk (Below.refl w.heap.size w)
 have H : (spec_l04Without.l0 k l0 (([] : List (S58))) 0 a1_0 a1_1 a1_2 a1_3) = some r := h
 clear h
 obtain ⟨y202, hy202⟩ : ∃ y_ : List (S58), y_ = (([] : List (S58))) := ⟨_, rfl⟩
 replace H : (spec_l04Without.l0 k l0 y202 0 a1_0 a1_1 a1_2 a1_3) = some r := by first | (rw [hy202]; with_reducible exact H) | (have H2_ := (Option.bind_some _ _).symm.trans H; rw [hy202]; with_reducible exact H2_) | (have H2_ := (Option.bind_some _ _).symm.trans H; with_reducible exact H2_) | with_reducible exact H | (rw [hy202]; exact H) | exact H
 have Ny202 := zp.mk hy202
 clear hy202
 have H' := zp.mk H
 clear H
 go_enter Try.func97, Try.ntmps97
 go_wp2_with (first | ((with_reducible refine zo (N := 3) rfl ?_); refine zm ?hg (N := 3) ?hd (cs := #[.int .i64 a1_0, .int .i64 a1_1, .int .i64 a1_2, .int .i64 a1_3]) (t := 58) ?hr ?_; (case hd => rfl); (case hg => rfl); (case hr => first | (go_simp; done) | (go_simp; rfl)); intro gb201 hg w3 hbox hb; have BK201 := zp.mk (hbox); have GW201 := zp.mk ((zv3 (zv6 HB.out) hg)); have GE201 := zp.mk ((zv3 (zv6 HB.out) hg)); replace HB := zp.mk (zj (zv6 HB.out) hb); clear hb hbox hg) | ((with_reducible refine zo (N := 7) rfl ?_); refine Kd.R_lit k58 _ 58 ?hg (N := 7) ?hd (xs := ([] : List (S58))) (inner := []) (ok := fun _ => True) (okp := fun _ => True) ?hr ?hp (fun _ hk => hk) trivial (Below.refl _ _) (Nat.le_refl _) (by simp) ?_; (case hd => rfl); (case hg => rfl); (case hr => first | (go_simp; done) | (go_simp; rfl)); (case hp => exact (Reps.none _ _)); intro v203 w4 ho5 hb hg_ hnew_; clear hg_ hnew_; (first | rw [← Ny202.out] at ho5 | (simp only [Int.reduceToNat] at ho5; rw [← Ny202.out] at ho5)); have HO204 := zp.mk (Kd.R_lower (Kd.R_newB ho5 (g := gb201) (o := .cells #[.int .i64 a1_0, .int .i64 a1_1, .int .i64 a1_2, .int .i64 a1_3] 58 (0, 0)) (zv8 BK201.out)) (zk (zv7 HB.out))); replace BK201 := zp.mk (zl (zv8 BK201.out) hb); replace HB := zp.mk (zj (zv7 HB.out) hb); clear hb ho5))
 go_loopg [5, 6] k (fun kq v5 v6 w' => ∃ (x5_1 : List (S58)) (x6_1 : Int), v6 = .int .i64 x6_1 ∧ zp (spec_l04Without.l0 kq l0 x5_1 x6_1 a1_0 a1_1 a1_2 a1_3 = some r) ∧ zp (kq ≤ k) ∧ zp (Kd.R k58 58 w' w.heap.size (fun k_ => k_ ≠ gb201) v5 x5_1) ∧ zp (w'.heap[gb201]? = some (.cells #[.int .i64 a1_0, .int .i64 a1_1, .int .i64 a1_2, .int .i64 a1_3] 58 (0, 0))) ∧ zp (Below w.heap.size w w'))
 case atStart => exact ⟨(y202), (0), (by first | rfl | (simp; done) | (simp [*]; done)), H', ⟨Nat.le_refl _⟩, ⟨by (with_reducible repeat (first | apply Kd.R_alloc | apply Kd.R_drewN | apply Kd.R_drew)); exact Kd.R_mono HO204.out (fun _ hk => hk.2)⟩, ⟨zv8 BK201.out⟩, ⟨zv7 HB.out⟩⟩
 case round =>
  clear H'
  try clear p2
  obtain ⟨x5_1, x6_1, rfl, HA, HK1, HO_5, BK201, HB⟩ := hrel
  cases gk with
  | zero => exact absurd HA.out (by simp [spec_l04Without.l0])
  | succ k1 =>
   have H := HA.out
   clear HA
   simp only [spec_l04Without.l0] at H
   by_cases c6 : x6_1 < (l0.length : Int)
   ·rw [if_pos c6] at H
    have c6b0 : decide (x6_1 < (l0.length : Int)) = true := decide_eq_true c6
    clear c6
    by_cases c7 : 0 ≤ x6_1
    ·rw [if_pos c7] at H
     have c7b0 : decide (0 ≤ x6_1) = true := decide_eq_true c7
     clear c7
     replace H := zs4 H
     obtain ⟨t206, A80, H⟩ := H
     replace H : (if t206 = true then (spec_l04Without.l0 k1 l0 x5_1 (wrap64 (x6_1 + 1)) a1_0 a1_1 a1_2 a1_3) else (if x5_1.length < 4398046511104 then (spec_l04Without.l0 k1 l0 (x5_1 ++ [(⟨(rd_T58 l0 x6_1).f0, (rd_T58 l0 x6_1).f1, (rd_T58 l0 x6_1).f2, (rd_T58 l0 x6_1).f3⟩ : S58)]) (wrap64 (x6_1 + 1)) a1_0 a1_1 a1_2 a1_3) else (none))) = some r := H
     have A8 := zp.mk A80
     clear A80
     by_cases c9 : t206 = true
     ·subst c9
      have H1 : (spec_l04Without.l0 k1 l0 x5_1 (wrap64 (x6_1 + 1)) a1_0 a1_1 a1_2 a1_3) = some r := by rw [if_pos rfl] at H; exact H
      clear H
      have H := H1
      clear H1
      have H' := zp.mk H
      clear H
      try go_wp2
      replace HO_5 := zp.mk (Kd.R_drew HO_5.out)
      replace BK201 := zp.mk (zi BK201.out)
      replace HB := zp.mk (zb HB.out)
      have p205 : 0 ≤ (x6_1 : Int) := of_decide_eq_true (by first | (with_reducible assumption) | assumption)
      have q205 : x6_1 < (l0.length : Int) := of_decide_eq_true (by first | (with_reducible assumption) | assumption)
      obtain ⟨ad205, e205, hx205_0, hx205_1, hx205_2, hx205_3⟩ := at_T58 HR0.out x6_1 p205 q205
      have hw205_3 := hx205_3
      have hw205_2 := hx205_2
      have hw205_1 := hx205_1
      have hw205_0 := hx205_0
      cases e205
      replace hx205_0 := (HB.out.cell (World.block_lt_of_cell? w _ hx205_0)).trans hx205_0
      replace hx205_1 := (HB.out.cell (World.block_lt_of_cell? w _ hx205_1)).trans hx205_1
      replace hx205_2 := (HB.out.cell (World.block_lt_of_cell? w _ hx205_2)).trans hx205_2
      replace hx205_3 := (HB.out.cell (World.block_lt_of_cell? w _ hx205_3)).trans hx205_3
      replace p205 := eq_true p205
      replace q205 := eq_true q205
      refine start_ (n := 7) (S := fun w' => w'.cell? ⟨gb201, 0, none⟩ = some (.int .i64 a1_0) ∧ w'.cell? ⟨gb201, 1, none⟩ = some (.int .i64 a1_1) ∧ w'.cell? ⟨gb201, 2, none⟩ = some (.int .i64 a1_2) ∧ w'.cell? ⟨gb201, 3, none⟩ = some (.int .i64 a1_3) ∧ w'.cell? (ad205.add ((x6_1).toNat * 4)) = some (.int .i64 ((rd_T58 l0 x6_1).f0)) ∧ w'.cell? ⟨(ad205.add ((x6_1).toNat * 4)).block, (ad205.add ((x6_1).toNat * 4)).off + 1, none⟩ = some (.int .i64 ((rd_T58 l0 x6_1).f1)) ∧ w'.cell? ⟨(ad205.add ((x6_1).toNat * 4)).block, (ad205.add ((x6_1).toNat * 4)).off + 2, none⟩ = some (.int .i64 ((rd_T58 l0 x6_1).f2)) ∧ w'.cell? ⟨(ad205.add ((x6_1).toNat * 4)).block, (ad205.add ((x6_1).toNat * 4)).off + 3, none⟩ = some (.int .i64 ((rd_T58 l0 x6_1).f3))) (ds := []) (zB 7 0) (by kernel_rfl) rfl rfl ⟨(ze BK201.out 0).trans rfl, (ze BK201.out 1).trans rfl, (ze BK201.out 2).trans rfl, (ze BK201.out 3).trans rfl, ((HB.out.cell (World.block_lt_of_cell? w _ hw205_0)).trans hw205_0), ((HB.out.cell (World.block_lt_of_cell? w _ hw205_1)).trans hw205_1), ((HB.out.cell (World.block_lt_of_cell? w _ hw205_2)).trans hw205_2), ((HB.out.cell (World.block_lt_of_cell? w _ hw205_3)).trans hw205_3)⟩ (fun hHeld => ?_)
      generalize wr.drew = w10 at HO_5 BK201 HB hx205_0 hx205_1 hx205_2 hx205_3 hHeld ⊢
      refine pure_ (i := 0) (N := some 14) (v := ?_) (a' := ?_) (zB 7 1) rfl rfl (by kernel_rfl) (fun _ _ _ h => h) (Or.inl ⟨by rfl, ?_⟩) ?_ ?_
      rotate_left
      ·intro w'
       go_simp
       with_reducible rfl
      rotate_left
      ·simp only [Act.put, zs1, zs2, zs3, i64_w, i32_w]
       rfl
      refine pure_ (i := 1) (N := some 15) (v := ?_) (a' := ?_) (zB 7 3) rfl rfl (by kernel_rfl) (fun _ _ _ h => h) (Or.inl ⟨by rfl, ?_⟩) ?_ ?_
      rotate_left
      ·intro w'
       go_simp
       with_reducible rfl
      rotate_left
      ·simp only [Act.put, zs1, zs2, zs3, i64_w, i32_w]
       rfl
      refine pure_ (i := 2) (N := some 16) (v := ?_) (a' := ?_) (zB 7 7) rfl rfl (by kernel_rfl) (fun _ _ _ h => h) (Or.inl ⟨by rfl, ?_⟩) ?_ ?_
      rotate_left
      ·intro w'
       go_simp
       with_reducible rfl
      rotate_left
      ·simp only [Act.put, zs1, zs2, zs3, i64_w, i32_w]
       rfl
      refine take_ (i := 3) (N := some 17) (v := ?_) (a' := ?_) (zB 7 15) rfl rfl (by kernel_rfl) (fun _ _ _ h => h) (Or.inl ⟨by rfl, ?_⟩) hHeld ?_ ?_
      rotate_left
      ·rintro w' ⟨s0, s1, s2, s3, s4, s5, s6, s7⟩
       go_simp
       with_reducible rfl
      rotate_left
      ·simp only [Act.put, zs1, zs2, zs3, i64_w, i32_w]
       rfl
      refine take_ (i := 4) (N := some 18) (v := ?_) (a' := ?_) (zB 7 31) rfl rfl (by kernel_rfl) (fun _ _ _ h => h) (Or.inl ⟨by rfl, ?_⟩) hHeld ?_ ?_
      rotate_left
      ·rintro w' ⟨s0, s1, s2, s3, s4, s5, s6, s7⟩
       go_simp
       with_reducible rfl
      rotate_left
      ·simp only [Act.put, zs1, zs2, zs3, i64_w, i32_w]
       rfl
      refine one_ (i := 5) (N := some 19) (zB 7 63) rfl rfl (by kernel_rfl) (by decide) (fun K hK => ?_)
      refine goes_ Try.func110 (by kernel_rfl) rfl #[.agg #[.int .i64 ((rd_T58 l0 x6_1).f0), .int .i64 ((rd_T58 l0 x6_1).f1), .int .i64 ((rd_T58 l0 x6_1).f2), .int .i64 ((rd_T58 l0 x6_1).f3)], .agg #[.int .i64 a1_0, .int .i64 a1_1, .int .i64 a1_2, .int .i64 a1_3]] (by rfl) rfl rfl (by (try simp only [List.map_toArray, List.map_cons, List.map_nil]); first | done | rfl | (simp only [List.length_drop, List.length_take]; rfl)) ?_
      with_reducible refine (spec_l04One.calls ((rd_T58 l0 x6_1).f0) ((rd_T58 l0 x6_1).f1) ((rd_T58 l0 x6_1).f2) ((rd_T58 l0 x6_1).f3) a1_0 a1_1 a1_2 a1_3 true _ A8.out).mono ?_
      rintro e w11 ⟨rfl, hb⟩
      refine ⟨_, rfl, ?_⟩
      replace HO_5 := zp.mk (Kd.R_below (by (with_reducible repeat (first | apply Kd.R_alloc | apply Kd.R_drewN | apply Kd.R_drew)); exact HO_5.out) hb)
      replace BK201 := zp.mk (zl (zv8 BK201.out) hb)
      replace HB := zp.mk (zj (zv7 HB.out) hb)
      (try clear hb)
      (try clear hb2)
      (try clear hk)
      (try clear hi)
      refine hK.out _ _ ⟨(ze BK201.out 0).trans rfl, (ze BK201.out 1).trans rfl, (ze BK201.out 2).trans rfl, (ze BK201.out 3).trans rfl, ((HB.out.cell (World.block_lt_of_cell? w _ hw205_0)).trans hw205_0), ((HB.out.cell (World.block_lt_of_cell? w _ hw205_1)).trans hw205_1), ((HB.out.cell (World.block_lt_of_cell? w _ hw205_2)).trans hw205_2), ((HB.out.cell (World.block_lt_of_cell? w _ hw205_3)).trans hw205_3)⟩ (fun hHeld => ?_)
      clear hK K
      refine norm_ (a' := ?_) ?_ ?_
      rotate_left
      ·show Act.put _ (some 19) _ = _
       simp only [Act.put, zs1, zs2, zs3, i64_w, i32_w]
       rfl
      refine pure_ (i := 6) (N := some 20) (v := ?_) (a' := ?_) (zB 7 127) rfl rfl (by kernel_rfl) (fun _ _ _ h => h) (Or.inl ⟨by rfl, ?_⟩) ?_ ?_
      rotate_left
      ·intro w'
       go_simp
       with_reducible rfl
      rotate_left
      ·simp only [Act.put, zs1, zs2, zs3, i64_w, i32_w]
       rfl
      refine done_ (by kernel_rfl) ?_
      try go_wp2
      go_roundg k1
      case measure => have := HK1.out; omega
      case rel => exact ⟨(x5_1), (wrap64 (x6_1 + 1)), (by first | rfl | (simp; done) | (simp [*]; done)), H', ⟨by have := HK1.out; omega⟩, ⟨by (with_reducible repeat (first | apply Kd.R_alloc | apply Kd.R_drewN | apply Kd.R_drew)); exact HO_5.out⟩, ⟨zv8 BK201.out⟩, ⟨zv7 HB.out⟩⟩
     ·replace c9 := Bool.eq_false_iff.mpr c9
      subst c9
      have H1 : (if x5_1.length < 4398046511104 then (spec_l04Without.l0 k1 l0 (x5_1 ++ [(⟨(rd_T58 l0 x6_1).f0, (rd_T58 l0 x6_1).f1, (rd_T58 l0 x6_1).f2, (rd_T58 l0 x6_1).f3⟩ : S58)]) (wrap64 (x6_1 + 1)) a1_0 a1_1 a1_2 a1_3) else (none)) = some r := by rw [if_neg (show ¬ (false = true) by decide)] at H; exact H
      clear H
      have H := H1
      clear H1
      by_cases c12 : x5_1.length < 4398046511104
      ·rw [if_pos c12] at H
       have LMc12 := zp.mk c12
       clear c12
       obtain ⟨y208, hy208⟩ : ∃ y_ : List (S58), y_ = (x5_1 ++ [(⟨(rd_T58 l0 x6_1).f0, (rd_T58 l0 x6_1).f1, (rd_T58 l0 x6_1).f2, (rd_T58 l0 x6_1).f3⟩ : S58)]) := ⟨_, rfl⟩
       replace H : (spec_l04Without.l0 k1 l0 y208 (wrap64 (x6_1 + 1)) a1_0 a1_1 a1_2 a1_3) = some r := by first | (rw [hy208]; with_reducible exact H) | (have H2_ := (Option.bind_some _ _).symm.trans H; rw [hy208]; with_reducible exact H2_) | (have H2_ := (Option.bind_some _ _).symm.trans H; with_reducible exact H2_) | with_reducible exact H | (rw [hy208]; exact H) | exact H
       have Ny208 := zp.mk hy208
       clear hy208
       have H' := zp.mk H
       clear H
       try go_wp2
       replace HO_5 := zp.mk (Kd.R_drew HO_5.out)
       replace BK201 := zp.mk (zi BK201.out)
       replace HB := zp.mk (zb HB.out)
       have p205 : 0 ≤ (x6_1 : Int) := of_decide_eq_true (by first | (with_reducible assumption) | assumption)
       have q205 : x6_1 < (l0.length : Int) := of_decide_eq_true (by first | (with_reducible assumption) | assumption)
       obtain ⟨ad205, e205, hx205_0, hx205_1, hx205_2, hx205_3⟩ := at_T58 HR0.out x6_1 p205 q205
       have hw205_3 := hx205_3
       have hw205_2 := hx205_2
       have hw205_1 := hx205_1
       have hw205_0 := hx205_0
       cases e205
       replace hx205_0 := (HB.out.cell (World.block_lt_of_cell? w _ hx205_0)).trans hx205_0
       replace hx205_1 := (HB.out.cell (World.block_lt_of_cell? w _ hx205_1)).trans hx205_1
       replace hx205_2 := (HB.out.cell (World.block_lt_of_cell? w _ hx205_2)).trans hx205_2
       replace hx205_3 := (HB.out.cell (World.block_lt_of_cell? w _ hx205_3)).trans hx205_3
       replace p205 := eq_true p205
       replace q205 := eq_true q205
       refine start_ (n := 7) (S := fun w' => w'.cell? ⟨gb201, 0, none⟩ = some (.int .i64 a1_0) ∧ w'.cell? ⟨gb201, 1, none⟩ = some (.int .i64 a1_1) ∧ w'.cell? ⟨gb201, 2, none⟩ = some (.int .i64 a1_2) ∧ w'.cell? ⟨gb201, 3, none⟩ = some (.int .i64 a1_3) ∧ w'.cell? (ad205.add ((x6_1).toNat * 4)) = some (.int .i64 ((rd_T58 l0 x6_1).f0)) ∧ w'.cell? ⟨(ad205.add ((x6_1).toNat * 4)).block, (ad205.add ((x6_1).toNat * 4)).off + 1, none⟩ = some (.int .i64 ((rd_T58 l0 x6_1).f1)) ∧ w'.cell? ⟨(ad205.add ((x6_1).toNat * 4)).block, (ad205.add ((x6_1).toNat * 4)).off + 2, none⟩ = some (.int .i64 ((rd_T58 l0 x6_1).f2)) ∧ w'.cell? ⟨(ad205.add ((x6_1).toNat * 4)).block, (ad205.add ((x6_1).toNat * 4)).off + 3, none⟩ = some (.int .i64 ((rd_T58 l0 x6_1).f3))) (ds := []) (zB 7 0) (by kernel_rfl) rfl rfl ⟨(ze BK201.out 0).trans rfl, (ze BK201.out 1).trans rfl, (ze BK201.out 2).trans rfl, (ze BK201.out 3).trans rfl, ((HB.out.cell (World.block_lt_of_cell? w _ hw205_0)).trans hw205_0), ((HB.out.cell (World.block_lt_of_cell? w _ hw205_1)).trans hw205_1), ((HB.out.cell (World.block_lt_of_cell? w _ hw205_2)).trans hw205_2), ((HB.out.cell (World.block_lt_of_cell? w _ hw205_3)).trans hw205_3)⟩ (fun hHeld => ?_)
       generalize wr.drew = w13 at HO_5 BK201 HB hx205_0 hx205_1 hx205_2 hx205_3 hHeld ⊢
       refine pure_ (i := 0) (N := some 14) (v := ?_) (a' := ?_) (zB 7 1) rfl rfl (by kernel_rfl) (fun _ _ _ h => h) (Or.inl ⟨by rfl, ?_⟩) ?_ ?_
       rotate_left
       ·intro w'
        go_simp
        with_reducible rfl
       rotate_left
       ·simp only [Act.put, zs1, zs2, zs3, i64_w, i32_w]
        rfl
       refine pure_ (i := 1) (N := some 15) (v := ?_) (a' := ?_) (zB 7 3) rfl rfl (by kernel_rfl) (fun _ _ _ h => h) (Or.inl ⟨by rfl, ?_⟩) ?_ ?_
       rotate_left
       ·intro w'
        go_simp
        with_reducible rfl
       rotate_left
       ·simp only [Act.put, zs1, zs2, zs3, i64_w, i32_w]
        rfl
       refine pure_ (i := 2) (N := some 16) (v := ?_) (a' := ?_) (zB 7 7) rfl rfl (by kernel_rfl) (fun _ _ _ h => h) (Or.inl ⟨by rfl, ?_⟩) ?_ ?_
       rotate_left
       ·intro w'
        go_simp
        with_reducible rfl
       rotate_left
       ·simp only [Act.put, zs1, zs2, zs3, i64_w, i32_w]
        rfl
       refine take_ (i := 3) (N := some 17) (v := ?_) (a' := ?_) (zB 7 15) rfl rfl (by kernel_rfl) (fun _ _ _ h => h) (Or.inl ⟨by rfl, ?_⟩) hHeld ?_ ?_
       rotate_left
       ·rintro w' ⟨s0, s1, s2, s3, s4, s5, s6, s7⟩
        go_simp
        with_reducible rfl
       rotate_left
       ·simp only [Act.put, zs1, zs2, zs3, i64_w, i32_w]
        rfl
       refine take_ (i := 4) (N := some 18) (v := ?_) (a' := ?_) (zB 7 31) rfl rfl (by kernel_rfl) (fun _ _ _ h => h) (Or.inl ⟨by rfl, ?_⟩) hHeld ?_ ?_
       rotate_left
       ·rintro w' ⟨s0, s1, s2, s3, s4, s5, s6, s7⟩
        go_simp
        with_reducible rfl
       rotate_left
       ·simp only [Act.put, zs1, zs2, zs3, i64_w, i32_w]
        rfl
       refine one_ (i := 5) (N := some 19) (zB 7 63) rfl rfl (by kernel_rfl) (by decide) (fun K hK => ?_)
       refine goes_ Try.func110 (by kernel_rfl) rfl #[.agg #[.int .i64 ((rd_T58 l0 x6_1).f0), .int .i64 ((rd_T58 l0 x6_1).f1), .int .i64 ((rd_T58 l0 x6_1).f2), .int .i64 ((rd_T58 l0 x6_1).f3)], .agg #[.int .i64 a1_0, .int .i64 a1_1, .int .i64 a1_2, .int .i64 a1_3]] (by rfl) rfl rfl (by (try simp only [List.map_toArray, List.map_cons, List.map_nil]); first | done | rfl | (simp only [List.length_drop, List.length_take]; rfl)) ?_
       with_reducible refine (spec_l04One.calls ((rd_T58 l0 x6_1).f0) ((rd_T58 l0 x6_1).f1) ((rd_T58 l0 x6_1).f2) ((rd_T58 l0 x6_1).f3) a1_0 a1_1 a1_2 a1_3 false _ A8.out).mono ?_
       rintro e w14 ⟨rfl, hb⟩
       refine ⟨_, rfl, ?_⟩
       replace HO_5 := zp.mk (Kd.R_below (by (with_reducible repeat (first | apply Kd.R_alloc | apply Kd.R_drewN | apply Kd.R_drew)); exact HO_5.out) hb)
       replace BK201 := zp.mk (zl (zv8 BK201.out) hb)
       replace HB := zp.mk (zj (zv7 HB.out) hb)
       (try clear hb)
       (try clear hb2)
       (try clear hk)
       (try clear hi)
       refine hK.out _ _ ⟨(ze BK201.out 0).trans rfl, (ze BK201.out 1).trans rfl, (ze BK201.out 2).trans rfl, (ze BK201.out 3).trans rfl, ((HB.out.cell (World.block_lt_of_cell? w _ hw205_0)).trans hw205_0), ((HB.out.cell (World.block_lt_of_cell? w _ hw205_1)).trans hw205_1), ((HB.out.cell (World.block_lt_of_cell? w _ hw205_2)).trans hw205_2), ((HB.out.cell (World.block_lt_of_cell? w _ hw205_3)).trans hw205_3)⟩ (fun hHeld => ?_)
       clear hK K
       refine norm_ (a' := ?_) ?_ ?_
       rotate_left
       ·show Act.put _ (some 19) _ = _
        simp only [Act.put, zs1, zs2, zs3, i64_w, i32_w]
        rfl
       refine pure_ (i := 6) (N := some 20) (v := ?_) (a' := ?_) (zB 7 127) rfl rfl (by kernel_rfl) (fun _ _ _ h => h) (Or.inl ⟨by rfl, ?_⟩) ?_ ?_
       rotate_left
       ·intro w'
        go_simp
        with_reducible rfl
       rotate_left
       ·simp only [Act.put, zs1, zs2, zs3, i64_w, i32_w]
        rfl
       refine done_ (by kernel_rfl) ?_
       have p207 : 0 ≤ (x6_1 : Int) := of_decide_eq_true (by first | (with_reducible assumption) | assumption)
       have q207 : x6_1 < (l0.length : Int) := of_decide_eq_true (by first | (with_reducible assumption) | assumption)
       obtain ⟨ad207, e207, hx207_0, hx207_1, hx207_2, hx207_3⟩ := at_T58 HR0.out x6_1 p207 q207
       obtain rfl : ad205 = ad207 := (by injection e207)
       replace hx207_0 := (HB.out.cell (World.block_lt_of_cell? w _ hx207_0)).trans hx207_0
       replace hx207_1 := (HB.out.cell (World.block_lt_of_cell? w _ hx207_1)).trans hx207_1
       replace hx207_2 := (HB.out.cell (World.block_lt_of_cell? w _ hx207_2)).trans hx207_2
       replace hx207_3 := (HB.out.cell (World.block_lt_of_cell? w _ hx207_3)).trans hx207_3
       replace p207 := eq_true p207
       replace q207 := eq_true q207
       try go_wp2_with (first | ((with_reducible refine gate_builtin (b := .append) (xs := #[.tmp 21, .tmp 26]) rfl ?_); at_builtin; refine Kd.R_append k58 (w0 := w) w.heap.size rfl (.tmp 21) (.tmp 26) 64 58 (.agg #[(.int .i64 0), (.int .i64 0), (.int .i64 0), (.int .i64 0)]) 32 rfl Try.underlying64 info58 rfl (by decide) (by omega) u5 x5_1 (⟨(rd_T58 l0 x6_1).f0, (rd_T58 l0 x6_1).f1, (rd_T58 l0 x6_1).f2, (rd_T58 l0 x6_1).f3⟩ : S58) [.int .i64 ((rd_T58 l0 x6_1).f0), .int .i64 ((rd_T58 l0 x6_1).f1), .int .i64 ((rd_T58 l0 x6_1).f2), .int .i64 ((rd_T58 l0 x6_1).f3)] (fun k_ => k_ ≠ gb201) (fun _ => False) rfl rfl ?aP (fun _ hk => hk.elim) ?aF ?aO ?aB ?aS ?aL ?_; (case aP => exact k58_mkM _ _ _ (⟨(rd_T58 l0 x6_1).f0, (rd_T58 l0 x6_1).f1, (rd_T58 l0 x6_1).f2, (rd_T58 l0 x6_1).f3⟩ : S58)); (case aB => exact (zv7 HB.out)); (case aF => exact (fun k_ hk => Kd.freshB (g := gb201) (o := .cells #[.int .i64 a1_0, .int .i64 a1_1, .int .i64 a1_2, .int .i64 a1_3] 58 (0, 0)) (zv8 BK201.out) k_ hk)); (case aO => exact (by (with_reducible repeat (first | apply Kd.R_alloc | apply Kd.R_drewN | apply Kd.R_drew)); exact HO_5.out)); (case aS => exact (zk (zv7 HB.out))); (case aL => have := LMc12.out; omega); intro v209 w15 ho hb hg hat; rw [← Ny208.out] at ho; have n0_ := zp.mk (blk_grown (g := gb201) (o := .cells #[.int .i64 a1_0, .int .i64 a1_1, .int .i64 a1_2, .int .i64 a1_3] 58 (0, 0)) (zv8 BK201.out) hg (Kd.R_away HO_5.out (fun _ hk => hk))); have n1_ := zp.mk (hb); have n2_ := zp.mk (ho); clear BK201; clear HB; clear HO_5; have BK201 := n0_; have HB := n1_; have HO210 := n2_; clear n0_ n1_ n2_; clear ho hb hg hat))
       go_roundg k1
       case measure => have := HK1.out; omega
       case rel => exact ⟨(y208), (wrap64 (x6_1 + 1)), (by first | rfl | (simp; done) | (simp [*]; done)), H', ⟨by have := HK1.out; omega⟩, ⟨by (with_reducible repeat (first | apply Kd.R_alloc | apply Kd.R_drewN | apply Kd.R_drew)); exact HO210.out⟩, ⟨zv8 BK201.out⟩, ⟨zv7 HB.out⟩⟩
      ·rw [if_neg c12] at H
       exact absurd H (by simp)
    ·rw [if_neg c7] at H
     exact absurd H (by simp)
   ·rw [if_neg c6] at H
    have c6b0 : decide (x6_1 < (l0.length : Int)) = false := decide_eq_false c6
    clear c6
    obtain rfl := Option.some.inj H
    go_wp2
    go_ret
    exact ⟨_, by first | rfl | (simp [errW_none, errW_some] <;> rfl) | (simp [*, errW_none, errW_some] <;> rfl), by (with_reducible repeat (first | apply Kd.R_alloc | apply Kd.R_drewN | apply Kd.R_drew)); exact Kd.R_mono HO_5.out (fun _ hk => trivial), zv7 HB.out⟩

end Go.Proofs.Ytdpoliolinghfaa.QFnExactPolicySet
