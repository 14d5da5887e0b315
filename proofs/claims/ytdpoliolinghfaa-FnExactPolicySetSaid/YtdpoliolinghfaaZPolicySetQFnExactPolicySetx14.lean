/- Proved: calls of the program come to the answers of the plain Lean functions that stand beside them. Each contract names its conditions. (Written by a program of this session, over the printer of the kit.) -/
import Derived.Test.YtdpoliolinghfaaZPolicySetQFnExactPolicySetx0
import Derived.Test.YtdpoliolinghfaaZPolicySetQFnExactPolicySetx12
import Derived.Test.YtdpoliolinghfaaZPolicySetQFnExactPolicySetx13
namespace Go.Proofs.Ytdpoliolinghfaa.QFnExactPolicySet
open Go.RowKit Go.Proofs.YtdpoliolinghfaaW.PrintWords Go.Proofs.YtdpoliolinghfaaW.PrintLast Go.Proofs.YtdpoliolinghfaaW.PrintMore
attribute [local go_sem] max2_int min2_int max_two min_two max_three min_three max_four min_four   -- for this text's walks alone
set_option linter.unusedVariables false
set_option linter.unusedSimpArgs false

/-! ### impl_isPolicy: function 89 -/
def impl_isPolicy.l0 : Nat → List (S58) → List (S58) → Int → Int → Int → List Int → Option (Bool)
 | 0, _, _, _, _, _, _ => none
 | k + 1, x1, x7, x8, x9, x308000, x308001 => if x9 < x8 then (if 0 ≤ x9 then (if x9 < (x7.length : Int) then ((impl_isPunct.f x308000 x308001 ((rd_T58 x7 x9).f0) ((rd_T58 x7 x9).f1) ((rd_T58 x7 x9).f2) ((rd_T58 x7 x9).f3)).bind fun t310 => (if t310 = true then (if x9 > 0 then (if 0 ≤ (wrap64 (x9 - 1)) then (if (wrap64 (x9 - 1)) < (x1.length : Int) then ((impl_comparePuncts.f k ((rd_T58 x1 (wrap64 (x9 - 1))).f0) ((rd_T58 x1 (wrap64 (x9 - 1))).f1) ((rd_T58 x1 (wrap64 (x9 - 1))).f2) ((rd_T58 x1 (wrap64 (x9 - 1))).f3) ((rd_T58 x7 x9).f0) ((rd_T58 x7 x9).f1) ((rd_T58 x7 x9).f2) ((rd_T58 x7 x9).f3)).bind fun t312 => (if t312 ≥ 0 then (some false) else (impl_isPolicy.l0 k x1 x7 x8 (wrap64 (x9 + 1)) x308000 x308001))) else (none)) else (none)) else (impl_isPolicy.l0 k x1 x7 x8 (wrap64 (x9 + 1)) x308000 x308001)) else (some false))) else (none)) else (none)) else (some (decide ((x1.length : Int) ≤ 12)))
def impl_isPolicy.f (k : Nat) (a0_0 : Int) (l0_1 : List Int) (l1 : List (S58)) : Option (Bool) := impl_isPolicy.l0 k l1 l1 (l1.length : Int) 0 a0_0 l0_1
def impl_isPolicy.T4 : Bool × List (List Nat × List Nat) := (true, [([], []), ([], []), ([0, 1], [0, 1]), ([2], [2]), ([3, 2], [3]), ([4], [4]), ([5, 4], [4, 5]), ([6, 4, 4], [4, 6]), ([7], [7]), ([7], [7]), ([9, 7], [7, 9]), ([8, 10, 7], [7, 8, 10]), ([11, 7], [7, 11]), ([7], [7]), ([12, 13, 7, 7], [7, 12, 13]), ([14, 7], [7, 14]), ([7, 15, 4], [4, 7, 15]), ([4, 16], [4, 16])])
def impl_isPolicy.B4 : List Nat := [0, 0, 3, 7, 15, 31, 63, 127, 255, 255, 767, 2047, 4095, 255, 16383, 32767, 65535, 131071]
theorem impl_isPolicy.tab4 : rtab .any (opsOf Try.f89 4) = impl_isPolicy.T4 := by kernel_rfl
theorem impl_isPolicy.bits4 : waitsOk impl_isPolicy.T4.2 impl_isPolicy.B4 = true := by kernel_rfl
set_option maxHeartbeats 8000000 in
set_option maxRecDepth 100000 in
theorem impl_isPolicy.calls (k : Nat) (a0_0 : Int) (A0_1 : Option Addr) (c0_1 : Nat) (l0_1 : List Int) (A1 : Option Addr) (c1 : Nat) (l1 : List (S58)) (r : Bool) (w : World) (hr0_1 : Kd.C (Kd.int .u64) w A0_1 l0_1.length l0_1) (hc0_1 : l0_1.length ≤ c0_1) (hr1 : Kd.C k58 w A1 l1.length l1) (hc1 : l1.length ≤ c1) (h : impl_isPolicy.f k a0_0 l0_1 l1 = some r) :
  Calls Try.prog 89 #[.agg #[.int .i64 a0_0, .slice A0_1 l0_1.length c0_1], .slice A1 l1.length c1] w fun e w' => e = .returned (.bool r) ∧ Below w.heap.size w w' := by
 have hu27 := Try.underlying27
 have hu58 := Try.underlying58
 have HR0_1 := zp.mk hr0_1
 have HC0_1 := zp.mk hc0_1
 clear hr0_1 hc0_1
 have HR1 := zp.mk hr1
 have HC1 := zp.mk hc1
 clear hr1 hc1
 have HB := zp.mk (Below.refl w.heap.size w)
 have H : (impl_isPolicy.l0 k l1 l1 (l1.length : Int) 0 a0_0 l0_1) = some r := h
 clear h
 have H' := zp.mk H
 clear H
 go_enter Try.func89, Try.ntmps89
 go_wp2_with (first | ((with_reducible refine zo (N := 2) rfl ?_); refine zm ?hg (N := 2) ?hd (cs := #[.int .i64 a0_0, .slice A0_1 l0_1.length c0_1]) (t := 27) ?hr ?_; (case hd => rfl); (case hg => rfl); (case hr => first | (go_simp; done) | (go_simp; rfl)); intro gb307 hg w3 hbox hb; have BK307 := zp.mk (hbox); have GW307 := zp.mk ((zv3 (zv6 HB.out) hg)); have GE307 := zp.mk ((zv3 (zv6 HB.out) hg)); replace HB := zp.mk (zj (zv6 HB.out) hb); clear hb hbox hg))
 go_loopg [9] k (fun kq v9 w' => ∃ (x9_1 : Int), v9 = .int .i64 x9_1 ∧ zp (impl_isPolicy.l0 kq l1 l1 (l1.length : Int) x9_1 a0_0 l0_1 = some r) ∧ zp (kq ≤ k) ∧ zp (w'.heap[gb307]? = some (.cells #[.int .i64 a0_0, (.slice A0_1 l0_1.length c0_1)] 27 (0, 0))) ∧ zp (Below w.heap.size w w'))
 case atStart => exact ⟨(0), (by first | rfl | (simp; done) | (simp [*]; done)), H', ⟨Nat.le_refl _⟩, ⟨zv8 BK307.out⟩, ⟨zv7 HB.out⟩⟩
 case round =>
  clear H'
  try clear c1
  try clear p2
  obtain ⟨x9_1, rfl, HA, HK1, BK307, HB⟩ := hrel
  cases gk with
  | zero => exact absurd HA.out (by simp [impl_isPolicy.l0])
  | succ k1 =>
   have H := HA.out
   clear HA
   simp only [impl_isPolicy.l0] at H
   by_cases c4 : x9_1 < (l1.length : Int)
   ·rw [if_pos c4] at H
    have c4b0 : decide (x9_1 < (l1.length : Int)) = true := decide_eq_true c4
    clear c4
    by_cases c5 : 0 ≤ x9_1
    ·rw [if_pos c5] at H
     have c5b0 : decide (0 ≤ x9_1) = true := decide_eq_true c5
     clear c5
     by_cases c6 : x9_1 < (l1.length : Int)
     ·rw [if_pos c6] at H
      have c6b0 : decide (x9_1 < (l1.length : Int)) = true := decide_eq_true c6
      clear c6
      replace H := zs4 H
      obtain ⟨t310, A70, H⟩ := H
      replace H : (if t310 = true then (if x9_1 > 0 then (if 0 ≤ (wrap64 (x9_1 - 1)) then (if (wrap64 (x9_1 - 1)) < (l1.length : Int) then ((impl_comparePuncts.f k1 ((rd_T58 l1 (wrap64 (x9_1 - 1))).f0) ((rd_T58 l1 (wrap64 (x9_1 - 1))).f1) ((rd_T58 l1 (wrap64 (x9_1 - 1))).f2) ((rd_T58 l1 (wrap64 (x9_1 - 1))).f3) ((rd_T58 l1 x9_1).f0) ((rd_T58 l1 x9_1).f1) ((rd_T58 l1 x9_1).f2) ((rd_T58 l1 x9_1).f3)).bind fun t312 => (if t312 ≥ 0 then (some false) else (impl_isPolicy.l0 k1 l1 l1 (l1.length : Int) (wrap64 (x9_1 + 1)) a0_0 l0_1))) else (none)) else (none)) else (impl_isPolicy.l0 k1 l1 l1 (l1.length : Int) (wrap64 (x9_1 + 1)) a0_0 l0_1)) else (some false)) = some r := H
      have A7 := zp.mk A70
      clear A70
      by_cases c8 : t310 = true
      ·subst c8
       have H1 : (if x9_1 > 0 then (if 0 ≤ (wrap64 (x9_1 - 1)) then (if (wrap64 (x9_1 - 1)) < (l1.length : Int) then ((impl_comparePuncts.f k1 ((rd_T58 l1 (wrap64 (x9_1 - 1))).f0) ((rd_T58 l1 (wrap64 (x9_1 - 1))).f1) ((rd_T58 l1 (wrap64 (x9_1 - 1))).f2) ((rd_T58 l1 (wrap64 (x9_1 - 1))).f3) ((rd_T58 l1 x9_1).f0) ((rd_T58 l1 x9_1).f1) ((rd_T58 l1 x9_1).f2) ((rd_T58 l1 x9_1).f3)).bind fun t312 => (if t312 ≥ 0 then (some false) else (impl_isPolicy.l0 k1 l1 l1 (l1.length : Int) (wrap64 (x9_1 + 1)) a0_0 l0_1))) else (none)) else (none)) else (impl_isPolicy.l0 k1 l1 l1 (l1.length : Int) (wrap64 (x9_1 + 1)) a0_0 l0_1)) = some r := by rw [if_pos rfl] at H; exact H
       clear H
       have H := H1
       clear H1
       by_cases c9 : x9_1 > 0
       ·rw [if_pos c9] at H
        have c9b0 : decide (0 < x9_1) = true := decide_eq_true c9
        clear c9
        obtain ⟨ji10, hji10⟩ : ∃ j_ : Int, (wrap64 (x9_1 - 1)) = j_ := ⟨_, rfl⟩
        replace H : (if 0 ≤ (ji10) then (if (ji10) < (l1.length : Int) then ((impl_comparePuncts.f k1 ((rd_T58 l1 (ji10)).f0) ((rd_T58 l1 (ji10)).f1) ((rd_T58 l1 (ji10)).f2) ((rd_T58 l1 (ji10)).f3) ((rd_T58 l1 x9_1).f0) ((rd_T58 l1 x9_1).f1) ((rd_T58 l1 x9_1).f2) ((rd_T58 l1 x9_1).f3)).bind fun t312 => (if t312 ≥ 0 then (some false) else (impl_isPolicy.l0 k1 l1 l1 (l1.length : Int) (wrap64 (x9_1 + 1)) a0_0 l0_1))) else (none)) else (none)) = some r := by first | (rw [hji10] at H; exact H) | (simp only [hji10] at H ⊢; exact H)
        (try rw [hji10] at A7)
        have hji10w : (IntKind.i64.wrap (x9_1 - 1)) = ji10 := (i64_w _).trans hji10
        by_cases c11 : 0 ≤ (ji10)
        ·rw [if_pos c11] at H
         have c11b0 : decide (0 ≤ (ji10)) = true := decide_eq_true c11
         clear c11
         by_cases c12 : (ji10) < (l1.length : Int)
         ·rw [if_pos c12] at H
          have c12b0 : decide ((ji10) < (l1.length : Int)) = true := decide_eq_true c12
          clear c12
          replace H := zs4 H
          obtain ⟨t312, A130, H⟩ := H
          replace H : (if t312 ≥ 0 then (some false) else (impl_isPolicy.l0 k1 l1 l1 (l1.length : Int) (wrap64 (x9_1 + 1)) a0_0 l0_1)) = some r := H
          have A13 := zp.mk A130
          clear A130
          by_cases c14 : t312 ≥ 0
          ·rw [if_pos c14] at H
           have c14b0 : decide (0 ≤ t312) = true := decide_eq_true c14
           clear c14
           obtain rfl := Option.some.inj H
           have p308 : 0 ≤ (x9_1 : Int) := of_decide_eq_true (by first | (with_reducible assumption) | assumption)
           have q308 : x9_1 < (l1.length : Int) := of_decide_eq_true (by first | (with_reducible assumption) | assumption)
           obtain ⟨ad308, e308, hx308_0, hx308_1, hx308_2, hx308_3⟩ := at_T58 HR1.out x9_1 p308 q308
           cases e308
           replace hx308_0 := (HB.out.cell (World.block_lt_of_cell? w _ hx308_0)).trans hx308_0
           replace hx308_1 := (HB.out.cell (World.block_lt_of_cell? w _ hx308_1)).trans hx308_1
           replace hx308_2 := (HB.out.cell (World.block_lt_of_cell? w _ hx308_2)).trans hx308_2
           replace hx308_3 := (HB.out.cell (World.block_lt_of_cell? w _ hx308_3)).trans hx308_3
           replace p308 := eq_true p308
           replace q308 := eq_true q308
           try go_wp2_with (first | ((with_reducible refine zo (N := 6) rfl ?_); refine zm ?hg (N := 6) ?hd (cs := #[.int .i64 0, .int .i64 0, .int .i64 0, .int .i64 0]) (t := 58) ?hr ?_; (case hd => rfl); (case hg => rfl); (case hr => first | (go_simp; done) | (go_simp; rfl)); intro gb309 hg w15 hbox hb; have BK309 := zp.mk (hbox); have GW309 := zp.mk ((zv3 (zv7 HB.out) hg)); have GE309 := zp.mk ((zv3 (zv7 HB.out) hg)); have NB307_309 := zp.mk ((by rw [hg]; exact Nat.ne_of_lt (blk_lt (g := gb307) (o := .cells #[.int .i64 a0_0, .slice A0_1 l0_1.length c0_1] 27 (0, 0)) (zv8 BK307.out)) : gb307 ≠ gb309)); have NB309_307 := zp.mk ((by rw [hg]; exact Nat.ne_of_gt (blk_lt (g := gb307) (o := .cells #[.int .i64 a0_0, .slice A0_1 l0_1.length c0_1] 27 (0, 0)) (zv8 BK307.out)) : gb309 ≠ gb307)); replace BK307 := zp.mk (zl (zv8 BK307.out) hb); replace HB := zp.mk (zj (zv7 HB.out) hb); clear hb hbox hg; have hnb16 := NB309_307.out; have hnc16 := NB307_309.out; have y17_0 := zt0 BK309.out; have y17_1 := zt1 BK309.out; have y17_2 := zt2 BK309.out; have y17_3 := zt3 BK309.out; have u17_0 := zd BK309.out 0; have u17_1 := zd BK309.out 1; have u17_2 := zd BK309.out 2; have u17_3 := zd BK309.out 3))
           have n0_ : zp (((((w15.setCell ⟨gb309, 0, none⟩ (.int .i64 ((rd_T58 l1 x9_1).f0))).setCell ⟨gb309, 1, none⟩ (.int .i64 ((rd_T58 l1 x9_1).f1))).setCell ⟨gb309, 2, none⟩ (.int .i64 ((rd_T58 l1 x9_1).f2))).setCell ⟨gb309, 3, none⟩ (.int .i64 ((rd_T58 l1 x9_1).f3))).heap[gb307]? = some (.cells #[.int .i64 a0_0, .slice A0_1 l0_1.length c0_1] 27 (0, 0))) := ⟨by (with_reducible repeat (first | refine zf ?_ _ | refine zi ?_ | refine zg ?_ _)); refine blk_far ?_ NB307_309.out _; (with_reducible repeat (first | refine zf ?_ _ | refine zi ?_ | refine zg ?_ _)); refine blk_far ?_ NB307_309.out _; (with_reducible repeat (first | refine zf ?_ _ | refine zi ?_ | refine zg ?_ _)); refine blk_far ?_ NB307_309.out _; (with_reducible repeat (first | refine zf ?_ _ | refine zi ?_ | refine zg ?_ _)); refine blk_far ?_ NB307_309.out _; (with_reducible repeat (first | refine zf ?_ _ | refine zi ?_ | refine zg ?_ _)); exact BK307.out⟩
           have n1_ : zp (((((w15.setCell ⟨gb309, 0, none⟩ (.int .i64 ((rd_T58 l1 x9_1).f0))).setCell ⟨gb309, 1, none⟩ (.int .i64 ((rd_T58 l1 x9_1).f1))).setCell ⟨gb309, 2, none⟩ (.int .i64 ((rd_T58 l1 x9_1).f2))).setCell ⟨gb309, 3, none⟩ (.int .i64 ((rd_T58 l1 x9_1).f3))).heap[gb309]? = some (.cells #[.int .i64 ((rd_T58 l1 x9_1).f0), .int .i64 ((rd_T58 l1 x9_1).f1), .int .i64 ((rd_T58 l1 x9_1).f2), .int .i64 ((rd_T58 l1 x9_1).f3)] 58 (0, 0))) := ⟨by (with_reducible repeat (first | refine zf ?_ _ | refine zi ?_ | refine zg ?_ _)); refine blk_put (cs := #[.int .i64 ((rd_T58 l1 x9_1).f0), .int .i64 ((rd_T58 l1 x9_1).f1), .int .i64 ((rd_T58 l1 x9_1).f2), .int .i64 0]) ?_ 3 _ rfl; (with_reducible repeat (first | refine zf ?_ _ | refine zi ?_ | refine zg ?_ _)); refine blk_put (cs := #[.int .i64 ((rd_T58 l1 x9_1).f0), .int .i64 ((rd_T58 l1 x9_1).f1), .int .i64 0, .int .i64 0]) ?_ 2 _ rfl; (with_reducible repeat (first | refine zf ?_ _ | refine zi ?_ | refine zg ?_ _)); refine blk_put (cs := #[.int .i64 ((rd_T58 l1 x9_1).f0), .int .i64 0, .int .i64 0, .int .i64 0]) ?_ 1 _ rfl; (with_reducible repeat (first | refine zf ?_ _ | refine zi ?_ | refine zg ?_ _)); refine blk_put (cs := #[.int .i64 0, .int .i64 0, .int .i64 0, .int .i64 0]) ?_ 0 _ rfl; (with_reducible repeat (first | refine zf ?_ _ | refine zi ?_ | refine zg ?_ _)); exact BK309.out⟩
           have n2_ : zp (Below w.heap.size w ((((w15.setCell ⟨gb309, 0, none⟩ (.int .i64 ((rd_T58 l1 x9_1).f0))).setCell ⟨gb309, 1, none⟩ (.int .i64 ((rd_T58 l1 x9_1).f1))).setCell ⟨gb309, 2, none⟩ (.int .i64 ((rd_T58 l1 x9_1).f2))).setCell ⟨gb309, 3, none⟩ (.int .i64 ((rd_T58 l1 x9_1).f3)))) := ⟨zv7 HB.out⟩
           (try clear BK307)
           (try clear BK309)
           (try clear HB)
           generalize ((((w15.setCell ⟨gb309, 0, none⟩ (.int .i64 ((rd_T58 l1 x9_1).f0))).setCell ⟨gb309, 1, none⟩ (.int .i64 ((rd_T58 l1 x9_1).f1))).setCell ⟨gb309, 2, none⟩ (.int .i64 ((rd_T58 l1 x9_1).f2))).setCell ⟨gb309, 3, none⟩ (.int .i64 ((rd_T58 l1 x9_1).f3))) = w18 at n0_ n1_ n2_ ⊢
           have BK307 := n0_
           have BK309 := n1_
           have HB := n2_
           clear n0_ n1_ n2_
           replace BK307 := zp.mk (zi BK307.out)
           replace BK309 := zp.mk (zi BK309.out)
           replace HB := zp.mk (zb HB.out)
           have p311 : 0 ≤ ((ji10) : Int) := of_decide_eq_true (by first | (with_reducible assumption) | assumption)
           have q311 : (ji10) < (l1.length : Int) := of_decide_eq_true (by first | (with_reducible assumption) | assumption)
           obtain ⟨ad311, e311, hx311_0, hx311_1, hx311_2, hx311_3⟩ := at_T58 HR1.out (ji10) p311 q311
           have hw311_3 := hx311_3
           have hw311_2 := hx311_2
           have hw311_1 := hx311_1
           have hw311_0 := hx311_0
           obtain rfl : ad308 = ad311 := (by injection e311)
           replace hx311_0 := (HB.out.cell (World.block_lt_of_cell? w _ hx311_0)).trans hx311_0
           replace hx311_1 := (HB.out.cell (World.block_lt_of_cell? w _ hx311_1)).trans hx311_1
           replace hx311_2 := (HB.out.cell (World.block_lt_of_cell? w _ hx311_2)).trans hx311_2
           replace hx311_3 := (HB.out.cell (World.block_lt_of_cell? w _ hx311_3)).trans hx311_3
           replace p311 := eq_true p311
           replace q311 := eq_true q311
           refine start_ (n := 18) (S := fun w' => w'.cell? ⟨gb307, 0, none⟩ = some (.int .i64 a0_0) ∧ w'.cell? ⟨gb307, 1, none⟩ = some (.slice A0_1 l0_1.length c0_1) ∧ w'.cell? ⟨gb309, 0, none⟩ = some (.int .i64 ((rd_T58 l1 x9_1).f0)) ∧ w'.cell? ⟨gb309, 1, none⟩ = some (.int .i64 ((rd_T58 l1 x9_1).f1)) ∧ w'.cell? ⟨gb309, 2, none⟩ = some (.int .i64 ((rd_T58 l1 x9_1).f2)) ∧ w'.cell? ⟨gb309, 3, none⟩ = some (.int .i64 ((rd_T58 l1 x9_1).f3)) ∧ w'.cell? (ad308.add (((ji10)).toNat * 4)) = some (.int .i64 ((rd_T58 l1 (ji10)).f0)) ∧ w'.cell? ⟨(ad308.add (((ji10)).toNat * 4)).block, (ad308.add (((ji10)).toNat * 4)).off + 1, none⟩ = some (.int .i64 ((rd_T58 l1 (ji10)).f1)) ∧ w'.cell? ⟨(ad308.add (((ji10)).toNat * 4)).block, (ad308.add (((ji10)).toNat * 4)).off + 2, none⟩ = some (.int .i64 ((rd_T58 l1 (ji10)).f2)) ∧ w'.cell? ⟨(ad308.add (((ji10)).toNat * 4)).block, (ad308.add (((ji10)).toNat * 4)).off + 3, none⟩ = some (.int .i64 ((rd_T58 l1 (ji10)).f3))) (ds := []) (zB 18 0) (by kernel_rfl) rfl rfl ⟨(ze BK307.out 0).trans rfl, (ze BK307.out 1).trans rfl, (ze BK309.out 0).trans rfl, (ze BK309.out 1).trans rfl, (ze BK309.out 2).trans rfl, (ze BK309.out 3).trans rfl, ((HB.out.cell (World.block_lt_of_cell? w _ hw311_0)).trans hw311_0), ((HB.out.cell (World.block_lt_of_cell? w _ hw311_1)).trans hw311_1), ((HB.out.cell (World.block_lt_of_cell? w _ hw311_2)).trans hw311_2), ((HB.out.cell (World.block_lt_of_cell? w _ hw311_3)).trans hw311_3)⟩ (fun hHeld => ?_); refine with_tabW impl_isPolicy.tab4 impl_isPolicy.bits4 (fun HT_ HW_ => ?_)
           generalize w18.drew = w19 at BK307 BK309 HB hx311_0 hx311_1 hx311_2 hx311_3 hHeld ⊢
           refine take_ (i := 0) (N := some 14) (v := ?_) (a' := ?_) (zB 18 1) rfl rfl (take_ofW HT_.out HW_.out (by kernel_rfl)) (fun _ _ _ h => h) (Or.inl ⟨by rfl, ?_⟩) hHeld ?_ ?_
           rotate_left
           ·rintro w' ⟨s0, s1, s2, s3, s4, s5, s6, s7, s8, s9⟩
            go_simp
            with_reducible rfl
           rotate_left
           ·simp only [Act.put, zs1, zs2, zs3, i64_w, i32_w]
            rfl
           refine take_ (i := 1) (N := some 15) (v := ?_) (a' := ?_) (zB 18 3) rfl rfl (take_ofW HT_.out HW_.out (by kernel_rfl)) (fun _ _ _ h => h) (Or.inl ⟨by rfl, ?_⟩) hHeld ?_ ?_
           rotate_left
           ·rintro w' ⟨s0, s1, s2, s3, s4, s5, s6, s7, s8, s9⟩
            go_simp
            with_reducible rfl
           rotate_left
           ·simp only [Act.put, zs1, zs2, zs3, i64_w, i32_w]
            rfl
           refine one_ (i := 2) (N := some 16) (zB 18 7) rfl rfl (one_of HT_.out (by kernel_rfl)) (by decide) (fun K hK => ?_)
           refine goes_ Try.func86 (by kernel_rfl) rfl #[.agg #[.int .i64 a0_0, .slice A0_1 l0_1.length c0_1], .agg #[.int .i64 ((rd_T58 l1 x9_1).f0), .int .i64 ((rd_T58 l1 x9_1).f1), .int .i64 ((rd_T58 l1 x9_1).f2), .int .i64 ((rd_T58 l1 x9_1).f3)]] (by rfl) rfl rfl (by (try simp only [List.map_toArray, List.map_cons, List.map_nil]); first | done | rfl | (simp only [List.length_drop, List.length_take]; rfl)) ?_
           with_reducible refine (impl_isPunct.calls a0_0 _ _ l0_1 ((rd_T58 l1 x9_1).f0) ((rd_T58 l1 x9_1).f1) ((rd_T58 l1 x9_1).f2) ((rd_T58 l1 x9_1).f3) true _ ?side1 ?side2 A7.out).mono ?_
           (case side1 => repeat (first | exact (Kd.zt HR0_1.out HB.out) | (with_reducible refine Kd.zr ?_ _) | (with_reducible refine Kd.zq ?_ _) | (with_reducible refine Kd.C_drew ?_)))
           (case side2 => exact HC0_1.out)
           rintro e w20 ⟨rfl, hb⟩
           refine ⟨_, rfl, ?_⟩
           replace BK307 := zp.mk (zl (zv8 BK307.out) hb)
           replace BK309 := zp.mk (zl (zv8 BK309.out) hb)
           replace HB := zp.mk (zj (zv7 HB.out) hb)
           (try clear hb)
           (try clear hb2)
           (try clear hk)
           (try clear hi)
           refine hK.out _ _ ⟨(ze BK307.out 0).trans rfl, (ze BK307.out 1).trans rfl, (ze BK309.out 0).trans rfl, (ze BK309.out 1).trans rfl, (ze BK309.out 2).trans rfl, (ze BK309.out 3).trans rfl, ((HB.out.cell (World.block_lt_of_cell? w _ hw311_0)).trans hw311_0), ((HB.out.cell (World.block_lt_of_cell? w _ hw311_1)).trans hw311_1), ((HB.out.cell (World.block_lt_of_cell? w _ hw311_2)).trans hw311_2), ((HB.out.cell (World.block_lt_of_cell? w _ hw311_3)).trans hw311_3)⟩ (fun hHeld => ?_)
           clear hK K
           refine norm_ (a' := ?_) ?_ ?_
           rotate_left
           ·show Act.put _ (some 16) _ = _
            simp only [Act.put, zs1, zs2, zs3, i64_w, i32_w]
            rfl
           refine pure_ (i := 3) (N := some 17) (v := ?_) (a' := ?_) (zB 18 15) rfl rfl (any_of HT_.out (by kernel_rfl)) (fun _ _ _ h => h) (Or.inl ⟨by rfl, ?_⟩) ?_ ?_
           rotate_left
           ·intro w'
            go_simp
            with_reducible rfl
           rotate_left
           ·simp only [Act.put, zs1, zs2, zs3, i64_w, i32_w]
            rfl
           refine pure_ (i := 4) (N := some 18) (v := ?_) (a' := ?_) (zB 18 31) rfl rfl (any_of HT_.out (by kernel_rfl)) (fun _ _ _ h => h) (Or.inl ⟨by rfl, ?_⟩) ?_ ?_
           rotate_left
           ·intro w'
            go_simp
            with_reducible rfl
           rotate_left
           ·simp only [Act.put, zs1, zs2, zs3, i64_w, i32_w]
            rfl
           refine pure_ (i := 5) (N := some 19) (v := ?_) (a' := ?_) (zB 18 63) rfl rfl (any_of HT_.out (by kernel_rfl)) (fun _ _ _ h => h) (Or.inl ⟨by rfl, ?_⟩) ?_ ?_
           rotate_left
           ·intro w'
            go_simp
            with_reducible rfl
           rotate_left
           ·simp only [Act.put, zs1, zs2, zs3, i64_w, i32_w]
            rfl
           refine pure_ (i := 6) (N := some 20) (v := ?_) (a' := ?_) (zB 18 127) rfl rfl (any_of HT_.out (by kernel_rfl)) (fun _ _ _ h => h) (Or.inl ⟨by rfl, ?_⟩) ?_ ?_
           rotate_left
           ·intro w'
            go_simp
            with_reducible rfl
           rotate_left
           ·simp only [Act.put, zs1, zs2, zs3, i64_w, i32_w]
            rfl
           refine pure_ (i := 7) (N := some 21) (v := ?_) (a' := ?_) (zB 18 255) rfl rfl (any_of HT_.out (by kernel_rfl)) (fun _ _ _ h => h) (Or.inl ⟨by rfl, ?_⟩) ?_ ?_
           rotate_left
           ·intro w'
            go_simp
            with_reducible rfl
           rotate_left
           ·simp only [Act.put, zs1, zs2, zs3, i64_w, i32_w]
            rfl
           refine pure_ (i := 8) (N := some 22) (v := ?_) (a' := ?_) (zB 18 511) rfl rfl (any_of HT_.out (by kernel_rfl)) (fun _ _ _ h => h) (Or.inl ⟨by rfl, ?_⟩) ?_ ?_
           rotate_left
           ·intro w'
            go_simp
            with_reducible rfl
           rotate_left
           ·simp only [Act.put, zs1, zs2, zs3, i64_w, i32_w]
            rfl
           refine pure_ (i := 9) (N := some 23) (v := ?_) (a' := ?_) (zB 18 1023) rfl rfl (any_of HT_.out (by kernel_rfl)) (fun _ _ _ h => h) (Or.inl ⟨by rfl, ?_⟩) ?_ ?_
           rotate_left
           ·intro w'
            go_simp
            with_reducible rfl
           rotate_left
           ·simp only [Act.put, zs1, zs2, zs3, i64_w, i32_w]
            rfl
           refine pure_ (i := 10) (N := some 24) (v := ?_) (a' := ?_) (zB 18 2047) rfl rfl (any_of HT_.out (by kernel_rfl)) (fun _ _ _ h => h) (Or.inl ⟨by rfl, ?_⟩) ?_ ?_
           rotate_left
           ·intro w'
            go_simp
            with_reducible rfl
           rotate_left
           ·simp only [Act.put, zs1, zs2, zs3, i64_w, i32_w]
            rfl
           refine pure_ (i := 11) (N := some 25) (v := ?_) (a' := ?_) (zB 18 4095) rfl rfl (any_of HT_.out (by kernel_rfl)) (fun _ _ _ h => h) (Or.inl ⟨by rfl, ?_⟩) ?_ ?_
           rotate_left
           ·intro w'
            go_simp
            with_reducible rfl
           rotate_left
           ·simp only [Act.put, zs1, zs2, zs3, i64_w, i32_w]
            rfl
           refine take_ (i := 12) (N := some 26) (v := ?_) (a' := ?_) (zB 18 8191) rfl rfl (take_ofW HT_.out HW_.out (by kernel_rfl)) (fun _ _ _ h => h) (Or.inl ⟨by rfl, ?_⟩) hHeld ?_ ?_
           rotate_left
           ·rintro w' ⟨s0, s1, s2, s3, s4, s5, s6, s7, s8, s9⟩
            go_simp
            with_reducible rfl
           rotate_left
           ·simp only [Act.put, zs1, zs2, zs3, i64_w, i32_w]
            rfl
           refine take_ (i := 13) (N := some 27) (v := ?_) (a' := ?_) (zB 18 16383) rfl rfl (take_ofW HT_.out HW_.out (by kernel_rfl)) (fun _ _ _ h => h) (Or.inl ⟨by rfl, ?_⟩) hHeld ?_ ?_
           rotate_left
           ·rintro w' ⟨s0, s1, s2, s3, s4, s5, s6, s7, s8, s9⟩
            go_simp
            with_reducible rfl
           rotate_left
           ·simp only [Act.put, zs1, zs2, zs3, i64_w, i32_w]
            rfl
           refine one_ (i := 14) (N := some 28) (zB 18 32767) rfl rfl (one_of HT_.out (by kernel_rfl)) (by decide) (fun K hK => ?_)
           refine goes_ Try.func107 (by kernel_rfl) rfl #[.agg #[.int .i64 ((rd_T58 l1 (ji10)).f0), .int .i64 ((rd_T58 l1 (ji10)).f1), .int .i64 ((rd_T58 l1 (ji10)).f2), .int .i64 ((rd_T58 l1 (ji10)).f3)], .agg #[.int .i64 ((rd_T58 l1 x9_1).f0), .int .i64 ((rd_T58 l1 x9_1).f1), .int .i64 ((rd_T58 l1 x9_1).f2), .int .i64 ((rd_T58 l1 x9_1).f3)]] (by rfl) rfl rfl (by (try simp only [List.map_toArray, List.map_cons, List.map_nil]); first | done | (simp only [hji10]; rfl) | rfl | (simp only [List.length_drop, List.length_take]; rfl)) ?_
           with_reducible refine (impl_comparePuncts.calls k1 ((rd_T58 l1 (ji10)).f0) ((rd_T58 l1 (ji10)).f1) ((rd_T58 l1 (ji10)).f2) ((rd_T58 l1 (ji10)).f3) ((rd_T58 l1 x9_1).f0) ((rd_T58 l1 x9_1).f1) ((rd_T58 l1 x9_1).f2) ((rd_T58 l1 x9_1).f3) t312 _ A13.out).mono ?_
           rintro e w21 ⟨rfl, hb⟩
           refine ⟨_, rfl, ?_⟩
           replace BK307 := zp.mk (zl (zv8 BK307.out) hb)
           replace BK309 := zp.mk (zl (zv8 BK309.out) hb)
           replace HB := zp.mk (zj (zv7 HB.out) hb)
           (try clear hb)
           (try clear hb2)
           (try clear hk)
           (try clear hi)
           refine hK.out _ _ ⟨(ze BK307.out 0).trans rfl, (ze BK307.out 1).trans rfl, (ze BK309.out 0).trans rfl, (ze BK309.out 1).trans rfl, (ze BK309.out 2).trans rfl, (ze BK309.out 3).trans rfl, ((HB.out.cell (World.block_lt_of_cell? w _ hw311_0)).trans hw311_0), ((HB.out.cell (World.block_lt_of_cell? w _ hw311_1)).trans hw311_1), ((HB.out.cell (World.block_lt_of_cell? w _ hw311_2)).trans hw311_2), ((HB.out.cell (World.block_lt_of_cell? w _ hw311_3)).trans hw311_3)⟩ (fun hHeld => ?_)
           clear hK K
           refine norm_ (a' := ?_) ?_ ?_
           rotate_left
           ·show Act.put _ (some 28) _ = _
            simp only [Act.put, zs1, zs2, zs3, i64_w, i32_w]
            rfl
           refine pure_ (i := 15) (N := some 29) (v := ?_) (a' := ?_) (zB 18 65535) rfl rfl (any_of HT_.out (by kernel_rfl)) (fun _ _ _ h => h) (Or.inl ⟨by rfl, ?_⟩) ?_ ?_
           rotate_left
           ·intro w'
            go_simp
            with_reducible rfl
           rotate_left
           ·simp only [Act.put, zs1, zs2, zs3, i64_w, i32_w]
            rfl
           refine pure_ (i := 16) (N := some 30) (v := ?_) (a' := ?_) (zB 18 131071) rfl rfl (any_of HT_.out (by kernel_rfl)) (fun _ _ _ h => h) (Or.inl ⟨by rfl, ?_⟩) ?_ ?_
           rotate_left
           ·intro w'
            go_simp
            with_reducible rfl
           rotate_left
           ·simp only [Act.put, zs1, zs2, zs3, i64_w, i32_w]
            rfl
           refine pure_ (i := 17) (N := some 31) (v := ?_) (a' := ?_) (zB 18 262143) rfl rfl (any_of HT_.out (by kernel_rfl)) (fun _ _ _ h => h) (Or.inl ⟨by rfl, ?_⟩) ?_ ?_
           rotate_left
           ·intro w'
            go_simp
            with_reducible rfl
           rotate_left
           ·simp only [Act.put, zs1, zs2, zs3, i64_w, i32_w]
            rfl
           refine done_ (done_of HT_.out (by kernel_rfl)) ?_
           try go_wp2
           go_ret
           exact ⟨by first | rfl | (simp [errW_none, errW_some] <;> rfl) | (simp only [← hji10]; first | rfl | (simp [errW_none, errW_some] <;> rfl)) | (simp [*, errW_none, errW_some] <;> rfl), zv7 HB.out⟩
          ·rw [if_neg c14] at H
           have c14b0 : decide (0 ≤ t312) = false := decide_eq_false c14
           clear c14
           have H' := zp.mk H
           clear H
           have p308 : 0 ≤ (x9_1 : Int) := of_decide_eq_true (by first | (with_reducible assumption) | assumption)
           have q308 : x9_1 < (l1.length : Int) := of_decide_eq_true (by first | (with_reducible assumption) | assumption)
           obtain ⟨ad308, e308, hx308_0, hx308_1, hx308_2, hx308_3⟩ := at_T58 HR1.out x9_1 p308 q308
           cases e308
           replace hx308_0 := (HB.out.cell (World.block_lt_of_cell? w _ hx308_0)).trans hx308_0
           replace hx308_1 := (HB.out.cell (World.block_lt_of_cell? w _ hx308_1)).trans hx308_1
           replace hx308_2 := (HB.out.cell (World.block_lt_of_cell? w _ hx308_2)).trans hx308_2
           replace hx308_3 := (HB.out.cell (World.block_lt_of_cell? w _ hx308_3)).trans hx308_3
           replace p308 := eq_true p308
           replace q308 := eq_true q308
           try go_wp2_with (first | ((with_reducible refine zo (N := 6) rfl ?_); refine zm ?hg (N := 6) ?hd (cs := #[.int .i64 0, .int .i64 0, .int .i64 0, .int .i64 0]) (t := 58) ?hr ?_; (case hd => rfl); (case hg => rfl); (case hr => first | (go_simp; done) | (go_simp; rfl)); intro gb309 hg w22 hbox hb; have BK309 := zp.mk (hbox); have GW309 := zp.mk ((zv3 (zv7 HB.out) hg)); have GE309 := zp.mk ((zv3 (zv7 HB.out) hg)); have NB307_309 := zp.mk ((by rw [hg]; exact Nat.ne_of_lt (blk_lt (g := gb307) (o := .cells #[.int .i64 a0_0, .slice A0_1 l0_1.length c0_1] 27 (0, 0)) (zv8 BK307.out)) : gb307 ≠ gb309)); have NB309_307 := zp.mk ((by rw [hg]; exact Nat.ne_of_gt (blk_lt (g := gb307) (o := .cells #[.int .i64 a0_0, .slice A0_1 l0_1.length c0_1] 27 (0, 0)) (zv8 BK307.out)) : gb309 ≠ gb307)); replace BK307 := zp.mk (zl (zv8 BK307.out) hb); replace HB := zp.mk (zj (zv7 HB.out) hb); clear hb hbox hg; have hnb23 := NB309_307.out; have hnc23 := NB307_309.out; have y24_0 := zt0 BK309.out; have y24_1 := zt1 BK309.out; have y24_2 := zt2 BK309.out; have y24_3 := zt3 BK309.out; have u24_0 := zd BK309.out 0; have u24_1 := zd BK309.out 1; have u24_2 := zd BK309.out 2; have u24_3 := zd BK309.out 3))
           have n0_ : zp (((((w22.setCell ⟨gb309, 0, none⟩ (.int .i64 ((rd_T58 l1 x9_1).f0))).setCell ⟨gb309, 1, none⟩ (.int .i64 ((rd_T58 l1 x9_1).f1))).setCell ⟨gb309, 2, none⟩ (.int .i64 ((rd_T58 l1 x9_1).f2))).setCell ⟨gb309, 3, none⟩ (.int .i64 ((rd_T58 l1 x9_1).f3))).heap[gb307]? = some (.cells #[.int .i64 a0_0, .slice A0_1 l0_1.length c0_1] 27 (0, 0))) := ⟨by (with_reducible repeat (first | refine zf ?_ _ | refine zi ?_ | refine zg ?_ _)); refine blk_far ?_ NB307_309.out _; (with_reducible repeat (first | refine zf ?_ _ | refine zi ?_ | refine zg ?_ _)); refine blk_far ?_ NB307_309.out _; (with_reducible repeat (first | refine zf ?_ _ | refine zi ?_ | refine zg ?_ _)); refine blk_far ?_ NB307_309.out _; (with_reducible repeat (first | refine zf ?_ _ | refine zi ?_ | refine zg ?_ _)); refine blk_far ?_ NB307_309.out _; (with_reducible repeat (first | refine zf ?_ _ | refine zi ?_ | refine zg ?_ _)); exact BK307.out⟩
           have n1_ : zp (((((w22.setCell ⟨gb309, 0, none⟩ (.int .i64 ((rd_T58 l1 x9_1).f0))).setCell ⟨gb309, 1, none⟩ (.int .i64 ((rd_T58 l1 x9_1).f1))).setCell ⟨gb309, 2, none⟩ (.int .i64 ((rd_T58 l1 x9_1).f2))).setCell ⟨gb309, 3, none⟩ (.int .i64 ((rd_T58 l1 x9_1).f3))).heap[gb309]? = some (.cells #[.int .i64 ((rd_T58 l1 x9_1).f0), .int .i64 ((rd_T58 l1 x9_1).f1), .int .i64 ((rd_T58 l1 x9_1).f2), .int .i64 ((rd_T58 l1 x9_1).f3)] 58 (0, 0))) := ⟨by (with_reducible repeat (first | refine zf ?_ _ | refine zi ?_ | refine zg ?_ _)); refine blk_put (cs := #[.int .i64 ((rd_T58 l1 x9_1).f0), .int .i64 ((rd_T58 l1 x9_1).f1), .int .i64 ((rd_T58 l1 x9_1).f2), .int .i64 0]) ?_ 3 _ rfl; (with_reducible repeat (first | refine zf ?_ _ | refine zi ?_ | refine zg ?_ _)); refine blk_put (cs := #[.int .i64 ((rd_T58 l1 x9_1).f0), .int .i64 ((rd_T58 l1 x9_1).f1), .int .i64 0, .int .i64 0]) ?_ 2 _ rfl; (with_reducible repeat (first | refine zf ?_ _ | refine zi ?_ | refine zg ?_ _)); refine blk_put (cs := #[.int .i64 ((rd_T58 l1 x9_1).f0), .int .i64 0, .int .i64 0, .int .i64 0]) ?_ 1 _ rfl; (with_reducible repeat (first | refine zf ?_ _ | refine zi ?_ | refine zg ?_ _)); refine blk_put (cs := #[.int .i64 0, .int .i64 0, .int .i64 0, .int .i64 0]) ?_ 0 _ rfl; (with_reducible repeat (first | refine zf ?_ _ | refine zi ?_ | refine zg ?_ _)); exact BK309.out⟩
           have n2_ : zp (Below w.heap.size w ((((w22.setCell ⟨gb309, 0, none⟩ (.int .i64 ((rd_T58 l1 x9_1).f0))).setCell ⟨gb309, 1, none⟩ (.int .i64 ((rd_T58 l1 x9_1).f1))).setCell ⟨gb309, 2, none⟩ (.int .i64 ((rd_T58 l1 x9_1).f2))).setCell ⟨gb309, 3, none⟩ (.int .i64 ((rd_T58 l1 x9_1).f3)))) := ⟨zv7 HB.out⟩
           (try clear BK307)
           (try clear BK309)
           (try clear HB)
           generalize ((((w22.setCell ⟨gb309, 0, none⟩ (.int .i64 ((rd_T58 l1 x9_1).f0))).setCell ⟨gb309, 1, none⟩ (.int .i64 ((rd_T58 l1 x9_1).f1))).setCell ⟨gb309, 2, none⟩ (.int .i64 ((rd_T58 l1 x9_1).f2))).setCell ⟨gb309, 3, none⟩ (.int .i64 ((rd_T58 l1 x9_1).f3))) = w25 at n0_ n1_ n2_ ⊢
           have BK307 := n0_
           have BK309 := n1_
           have HB := n2_
           clear n0_ n1_ n2_
           replace BK307 := zp.mk (zi BK307.out)
           replace BK309 := zp.mk (zi BK309.out)
           replace HB := zp.mk (zb HB.out)
           have p311 : 0 ≤ ((ji10) : Int) := of_decide_eq_true (by first | (with_reducible assumption) | assumption)
           have q311 : (ji10) < (l1.length : Int) := of_decide_eq_true (by first | (with_reducible assumption) | assumption)
           obtain ⟨ad311, e311, hx311_0, hx311_1, hx311_2, hx311_3⟩ := at_T58 HR1.out (ji10) p311 q311
           have hw311_3 := hx311_3
           have hw311_2 := hx311_2
           have hw311_1 := hx311_1
           have hw311_0 := hx311_0
           obtain rfl : ad308 = ad311 := (by injection e311)
           replace hx311_0 := (HB.out.cell (World.block_lt_of_cell? w _ hx311_0)).trans hx311_0
           replace hx311_1 := (HB.out.cell (World.block_lt_of_cell? w _ hx311_1)).trans hx311_1
           replace hx311_2 := (HB.out.cell (World.block_lt_of_cell? w _ hx311_2)).trans hx311_2
           replace hx311_3 := (HB.out.cell (World.block_lt_of_cell? w _ hx311_3)).trans hx311_3
           replace p311 := eq_true p311
           replace q311 := eq_true q311
           refine start_ (n := 18) (S := fun w' => w'.cell? ⟨gb307, 0, none⟩ = some (.int .i64 a0_0) ∧ w'.cell? ⟨gb307, 1, none⟩ = some (.slice A0_1 l0_1.length c0_1) ∧ w'.cell? ⟨gb309, 0, none⟩ = some (.int .i64 ((rd_T58 l1 x9_1).f0)) ∧ w'.cell? ⟨gb309, 1, none⟩ = some (.int .i64 ((rd_T58 l1 x9_1).f1)) ∧ w'.cell? ⟨gb309, 2, none⟩ = some (.int .i64 ((rd_T58 l1 x9_1).f2)) ∧ w'.cell? ⟨gb309, 3, none⟩ = some (.int .i64 ((rd_T58 l1 x9_1).f3)) ∧ w'.cell? (ad308.add (((ji10)).toNat * 4)) = some (.int .i64 ((rd_T58 l1 (ji10)).f0)) ∧ w'.cell? ⟨(ad308.add (((ji10)).toNat * 4)).block, (ad308.add (((ji10)).toNat * 4)).off + 1, none⟩ = some (.int .i64 ((rd_T58 l1 (ji10)).f1)) ∧ w'.cell? ⟨(ad308.add (((ji10)).toNat * 4)).block, (ad308.add (((ji10)).toNat * 4)).off + 2, none⟩ = some (.int .i64 ((rd_T58 l1 (ji10)).f2)) ∧ w'.cell? ⟨(ad308.add (((ji10)).toNat * 4)).block, (ad308.add (((ji10)).toNat * 4)).off + 3, none⟩ = some (.int .i64 ((rd_T58 l1 (ji10)).f3))) (ds := []) (zB 18 0) (by kernel_rfl) rfl rfl ⟨(ze BK307.out 0).trans rfl, (ze BK307.out 1).trans rfl, (ze BK309.out 0).trans rfl, (ze BK309.out 1).trans rfl, (ze BK309.out 2).trans rfl, (ze BK309.out 3).trans rfl, ((HB.out.cell (World.block_lt_of_cell? w _ hw311_0)).trans hw311_0), ((HB.out.cell (World.block_lt_of_cell? w _ hw311_1)).trans hw311_1), ((HB.out.cell (World.block_lt_of_cell? w _ hw311_2)).trans hw311_2), ((HB.out.cell (World.block_lt_of_cell? w _ hw311_3)).trans hw311_3)⟩ (fun hHeld => ?_); refine with_tabW impl_isPolicy.tab4 impl_isPolicy.bits4 (fun HT_ HW_ => ?_)
           generalize w25.drew = w26 at BK307 BK309 HB hx311_0 hx311_1 hx311_2 hx311_3 hHeld ⊢
           refine take_ (i := 0) (N := some 14) (v := ?_) (a' := ?_) (zB 18 1) rfl rfl (take_ofW HT_.out HW_.out (by kernel_rfl)) (fun _ _ _ h => h) (Or.inl ⟨by rfl, ?_⟩) hHeld ?_ ?_
           rotate_left
           ·rintro w' ⟨s0, s1, s2, s3, s4, s5, s6, s7, s8, s9⟩
            go_simp
            with_reducible rfl
           rotate_left
           ·simp only [Act.put, zs1, zs2, zs3, i64_w, i32_w]
            rfl
           refine take_ (i := 1) (N := some 15) (v := ?_) (a' := ?_) (zB 18 3) rfl rfl (take_ofW HT_.out HW_.out (by kernel_rfl)) (fun _ _ _ h => h) (Or.inl ⟨by rfl, ?_⟩) hHeld ?_ ?_
           rotate_left
           ·rintro w' ⟨s0, s1, s2, s3, s4, s5, s6, s7, s8, s9⟩
            go_simp
            with_reducible rfl
           rotate_left
           ·simp only [Act.put, zs1, zs2, zs3, i64_w, i32_w]
            rfl
           refine one_ (i := 2) (N := some 16) (zB 18 7) rfl rfl (one_of HT_.out (by kernel_rfl)) (by decide) (fun K hK => ?_)
           refine goes_ Try.func86 (by kernel_rfl) rfl #[.agg #[.int .i64 a0_0, .slice A0_1 l0_1.length c0_1], .agg #[.int .i64 ((rd_T58 l1 x9_1).f0), .int .i64 ((rd_T58 l1 x9_1).f1), .int .i64 ((rd_T58 l1 x9_1).f2), .int .i64 ((rd_T58 l1 x9_1).f3)]] (by rfl) rfl rfl (by (try simp only [List.map_toArray, List.map_cons, List.map_nil]); first | done | rfl | (simp only [List.length_drop, List.length_take]; rfl)) ?_
           with_reducible refine (impl_isPunct.calls a0_0 _ _ l0_1 ((rd_T58 l1 x9_1).f0) ((rd_T58 l1 x9_1).f1) ((rd_T58 l1 x9_1).f2) ((rd_T58 l1 x9_1).f3) true _ ?side1 ?side2 A7.out).mono ?_
           (case side1 => repeat (first | exact (Kd.zt HR0_1.out HB.out) | (with_reducible refine Kd.zr ?_ _) | (with_reducible refine Kd.zq ?_ _) | (with_reducible refine Kd.C_drew ?_)))
           (case side2 => exact HC0_1.out)
           rintro e w27 ⟨rfl, hb⟩
           refine ⟨_, rfl, ?_⟩
           replace BK307 := zp.mk (zl (zv8 BK307.out) hb)
           replace BK309 := zp.mk (zl (zv8 BK309.out) hb)
           replace HB := zp.mk (zj (zv7 HB.out) hb)
           (try clear hb)
           (try clear hb2)
           (try clear hk)
           (try clear hi)
           refine hK.out _ _ ⟨(ze BK307.out 0).trans rfl, (ze BK307.out 1).trans rfl, (ze BK309.out 0).trans rfl, (ze BK309.out 1).trans rfl, (ze BK309.out 2).trans rfl, (ze BK309.out 3).trans rfl, ((HB.out.cell (World.block_lt_of_cell? w _ hw311_0)).trans hw311_0), ((HB.out.cell (World.block_lt_of_cell? w _ hw311_1)).trans hw311_1), ((HB.out.cell (World.block_lt_of_cell? w _ hw311_2)).trans hw311_2), ((HB.out.cell (World.block_lt_of_cell? w _ hw311_3)).trans hw311_3)⟩ (fun hHeld => ?_)
           clear hK K
           refine norm_ (a' := ?_) ?_ ?_
           rotate_left
           ·show Act.put _ (some 16) _ = _
            simp only [Act.put, zs1, zs2, zs3, i64_w, i32_w]
            rfl
           refine pure_ (i := 3) (N := some 17) (v := ?_) (a' := ?_) (zB 18 15) rfl rfl (any_of HT_.out (by kernel_rfl)) (fun _ _ _ h => h) (Or.inl ⟨by rfl, ?_⟩) ?_ ?_
           rotate_left
           ·intro w'
            go_simp
            with_reducible rfl
           rotate_left
           ·simp only [Act.put, zs1, zs2, zs3, i64_w, i32_w]
            rfl
           refine pure_ (i := 4) (N := some 18) (v := ?_) (a' := ?_) (zB 18 31) rfl rfl (any_of HT_.out (by kernel_rfl)) (fun _ _ _ h => h) (Or.inl ⟨by rfl, ?_⟩) ?_ ?_
           rotate_left
           ·intro w'
            go_simp
            with_reducible rfl
           rotate_left
           ·simp only [Act.put, zs1, zs2, zs3, i64_w, i32_w]
            rfl
           refine pure_ (i := 5) (N := some 19) (v := ?_) (a' := ?_) (zB 18 63) rfl rfl (any_of HT_.out (by kernel_rfl)) (fun _ _ _ h => h) (Or.inl ⟨by rfl, ?_⟩) ?_ ?_
           rotate_left
           ·intro w'
            go_simp
            with_reducible rfl
           rotate_left
           ·simp only [Act.put, zs1, zs2, zs3, i64_w, i32_w]
            rfl
           refine pure_ (i := 6) (N := some 20) (v := ?_) (a' := ?_) (zB 18 127) rfl rfl (any_of HT_.out (by kernel_rfl)) (fun _ _ _ h => h) (Or.inl ⟨by rfl, ?_⟩) ?_ ?_
           rotate_left
           ·intro w'
            go_simp
            with_reducible rfl
           rotate_left
           ·simp only [Act.put, zs1, zs2, zs3, i64_w, i32_w]
            rfl
           refine pure_ (i := 7) (N := some 21) (v := ?_) (a' := ?_) (zB 18 255) rfl rfl (any_of HT_.out (by kernel_rfl)) (fun _ _ _ h => h) (Or.inl ⟨by rfl, ?_⟩) ?_ ?_
           rotate_left
           ·intro w'
            go_simp
            with_reducible rfl
           rotate_left
           ·simp only [Act.put, zs1, zs2, zs3, i64_w, i32_w]
            rfl
           refine pure_ (i := 8) (N := some 22) (v := ?_) (a' := ?_) (zB 18 511) rfl rfl (any_of HT_.out (by kernel_rfl)) (fun _ _ _ h => h) (Or.inl ⟨by rfl, ?_⟩) ?_ ?_
           rotate_left
           ·intro w'
            go_simp
            with_reducible rfl
           rotate_left
           ·simp only [Act.put, zs1, zs2, zs3, i64_w, i32_w]
            rfl
           refine pure_ (i := 9) (N := some 23) (v := ?_) (a' := ?_) (zB 18 1023) rfl rfl (any_of HT_.out (by kernel_rfl)) (fun _ _ _ h => h) (Or.inl ⟨by rfl, ?_⟩) ?_ ?_
           rotate_left
           ·intro w'
            go_simp
            with_reducible rfl
           rotate_left
           ·simp only [Act.put, zs1, zs2, zs3, i64_w, i32_w]
            rfl
           refine pure_ (i := 10) (N := some 24) (v := ?_) (a' := ?_) (zB 18 2047) rfl rfl (any_of HT_.out (by kernel_rfl)) (fun _ _ _ h => h) (Or.inl ⟨by rfl, ?_⟩) ?_ ?_
           rotate_left
           ·intro w'
            go_simp
            with_reducible rfl
           rotate_left
           ·simp only [Act.put, zs1, zs2, zs3, i64_w, i32_w]
            rfl
           refine pure_ (i := 11) (N := some 25) (v := ?_) (a' := ?_) (zB 18 4095) rfl rfl (any_of HT_.out (by kernel_rfl)) (fun _ _ _ h => h) (Or.inl ⟨by rfl, ?_⟩) ?_ ?_
           rotate_left
           ·intro w'
            go_simp
            with_reducible rfl
           rotate_left
           ·simp only [Act.put, zs1, zs2, zs3, i64_w, i32_w]
            rfl
           refine take_ (i := 12) (N := some 26) (v := ?_) (a' := ?_) (zB 18 8191) rfl rfl (take_ofW HT_.out HW_.out (by kernel_rfl)) (fun _ _ _ h => h) (Or.inl ⟨by rfl, ?_⟩) hHeld ?_ ?_
           rotate_left
           ·rintro w' ⟨s0, s1, s2, s3, s4, s5, s6, s7, s8, s9⟩
            go_simp
            with_reducible rfl
           rotate_left
           ·simp only [Act.put, zs1, zs2, zs3, i64_w, i32_w]
            rfl
           refine take_ (i := 13) (N := some 27) (v := ?_) (a' := ?_) (zB 18 16383) rfl rfl (take_ofW HT_.out HW_.out (by kernel_rfl)) (fun _ _ _ h => h) (Or.inl ⟨by rfl, ?_⟩) hHeld ?_ ?_
           rotate_left
           ·rintro w' ⟨s0, s1, s2, s3, s4, s5, s6, s7, s8, s9⟩
            go_simp
            with_reducible rfl
           rotate_left
           ·simp only [Act.put, zs1, zs2, zs3, i64_w, i32_w]
            rfl
           refine one_ (i := 14) (N := some 28) (zB 18 32767) rfl rfl (one_of HT_.out (by kernel_rfl)) (by decide) (fun K hK => ?_)
           refine goes_ Try.func107 (by kernel_rfl) rfl #[.agg #[.int .i64 ((rd_T58 l1 (ji10)).f0), .int .i64 ((rd_T58 l1 (ji10)).f1), .int .i64 ((rd_T58 l1 (ji10)).f2), .int .i64 ((rd_T58 l1 (ji10)).f3)], .agg #[.int .i64 ((rd_T58 l1 x9_1).f0), .int .i64 ((rd_T58 l1 x9_1).f1), .int .i64 ((rd_T58 l1 x9_1).f2), .int .i64 ((rd_T58 l1 x9_1).f3)]] (by rfl) rfl rfl (by (try simp only [List.map_toArray, List.map_cons, List.map_nil]); first | done | (simp only [hji10]; rfl) | rfl | (simp only [List.length_drop, List.length_take]; rfl)) ?_
           with_reducible refine (impl_comparePuncts.calls k1 ((rd_T58 l1 (ji10)).f0) ((rd_T58 l1 (ji10)).f1) ((rd_T58 l1 (ji10)).f2) ((rd_T58 l1 (ji10)).f3) ((rd_T58 l1 x9_1).f0) ((rd_T58 l1 x9_1).f1) ((rd_T58 l1 x9_1).f2) ((rd_T58 l1 x9_1).f3) t312 _ A13.out).mono ?_
           rintro e w28 ⟨rfl, hb⟩
           refine ⟨_, rfl, ?_⟩
           replace BK307 := zp.mk (zl (zv8 BK307.out) hb)
           replace BK309 := zp.mk (zl (zv8 BK309.out) hb)
           replace HB := zp.mk (zj (zv7 HB.out) hb)
           (try clear hb)
           (try clear hb2)
           (try clear hk)
           (try clear hi)
           refine hK.out _ _ ⟨(ze BK307.out 0).trans rfl, (ze BK307.out 1).trans rfl, (ze BK309.out 0).trans rfl, (ze BK309.out 1).trans rfl, (ze BK309.out 2).trans rfl, (ze BK309.out 3).trans rfl, ((HB.out.cell (World.block_lt_of_cell? w _ hw311_0)).trans hw311_0), ((HB.out.cell (World.block_lt_of_cell? w _ hw311_1)).trans hw311_1), ((HB.out.cell (World.block_lt_of_cell? w _ hw311_2)).trans hw311_2), ((HB.out.cell (World.block_lt_of_cell? w _ hw311_3)).trans hw311_3)⟩ (fun hHeld => ?_)
           clear hK K
           refine norm_ (a' := ?_) ?_ ?_
           rotate_left
           ·show Act.put _ (some 28) _ = _
            simp only [Act.put, zs1, zs2, zs3, i64_w, i32_w]
            rfl
           refine pure_ (i := 15) (N := some 29) (v := ?_) (a' := ?_) (zB 18 65535) rfl rfl (any_of HT_.out (by kernel_rfl)) (fun _ _ _ h => h) (Or.inl ⟨by rfl, ?_⟩) ?_ ?_
           rotate_left
           ·intro w'
            go_simp
            with_reducible rfl
           rotate_left
           ·simp only [Act.put, zs1, zs2, zs3, i64_w, i32_w]
            rfl
           refine pure_ (i := 16) (N := some 30) (v := ?_) (a' := ?_) (zB 18 131071) rfl rfl (any_of HT_.out (by kernel_rfl)) (fun _ _ _ h => h) (Or.inl ⟨by rfl, ?_⟩) ?_ ?_
           rotate_left
           ·intro w'
            go_simp
            with_reducible rfl
           rotate_left
           ·simp only [Act.put, zs1, zs2, zs3, i64_w, i32_w]
            rfl
           refine pure_ (i := 17) (N := some 31) (v := ?_) (a' := ?_) (zB 18 262143) rfl rfl (any_of HT_.out (by kernel_rfl)) (fun _ _ _ h => h) (Or.inl ⟨by rfl, ?_⟩) ?_ ?_
           rotate_left
           ·intro w'
            go_simp
            with_reducible rfl
           rotate_left
           ·simp only [Act.put, zs1, zs2, zs3, i64_w, i32_w]
            rfl
           refine done_ (done_of HT_.out (by kernel_rfl)) ?_
           try go_wp2
           go_roundg k1
           case measure => have := HK1.out; omega
           case rel => exact ⟨(wrap64 (x9_1 + 1)), (by first | rfl | (simp; done) | (simp [*]; done)), H', ⟨by have := HK1.out; omega⟩, ⟨zv8 BK307.out⟩, ⟨zv7 HB.out⟩⟩
         ·rw [if_neg c12] at H
          exact absurd H (by simp)
        ·rw [if_neg c11] at H
         exact absurd H (by simp)
       ·rw [if_neg c9] at H
        have c9b0 : decide (0 < x9_1) = false := decide_eq_false c9
        clear c9
        have H' := zp.mk H
        clear H
        have p308 : 0 ≤ (x9_1 : Int) := of_decide_eq_true (by first | (with_reducible assumption) | assumption)
        have q308 : x9_1 < (l1.length : Int) := of_decide_eq_true (by first | (with_reducible assumption) | assumption)
        obtain ⟨ad308, e308, hx308_0, hx308_1, hx308_2, hx308_3⟩ := at_T58 HR1.out x9_1 p308 q308
        cases e308
        replace hx308_0 := (HB.out.cell (World.block_lt_of_cell? w _ hx308_0)).trans hx308_0
        replace hx308_1 := (HB.out.cell (World.block_lt_of_cell? w _ hx308_1)).trans hx308_1
        replace hx308_2 := (HB.out.cell (World.block_lt_of_cell? w _ hx308_2)).trans hx308_2
        replace hx308_3 := (HB.out.cell (World.block_lt_of_cell? w _ hx308_3)).trans hx308_3
        replace p308 := eq_true p308
        replace q308 := eq_true q308
        try go_wp2_with (first | ((with_reducible refine zo (N := 6) rfl ?_); refine zm ?hg (N := 6) ?hd (cs := #[.int .i64 0, .int .i64 0, .int .i64 0, .int .i64 0]) (t := 58) ?hr ?_; (case hd => rfl); (case hg => rfl); (case hr => first | (go_simp; done) | (go_simp; rfl)); intro gb309 hg w29 hbox hb; have BK309 := zp.mk (hbox); have GW309 := zp.mk ((zv3 (zv7 HB.out) hg)); have GE309 := zp.mk ((zv3 (zv7 HB.out) hg)); have NB307_309 := zp.mk ((by rw [hg]; exact Nat.ne_of_lt (blk_lt (g := gb307) (o := .cells #[.int .i64 a0_0, .slice A0_1 l0_1.length c0_1] 27 (0, 0)) (zv8 BK307.out)) : gb307 ≠ gb309)); have NB309_307 := zp.mk ((by rw [hg]; exact Nat.ne_of_gt (blk_lt (g := gb307) (o := .cells #[.int .i64 a0_0, .slice A0_1 l0_1.length c0_1] 27 (0, 0)) (zv8 BK307.out)) : gb309 ≠ gb307)); replace BK307 := zp.mk (zl (zv8 BK307.out) hb); replace HB := zp.mk (zj (zv7 HB.out) hb); clear hb hbox hg; have hnb30 := NB309_307.out; have hnc30 := NB307_309.out; have y31_0 := zt0 BK309.out; have y31_1 := zt1 BK309.out; have y31_2 := zt2 BK309.out; have y31_3 := zt3 BK309.out; have u31_0 := zd BK309.out 0; have u31_1 := zd BK309.out 1; have u31_2 := zd BK309.out 2; have u31_3 := zd BK309.out 3))
        have n0_ : zp (((((w29.setCell ⟨gb309, 0, none⟩ (.int .i64 ((rd_T58 l1 x9_1).f0))).setCell ⟨gb309, 1, none⟩ (.int .i64 ((rd_T58 l1 x9_1).f1))).setCell ⟨gb309, 2, none⟩ (.int .i64 ((rd_T58 l1 x9_1).f2))).setCell ⟨gb309, 3, none⟩ (.int .i64 ((rd_T58 l1 x9_1).f3))).heap[gb307]? = some (.cells #[.int .i64 a0_0, .slice A0_1 l0_1.length c0_1] 27 (0, 0))) := ⟨by (with_reducible repeat (first | refine zf ?_ _ | refine zi ?_ | refine zg ?_ _)); refine blk_far ?_ NB307_309.out _; (with_reducible repeat (first | refine zf ?_ _ | refine zi ?_ | refine zg ?_ _)); refine blk_far ?_ NB307_309.out _; (with_reducible repeat (first | refine zf ?_ _ | refine zi ?_ | refine zg ?_ _)); refine blk_far ?_ NB307_309.out _; (with_reducible repeat (first | refine zf ?_ _ | refine zi ?_ | refine zg ?_ _)); refine blk_far ?_ NB307_309.out _; (with_reducible repeat (first | refine zf ?_ _ | refine zi ?_ | refine zg ?_ _)); exact BK307.out⟩
        have n1_ : zp (((((w29.setCell ⟨gb309, 0, none⟩ (.int .i64 ((rd_T58 l1 x9_1).f0))).setCell ⟨gb309, 1, none⟩ (.int .i64 ((rd_T58 l1 x9_1).f1))).setCell ⟨gb309, 2, none⟩ (.int .i64 ((rd_T58 l1 x9_1).f2))).setCell ⟨gb309, 3, none⟩ (.int .i64 ((rd_T58 l1 x9_1).f3))).heap[gb309]? = some (.cells #[.int .i64 ((rd_T58 l1 x9_1).f0), .int .i64 ((rd_T58 l1 x9_1).f1), .int .i64 ((rd_T58 l1 x9_1).f2), .int .i64 ((rd_T58 l1 x9_1).f3)] 58 (0, 0))) := ⟨by (with_reducible repeat (first | refine zf ?_ _ | refine zi ?_ | refine zg ?_ _)); refine blk_put (cs := #[.int .i64 ((rd_T58 l1 x9_1).f0), .int .i64 ((rd_T58 l1 x9_1).f1), .int .i64 ((rd_T58 l1 x9_1).f2), .int .i64 0]) ?_ 3 _ rfl; (with_reducible repeat (first | refine zf ?_ _ | refine zi ?_ | refine zg ?_ _)); refine blk_put (cs := #[.int .i64 ((rd_T58 l1 x9_1).f0), .int .i64 ((rd_T58 l1 x9_1).f1), .int .i64 0, .int .i64 0]) ?_ 2 _ rfl; (with_reducible repeat (first | refine zf ?_ _ | refine zi ?_ | refine zg ?_ _)); refine blk_put (cs := #[.int .i64 ((rd_T58 l1 x9_1).f0), .int .i64 0, .int .i64 0, .int .i64 0]) ?_ 1 _ rfl; (with_reducible repeat (first | refine zf ?_ _ | refine zi ?_ | refine zg ?_ _)); refine blk_put (cs := #[.int .i64 0, .int .i64 0, .int .i64 0, .int .i64 0]) ?_ 0 _ rfl; (with_reducible repeat (first | refine zf ?_ _ | refine zi ?_ | refine zg ?_ _)); exact BK309.out⟩
        have n2_ : zp (Below w.heap.size w ((((w29.setCell ⟨gb309, 0, none⟩ (.int .i64 ((rd_T58 l1 x9_1).f0))).setCell ⟨gb309, 1, none⟩ (.int .i64 ((rd_T58 l1 x9_1).f1))).setCell ⟨gb309, 2, none⟩ (.int .i64 ((rd_T58 l1 x9_1).f2))).setCell ⟨gb309, 3, none⟩ (.int .i64 ((rd_T58 l1 x9_1).f3)))) := ⟨zv7 HB.out⟩
        (try clear BK307)
        (try clear BK309)
        (try clear HB)
        generalize ((((w29.setCell ⟨gb309, 0, none⟩ (.int .i64 ((rd_T58 l1 x9_1).f0))).setCell ⟨gb309, 1, none⟩ (.int .i64 ((rd_T58 l1 x9_1).f1))).setCell ⟨gb309, 2, none⟩ (.int .i64 ((rd_T58 l1 x9_1).f2))).setCell ⟨gb309, 3, none⟩ (.int .i64 ((rd_T58 l1 x9_1).f3))) = w32 at n0_ n1_ n2_ ⊢
        have BK307 := n0_
        have BK309 := n1_
        have HB := n2_
        clear n0_ n1_ n2_
        replace BK307 := zp.mk (zi BK307.out)
        replace BK309 := zp.mk (zi BK309.out)
        replace HB := zp.mk (zb HB.out)
        refine start_ (n := 18) (S := fun w' => w'.cell? ⟨gb307, 0, none⟩ = some (.int .i64 a0_0) ∧ w'.cell? ⟨gb307, 1, none⟩ = some (.slice A0_1 l0_1.length c0_1) ∧ w'.cell? ⟨gb309, 0, none⟩ = some (.int .i64 ((rd_T58 l1 x9_1).f0)) ∧ w'.cell? ⟨gb309, 1, none⟩ = some (.int .i64 ((rd_T58 l1 x9_1).f1)) ∧ w'.cell? ⟨gb309, 2, none⟩ = some (.int .i64 ((rd_T58 l1 x9_1).f2)) ∧ w'.cell? ⟨gb309, 3, none⟩ = some (.int .i64 ((rd_T58 l1 x9_1).f3))) (ds := []) (zB 18 0) (by kernel_rfl) rfl rfl ⟨(ze BK307.out 0).trans rfl, (ze BK307.out 1).trans rfl, (ze BK309.out 0).trans rfl, (ze BK309.out 1).trans rfl, (ze BK309.out 2).trans rfl, (ze BK309.out 3).trans rfl⟩ (fun hHeld => ?_); refine with_tabW impl_isPolicy.tab4 impl_isPolicy.bits4 (fun HT_ HW_ => ?_)
        generalize w32.drew = w33 at BK307 BK309 HB hHeld ⊢
        refine take_ (i := 0) (N := some 14) (v := ?_) (a' := ?_) (zB 18 1) rfl rfl (take_ofW HT_.out HW_.out (by kernel_rfl)) (fun _ _ _ h => h) (Or.inl ⟨by rfl, ?_⟩) hHeld ?_ ?_
        rotate_left
        ·rintro w' ⟨s0, s1, s2, s3, s4, s5⟩
         go_simp
         with_reducible rfl
        rotate_left
        ·simp only [Act.put, zs1, zs2, zs3, i64_w, i32_w]
         rfl
        refine take_ (i := 1) (N := some 15) (v := ?_) (a' := ?_) (zB 18 3) rfl rfl (take_ofW HT_.out HW_.out (by kernel_rfl)) (fun _ _ _ h => h) (Or.inl ⟨by rfl, ?_⟩) hHeld ?_ ?_
        rotate_left
        ·rintro w' ⟨s0, s1, s2, s3, s4, s5⟩
         go_simp
         with_reducible rfl
        rotate_left
        ·simp only [Act.put, zs1, zs2, zs3, i64_w, i32_w]
         rfl
        refine one_ (i := 2) (N := some 16) (zB 18 7) rfl rfl (one_of HT_.out (by kernel_rfl)) (by decide) (fun K hK => ?_)
        refine goes_ Try.func86 (by kernel_rfl) rfl #[.agg #[.int .i64 a0_0, .slice A0_1 l0_1.length c0_1], .agg #[.int .i64 ((rd_T58 l1 x9_1).f0), .int .i64 ((rd_T58 l1 x9_1).f1), .int .i64 ((rd_T58 l1 x9_1).f2), .int .i64 ((rd_T58 l1 x9_1).f3)]] (by rfl) rfl rfl (by (try simp only [List.map_toArray, List.map_cons, List.map_nil]); first | done | rfl | (simp only [List.length_drop, List.length_take]; rfl)) ?_
        with_reducible refine (impl_isPunct.calls a0_0 _ _ l0_1 ((rd_T58 l1 x9_1).f0) ((rd_T58 l1 x9_1).f1) ((rd_T58 l1 x9_1).f2) ((rd_T58 l1 x9_1).f3) true _ ?side1 ?side2 A7.out).mono ?_
        (case side1 => repeat (first | exact (Kd.zt HR0_1.out HB.out) | (with_reducible refine Kd.zr ?_ _) | (with_reducible refine Kd.zq ?_ _) | (with_reducible refine Kd.C_drew ?_)))
        (case side2 => exact HC0_1.out)
        rintro e w34 ⟨rfl, hb⟩
        refine ⟨_, rfl, ?_⟩
        replace BK307 := zp.mk (zl (zv8 BK307.out) hb)
        replace BK309 := zp.mk (zl (zv8 BK309.out) hb)
        replace HB := zp.mk (zj (zv7 HB.out) hb)
        (try clear hb)
        (try clear hb2)
        (try clear hk)
        (try clear hi)
        refine hK.out _ _ ⟨(ze BK307.out 0).trans rfl, (ze BK307.out 1).trans rfl, (ze BK309.out 0).trans rfl, (ze BK309.out 1).trans rfl, (ze BK309.out 2).trans rfl, (ze BK309.out 3).trans rfl⟩ (fun hHeld => ?_)
        clear hK K
        refine norm_ (a' := ?_) ?_ ?_
        rotate_left
        ·show Act.put _ (some 16) _ = _
         simp only [Act.put, zs1, zs2, zs3, i64_w, i32_w]
         rfl
        refine pure_ (i := 3) (N := some 17) (v := ?_) (a' := ?_) (zB 18 15) rfl rfl (any_of HT_.out (by kernel_rfl)) (fun _ _ _ h => h) (Or.inl ⟨by rfl, ?_⟩) ?_ ?_
        rotate_left
        ·intro w'
         go_simp
         with_reducible rfl
        rotate_left
        ·simp only [Act.put, zs1, zs2, zs3, i64_w, i32_w]
         rfl
        refine pure_ (i := 4) (N := some 18) (v := ?_) (a' := ?_) (zB 18 31) rfl rfl (any_of HT_.out (by kernel_rfl)) (fun _ _ _ h => h) (Or.inl ⟨by rfl, ?_⟩) ?_ ?_
        rotate_left
        ·intro w'
         go_simp
         with_reducible rfl
        rotate_left
        ·simp only [Act.put, zs1, zs2, zs3, i64_w, i32_w]
         rfl
        refine pure_ (i := 5) (N := some 19) (v := ?_) (a' := ?_) (zB 18 63) rfl rfl (any_of HT_.out (by kernel_rfl)) (fun _ _ _ h => h) (Or.inl ⟨by rfl, ?_⟩) ?_ ?_
        rotate_left
        ·intro w'
         go_simp
         with_reducible rfl
        rotate_left
        ·simp only [Act.put, zs1, zs2, zs3, i64_w, i32_w]
         rfl
        refine pure_ (i := 6) (N := some 20) (v := ?_) (a' := ?_) (zB 18 127) rfl rfl (any_of HT_.out (by kernel_rfl)) (fun _ _ _ h => h) (Or.inl ⟨by rfl, ?_⟩) ?_ ?_
        rotate_left
        ·intro w'
         go_simp
         with_reducible rfl
        rotate_left
        ·simp only [Act.put, zs1, zs2, zs3, i64_w, i32_w]
         rfl
        refine pure_ (i := 7) (N := some 21) (v := ?_) (a' := ?_) (zB 18 255) rfl rfl (any_of HT_.out (by kernel_rfl)) (fun _ _ _ h => h) (Or.inl ⟨by rfl, ?_⟩) ?_ ?_
        rotate_left
        ·intro w'
         go_simp
         with_reducible rfl
        rotate_left
        ·simp only [Act.put, zs1, zs2, zs3, i64_w, i32_w]
         rfl
        refine pure_ (i := 8) (N := some 22) (v := undef) (a' := ?_) (zB 18 511) rfl rfl (any_of HT_.out (by kernel_rfl)) (fun _ _ _ h => h) (Or.inr ⟨by rfl, rfl⟩) ?_ ?_
        rotate_left
        ·simp only [Act.put, zs1, zs2, zs3, i64_w, i32_w]
         rfl
        refine pure_ (i := 9) (N := some 23) (v := undef) (a' := ?_) (zB 18 1023) rfl rfl (any_of HT_.out (by kernel_rfl)) (fun _ _ _ h => h) (Or.inr ⟨by rfl, rfl⟩) ?_ ?_
        rotate_left
        ·simp only [Act.put, zs1, zs2, zs3, i64_w, i32_w]
         rfl
        refine pure_ (i := 10) (N := some 24) (v := undef) (a' := ?_) (zB 18 2047) rfl rfl (any_of HT_.out (by kernel_rfl)) (fun _ _ _ h => h) (Or.inr ⟨by rfl, rfl⟩) ?_ ?_
        rotate_left
        ·simp only [Act.put, zs1, zs2, zs3, i64_w, i32_w]
         rfl
        refine pure_ (i := 11) (N := some 25) (v := undef) (a' := ?_) (zB 18 4095) rfl rfl (any_of HT_.out (by kernel_rfl)) (fun _ _ _ h => h) (Or.inr ⟨by rfl, rfl⟩) ?_ ?_
        rotate_left
        ·simp only [Act.put, zs1, zs2, zs3, i64_w, i32_w]
         rfl
        refine pure_ (i := 12) (N := some 26) (v := undef) (a' := ?_) (zB 18 8191) rfl rfl (any_of HT_.out (by kernel_rfl)) (fun _ _ _ h => h) (Or.inr ⟨by rfl, rfl⟩) ?_ ?_
        rotate_left
        ·simp only [Act.put, zs1, zs2, zs3, i64_w, i32_w]
         rfl
        refine pure_ (i := 13) (N := some 27) (v := undef) (a' := ?_) (zB 18 16383) rfl rfl (any_of HT_.out (by kernel_rfl)) (fun _ _ _ h => h) (Or.inr ⟨by rfl, rfl⟩) ?_ ?_
        rotate_left
        ·simp only [Act.put, zs1, zs2, zs3, i64_w, i32_w]
         rfl
        refine pure_ (i := 14) (N := some 28) (v := undef) (a' := ?_) (zB 18 32767) rfl rfl (any_of HT_.out (by kernel_rfl)) (fun _ _ _ h => h) (Or.inr ⟨by rfl, rfl⟩) ?_ ?_
        rotate_left
        ·simp only [Act.put, zs1, zs2, zs3, i64_w, i32_w]
         rfl
        refine pure_ (i := 15) (N := some 29) (v := undef) (a' := ?_) (zB 18 65535) rfl rfl (any_of HT_.out (by kernel_rfl)) (fun _ _ _ h => h) (Or.inr ⟨by rfl, rfl⟩) ?_ ?_
        rotate_left
        ·simp only [Act.put, zs1, zs2, zs3, i64_w, i32_w]
         rfl
        refine pure_ (i := 16) (N := some 30) (v := ?_) (a' := ?_) (zB 18 131071) rfl rfl (any_of HT_.out (by kernel_rfl)) (fun _ _ _ h => h) (Or.inl ⟨by rfl, ?_⟩) ?_ ?_
        rotate_left
        ·intro w'
         go_simp
         with_reducible rfl
        rotate_left
        ·simp only [Act.put, zs1, zs2, zs3, i64_w, i32_w]
         rfl
        refine pure_ (i := 17) (N := some 31) (v := ?_) (a' := ?_) (zB 18 262143) rfl rfl (any_of HT_.out (by kernel_rfl)) (fun _ _ _ h => h) (Or.inl ⟨by rfl, ?_⟩) ?_ ?_
        rotate_left
        ·intro w'
         go_simp
         with_reducible rfl
        rotate_left
        ·simp only [Act.put, zs1, zs2, zs3, i64_w, i32_w]
         rfl
        refine done_ (done_of HT_.out (by kernel_rfl)) ?_
        try go_wp2
        go_roundg k1
        case measure => have := HK1.out; omega
        case rel => exact ⟨(wrap64 (x9_1 + 1)), (by first | rfl | (simp; done) | (simp [*]; done)), H', ⟨by have := HK1.out; omega⟩, ⟨zv8 BK307.out⟩, ⟨zv7 HB.out⟩⟩
      ·replace c8 := Bool.eq_false_iff.mpr c8
       subst c8
       have H1 : (some false) = some r := by rw [if_neg (show ¬ (false = true) by decide)] at H; exact H
       clear H
       have H := H1
       clear H1
       obtain rfl := Option.some.inj H
       have p308 : 0 ≤ (x9_1 : Int) := of_decide_eq_true (by first | (with_reducible assumption) | assumption)
       have q308 : x9_1 < (l1.length : Int) := of_decide_eq_true (by first | (with_reducible assumption) | assumption)
       obtain ⟨ad308, e308, hx308_0, hx308_1, hx308_2, hx308_3⟩ := at_T58 HR1.out x9_1 p308 q308
       cases e308
       replace hx308_0 := (HB.out.cell (World.block_lt_of_cell? w _ hx308_0)).trans hx308_0
       replace hx308_1 := (HB.out.cell (World.block_lt_of_cell? w _ hx308_1)).trans hx308_1
       replace hx308_2 := (HB.out.cell (World.block_lt_of_cell? w _ hx308_2)).trans hx308_2
       replace hx308_3 := (HB.out.cell (World.block_lt_of_cell? w _ hx308_3)).trans hx308_3
       replace p308 := eq_true p308
       replace q308 := eq_true q308
       try go_wp2_with (first | ((with_reducible refine zo (N := 6) rfl ?_); refine zm ?hg (N := 6) ?hd (cs := #[.int .i64 0, .int .i64 0, .int .i64 0, .int .i64 0]) (t := 58) ?hr ?_; (case hd => rfl); (case hg => rfl); (case hr => first | (go_simp; done) | (go_simp; rfl)); intro gb309 hg w35 hbox hb; have BK309 := zp.mk (hbox); have GW309 := zp.mk ((zv3 (zv7 HB.out) hg)); have GE309 := zp.mk ((zv3 (zv7 HB.out) hg)); have NB307_309 := zp.mk ((by rw [hg]; exact Nat.ne_of_lt (blk_lt (g := gb307) (o := .cells #[.int .i64 a0_0, .slice A0_1 l0_1.length c0_1] 27 (0, 0)) (zv8 BK307.out)) : gb307 ≠ gb309)); have NB309_307 := zp.mk ((by rw [hg]; exact Nat.ne_of_gt (blk_lt (g := gb307) (o := .cells #[.int .i64 a0_0, .slice A0_1 l0_1.length c0_1] 27 (0, 0)) (zv8 BK307.out)) : gb309 ≠ gb307)); replace BK307 := zp.mk (zl (zv8 BK307.out) hb); replace HB := zp.mk (zj (zv7 HB.out) hb); clear hb hbox hg; have hnb36 := NB309_307.out; have hnc36 := NB307_309.out; have y37_0 := zt0 BK309.out; have y37_1 := zt1 BK309.out; have y37_2 := zt2 BK309.out; have y37_3 := zt3 BK309.out; have u37_0 := zd BK309.out 0; have u37_1 := zd BK309.out 1; have u37_2 := zd BK309.out 2; have u37_3 := zd BK309.out 3))
       have n0_ : zp (((((w35.setCell ⟨gb309, 0, none⟩ (.int .i64 ((rd_T58 l1 x9_1).f0))).setCell ⟨gb309, 1, none⟩ (.int .i64 ((rd_T58 l1 x9_1).f1))).setCell ⟨gb309, 2, none⟩ (.int .i64 ((rd_T58 l1 x9_1).f2))).setCell ⟨gb309, 3, none⟩ (.int .i64 ((rd_T58 l1 x9_1).f3))).heap[gb307]? = some (.cells #[.int .i64 a0_0, .slice A0_1 l0_1.length c0_1] 27 (0, 0))) := ⟨by (with_reducible repeat (first | refine zf ?_ _ | refine zi ?_ | refine zg ?_ _)); refine blk_far ?_ NB307_309.out _; (with_reducible repeat (first | refine zf ?_ _ | refine zi ?_ | refine zg ?_ _)); refine blk_far ?_ NB307_309.out _; (with_reducible repeat (first | refine zf ?_ _ | refine zi ?_ | refine zg ?_ _)); refine blk_far ?_ NB307_309.out _; (with_reducible repeat (first | refine zf ?_ _ | refine zi ?_ | refine zg ?_ _)); refine blk_far ?_ NB307_309.out _; (with_reducible repeat (first | refine zf ?_ _ | refine zi ?_ | refine zg ?_ _)); exact BK307.out⟩
       have n1_ : zp (((((w35.setCell ⟨gb309, 0, none⟩ (.int .i64 ((rd_T58 l1 x9_1).f0))).setCell ⟨gb309, 1, none⟩ (.int .i64 ((rd_T58 l1 x9_1).f1))).setCell ⟨gb309, 2, none⟩ (.int .i64 ((rd_T58 l1 x9_1).f2))).setCell ⟨gb309, 3, none⟩ (.int .i64 ((rd_T58 l1 x9_1).f3))).heap[gb309]? = some (.cells #[.int .i64 ((rd_T58 l1 x9_1).f0), .int .i64 ((rd_T58 l1 x9_1).f1), .int .i64 ((rd_T58 l1 x9_1).f2), .int .i64 ((rd_T58 l1 x9_1).f3)] 58 (0, 0))) := ⟨by (with_reducible repeat (first | refine zf ?_ _ | refine zi ?_ | refine zg ?_ _)); refine blk_put (cs := #[.int .i64 ((rd_T58 l1 x9_1).f0), .int .i64 ((rd_T58 l1 x9_1).f1), .int .i64 ((rd_T58 l1 x9_1).f2), .int .i64 0]) ?_ 3 _ rfl; (with_reducible repeat (first | refine zf ?_ _ | refine zi ?_ | refine zg ?_ _)); refine blk_put (cs := #[.int .i64 ((rd_T58 l1 x9_1).f0), .int .i64 ((rd_T58 l1 x9_1).f1), .int .i64 0, .int .i64 0]) ?_ 2 _ rfl; (with_reducible repeat (first | refine zf ?_ _ | refine zi ?_ | refine zg ?_ _)); refine blk_put (cs := #[.int .i64 ((rd_T58 l1 x9_1).f0), .int .i64 0, .int .i64 0, .int .i64 0]) ?_ 1 _ rfl; (with_reducible repeat (first | refine zf ?_ _ | refine zi ?_ | refine zg ?_ _)); refine blk_put (cs := #[.int .i64 0, .int .i64 0, .int .i64 0, .int .i64 0]) ?_ 0 _ rfl; (with_reducible repeat (first | refine zf ?_ _ | refine zi ?_ | refine zg ?_ _)); exact BK309.out⟩
       have n2_ : zp (Below w.heap.size w ((((w35.setCell ⟨gb309, 0, none⟩ (.int .i64 ((rd_T58 l1 x9_1).f0))).setCell ⟨gb309, 1, none⟩ (.int .i64 ((rd_T58 l1 x9_1).f1))).setCell ⟨gb309, 2, none⟩ (.int .i64 ((rd_T58 l1 x9_1).f2))).setCell ⟨gb309, 3, none⟩ (.int .i64 ((rd_T58 l1 x9_1).f3)))) := ⟨zv7 HB.out⟩
       (try clear BK307)
       (try clear BK309)
       (try clear HB)
       generalize ((((w35.setCell ⟨gb309, 0, none⟩ (.int .i64 ((rd_T58 l1 x9_1).f0))).setCell ⟨gb309, 1, none⟩ (.int .i64 ((rd_T58 l1 x9_1).f1))).setCell ⟨gb309, 2, none⟩ (.int .i64 ((rd_T58 l1 x9_1).f2))).setCell ⟨gb309, 3, none⟩ (.int .i64 ((rd_T58 l1 x9_1).f3))) = w38 at n0_ n1_ n2_ ⊢
       have BK307 := n0_
       have BK309 := n1_
       have HB := n2_
       clear n0_ n1_ n2_
       replace BK307 := zp.mk (zi BK307.out)
       replace BK309 := zp.mk (zi BK309.out)
       replace HB := zp.mk (zb HB.out)
       refine start_ (n := 18) (S := fun w' => w'.cell? ⟨gb307, 0, none⟩ = some (.int .i64 a0_0) ∧ w'.cell? ⟨gb307, 1, none⟩ = some (.slice A0_1 l0_1.length c0_1) ∧ w'.cell? ⟨gb309, 0, none⟩ = some (.int .i64 ((rd_T58 l1 x9_1).f0)) ∧ w'.cell? ⟨gb309, 1, none⟩ = some (.int .i64 ((rd_T58 l1 x9_1).f1)) ∧ w'.cell? ⟨gb309, 2, none⟩ = some (.int .i64 ((rd_T58 l1 x9_1).f2)) ∧ w'.cell? ⟨gb309, 3, none⟩ = some (.int .i64 ((rd_T58 l1 x9_1).f3))) (ds := []) (zB 18 0) (by kernel_rfl) rfl rfl ⟨(ze BK307.out 0).trans rfl, (ze BK307.out 1).trans rfl, (ze BK309.out 0).trans rfl, (ze BK309.out 1).trans rfl, (ze BK309.out 2).trans rfl, (ze BK309.out 3).trans rfl⟩ (fun hHeld => ?_); refine with_tabW impl_isPolicy.tab4 impl_isPolicy.bits4 (fun HT_ HW_ => ?_)
       generalize w38.drew = w39 at BK307 BK309 HB hHeld ⊢
       refine take_ (i := 0) (N := some 14) (v := ?_) (a' := ?_) (zB 18 1) rfl rfl (take_ofW HT_.out HW_.out (by kernel_rfl)) (fun _ _ _ h => h) (Or.inl ⟨by rfl, ?_⟩) hHeld ?_ ?_
       rotate_left
       ·rintro w' ⟨s0, s1, s2, s3, s4, s5⟩
        go_simp
        with_reducible rfl
       rotate_left
       ·simp only [Act.put, zs1, zs2, zs3, i64_w, i32_w]
        rfl
       refine take_ (i := 1) (N := some 15) (v := ?_) (a' := ?_) (zB 18 3) rfl rfl (take_ofW HT_.out HW_.out (by kernel_rfl)) (fun _ _ _ h => h) (Or.inl ⟨by rfl, ?_⟩) hHeld ?_ ?_
       rotate_left
       ·rintro w' ⟨s0, s1, s2, s3, s4, s5⟩
        go_simp
        with_reducible rfl
       rotate_left
       ·simp only [Act.put, zs1, zs2, zs3, i64_w, i32_w]
        rfl
       refine one_ (i := 2) (N := some 16) (zB 18 7) rfl rfl (one_of HT_.out (by kernel_rfl)) (by decide) (fun K hK => ?_)
       refine goes_ Try.func86 (by kernel_rfl) rfl #[.agg #[.int .i64 a0_0, .slice A0_1 l0_1.length c0_1], .agg #[.int .i64 ((rd_T58 l1 x9_1).f0), .int .i64 ((rd_T58 l1 x9_1).f1), .int .i64 ((rd_T58 l1 x9_1).f2), .int .i64 ((rd_T58 l1 x9_1).f3)]] (by rfl) rfl rfl (by (try simp only [List.map_toArray, List.map_cons, List.map_nil]); first | done | rfl | (simp only [List.length_drop, List.length_take]; rfl)) ?_
       with_reducible refine (impl_isPunct.calls a0_0 _ _ l0_1 ((rd_T58 l1 x9_1).f0) ((rd_T58 l1 x9_1).f1) ((rd_T58 l1 x9_1).f2) ((rd_T58 l1 x9_1).f3) false _ ?side1 ?side2 A7.out).mono ?_
       (case side1 => repeat (first | exact (Kd.zt HR0_1.out HB.out) | (with_reducible refine Kd.zr ?_ _) | (with_reducible refine Kd.zq ?_ _) | (with_reducible refine Kd.C_drew ?_)))
       (case side2 => exact HC0_1.out)
       rintro e w40 ⟨rfl, hb⟩
       refine ⟨_, rfl, ?_⟩
       replace BK307 := zp.mk (zl (zv8 BK307.out) hb)
       replace BK309 := zp.mk (zl (zv8 BK309.out) hb)
       replace HB := zp.mk (zj (zv7 HB.out) hb)
       (try clear hb)
       (try clear hb2)
       (try clear hk)
       (try clear hi)
       refine hK.out _ _ ⟨(ze BK307.out 0).trans rfl, (ze BK307.out 1).trans rfl, (ze BK309.out 0).trans rfl, (ze BK309.out 1).trans rfl, (ze BK309.out 2).trans rfl, (ze BK309.out 3).trans rfl⟩ (fun hHeld => ?_)
       clear hK K
       refine norm_ (a' := ?_) ?_ ?_
       rotate_left
       ·show Act.put _ (some 16) _ = _
        simp only [Act.put, zs1, zs2, zs3, i64_w, i32_w]
        rfl
       refine pure_ (i := 3) (N := some 17) (v := ?_) (a' := ?_) (zB 18 15) rfl rfl (any_of HT_.out (by kernel_rfl)) (fun _ _ _ h => h) (Or.inl ⟨by rfl, ?_⟩) ?_ ?_
       rotate_left
       ·intro w'
        go_simp
        with_reducible rfl
       rotate_left
       ·simp only [Act.put, zs1, zs2, zs3, i64_w, i32_w]
        rfl
       refine pure_ (i := 4) (N := some 18) (v := ?_) (a' := ?_) (zB 18 31) rfl rfl (any_of HT_.out (by kernel_rfl)) (fun _ _ _ h => h) (Or.inl ⟨by rfl, ?_⟩) ?_ ?_
       rotate_left
       ·intro w'
        go_simp
        with_reducible rfl
       rotate_left
       ·simp only [Act.put, zs1, zs2, zs3, i64_w, i32_w]
        rfl
       refine pure_ (i := 5) (N := some 19) (v := undef) (a' := ?_) (zB 18 63) rfl rfl (any_of HT_.out (by kernel_rfl)) (fun _ _ _ h => h) (Or.inr ⟨by rfl, rfl⟩) ?_ ?_
       rotate_left
       ·simp only [Act.put, zs1, zs2, zs3, i64_w, i32_w]
        rfl
       refine pure_ (i := 6) (N := some 20) (v := undef) (a' := ?_) (zB 18 127) rfl rfl (any_of HT_.out (by kernel_rfl)) (fun _ _ _ h => h) (Or.inr ⟨by rfl, rfl⟩) ?_ ?_
       rotate_left
       ·simp only [Act.put, zs1, zs2, zs3, i64_w, i32_w]
        rfl
       refine pure_ (i := 7) (N := some 21) (v := undef) (a' := ?_) (zB 18 255) rfl rfl (any_of HT_.out (by kernel_rfl)) (fun _ _ _ h => h) (Or.inr ⟨by rfl, rfl⟩) ?_ ?_
       rotate_left
       ·simp only [Act.put, zs1, zs2, zs3, i64_w, i32_w]
        rfl
       refine pure_ (i := 8) (N := some 22) (v := undef) (a' := ?_) (zB 18 511) rfl rfl (any_of HT_.out (by kernel_rfl)) (fun _ _ _ h => h) (Or.inr ⟨by rfl, rfl⟩) ?_ ?_
       rotate_left
       ·simp only [Act.put, zs1, zs2, zs3, i64_w, i32_w]
        rfl
       refine pure_ (i := 9) (N := some 23) (v := undef) (a' := ?_) (zB 18 1023) rfl rfl (any_of HT_.out (by kernel_rfl)) (fun _ _ _ h => h) (Or.inr ⟨by rfl, rfl⟩) ?_ ?_
       rotate_left
       ·simp only [Act.put, zs1, zs2, zs3, i64_w, i32_w]
        rfl
       refine pure_ (i := 10) (N := some 24) (v := undef) (a' := ?_) (zB 18 2047) rfl rfl (any_of HT_.out (by kernel_rfl)) (fun _ _ _ h => h) (Or.inr ⟨by rfl, rfl⟩) ?_ ?_
       rotate_left
       ·simp only [Act.put, zs1, zs2, zs3, i64_w, i32_w]
        rfl
       refine pure_ (i := 11) (N := some 25) (v := undef) (a' := ?_) (zB 18 4095) rfl rfl (any_of HT_.out (by kernel_rfl)) (fun _ _ _ h => h) (Or.inr ⟨by rfl, rfl⟩) ?_ ?_
       rotate_left
       ·simp only [Act.put, zs1, zs2, zs3, i64_w, i32_w]
        rfl
       refine pure_ (i := 12) (N := some 26) (v := undef) (a' := ?_) (zB 18 8191) rfl rfl (any_of HT_.out (by kernel_rfl)) (fun _ _ _ h => h) (Or.inr ⟨by rfl, rfl⟩) ?_ ?_
       rotate_left
       ·simp only [Act.put, zs1, zs2, zs3, i64_w, i32_w]
        rfl
       refine pure_ (i := 13) (N := some 27) (v := undef) (a' := ?_) (zB 18 16383) rfl rfl (any_of HT_.out (by kernel_rfl)) (fun _ _ _ h => h) (Or.inr ⟨by rfl, rfl⟩) ?_ ?_
       rotate_left
       ·simp only [Act.put, zs1, zs2, zs3, i64_w, i32_w]
        rfl
       refine pure_ (i := 14) (N := some 28) (v := undef) (a' := ?_) (zB 18 32767) rfl rfl (any_of HT_.out (by kernel_rfl)) (fun _ _ _ h => h) (Or.inr ⟨by rfl, rfl⟩) ?_ ?_
       rotate_left
       ·simp only [Act.put, zs1, zs2, zs3, i64_w, i32_w]
        rfl
       refine pure_ (i := 15) (N := some 29) (v := undef) (a' := ?_) (zB 18 65535) rfl rfl (any_of HT_.out (by kernel_rfl)) (fun _ _ _ h => h) (Or.inr ⟨by rfl, rfl⟩) ?_ ?_
       rotate_left
       ·simp only [Act.put, zs1, zs2, zs3, i64_w, i32_w]
        rfl
       refine pure_ (i := 16) (N := some 30) (v := undef) (a' := ?_) (zB 18 131071) rfl rfl (any_of HT_.out (by kernel_rfl)) (fun _ _ _ h => h) (Or.inr ⟨by rfl, rfl⟩) ?_ ?_
       rotate_left
       ·simp only [Act.put, zs1, zs2, zs3, i64_w, i32_w]
        rfl
       refine pure_ (i := 17) (N := some 31) (v := ?_) (a' := ?_) (zB 18 262143) rfl rfl (any_of HT_.out (by kernel_rfl)) (fun _ _ _ h => h) (Or.inl ⟨by rfl, ?_⟩) ?_ ?_
       rotate_left
       ·intro w'
        go_simp
        with_reducible rfl
       rotate_left
       ·simp only [Act.put, zs1, zs2, zs3, i64_w, i32_w]
        rfl
       refine done_ (done_of HT_.out (by kernel_rfl)) ?_
       try go_wp2
       go_ret
       exact ⟨by first | rfl | (simp [errW_none, errW_some] <;> rfl) | (simp [*, errW_none, errW_some] <;> rfl), zv7 HB.out⟩
     ·rw [if_neg c6] at H
      exact absurd H (by simp)
    ·rw [if_neg c5] at H
     exact absurd H (by simp)
   ·rw [if_neg c4] at H
    have c4b0 : decide (x9_1 < (l1.length : Int)) = false := decide_eq_false c4
    clear c4
    obtain rfl := Option.some.inj H
    go_wp2
    go_ret
    exact ⟨by first | rfl | (simp [errW_none, errW_some] <;> rfl) | (simp [*, errW_none, errW_some] <;> rfl), zv7 HB.out⟩

end Go.Proofs.Ytdpoliolinghfaa.QFnExactPolicySet
