/- Proved: calls of the program come to the answers of the plain Lean functions that stand beside them. Each contract names its conditions. (Written by a program of this session, over the printer of the kit.) -/
import Derived.Test.YtnnahpmnkpmopaaZAggDoneQFnExactAggDonex0
import Derived.Test.YtnnahpmnkpmopaaZAggDoneQFnExactAggDonex7
import Derived.Test.YtnnahpmnkpmopaaZAggDoneQFnExactAggDonex9
import Derived.Test.YtnnahpmnkpmopaaZAggDoneQFnExactAggDonex10
import Derived.Test.YtnnahpmnkpmopaaZAggDoneQFnExactAggDonex11
namespace Go.Proofs.Ytnnahpmnkpmopaa.QFnExactAggDone
open Go.RowKit Go.Proofs.YtnnahpmnkpmopaaW.PrintWords Go.Proofs.YtnnahpmnkpmopaaW.PrintLast Go.Proofs.YtnnahpmnkpmopaaW.PrintMore
attribute [local go_sem] max2_int min2_int max_two min_two max_three min_three max_four min_four   -- for this text's walks alone
set_option linter.unusedVariables false
set_option linter.unusedSimpArgs false

/-! ### impl_WideMean: function 57 -/
def impl_WideMean.j0 : Nat → Int → Int → Bool → Int → Int → Option (Int × Bool)
 | 0, _, _, _, _, _ => none
 | k + 1, x9, x10, x43, x365000, x365001 => if x43 = true then (some (0, false)) else (if x365000 ≥ 0 then (some (wrap64 (x10), true)) else (if x9 > 0 then (if (IntKind.u64.wrap (x10 + 1)) = 0 then (some (0, false)) else (if (IntKind.u64.wrap (x10 + 1)) > 9223372036854775808 then (some (0, false)) else (some (wrap64 (IntKind.u64.wrap (-(IntKind.u64.wrap (x10 + 1)))), true)))) else (if x10 > 9223372036854775808 then (some (0, false)) else (some (wrap64 (IntKind.u64.wrap (-x10)), true)))))
def impl_WideMean.f (k : Nat) (a0_0 : Int) (a0_1 : Int) (a1 : Int) : Option (Int × Bool) := (impl_in.f a1 1 1000000).bind fun t365 => (if t365 = true then ((impl_Wide_size.f a0_0 a0_1).bind fun bt366 => (if (IntKind.u64.wrap (a1)) = 0 then (none) else ((bits_Div64.f k (Int.tmod bt366.1 (IntKind.u64.wrap (a1))) bt366.2 (IntKind.u64.wrap (a1))).bind fun bt368 => (if (IntKind.u64.wrap (Int.tdiv bt366.1 (IntKind.u64.wrap (a1)))) = 0 then (if a0_0 ≥ 0 then (impl_WideMean.j0 k bt368.2 bt368.1 (decide (bt368.1 > 9223372036854775807)) a0_0 a0_1) else (impl_WideMean.j0 k bt368.2 bt368.1 false a0_0 a0_1)) else (some (0, false)))))) else (some (0, false)))
set_option maxHeartbeats 8000000 in
set_option maxRecDepth 100000 in
theorem impl_WideMean.calls (k : Nat) (a0_0 : Int) (a0_1 : Int) (a1 : Int) (r1 : Int) (r2 : Bool) (w : World) (h : impl_WideMean.f k a0_0 a0_1 a1 = some (r1, r2)) :
  Calls Try.prog 57 #[.agg #[.int .i64 a0_0, .int .u64 a0_1], .int .i64 a1] w fun e w' => e = .returned (.tuple #[.int .i64 r1, .bool r2]) ∧ Below w.heap.size w w' := by
 have hu30 := Try.underlying30
 have HB := zp.mk (Below.refl w.heap.size w)
 have H : ((impl_in.f a1 1 1000000).bind fun t365 => (if t365 = true then ((impl_Wide_size.f a0_0 a0_1).bind fun bt366 => (if (IntKind.u64.wrap (a1)) = 0 then (none) else ((bits_Div64.f k (Int.tmod bt366.1 (IntKind.u64.wrap (a1))) bt366.2 (IntKind.u64.wrap (a1))).bind fun bt368 => (if (IntKind.u64.wrap (Int.tdiv bt366.1 (IntKind.u64.wrap (a1)))) = 0 then (if a0_0 ≥ 0 then (impl_WideMean.j0 k bt368.2 bt368.1 (decide (bt368.1 > 9223372036854775807)) a0_0 a0_1) else (impl_WideMean.j0 k bt368.2 bt368.1 false a0_0 a0_1)) else (some (0, false)))))) else (some (0, false)))) = some (r1, r2) := h
 clear h
 replace H := zs4 H
 obtain ⟨t365, A30, H⟩ := H
 replace H : (if t365 = true then ((impl_Wide_size.f a0_0 a0_1).bind fun bt366 => (if (IntKind.u64.wrap (a1)) = 0 then (none) else ((bits_Div64.f k (Int.tmod bt366.1 (IntKind.u64.wrap (a1))) bt366.2 (IntKind.u64.wrap (a1))).bind fun bt368 => (if (IntKind.u64.wrap (Int.tdiv bt366.1 (IntKind.u64.wrap (a1)))) = 0 then (if a0_0 ≥ 0 then (impl_WideMean.j0 k bt368.2 bt368.1 (decide (bt368.1 > 9223372036854775807)) a0_0 a0_1) else (impl_WideMean.j0 k bt368.2 bt368.1 false a0_0 a0_1)) else (some (0, false)))))) else (some (0, false))) = some (r1, r2) := H
 have A3 := zp.mk A30
 clear A30
 by_cases c4 : t365 = true
 ·subst c4
  have H1 : ((impl_Wide_size.f a0_0 a0_1).bind fun bt366 => (if (IntKind.u64.wrap (a1)) = 0 then (none) else ((bits_Div64.f k (Int.tmod bt366.1 (IntKind.u64.wrap (a1))) bt366.2 (IntKind.u64.wrap (a1))).bind fun bt368 => (if (IntKind.u64.wrap (Int.tdiv bt366.1 (IntKind.u64.wrap (a1)))) = 0 then (if a0_0 ≥ 0 then (impl_WideMean.j0 k bt368.2 bt368.1 (decide (bt368.1 > 9223372036854775807)) a0_0 a0_1) else (impl_WideMean.j0 k bt368.2 bt368.1 false a0_0 a0_1)) else (some (0, false)))))) = some (r1, r2) := by rw [if_pos rfl] at H; exact H
  clear H
  have H := H1
  clear H1
  replace H := zs4 H
  obtain ⟨⟨t366, t367⟩, A50, H⟩ := H
  replace H : (if (IntKind.u64.wrap (a1)) = 0 then (none) else ((bits_Div64.f k (Int.tmod t366 (IntKind.u64.wrap (a1))) t367 (IntKind.u64.wrap (a1))).bind fun bt368 => (if (IntKind.u64.wrap (Int.tdiv t366 (IntKind.u64.wrap (a1)))) = 0 then (if a0_0 ≥ 0 then (impl_WideMean.j0 k bt368.2 bt368.1 (decide (bt368.1 > 9223372036854775807)) a0_0 a0_1) else (impl_WideMean.j0 k bt368.2 bt368.1 false a0_0 a0_1)) else (some (0, false))))) = some (r1, r2) := H
  have A5 := zp.mk A50
  clear A50
  by_cases c6 : (IntKind.u64.wrap (a1)) = 0
  ·rw [if_pos c6] at H
   exact absurd H (by simp)
  ·rw [if_neg c6] at H
   have c6b0 : ((IntKind.u64.wrap (a1)) == 0) = false := beq_eq_false_iff_ne.mpr c6
   have c6b1 : ((IntKind.u64.wrap (a1)) != 0) = true := bne_iff_ne.mpr c6
   replace H := zs4 H
   obtain ⟨⟨t368, t369⟩, A70, H⟩ := H
   replace H : (if (IntKind.u64.wrap (Int.tdiv t366 (IntKind.u64.wrap (a1)))) = 0 then (if a0_0 ≥ 0 then (impl_WideMean.j0 k t369 t368 (decide (t368 > 9223372036854775807)) a0_0 a0_1) else (impl_WideMean.j0 k t369 t368 false a0_0 a0_1)) else (some (0, false))) = some (r1, r2) := H
   have A7 := zp.mk A70
   clear A70
   by_cases c8 : (IntKind.u64.wrap (Int.tdiv t366 (IntKind.u64.wrap (a1)))) = 0
   ·rw [if_pos c8] at H
    have c8b0 : ((IntKind.u64.wrap (Int.tdiv t366 (IntKind.u64.wrap (a1)))) == 0) = true := beq_iff_eq.mpr c8
    have c8b1 : ((IntKind.u64.wrap (Int.tdiv t366 (IntKind.u64.wrap (a1)))) != 0) = false := bne_eq_false_iff_eq.mpr c8
    clear c8
    have HC9 := zp.mk H
    clear H
    go_enter Try.func57, Try.ntmps57
    go_upto_region 8 with (first | ((with_reducible refine zo (N := 2) rfl ?_); refine zm ?hg (N := 2) ?hd (cs := #[.int .i64 a0_0, .int .u64 a0_1]) (t := 30) ?hr ?_; (case hd => rfl); (case hg => rfl); (case hr => first | (go_simp; done) | (go_simp; rfl)); intro gb364 hg w10 hbox hb; have BK364 := zp.mk (hbox); have GW364 := zp.mk ((zv3 (zv6 HB.out) hg)); have GE364 := zp.mk ((zv3 (zv6 HB.out) hg)); replace HB := zp.mk (zj (zv6 HB.out) hb); clear hb hbox hg) | (go_at_call 46; (with_reducible refine (impl_in.calls a1 1 1000000 true _ A3.out).mono ?_); rintro e w' ⟨rfl, ⟨nd, rfl⟩⟩; (try first | exact ⟨rfl, _, World.drewN_drewN _ _ _⟩ | exact ⟨rfl, _, Eq.trans (World.drewN_drewN _ _ _) (congrArg (World.drewN _) (Nat.add_assoc _ _ _))⟩); have y11_0 := zt0 BK364.out; have y11_1 := zt1 BK364.out; have u11_0 := zd BK364.out 0; have u11_1 := zd BK364.out 1) | (go_at_call 70; (with_reducible refine (impl_Wide_size.calls a0_0 a0_1 t366 t367 _ A5.out).mono ?_); rintro e w12 ⟨rfl, hb⟩; replace BK364 := zp.mk (zl (zv8 BK364.out) hb); replace HB := zp.mk (zj (zv7 HB.out) hb); (try clear hb); (try clear hb2); (try clear hk); (try clear hi)) | (go_at_call 71; (with_reducible refine (bits_Div64.calls k (Int.tmod t366 (IntKind.u64.wrap (a1))) t367 (IntKind.u64.wrap (a1)) t368 t369 _ A7.out).mono ?_); rintro e w' ⟨rfl, ⟨nd, rfl⟩⟩; (try first | exact ⟨rfl, _, World.drewN_drewN _ _ _⟩ | exact ⟨rfl, _, Eq.trans (World.drewN_drewN _ _ _) (congrArg (World.drewN _) (Nat.add_assoc _ _ _))⟩)))
    repeat (go_quiet (first | ((with_reducible refine zo (N := 2) rfl ?_); refine zm ?hg (N := 2) ?hd (cs := #[.int .i64 a0_0, .int .u64 a0_1]) (t := 30) ?hr ?_; (case hd => rfl); (case hg => rfl); (case hr => first | (go_simp; done) | (go_simp; rfl)); intro gb364 hg w10 hbox hb; have BK364 := zp.mk (hbox); have GW364 := zp.mk ((zv3 (zv6 HB.out) hg)); have GE364 := zp.mk ((zv3 (zv6 HB.out) hg)); replace HB := zp.mk (zj (zv6 HB.out) hb); clear hb hbox hg) | (go_at_call 46; (with_reducible refine (impl_in.calls a1 1 1000000 true _ A3.out).mono ?_); rintro e w' ⟨rfl, ⟨nd, rfl⟩⟩; (try first | exact ⟨rfl, _, World.drewN_drewN _ _ _⟩ | exact ⟨rfl, _, Eq.trans (World.drewN_drewN _ _ _) (congrArg (World.drewN _) (Nat.add_assoc _ _ _))⟩); have y11_0 := zt0 BK364.out; have y11_1 := zt1 BK364.out; have u11_0 := zd BK364.out 0; have u11_1 := zd BK364.out 1) | (go_at_call 70; (with_reducible refine (impl_Wide_size.calls a0_0 a0_1 t366 t367 _ A5.out).mono ?_); rintro e w12 ⟨rfl, hb⟩; replace BK364 := zp.mk (zl (zv8 BK364.out) hb); replace HB := zp.mk (zj (zv7 HB.out) hb); (try clear hb); (try clear hb2); (try clear hk); (try clear hi)) | (go_at_call 71; (with_reducible refine (bits_Div64.calls k (Int.tmod t366 (IntKind.u64.wrap (a1))) t367 (IntKind.u64.wrap (a1)) t368 t369 _ A7.out).mono ?_); rintro e w' ⟨rfl, ⟨nd, rfl⟩⟩; (try first | exact ⟨rfl, _, World.drewN_drewN _ _ _⟩ | exact ⟨rfl, _, Eq.trans (World.drewN_drewN _ _ _) (congrArg (World.drewN _) (Nat.add_assoc _ _ _))⟩))); go_upto_region 8 with (first | ((with_reducible refine zo (N := 2) rfl ?_); refine zm ?hg (N := 2) ?hd (cs := #[.int .i64 a0_0, .int .u64 a0_1]) (t := 30) ?hr ?_; (case hd => rfl); (case hg => rfl); (case hr => first | (go_simp; done) | (go_simp; rfl)); intro gb364 hg w10 hbox hb; have BK364 := zp.mk (hbox); have GW364 := zp.mk ((zv3 (zv6 HB.out) hg)); have GE364 := zp.mk ((zv3 (zv6 HB.out) hg)); replace HB := zp.mk (zj (zv6 HB.out) hb); clear hb hbox hg) | (go_at_call 46; (with_reducible refine (impl_in.calls a1 1 1000000 true _ A3.out).mono ?_); rintro e w' ⟨rfl, ⟨nd, rfl⟩⟩; (try first | exact ⟨rfl, _, World.drewN_drewN _ _ _⟩ | exact ⟨rfl, _, Eq.trans (World.drewN_drewN _ _ _) (congrArg (World.drewN _) (Nat.add_assoc _ _ _))⟩); have y11_0 := zt0 BK364.out; have y11_1 := zt1 BK364.out; have u11_0 := zd BK364.out 0; have u11_1 := zd BK364.out 1) | (go_at_call 70; (with_reducible refine (impl_Wide_size.calls a0_0 a0_1 t366 t367 _ A5.out).mono ?_); rintro e w12 ⟨rfl, hb⟩; replace BK364 := zp.mk (zl (zv8 BK364.out) hb); replace HB := zp.mk (zj (zv7 HB.out) hb); (try clear hb); (try clear hb2); (try clear hk); (try clear hi)) | (go_at_call 71; (with_reducible refine (bits_Div64.calls k (Int.tmod t366 (IntKind.u64.wrap (a1))) t367 (IntKind.u64.wrap (a1)) t368 t369 _ A7.out).mono ?_); rintro e w' ⟨rfl, ⟨nd, rfl⟩⟩; (try first | exact ⟨rfl, _, World.drewN_drewN _ _ _⟩ | exact ⟨rfl, _, Eq.trans (World.drewN_drewN _ _ _) (congrArg (World.drewN _) (Nat.add_assoc _ _ _))⟩))))
    (try simp only [Act.put, zs1, zs2, zs3])
    go_cut [43] (fun v43 wc => ∃ (kq : Nat) (x43_8 : Bool), v43 = .bool x43_8 ∧ zp (impl_WideMean.j0 kq t369 t368 x43_8 a0_0 a0_1 = some (r1, r2)) ∧ zp (kq ≤ k) ∧ zp (wc.heap[gb364]? = some (.cells #[.int .i64 a0_0, .int .u64 a0_1] 30 (0, 0))) ∧ zp (Below w.heap.size w wc))
    case first =>
     have H := HC9.out
     clear HC9
     by_cases c13 : a0_0 ≥ 0
     ·rw [if_pos c13] at H
      have c13b0 : decide (0 ≤ a0_0) = true := decide_eq_true c13
      clear c13
      (first | rw [c13b0] | (simp only [i64_w, i32_w]; rw [c13b0]) | skip)
      have H' := zp.mk H
      clear H
      have y14_0 := zt0 BK364.out
      have y14_1 := zt1 BK364.out
      have u14_0 := zd BK364.out 0
      have u14_1 := zd BK364.out 1
      go_wp2
      repeat (go_quiet (fail); try go_wp2)
      go_meet
      case rel => exact ⟨_, (decide (t368 > 9223372036854775807)), (by first | rfl | (simp; done) | (simp [*]; done)), H', ⟨by first | omega | exact Nat.le_refl _⟩, ⟨zv8 BK364.out⟩, ⟨zv7 HB.out⟩⟩
     ·rw [if_neg c13] at H
      have c13b0 : decide (0 ≤ a0_0) = false := decide_eq_false c13
      clear c13
      (first | rw [c13b0] | (simp only [i64_w, i32_w]; rw [c13b0]) | skip)
      have H' := zp.mk H
      clear H
      have y15_0 := zt0 BK364.out
      have y15_1 := zt1 BK364.out
      have u15_0 := zd BK364.out 0
      have u15_1 := zd BK364.out 1
      go_wp2
      repeat (go_quiet (fail); try go_wp2)
      go_meet
      case rel => exact ⟨_, (false), (by first | rfl | (simp; done) | (simp [*]; done)), H', ⟨by first | omega | exact Nat.le_refl _⟩, ⟨zv8 BK364.out⟩, ⟨zv7 HB.out⟩⟩
    case rest =>
     clear HC9
     try clear c1
     try clear p2
     try clear c4
     try clear c5
     try clear c6
     try clear c6b0
     try clear c6b1
     try clear c8
     try clear c8b0
     try clear c8b1
     try clear c13
     try clear c13b0
     try clear y11_0
     try clear y11_1
     try clear y14_0
     try clear y14_1
     try clear y15_0
     try clear y15_1
     try clear u11_0
     try clear u11_1
     try clear u14_0
     try clear u14_1
     try clear u15_0
     try clear u15_1
     obtain ⟨kq, x43_8, rfl, HA, HJ8, BK364, HB⟩ := hcut
     cases kq with
     | zero => exact absurd HA.out (by simp [impl_WideMean.j0])
     | succ kj8 =>
      have H := HA.out
      clear HA
      simp only [impl_WideMean.j0] at H
      by_cases c16 : x43_8 = true
      ·subst c16
       have H1 : (some (0, false)) = some (r1, r2) := by rw [if_pos rfl] at H; exact H
       clear H
       have H := H1
       clear H1
       simp only [Option.some.injEq, Prod.mk.injEq] at H
       obtain ⟨rfl, rfl⟩ := H
       go_wp2
       repeat (go_quiet (fail); try go_wp2)
       go_ret2
       exact ⟨by first | rfl | (simp [errW_none, errW_some] <;> rfl) | (simp [*, errW_none, errW_some] <;> rfl), zv7 HB.out⟩
      ·replace c16 := Bool.eq_false_iff.mpr c16
       subst c16
       have H1 : (if a0_0 ≥ 0 then (some (wrap64 (t368), true)) else (if t369 > 0 then (if (IntKind.u64.wrap (t368 + 1)) = 0 then (some (0, false)) else (if (IntKind.u64.wrap (t368 + 1)) > 9223372036854775808 then (some (0, false)) else (some (wrap64 (IntKind.u64.wrap (-(IntKind.u64.wrap (t368 + 1)))), true)))) else (if t368 > 9223372036854775808 then (some (0, false)) else (some (wrap64 (IntKind.u64.wrap (-t368)), true))))) = some (r1, r2) := by rw [if_neg (show ¬ (false = true) by decide)] at H; exact H
       clear H
       have H := H1
       clear H1
       by_cases c17 : a0_0 ≥ 0
       ·rw [if_pos c17] at H
        have c17b0 : decide (0 ≤ a0_0) = true := decide_eq_true c17
        clear c17
        simp only [Option.some.injEq, Prod.mk.injEq] at H
        obtain ⟨rfl, rfl⟩ := H
        have y18_0 := zt0 BK364.out
        have y18_1 := zt1 BK364.out
        have u18_0 := zd BK364.out 0
        have u18_1 := zd BK364.out 1
        go_wp2
        repeat (go_quiet (fail); try go_wp2)
        go_ret2
        exact ⟨by first | rfl | (simp [errW_none, errW_some] <;> rfl) | (simp [*, errW_none, errW_some] <;> rfl), zv7 HB.out⟩
       ·rw [if_neg c17] at H
        have c17b0 : decide (0 ≤ a0_0) = false := decide_eq_false c17
        clear c17
        by_cases c19 : t369 > 0
        ·rw [if_pos c19] at H
         have c19b0 : decide (0 < t369) = true := decide_eq_true c19
         clear c19
         by_cases c20 : (IntKind.u64.wrap (t368 + 1)) = 0
         ·rw [if_pos c20] at H
          have c20b0 : ((IntKind.u64.wrap (t368 + 1)) == 0) = true := beq_iff_eq.mpr c20
          have c20b1 : ((IntKind.u64.wrap (t368 + 1)) != 0) = false := bne_eq_false_iff_eq.mpr c20
          clear c20
          simp only [Option.some.injEq, Prod.mk.injEq] at H
          obtain ⟨rfl, rfl⟩ := H
          have y21_0 := zt0 BK364.out
          have y21_1 := zt1 BK364.out
          have u21_0 := zd BK364.out 0
          have u21_1 := zd BK364.out 1
          go_wp2
          repeat (go_quiet (fail); try go_wp2)
          go_ret2
          exact ⟨by first | rfl | (simp [errW_none, errW_some] <;> rfl) | (simp [*, errW_none, errW_some] <;> rfl), zv7 HB.out⟩
         ·rw [if_neg c20] at H
          have c20b0 : ((IntKind.u64.wrap (t368 + 1)) == 0) = false := beq_eq_false_iff_ne.mpr c20
          have c20b1 : ((IntKind.u64.wrap (t368 + 1)) != 0) = true := bne_iff_ne.mpr c20
          by_cases c22 : (IntKind.u64.wrap (t368 + 1)) > 9223372036854775808
          ·rw [if_pos c22] at H
           have c22b0 : decide (9223372036854775808 < (IntKind.u64.wrap (t368 + 1))) = true := decide_eq_true c22
           clear c22
           simp only [Option.some.injEq, Prod.mk.injEq] at H
           obtain ⟨rfl, rfl⟩ := H
           have y23_0 := zt0 BK364.out
           have y23_1 := zt1 BK364.out
           have u23_0 := zd BK364.out 0
           have u23_1 := zd BK364.out 1
           go_wp2
           repeat (go_quiet (fail); try go_wp2)
           go_ret2
           exact ⟨by first | rfl | (simp [errW_none, errW_some] <;> rfl) | (simp [*, errW_none, errW_some] <;> rfl), zv7 HB.out⟩
          ·rw [if_neg c22] at H
           have c22b0 : decide (9223372036854775808 < (IntKind.u64.wrap (t368 + 1))) = false := decide_eq_false c22
           clear c22
           simp only [Option.some.injEq, Prod.mk.injEq] at H
           obtain ⟨rfl, rfl⟩ := H
           have y24_0 := zt0 BK364.out
           have y24_1 := zt1 BK364.out
           have u24_0 := zd BK364.out 0
           have u24_1 := zd BK364.out 1
           go_wp2
           repeat (go_quiet (fail); try go_wp2)
           go_ret2
           exact ⟨by first | rfl | (simp [errW_none, errW_some] <;> rfl) | (simp [*, errW_none, errW_some] <;> rfl), zv7 HB.out⟩
        ·rw [if_neg c19] at H
         have c19b0 : decide (0 < t369) = false := decide_eq_false c19
         clear c19
         by_cases c25 : t368 > 9223372036854775808
         ·rw [if_pos c25] at H
          have c25b0 : decide (9223372036854775808 < t368) = true := decide_eq_true c25
          clear c25
          simp only [Option.some.injEq, Prod.mk.injEq] at H
          obtain ⟨rfl, rfl⟩ := H
          have y26_0 := zt0 BK364.out
          have y26_1 := zt1 BK364.out
          have u26_0 := zd BK364.out 0
          have u26_1 := zd BK364.out 1
          go_wp2
          repeat (go_quiet (fail); try go_wp2)
          go_ret2
          exact ⟨by first | rfl | (simp [errW_none, errW_some] <;> rfl) | (simp [*, errW_none, errW_some] <;> rfl), zv7 HB.out⟩
         ·rw [if_neg c25] at H
          have c25b0 : decide (9223372036854775808 < t368) = false := decide_eq_false c25
          clear c25
          simp only [Option.some.injEq, Prod.mk.injEq] at H
          obtain ⟨rfl, rfl⟩ := H
          have y27_0 := zt0 BK364.out
          have y27_1 := zt1 BK364.out
          have u27_0 := zd BK364.out 0
          have u27_1 := zd BK364.out 1
          go_wp2
          repeat (go_quiet (fail); try go_wp2)
          go_ret2
          exact ⟨by first | rfl | (simp [errW_none, errW_some] <;> rfl) | (simp [*, errW_none, errW_some] <;> rfl), zv7 HB.out⟩
   ·rw [if_neg c8] at H
    have c8b0 : ((IntKind.u64.wrap (Int.tdiv t366 (IntKind.u64.wrap (a1)))) == 0) = false := beq_eq_false_iff_ne.mpr c8
    have c8b1 : ((IntKind.u64.wrap (Int.tdiv t366 (IntKind.u64.wrap (a1)))) != 0) = true := bne_iff_ne.mpr c8
    simp only [Option.some.injEq, Prod.mk.injEq] at H
    obtain ⟨rfl, rfl⟩ := H
    go_enter Try.func57, Try.ntmps57
    go_wp2_with (first | ((with_reducible refine zo (N := 2) rfl ?_); refine zm ?hg (N := 2) ?hd (cs := #[.int .i64 a0_0, .int .u64 a0_1]) (t := 30) ?hr ?_; (case hd => rfl); (case hg => rfl); (case hr => first | (go_simp; done) | (go_simp; rfl)); intro gb364 hg w28 hbox hb; have BK364 := zp.mk (hbox); have GW364 := zp.mk ((zv3 (zv6 HB.out) hg)); have GE364 := zp.mk ((zv3 (zv6 HB.out) hg)); replace HB := zp.mk (zj (zv6 HB.out) hb); clear hb hbox hg) | (go_at_call 46; (with_reducible refine (impl_in.calls a1 1 1000000 true _ A3.out).mono ?_); rintro e w' ⟨rfl, ⟨nd, rfl⟩⟩; (try first | exact ⟨rfl, _, World.drewN_drewN _ _ _⟩ | exact ⟨rfl, _, Eq.trans (World.drewN_drewN _ _ _) (congrArg (World.drewN _) (Nat.add_assoc _ _ _))⟩); have y29_0 := zt0 BK364.out; have y29_1 := zt1 BK364.out; have u29_0 := zd BK364.out 0; have u29_1 := zd BK364.out 1) | (go_at_call 70; (with_reducible refine (impl_Wide_size.calls a0_0 a0_1 t366 t367 _ A5.out).mono ?_); rintro e w30 ⟨rfl, hb⟩; replace BK364 := zp.mk (zl (zv8 BK364.out) hb); replace HB := zp.mk (zj (zv7 HB.out) hb); (try clear hb); (try clear hb2); (try clear hk); (try clear hi)) | (go_at_call 71; (with_reducible refine (bits_Div64.calls k (Int.tmod t366 (IntKind.u64.wrap (a1))) t367 (IntKind.u64.wrap (a1)) t368 t369 _ A7.out).mono ?_); rintro e w' ⟨rfl, ⟨nd, rfl⟩⟩; (try first | exact ⟨rfl, _, World.drewN_drewN _ _ _⟩ | exact ⟨rfl, _, Eq.trans (World.drewN_drewN _ _ _) (congrArg (World.drewN _) (Nat.add_assoc _ _ _))⟩)))
    repeat (go_quiet (first | ((with_reducible refine zo (N := 2) rfl ?_); refine zm ?hg (N := 2) ?hd (cs := #[.int .i64 a0_0, .int .u64 a0_1]) (t := 30) ?hr ?_; (case hd => rfl); (case hg => rfl); (case hr => first | (go_simp; done) | (go_simp; rfl)); intro gb364 hg w28 hbox hb; have BK364 := zp.mk (hbox); have GW364 := zp.mk ((zv3 (zv6 HB.out) hg)); have GE364 := zp.mk ((zv3 (zv6 HB.out) hg)); replace HB := zp.mk (zj (zv6 HB.out) hb); clear hb hbox hg) | (go_at_call 46; (with_reducible refine (impl_in.calls a1 1 1000000 true _ A3.out).mono ?_); rintro e w' ⟨rfl, ⟨nd, rfl⟩⟩; (try first | exact ⟨rfl, _, World.drewN_drewN _ _ _⟩ | exact ⟨rfl, _, Eq.trans (World.drewN_drewN _ _ _) (congrArg (World.drewN _) (Nat.add_assoc _ _ _))⟩); have y29_0 := zt0 BK364.out; have y29_1 := zt1 BK364.out; have u29_0 := zd BK364.out 0; have u29_1 := zd BK364.out 1) | (go_at_call 70; (with_reducible refine (impl_Wide_size.calls a0_0 a0_1 t366 t367 _ A5.out).mono ?_); rintro e w30 ⟨rfl, hb⟩; replace BK364 := zp.mk (zl (zv8 BK364.out) hb); replace HB := zp.mk (zj (zv7 HB.out) hb); (try clear hb); (try clear hb2); (try clear hk); (try clear hi)) | (go_at_call 71; (with_reducible refine (bits_Div64.calls k (Int.tmod t366 (IntKind.u64.wrap (a1))) t367 (IntKind.u64.wrap (a1)) t368 t369 _ A7.out).mono ?_); rintro e w' ⟨rfl, ⟨nd, rfl⟩⟩; (try first | exact ⟨rfl, _, World.drewN_drewN _ _ _⟩ | exact ⟨rfl, _, Eq.trans (World.drewN_drewN _ _ _) (congrArg (World.drewN _) (Nat.add_assoc _ _ _))⟩))); try go_wp2_with (first | ((with_reducible refine zo (N := 2) rfl ?_); refine zm ?hg (N := 2) ?hd (cs := #[.int .i64 a0_0, .int .u64 a0_1]) (t := 30) ?hr ?_; (case hd => rfl); (case hg => rfl); (case hr => first | (go_simp; done) | (go_simp; rfl)); intro gb364 hg w28 hbox hb; have BK364 := zp.mk (hbox); have GW364 := zp.mk ((zv3 (zv6 HB.out) hg)); have GE364 := zp.mk ((zv3 (zv6 HB.out) hg)); replace HB := zp.mk (zj (zv6 HB.out) hb); clear hb hbox hg) | (go_at_call 46; (with_reducible refine (impl_in.calls a1 1 1000000 true _ A3.out).mono ?_); rintro e w' ⟨rfl, ⟨nd, rfl⟩⟩; (try first | exact ⟨rfl, _, World.drewN_drewN _ _ _⟩ | exact ⟨rfl, _, Eq.trans (World.drewN_drewN _ _ _) (congrArg (World.drewN _) (Nat.add_assoc _ _ _))⟩); have y29_0 := zt0 BK364.out; have y29_1 := zt1 BK364.out; have u29_0 := zd BK364.out 0; have u29_1 := zd BK364.out 1) | (go_at_call 70; (with_reducible refine (impl_Wide_size.calls a0_0 a0_1 t366 t367 _ A5.out).mono ?_); rintro e w30 ⟨rfl, hb⟩; replace BK364 := zp.mk (zl (zv8 BK364.out) hb); replace HB := zp.mk (zj (zv7 HB.out) hb); (try clear hb); (try clear hb2); (try clear hk); (try clear hi)) | (go_at_call 71; (with_reducible refine (bits_Div64.calls k (Int.tmod t366 (IntKind.u64.wrap (a1))) t367 (IntKind.u64.wrap (a1)) t368 t369 _ A7.out).mono ?_); rintro e w' ⟨rfl, ⟨nd, rfl⟩⟩; (try first | exact ⟨rfl, _, World.drewN_drewN _ _ _⟩ | exact ⟨rfl, _, Eq.trans (World.drewN_drewN _ _ _) (congrArg (World.drewN _) (Nat.add_assoc _ _ _))⟩))))
    go_ret2
    exact ⟨by first | rfl | (simp [errW_none, errW_some] <;> rfl) | (simp [*, errW_none, errW_some] <;> rfl), zv7 HB.out⟩
 ·replace c4 := Bool.eq_false_iff.mpr c4
  subst c4
  have H1 : (some (0, false)) = some (r1, r2) := by rw [if_neg (show ¬ (false = true) by decide)] at H; exact H
  clear H
  have H := H1
  clear H1
  simp only [Option.some.injEq, Prod.mk.injEq] at H
  obtain ⟨rfl, rfl⟩ := H
  go_enter Try.func57, Try.ntmps57
  go_wp2_with (first | ((with_reducible refine zo (N := 2) rfl ?_); refine zm ?hg (N := 2) ?hd (cs := #[.int .i64 a0_0, .int .u64 a0_1]) (t := 30) ?hr ?_; (case hd => rfl); (case hg => rfl); (case hr => first | (go_simp; done) | (go_simp; rfl)); intro gb364 hg w31 hbox hb; have BK364 := zp.mk (hbox); have GW364 := zp.mk ((zv3 (zv6 HB.out) hg)); have GE364 := zp.mk ((zv3 (zv6 HB.out) hg)); replace HB := zp.mk (zj (zv6 HB.out) hb); clear hb hbox hg) | (go_at_call 46; (with_reducible refine (impl_in.calls a1 1 1000000 false _ A3.out).mono ?_); rintro e w' ⟨rfl, ⟨nd, rfl⟩⟩; (try first | exact ⟨rfl, _, World.drewN_drewN _ _ _⟩ | exact ⟨rfl, _, Eq.trans (World.drewN_drewN _ _ _) (congrArg (World.drewN _) (Nat.add_assoc _ _ _))⟩)))
  repeat (go_quiet (first | ((with_reducible refine zo (N := 2) rfl ?_); refine zm ?hg (N := 2) ?hd (cs := #[.int .i64 a0_0, .int .u64 a0_1]) (t := 30) ?hr ?_; (case hd => rfl); (case hg => rfl); (case hr => first | (go_simp; done) | (go_simp; rfl)); intro gb364 hg w31 hbox hb; have BK364 := zp.mk (hbox); have GW364 := zp.mk ((zv3 (zv6 HB.out) hg)); have GE364 := zp.mk ((zv3 (zv6 HB.out) hg)); replace HB := zp.mk (zj (zv6 HB.out) hb); clear hb hbox hg) | (go_at_call 46; (with_reducible refine (impl_in.calls a1 1 1000000 false _ A3.out).mono ?_); rintro e w' ⟨rfl, ⟨nd, rfl⟩⟩; (try first | exact ⟨rfl, _, World.drewN_drewN _ _ _⟩ | exact ⟨rfl, _, Eq.trans (World.drewN_drewN _ _ _) (congrArg (World.drewN _) (Nat.add_assoc _ _ _))⟩))); try go_wp2_with (first | ((with_reducible refine zo (N := 2) rfl ?_); refine zm ?hg (N := 2) ?hd (cs := #[.int .i64 a0_0, .int .u64 a0_1]) (t := 30) ?hr ?_; (case hd => rfl); (case hg => rfl); (case hr => first | (go_simp; done) | (go_simp; rfl)); intro gb364 hg w31 hbox hb; have BK364 := zp.mk (hbox); have GW364 := zp.mk ((zv3 (zv6 HB.out) hg)); have GE364 := zp.mk ((zv3 (zv6 HB.out) hg)); replace HB := zp.mk (zj (zv6 HB.out) hb); clear hb hbox hg) | (go_at_call 46; (with_reducible refine (impl_in.calls a1 1 1000000 false _ A3.out).mono ?_); rintro e w' ⟨rfl, ⟨nd, rfl⟩⟩; (try first | exact ⟨rfl, _, World.drewN_drewN _ _ _⟩ | exact ⟨rfl, _, Eq.trans (World.drewN_drewN _ _ _) (congrArg (World.drewN _) (Nat.add_assoc _ _ _))⟩))))
  go_ret2
  exact ⟨by first | rfl | (simp [errW_none, errW_some] <;> rfl) | (simp [*, errW_none, errW_some] <;> rfl), zv7 HB.out⟩

/-! ### slices_Clone_int_int: function 58 -/
theorem slices_Clone_int_int.info : (Try.prog.info? 3).map (fun i => (i.zero, i.size, i.bytes)) = some (some (.int .i64 0), 1, 8) := by kernel_rfl
def slices_Clone_int_int.f (l0 : List (Int)) : Option (List (Int)) := if l0.length * 8 ≤ 140737488355328 then some l0 else none
set_option maxHeartbeats 2000000 in
set_option maxRecDepth 100000 in
theorem slices_Clone_int_int.calls (A0 : Option Addr) (c0 : Nat) (l0 : List (Int)) (r : List (Int)) (w : World) (hr0 : Kd.C (Kd.int .i64) w A0 l0.length l0) (hc0 : l0.length ≤ c0) (h : slices_Clone_int_int.f l0 = some r) :
  Calls Try.prog 58 #[.slice A0 l0.length c0] w fun e w' => ∃ v0_ : Value, e = .returned (v0_) ∧ Kd.R (Kd.int .i64) 3 w' w.heap.size (fun _ => True) v0_ r ∧ Below w.heap.size w w' := by
 have q := fun (w : World) (a : Option Addr) (n c n' c' : Nat) => Lib.run_eql_slice_nil (P := Try.prog) w _ _ a n c n' c' Try.underlying25
 unfold slices_Clone_int_int.f at h
 by_cases hl : l0.length * 8 ≤ 140737488355328
 rotate_left
 ·rw [if_neg hl] at h
  cases h
 rw [if_pos hl] at h
 obtain rfl := Option.some.inj h
 clear h
 cases A0 with
 | none =>
  have h0 : l0 = [] := by
   rcases Nat.eq_zero_or_pos l0.length with h0 | h0
   ·exact List.eq_nil_of_length_eq_zero h0
   ·obtain ⟨ad, e, _⟩ := hr0.2.2 h0
    cases e
  subst h0
  clear hr0 hc0 hl
  go_enter Try.func58, Try.ntmps58
  go_wp2
  go_ret
  exact ⟨_, rfl, Kd.R_nil _ _ _ _ _, Below.refl _ _⟩
 | some ad =>
  have HR0 := zp.mk hr0
  have LM := zp.mk hl
  have HB := zp.mk (Below.refl w.heap.size w)
  clear hr0 hc0 hl
  have hu := Try.underlying25
  go_enter Try.func58, Try.ntmps58
  go_wp2_with (first | ((with_reducible refine zo (N := 5) rfl ?_); refine Kd.R_lit (Kd.int .i64) _ 3 ?hg (N := 5) ?hd (xs := ([] : List (Int))) (inner := []) (ok := fun _ => True) (okp := fun _ => True) ?hr ?hp (fun _ hk => hk) trivial (Below.refl _ _) (Nat.le_refl _) (by simp) ?_; (case hd => rfl); (case hg => rfl); (case hr => first | (go_simp; done) | (go_simp; rfl)); (case hp => exact (Reps.none _ _)); intro v1 w1 ho5 hb hg_ hnew_; clear hg_ hnew_; have HO := zp.mk (Kd.R_lower ho5 (zk (zv6 HB.out))); replace HB := zp.mk (zj (zv6 HB.out) hb); clear hb ho5) | ((with_reducible refine gate_builtin (b := .append) (xs := #[.tmp 5, .tmp 6]) rfl ?_); at_builtin; refine Kd.R_append_rows (Kd.int .i64) (w0 := w) w.heap.size rfl (.tmp 5) (.tmp 6) 25 3 (.int .i64 0) 8 rfl Try.underlying25 slices_Clone_int_int.info rfl (by decide) (by omega) v1 [] l0 _ _ _ (fun _ => True) (fun _ => False) rfl rfl ?aO ?aR (fun _ _ h => h) (fun _ h => h.elim) ?aF ?aB ?aS ?aL ?_; (case aR => repeat (first | exact (Kd.zs HR0.out HB.out) | (with_reducible refine Kd.zr ?_ _) | (with_reducible refine Kd.zq ?_ _) | (with_reducible refine Kd.C_drew ?_))); (case aB => exact (zv6 HB.out)); (case aF => exact (fun _ _ => trivial)); (case aO => exact (by (with_reducible repeat (first | apply Kd.R_alloc | apply Kd.R_drewN | apply Kd.R_drew)); exact HO.out)); (case aS => exact (zk (zv6 HB.out))); (case aL => have := LM.out; simp; omega); intro v2 w2 ho hb hg hat; replace HB := zp.mk (hb); replace HO := zp.mk (ho); clear ho hb hg hat))
  go_ret
  have h5 := HO.out
  rw [List.nil_append] at h5
  exact ⟨_, rfl, h5, HB.out⟩

/-! ### impl_done: function 40 -/
def impl_done.f (k : Nat) (a0 : Int) (a1 : Int) (a2_0 : Int) (a2_1 : Int) (a2_2 : Int) (a2_3 : Int) (a2_4 : Int) (l2_5 : List Int) : Option (List Int × Bool) := if a0 = 1 then (some ((([a2_0] : List Int)), false)) else (if a0 = 2 then ((impl_WideInt.f a2_1 a2_2).bind fun bt374 => (if bt374.2 = true then (some ((([bt374.1] : List Int)), false)) else (some (([] : List Int), true)))) else (if a0 = 3 then (some ((([a2_3] : List Int)), false)) else (if a0 = 4 then (some ((([a2_4] : List Int)), false)) else (if a0 = 5 then ((impl_WideMean.f k a2_1 a2_2 a2_0).bind fun bt385 => (some ((([bt385.1] : List Int)), false))) else (if 0 ≤ (mn a1 (l2_5.length : Int)) then (if (mn a1 (l2_5.length : Int)) ≤ (l2_5.length : Int) then ((slices_Clone_int_int.f (l2_5.take ((mn a1 (l2_5.length : Int)) : Int).toNat)).bind fun t391 => (some (t391, false))) else (none)) else (none))))))
set_option maxHeartbeats 8000000 in
set_option maxRecDepth 100000 in
theorem impl_done.calls (k : Nat) (a0 : Int) (a1 : Int) (a2_0 : Int) (a2_1 : Int) (a2_2 : Int) (a2_3 : Int) (a2_4 : Int) (A2_5 : Option Addr) (c2_5 : Nat) (l2_5 : List Int) (r1 : List Int) (r2 : Bool) (w : World) (hr2_5 : Kd.C (Kd.int .i64) w A2_5 l2_5.length l2_5) (hc2_5 : l2_5.length ≤ c2_5) (h : impl_done.f k a0 a1 a2_0 a2_1 a2_2 a2_3 a2_4 l2_5 = some (r1, r2)) :
  Calls Try.prog 40 #[.int .i64 a0, .int .i64 a1, .agg #[.int .i64 a2_0, .int .i64 a2_1, .int .u64 a2_2, .int .i64 a2_3, .int .i64 a2_4, .slice A2_5 l2_5.length c2_5]] w fun e w' => ∃ v0_ : Value, e = .returned (.tuple #[v0_, .bool r2]) ∧ Kd.R (Kd.int .i64) 3 w' w.heap.size (fun _ => True) v0_ r1 ∧ Below w.heap.size w w' := by
 have hu32 := Try.underlying32
 have hu30 := Try.underlying30
 have HR2_5 := zp.mk hr2_5
 have HC2_5 := zp.mk hc2_5
 clear hr2_5 hc2_5
 have HB := zp.mk (Below.refl w.heap.size w)
 have H : (if a0 = 1 then (some ((([a2_0] : List Int)), false)) else (if a0 = 2 then ((impl_WideInt.f a2_1 a2_2).bind fun bt374 => (if bt374.2 = true then (some ((([bt374.1] : List Int)), false)) else (some (([] : List Int), true)))) else (if a0 = 3 then (some ((([a2_3] : List Int)), false)) else (if a0 = 4 then (some ((([a2_4] : List Int)), false)) else (if a0 = 5 then ((impl_WideMean.f k a2_1 a2_2 a2_0).bind fun bt385 => (some ((([bt385.1] : List Int)), false))) else (if 0 ≤ (mn a1 (l2_5.length : Int)) then (if (mn a1 (l2_5.length : Int)) ≤ (l2_5.length : Int) then ((slices_Clone_int_int.f (l2_5.take ((mn a1 (l2_5.length : Int)) : Int).toNat)).bind fun t391 => (some (t391, false))) else (none)) else (none))))))) = some (r1, r2) := h
 clear h
 by_cases c4 : a0 = 1
 ·rw [if_pos c4] at H
  have c4b0 : (a0 == 1) = true := beq_iff_eq.mpr c4
  have c4b1 : (a0 != 1) = false := bne_eq_false_iff_eq.mpr c4
  clear c4
  obtain ⟨y371, hy371⟩ : ∃ y_ : List Int, y_ = (([a2_0] : List Int)) := ⟨_, rfl⟩
  replace H : (some (y371, false)) = some (r1, r2) := by first | (rw [hy371]; with_reducible exact H) | (have H2_ := (Option.bind_some _ _).symm.trans H; rw [hy371]; with_reducible exact H2_) | (have H2_ := (Option.bind_some _ _).symm.trans H; with_reducible exact H2_) | with_reducible exact H | (rw [hy371]; exact H) | exact H
  have Ny371 := zp.mk hy371
  clear hy371
  simp only [Option.some.injEq, Prod.mk.injEq] at H
  obtain ⟨rfl, rfl⟩ := H
  go_enter Try.func40, Try.ntmps40
  go_wp2_with (first | ((with_reducible refine zo (N := 5) rfl ?_); refine zm ?hg (N := 5) ?hd (cs := #[.int .i64 a2_0, .int .i64 a2_1, .int .u64 a2_2, .int .i64 a2_3, .int .i64 a2_4, .slice A2_5 l2_5.length c2_5]) (t := 32) ?hr ?_; (case hd => rfl); (case hg => rfl); (case hr => first | (go_simp; done) | (go_simp; rfl)); intro gb370 hg w5 hbox hb; have BK370 := zp.mk (hbox); have GW370 := zp.mk ((zv3 (zv6 HB.out) hg)); have GE370 := zp.mk ((zv3 (zv6 HB.out) hg)); replace HB := zp.mk (zj (zv6 HB.out) hb); clear hb hbox hg; have y6_0 := zt0 BK370.out; have y6_1 := zt1 BK370.out; have y6_2 := zt2 BK370.out; have y6_3 := zt3 BK370.out; have y6_4 := zt4 BK370.out; have y6_5 := zt5 BK370.out; have u6_0 := zd BK370.out 0; have u6_1 := zd BK370.out 1; have u6_2 := zd BK370.out 2; have u6_3 := zd BK370.out 3; have u6_4 := zd BK370.out 4; have u6_5 := zd BK370.out 5) | ((with_reducible refine zo (N := 17) rfl ?_); refine Kd.R_lit (Kd.int .i64) _ 3 ?hg (N := 17) ?hd (xs := ([a2_0] : List Int)) (inner := [.int .i64 a2_0]) (ok := fun _ => True) (okp := fun _ => True) ?hr ?hp (fun _ hk => hk) trivial (Below.refl _ _) (Nat.le_refl _) (by simp) ?_; (case hd => rfl); (case hg => rfl); (case hr => first | (go_simp; done) | (go_simp; rfl)); (case hp => exact (Reps.one (show Kd.M (Kd.int .i64) _ _ _ a2_0 [.int .i64 a2_0] from rfl) (Reps.none _ _))); intro v372 w7 ho8 hb hg_ hnew_; clear hg_ hnew_; (first | rw [← Ny371.out] at ho8 | (simp only [Int.reduceToNat] at ho8; rw [← Ny371.out] at ho8)); have HO373 := zp.mk (Kd.R_lower ho8 (zk (zv7 HB.out))); replace BK370 := zp.mk (zl (zv8 BK370.out) hb); replace HB := zp.mk (zj (zv7 HB.out) hb); clear hb ho8))
  go_ret2
  exact ⟨_, by first | rfl | (simp [errW_none, errW_some] <;> rfl) | (simp [*, errW_none, errW_some] <;> rfl), by (with_reducible repeat (first | apply Kd.R_alloc | apply Kd.R_drewN | apply Kd.R_drew)); exact HO373.out, zv7 HB.out⟩
 ·rw [if_neg c4] at H
  have c4b0 : (a0 == 1) = false := beq_eq_false_iff_ne.mpr c4
  have c4b1 : (a0 != 1) = true := bne_iff_ne.mpr c4
  by_cases c9 : a0 = 2
  ·rw [if_pos c9] at H
   have c9b0 : (a0 == 2) = true := beq_iff_eq.mpr c9
   have c9b1 : (a0 != 2) = false := bne_eq_false_iff_eq.mpr c9
   clear c9
   replace H := zs4 H
   obtain ⟨⟨t374, t375⟩, A100, H⟩ := H
   replace H : (if t375 = true then (some ((([t374] : List Int)), false)) else (some (([] : List Int), true))) = some (r1, r2) := H
   have A10 := zp.mk A100
   clear A100
   by_cases c11 : t375 = true
   ·subst c11
    have H1 : (some ((([t374] : List Int)), false)) = some (r1, r2) := by rw [if_pos rfl] at H; exact H
    clear H
    have H := H1
    clear H1
    obtain ⟨y376, hy376⟩ : ∃ y_ : List Int, y_ = (([t374] : List Int)) := ⟨_, rfl⟩
    replace H : (some (y376, false)) = some (r1, r2) := by first | (rw [hy376]; with_reducible exact H) | (have H2_ := (Option.bind_some _ _).symm.trans H; rw [hy376]; with_reducible exact H2_) | (have H2_ := (Option.bind_some _ _).symm.trans H; with_reducible exact H2_) | with_reducible exact H | (rw [hy376]; exact H) | exact H
    have Ny376 := zp.mk hy376
    clear hy376
    simp only [Option.some.injEq, Prod.mk.injEq] at H
    obtain ⟨rfl, rfl⟩ := H
    go_enter Try.func40, Try.ntmps40
    go_wp2_with (first | ((with_reducible refine zo (N := 5) rfl ?_); refine zm ?hg (N := 5) ?hd (cs := #[.int .i64 a2_0, .int .i64 a2_1, .int .u64 a2_2, .int .i64 a2_3, .int .i64 a2_4, .slice A2_5 l2_5.length c2_5]) (t := 32) ?hr ?_; (case hd => rfl); (case hg => rfl); (case hr => first | (go_simp; done) | (go_simp; rfl)); intro gb370 hg w12 hbox hb; have BK370 := zp.mk (hbox); have GW370 := zp.mk ((zv3 (zv6 HB.out) hg)); have GE370 := zp.mk ((zv3 (zv6 HB.out) hg)); replace HB := zp.mk (zj (zv6 HB.out) hb); clear hb hbox hg; have y13_0 := zt0 BK370.out; have y13_1 := zt1 BK370.out; have y13_2 := zt2 BK370.out; have y13_3 := zt3 BK370.out; have y13_4 := zt4 BK370.out; have y13_5 := zt5 BK370.out; have u13_0 := zd BK370.out 0; have u13_1 := zd BK370.out 1; have u13_2 := zd BK370.out 2; have u13_3 := zd BK370.out 3; have u13_4 := zd BK370.out 4; have u13_5 := zd BK370.out 5) | ((with_reducible refine zn (f := 56) rfl ?_); refine goesL_ (some 23) rfl rfl Try.func56 (by kernel_rfl) rfl #[.agg #[.int .i64 a2_1, .int .u64 a2_2]] rfl (by (try simp only [List.map_toArray, List.map_cons, List.map_nil]); first | done | rfl | (simp only [List.length_drop, List.length_take]; rfl)) ?_; (with_reducible refine (impl_WideInt.calls a2_1 a2_2 t374 true _ A10.out).mono ?_); rintro e w14 ⟨rfl, hb⟩; refine ⟨_, rfl, ?_⟩; replace BK370 := zp.mk (zl (zv8 BK370.out) hb); replace HB := zp.mk (zj (zv7 HB.out) hb); (try clear hb); (try clear hb2); (try clear hk); (try clear hi)) | ((with_reducible refine zo (N := 29) rfl ?_); refine Kd.R_lit (Kd.int .i64) _ 3 ?hg (N := 29) ?hd (xs := ([t374] : List Int)) (inner := [.int .i64 t374]) (ok := fun _ => True) (okp := fun _ => True) ?hr ?hp (fun _ hk => hk) trivial (Below.refl _ _) (Nat.le_refl _) (by simp) ?_; (case hd => rfl); (case hg => rfl); (case hr => first | (go_simp; done) | (go_simp; rfl)); (case hp => exact (Reps.one (show Kd.M (Kd.int .i64) _ _ _ t374 [.int .i64 t374] from rfl) (Reps.none _ _))); intro v377 w15 ho16 hb hg_ hnew_; clear hg_ hnew_; (first | rw [← Ny376.out] at ho16 | (simp only [Int.reduceToNat] at ho16; rw [← Ny376.out] at ho16)); have HO378 := zp.mk (Kd.R_lower ho16 (zk (zv7 HB.out))); replace BK370 := zp.mk (zl (zv8 BK370.out) hb); replace HB := zp.mk (zj (zv7 HB.out) hb); clear hb ho16))
    go_ret2
    exact ⟨_, by first | rfl | (simp [errW_none, errW_some] <;> rfl) | (simp [*, errW_none, errW_some] <;> rfl), by (with_reducible repeat (first | apply Kd.R_alloc | apply Kd.R_drewN | apply Kd.R_drew)); exact HO378.out, zv7 HB.out⟩
   ·replace c11 := Bool.eq_false_iff.mpr c11
    subst c11
    have H1 : (some (([] : List Int), true)) = some (r1, r2) := by rw [if_neg (show ¬ (false = true) by decide)] at H; exact H
    clear H
    have H := H1
    clear H1
    simp only [Option.some.injEq, Prod.mk.injEq] at H
    obtain ⟨rfl, rfl⟩ := H
    go_enter Try.func40, Try.ntmps40
    go_wp2_with (first | ((with_reducible refine zo (N := 5) rfl ?_); refine zm ?hg (N := 5) ?hd (cs := #[.int .i64 a2_0, .int .i64 a2_1, .int .u64 a2_2, .int .i64 a2_3, .int .i64 a2_4, .slice A2_5 l2_5.length c2_5]) (t := 32) ?hr ?_; (case hd => rfl); (case hg => rfl); (case hr => first | (go_simp; done) | (go_simp; rfl)); intro gb370 hg w17 hbox hb; have BK370 := zp.mk (hbox); have GW370 := zp.mk ((zv3 (zv6 HB.out) hg)); have GE370 := zp.mk ((zv3 (zv6 HB.out) hg)); replace HB := zp.mk (zj (zv6 HB.out) hb); clear hb hbox hg; have y18_0 := zt0 BK370.out; have y18_1 := zt1 BK370.out; have y18_2 := zt2 BK370.out; have y18_3 := zt3 BK370.out; have y18_4 := zt4 BK370.out; have y18_5 := zt5 BK370.out; have u18_0 := zd BK370.out 0; have u18_1 := zd BK370.out 1; have u18_2 := zd BK370.out 2; have u18_3 := zd BK370.out 3; have u18_4 := zd BK370.out 4; have u18_5 := zd BK370.out 5) | ((with_reducible refine zn (f := 56) rfl ?_); refine goesL_ (some 23) rfl rfl Try.func56 (by kernel_rfl) rfl #[.agg #[.int .i64 a2_1, .int .u64 a2_2]] rfl (by (try simp only [List.map_toArray, List.map_cons, List.map_nil]); first | done | rfl | (simp only [List.length_drop, List.length_take]; rfl)) ?_; (with_reducible refine (impl_WideInt.calls a2_1 a2_2 t374 false _ A10.out).mono ?_); rintro e w19 ⟨rfl, hb⟩; refine ⟨_, rfl, ?_⟩; replace BK370 := zp.mk (zl (zv8 BK370.out) hb); replace HB := zp.mk (zj (zv7 HB.out) hb); (try clear hb); (try clear hb2); (try clear hk); (try clear hi)))
    go_ret2
    exact ⟨_, by first | rfl | (simp [errW_none, errW_some] <;> rfl) | (simp [*, errW_none, errW_some] <;> rfl), by first | exact Kd.R_nil _ _ _ _ _ | exact Kd.N_nil _ _ _ _ _ | exact Kd.V_nil _ _ _ _ _ | exact Kd.Q_nil _ _ _ _ _ | exact Kd.S_nil _ _ _ _ _, zv7 HB.out⟩
  ·rw [if_neg c9] at H
   have c9b0 : (a0 == 2) = false := beq_eq_false_iff_ne.mpr c9
   have c9b1 : (a0 != 2) = true := bne_iff_ne.mpr c9
   by_cases c20 : a0 = 3
   ·rw [if_pos c20] at H
    have c20b0 : (a0 == 3) = true := beq_iff_eq.mpr c20
    have c20b1 : (a0 != 3) = false := bne_eq_false_iff_eq.mpr c20
    clear c20
    obtain ⟨y379, hy379⟩ : ∃ y_ : List Int, y_ = (([a2_3] : List Int)) := ⟨_, rfl⟩
    replace H : (some (y379, false)) = some (r1, r2) := by first | (rw [hy379]; with_reducible exact H) | (have H2_ := (Option.bind_some _ _).symm.trans H; rw [hy379]; with_reducible exact H2_) | (have H2_ := (Option.bind_some _ _).symm.trans H; with_reducible exact H2_) | with_reducible exact H | (rw [hy379]; exact H) | exact H
    have Ny379 := zp.mk hy379
    clear hy379
    simp only [Option.some.injEq, Prod.mk.injEq] at H
    obtain ⟨rfl, rfl⟩ := H
    go_enter Try.func40, Try.ntmps40
    go_wp2_with (first | ((with_reducible refine zo (N := 5) rfl ?_); refine zm ?hg (N := 5) ?hd (cs := #[.int .i64 a2_0, .int .i64 a2_1, .int .u64 a2_2, .int .i64 a2_3, .int .i64 a2_4, .slice A2_5 l2_5.length c2_5]) (t := 32) ?hr ?_; (case hd => rfl); (case hg => rfl); (case hr => first | (go_simp; done) | (go_simp; rfl)); intro gb370 hg w21 hbox hb; have BK370 := zp.mk (hbox); have GW370 := zp.mk ((zv3 (zv6 HB.out) hg)); have GE370 := zp.mk ((zv3 (zv6 HB.out) hg)); replace HB := zp.mk (zj (zv6 HB.out) hb); clear hb hbox hg; have y22_0 := zt0 BK370.out; have y22_1 := zt1 BK370.out; have y22_2 := zt2 BK370.out; have y22_3 := zt3 BK370.out; have y22_4 := zt4 BK370.out; have y22_5 := zt5 BK370.out; have u22_0 := zd BK370.out 0; have u22_1 := zd BK370.out 1; have u22_2 := zd BK370.out 2; have u22_3 := zd BK370.out 3; have u22_4 := zd BK370.out 4; have u22_5 := zd BK370.out 5) | ((with_reducible refine zo (N := 34) rfl ?_); refine Kd.R_lit (Kd.int .i64) _ 3 ?hg (N := 34) ?hd (xs := ([a2_3] : List Int)) (inner := [.int .i64 a2_3]) (ok := fun _ => True) (okp := fun _ => True) ?hr ?hp (fun _ hk => hk) trivial (Below.refl _ _) (Nat.le_refl _) (by simp) ?_; (case hd => rfl); (case hg => rfl); (case hr => first | (go_simp; done) | (go_simp; rfl)); (case hp => exact (Reps.one (show Kd.M (Kd.int .i64) _ _ _ a2_3 [.int .i64 a2_3] from rfl) (Reps.none _ _))); intro v380 w23 ho24 hb hg_ hnew_; clear hg_ hnew_; (first | rw [← Ny379.out] at ho24 | (simp only [Int.reduceToNat] at ho24; rw [← Ny379.out] at ho24)); have HO381 := zp.mk (Kd.R_lower ho24 (zk (zv7 HB.out))); replace BK370 := zp.mk (zl (zv8 BK370.out) hb); replace HB := zp.mk (zj (zv7 HB.out) hb); clear hb ho24))
    go_ret2
    exact ⟨_, by first | rfl | (simp [errW_none, errW_some] <;> rfl) | (simp [*, errW_none, errW_some] <;> rfl), by (with_reducible repeat (first | apply Kd.R_alloc | apply Kd.R_drewN | apply Kd.R_drew)); exact HO381.out, zv7 HB.out⟩
   ·rw [if_neg c20] at H
    have c20b0 : (a0 == 3) = false := beq_eq_false_iff_ne.mpr c20
    have c20b1 : (a0 != 3) = true := bne_iff_ne.mpr c20
    by_cases c25 : a0 = 4
    ·rw [if_pos c25] at H
     have c25b0 : (a0 == 4) = true := beq_iff_eq.mpr c25
     have c25b1 : (a0 != 4) = false := bne_eq_false_iff_eq.mpr c25
     clear c25
     obtain ⟨y382, hy382⟩ : ∃ y_ : List Int, y_ = (([a2_4] : List Int)) := ⟨_, rfl⟩
     replace H : (some (y382, false)) = some (r1, r2) := by first | (rw [hy382]; with_reducible exact H) | (have H2_ := (Option.bind_some _ _).symm.trans H; rw [hy382]; with_reducible exact H2_) | (have H2_ := (Option.bind_some _ _).symm.trans H; with_reducible exact H2_) | with_reducible exact H | (rw [hy382]; exact H) | exact H
     have Ny382 := zp.mk hy382
     clear hy382
     simp only [Option.some.injEq, Prod.mk.injEq] at H
     obtain ⟨rfl, rfl⟩ := H
     go_enter Try.func40, Try.ntmps40
     go_wp2_with (first | ((with_reducible refine zo (N := 5) rfl ?_); refine zm ?hg (N := 5) ?hd (cs := #[.int .i64 a2_0, .int .i64 a2_1, .int .u64 a2_2, .int .i64 a2_3, .int .i64 a2_4, .slice A2_5 l2_5.length c2_5]) (t := 32) ?hr ?_; (case hd => rfl); (case hg => rfl); (case hr => first | (go_simp; done) | (go_simp; rfl)); intro gb370 hg w26 hbox hb; have BK370 := zp.mk (hbox); have GW370 := zp.mk ((zv3 (zv6 HB.out) hg)); have GE370 := zp.mk ((zv3 (zv6 HB.out) hg)); replace HB := zp.mk (zj (zv6 HB.out) hb); clear hb hbox hg; have y27_0 := zt0 BK370.out; have y27_1 := zt1 BK370.out; have y27_2 := zt2 BK370.out; have y27_3 := zt3 BK370.out; have y27_4 := zt4 BK370.out; have y27_5 := zt5 BK370.out; have u27_0 := zd BK370.out 0; have u27_1 := zd BK370.out 1; have u27_2 := zd BK370.out 2; have u27_3 := zd BK370.out 3; have u27_4 := zd BK370.out 4; have u27_5 := zd BK370.out 5) | ((with_reducible refine zo (N := 39) rfl ?_); refine Kd.R_lit (Kd.int .i64) _ 3 ?hg (N := 39) ?hd (xs := ([a2_4] : List Int)) (inner := [.int .i64 a2_4]) (ok := fun _ => True) (okp := fun _ => True) ?hr ?hp (fun _ hk => hk) trivial (Below.refl _ _) (Nat.le_refl _) (by simp) ?_; (case hd => rfl); (case hg => rfl); (case hr => first | (go_simp; done) | (go_simp; rfl)); (case hp => exact (Reps.one (show Kd.M (Kd.int .i64) _ _ _ a2_4 [.int .i64 a2_4] from rfl) (Reps.none _ _))); intro v383 w28 ho29 hb hg_ hnew_; clear hg_ hnew_; (first | rw [← Ny382.out] at ho29 | (simp only [Int.reduceToNat] at ho29; rw [← Ny382.out] at ho29)); have HO384 := zp.mk (Kd.R_lower ho29 (zk (zv7 HB.out))); replace BK370 := zp.mk (zl (zv8 BK370.out) hb); replace HB := zp.mk (zj (zv7 HB.out) hb); clear hb ho29))
     go_ret2
     exact ⟨_, by first | rfl | (simp [errW_none, errW_some] <;> rfl) | (simp [*, errW_none, errW_some] <;> rfl), by (with_reducible repeat (first | apply Kd.R_alloc | apply Kd.R_drewN | apply Kd.R_drew)); exact HO384.out, zv7 HB.out⟩
    ·rw [if_neg c25] at H
     have c25b0 : (a0 == 4) = false := beq_eq_false_iff_ne.mpr c25
     have c25b1 : (a0 != 4) = true := bne_iff_ne.mpr c25
     by_cases c30 : a0 = 5
     ·rw [if_pos c30] at H
      have c30b0 : (a0 == 5) = true := beq_iff_eq.mpr c30
      have c30b1 : (a0 != 5) = false := bne_eq_false_iff_eq.mpr c30
      clear c30
      replace H := zs4 H
      obtain ⟨⟨t385, t386⟩, A310, H⟩ := H
      replace H : (some ((([t385] : List Int)), false)) = some (r1, r2) := H
      have A31 := zp.mk A310
      clear A310
      obtain ⟨y387, hy387⟩ : ∃ y_ : List Int, y_ = (([t385] : List Int)) := ⟨_, rfl⟩
      replace H : (some (y387, false)) = some (r1, r2) := by first | (rw [hy387]; with_reducible exact H) | (have H2_ := (Option.bind_some _ _).symm.trans H; rw [hy387]; with_reducible exact H2_) | (have H2_ := (Option.bind_some _ _).symm.trans H; with_reducible exact H2_) | with_reducible exact H | (rw [hy387]; exact H) | exact H
      have Ny387 := zp.mk hy387
      clear hy387
      simp only [Option.some.injEq, Prod.mk.injEq] at H
      obtain ⟨rfl, rfl⟩ := H
      go_enter Try.func40, Try.ntmps40
      go_wp2_with (first | ((with_reducible refine zo (N := 5) rfl ?_); refine zm ?hg (N := 5) ?hd (cs := #[.int .i64 a2_0, .int .i64 a2_1, .int .u64 a2_2, .int .i64 a2_3, .int .i64 a2_4, .slice A2_5 l2_5.length c2_5]) (t := 32) ?hr ?_; (case hd => rfl); (case hg => rfl); (case hr => first | (go_simp; done) | (go_simp; rfl)); intro gb370 hg w32 hbox hb; have BK370 := zp.mk (hbox); have GW370 := zp.mk ((zv3 (zv6 HB.out) hg)); have GE370 := zp.mk ((zv3 (zv6 HB.out) hg)); replace HB := zp.mk (zj (zv6 HB.out) hb); clear hb hbox hg; have y33_0 := zt0 BK370.out; have y33_1 := zt1 BK370.out; have y33_2 := zt2 BK370.out; have y33_3 := zt3 BK370.out; have y33_4 := zt4 BK370.out; have y33_5 := zt5 BK370.out; have u33_0 := zd BK370.out 0; have u33_1 := zd BK370.out 1; have u33_2 := zd BK370.out 2; have u33_3 := zd BK370.out 3; have u33_4 := zd BK370.out 4; have u33_5 := zd BK370.out 5) | ((with_reducible refine zn (f := 57) rfl ?_); refine goesL_ (some 47) rfl rfl Try.func57 (by kernel_rfl) rfl #[.agg #[.int .i64 a2_1, .int .u64 a2_2], .int .i64 a2_0] rfl (by (try simp only [List.map_toArray, List.map_cons, List.map_nil]); first | done | rfl | (simp only [List.length_drop, List.length_take]; rfl)) ?_; (with_reducible refine (impl_WideMean.calls k a2_1 a2_2 a2_0 t385 t386 _ A31.out).mono ?_); rintro e w34 ⟨rfl, hb⟩; refine ⟨_, rfl, ?_⟩; replace BK370 := zp.mk (zl (zv8 BK370.out) hb); replace HB := zp.mk (zj (zv7 HB.out) hb); (try clear hb); (try clear hb2); (try clear hk); (try clear hi)) | ((with_reducible refine zo (N := 51) rfl ?_); refine Kd.R_lit (Kd.int .i64) _ 3 ?hg (N := 51) ?hd (xs := ([t385] : List Int)) (inner := [.int .i64 t385]) (ok := fun _ => True) (okp := fun _ => True) ?hr ?hp (fun _ hk => hk) trivial (Below.refl _ _) (Nat.le_refl _) (by simp) ?_; (case hd => rfl); (case hg => rfl); (case hr => first | (go_simp; done) | (go_simp; rfl)); (case hp => exact (Reps.one (show Kd.M (Kd.int .i64) _ _ _ t385 [.int .i64 t385] from rfl) (Reps.none _ _))); intro v388 w35 ho36 hb hg_ hnew_; clear hg_ hnew_; (first | rw [← Ny387.out] at ho36 | (simp only [Int.reduceToNat] at ho36; rw [← Ny387.out] at ho36)); have HO389 := zp.mk (Kd.R_lower ho36 (zk (zv7 HB.out))); replace BK370 := zp.mk (zl (zv8 BK370.out) hb); replace HB := zp.mk (zj (zv7 HB.out) hb); clear hb ho36))
      go_ret2
      exact ⟨_, by first | rfl | (simp [errW_none, errW_some] <;> rfl) | (simp [*, errW_none, errW_some] <;> rfl), by (with_reducible repeat (first | apply Kd.R_alloc | apply Kd.R_drewN | apply Kd.R_drew)); exact HO389.out, zv7 HB.out⟩
     ·rw [if_neg c30] at H
      have c30b0 : (a0 == 5) = false := beq_eq_false_iff_ne.mpr c30
      have c30b1 : (a0 != 5) = true := bne_iff_ne.mpr c30
      obtain ⟨ji37, hji37⟩ : ∃ j_ : Int, (mn a1 (l2_5.length : Int)) = j_ := ⟨_, rfl⟩
      replace H : (if 0 ≤ (ji37) then (if (ji37) ≤ (l2_5.length : Int) then ((slices_Clone_int_int.f (l2_5.take ((ji37) : Int).toNat)).bind fun t391 => (some (t391, false))) else (none)) else (none)) = some (r1, r2) := by first | (rw [hji37] at H; exact H) | (simp only [hji37] at H ⊢; exact H)
      have hji37_ : (if (l2_5.length : Int) < a1 then (l2_5.length : Int) else a1) = ji37 := hji37
      by_cases c38 : 0 ≤ (ji37)
      ·rw [if_pos c38] at H
       have c38b0 := eq_true c38
       have c38b1 : decide (0 ≤ (ji37)) = true := decide_eq_true c38
       clear c38
       by_cases c39 : (ji37) ≤ (l2_5.length : Int)
       ·rw [if_pos c39] at H
        have c39b0 := eq_true c39
        have c39b1 : decide ((ji37) ≤ (l2_5.length : Int)) = true := decide_eq_true c39
        clear c39
        replace H := zs4 H
        obtain ⟨t391, A400, H⟩ := H
        replace H : (some (t391, false)) = some (r1, r2) := H
        have A40 := zp.mk A400
        clear A400
        simp only [Option.some.injEq, Prod.mk.injEq] at H
        obtain ⟨rfl, rfl⟩ := H
        go_enter Try.func40, Try.ntmps40
        go_wp2_with (first | ((with_reducible refine zo (N := 5) rfl ?_); refine zm ?hg (N := 5) ?hd (cs := #[.int .i64 a2_0, .int .i64 a2_1, .int .u64 a2_2, .int .i64 a2_3, .int .i64 a2_4, .slice A2_5 l2_5.length c2_5]) (t := 32) ?hr ?_; (case hd => rfl); (case hg => rfl); (case hr => first | (go_simp; done) | (go_simp; rfl)); intro gb370 hg w41 hbox hb; have BK370 := zp.mk (hbox); have GW370 := zp.mk ((zv3 (zv6 HB.out) hg)); have GE370 := zp.mk ((zv3 (zv6 HB.out) hg)); replace HB := zp.mk (zj (zv6 HB.out) hb); clear hb hbox hg; have y42_0 := zt0 BK370.out; have y42_1 := zt1 BK370.out; have y42_2 := zt2 BK370.out; have y42_3 := zt3 BK370.out; have y42_4 := zt4 BK370.out; have y42_5 := zt5 BK370.out; have u42_0 := zd BK370.out 0; have u42_1 := zd BK370.out 1; have u42_2 := zd BK370.out 2; have u42_3 := zd BK370.out 3; have u42_4 := zd BK370.out 4; have u42_5 := zd BK370.out 5; obtain ⟨i043, hi043, _, hsz43, _⟩ := info_parts info3; obtain ⟨hcut43, hA43, hC43⟩ := print_take_of (P := Try.prog) (Value.int .i64) 0 25 3 .i64 Try.underlying25 hi043 hsz43 A2_5 c2_5 l2_5 (ji37) (of_decide_eq_true (by first | (with_reducible assumption) | assumption)) (of_decide_eq_true (by first | (with_reducible assumption) | assumption)) HC2_5.out; have HR390 := zp.mk (Kd.C_of_reads (h1 := fun _ => rfl) (hA43 _ (Kd.reads_of_C HR2_5.out))); have HC390 := zp.mk hC43; clear hA43 hC43 hi043 hsz43) | ((with_reducible refine zn (f := 58) rfl ?_); refine goesL_ (some 60) rfl rfl Try.func58 (by kernel_rfl) rfl #[.slice A2_5 (l2_5.take ((ji37) : Int).toNat).length c2_5] rfl (by (try simp only [List.map_toArray, List.map_cons, List.map_nil]); first | done | (rw [show (l2_5.take ((ji37) : Int).toNat).length = (ji37).toNat from (by rw [List.length_take]; have h_ : ((ji37) : Int) ≤ (l2_5.length : Int) := of_decide_eq_true (by first | (with_reducible assumption) | assumption); omega)] <;> rfl) | (simp only [hji37]; rfl) | rfl | (simp only [List.length_drop, List.length_take]; rfl)) ?_; (with_reducible refine (slices_Clone_int_int.calls _ _ (l2_5.take ((ji37) : Int).toNat) t391 _ ?side1 ?side2 A40.out).mono ?_); (case side1 => repeat (first | exact (Kd.zs HR390.out HB.out) | (with_reducible refine Kd.zr ?_ _) | (with_reducible refine Kd.zq ?_ _) | (with_reducible refine Kd.C_drew ?_))); (case side2 => exact HC390.out); rintro e w44 ⟨v392, rfl, ho0, hb⟩; refine ⟨_, rfl, ?_⟩; have HO393 := zp.mk (Kd.R_lower ho0 (zk (zv7 HB.out))); replace BK370 := zp.mk (zl (zv8 BK370.out) hb); replace HB := zp.mk (zj (zv7 HB.out) hb); (try clear hb); (try clear hb2); (try clear hk); (try clear hi); (try clear ho0)))
        go_ret2
        exact ⟨_, by first | rfl | (simp [errW_none, errW_some] <;> rfl) | (simp only [← hji37]; first | rfl | (simp [errW_none, errW_some] <;> rfl)) | (simp [*, errW_none, errW_some] <;> rfl), by (with_reducible repeat (first | apply Kd.R_alloc | apply Kd.R_drewN | apply Kd.R_drew)); exact HO393.out, zv7 HB.out⟩
       ·rw [if_neg c39] at H
        exact absurd H (by simp)
      ·rw [if_neg c38] at H
       exact absurd H (by simp)

/-! ### impl_AggDone: function 14 -/
def impl_AggDone.f (k : Nat) (a0 : Int) (a1 : Int) (a2_0 : Int) (a2_1 : Int) (a2_2 : Int) (a2_3 : Int) (a2_4 : Int) (l2_5 : List Int) : Option (List Int × Bool) := (impl_isAgg.f k a2_0 a2_1 a2_2 a2_3 a2_4 l2_5).bind fun t395 => (if t395 = true then (if a2_0 = 0 then (some (([] : List Int), false)) else ((impl_isAggKind.f a0 a1).bind fun t396 => (if t396 = true then ((impl_done.f k a0 a1 a2_0 a2_1 a2_2 a2_3 a2_4 l2_5).bind fun bt397 => (some (bt397.1, bt397.2))) else (some (([] : List Int), false))))) else (some (([] : List Int), false)))
set_option maxHeartbeats 8000000 in
set_option maxRecDepth 100000 in
theorem impl_AggDone.calls (k : Nat) (a0 : Int) (a1 : Int) (a2_0 : Int) (a2_1 : Int) (a2_2 : Int) (a2_3 : Int) (a2_4 : Int) (A2_5 : Option Addr) (c2_5 : Nat) (l2_5 : List Int) (r1 : List Int) (r2 : Bool) (w : World) (hr2_5 : Kd.C (Kd.int .i64) w A2_5 l2_5.length l2_5) (hc2_5 : l2_5.length ≤ c2_5) (h : impl_AggDone.f k a0 a1 a2_0 a2_1 a2_2 a2_3 a2_4 l2_5 = some (r1, r2)) :
  Calls Try.prog 14 #[.int .i64 a0, .int .i64 a1, .agg #[.int .i64 a2_0, .int .i64 a2_1, .int .u64 a2_2, .int .i64 a2_3, .int .i64 a2_4, .slice A2_5 l2_5.length c2_5]] w fun e w' => ∃ v0_ : Value, e = .returned (.tuple #[v0_, .bool r2]) ∧ Kd.R (Kd.int .i64) 3 w' w.heap.size (fun _ => True) v0_ r1 ∧ Below w.heap.size w w' := by
 have hu32 := Try.underlying32
 have HR2_5 := zp.mk hr2_5
 have HC2_5 := zp.mk hc2_5
 clear hr2_5 hc2_5
 have HB := zp.mk (Below.refl w.heap.size w)
 have H : ((impl_isAgg.f k a2_0 a2_1 a2_2 a2_3 a2_4 l2_5).bind fun t395 => (if t395 = true then (if a2_0 = 0 then (some (([] : List Int), false)) else ((impl_isAggKind.f a0 a1).bind fun t396 => (if t396 = true then ((impl_done.f k a0 a1 a2_0 a2_1 a2_2 a2_3 a2_4 l2_5).bind fun bt397 => (some (bt397.1, bt397.2))) else (some (([] : List Int), false))))) else (some (([] : List Int), false)))) = some (r1, r2) := h
 clear h
 replace H := zs4 H
 obtain ⟨t395, A40, H⟩ := H
 replace H : (if t395 = true then (if a2_0 = 0 then (some (([] : List Int), false)) else ((impl_isAggKind.f a0 a1).bind fun t396 => (if t396 = true then ((impl_done.f k a0 a1 a2_0 a2_1 a2_2 a2_3 a2_4 l2_5).bind fun bt397 => (some (bt397.1, bt397.2))) else (some (([] : List Int), false))))) else (some (([] : List Int), false))) = some (r1, r2) := H
 have A4 := zp.mk A40
 clear A40
 by_cases c5 : t395 = true
 ·subst c5
  have H1 : (if a2_0 = 0 then (some (([] : List Int), false)) else ((impl_isAggKind.f a0 a1).bind fun t396 => (if t396 = true then ((impl_done.f k a0 a1 a2_0 a2_1 a2_2 a2_3 a2_4 l2_5).bind fun bt397 => (some (bt397.1, bt397.2))) else (some (([] : List Int), false))))) = some (r1, r2) := by rw [if_pos rfl] at H; exact H
  clear H
  have H := H1
  clear H1
  by_cases c6 : a2_0 = 0
  ·rw [if_pos c6] at H
   have c6b0 : (a2_0 == 0) = true := beq_iff_eq.mpr c6
   have c6b1 : (a2_0 != 0) = false := bne_eq_false_iff_eq.mpr c6
   clear c6
   simp only [Option.some.injEq, Prod.mk.injEq] at H
   obtain ⟨rfl, rfl⟩ := H
   go_enter Try.func14, Try.ntmps14
   go_wp2_with (first | ((with_reducible refine zo (N := 5) rfl ?_); refine zm ?hg (N := 5) ?hd (cs := #[.int .i64 a2_0, .int .i64 a2_1, .int .u64 a2_2, .int .i64 a2_3, .int .i64 a2_4, .slice A2_5 l2_5.length c2_5]) (t := 32) ?hr ?_; (case hd => rfl); (case hg => rfl); (case hr => first | (go_simp; done) | (go_simp; rfl)); intro gb394 hg w7 hbox hb; have BK394 := zp.mk (hbox); have GW394 := zp.mk ((zv3 (zv6 HB.out) hg)); have GE394 := zp.mk ((zv3 (zv6 HB.out) hg)); replace HB := zp.mk (zj (zv6 HB.out) hb); clear hb hbox hg; have y8_0 := zt0 BK394.out; have y8_1 := zt1 BK394.out; have y8_2 := zt2 BK394.out; have y8_3 := zt3 BK394.out; have y8_4 := zt4 BK394.out; have y8_5 := zt5 BK394.out; have u8_0 := zd BK394.out 0; have u8_1 := zd BK394.out 1; have u8_2 := zd BK394.out 2; have u8_3 := zd BK394.out 3; have u8_4 := zd BK394.out 4; have u8_5 := zd BK394.out 5) | ((with_reducible refine zn (f := 34) rfl ?_); refine goesL_ (some 9) rfl rfl Try.func34 (by kernel_rfl) rfl #[.agg #[.int .i64 a2_0, .int .i64 a2_1, .int .u64 a2_2, .int .i64 a2_3, .int .i64 a2_4, .slice A2_5 l2_5.length c2_5]] rfl (by (try simp only [List.map_toArray, List.map_cons, List.map_nil]); first | done | rfl | (simp only [List.length_drop, List.length_take]; rfl)) ?_; (with_reducible refine (impl_isAgg.calls k a2_0 a2_1 a2_2 a2_3 a2_4 _ _ l2_5 true _ ?side1 ?side2 A4.out).mono ?_); (case side1 => repeat (first | exact (Kd.zs HR2_5.out HB.out) | (with_reducible refine Kd.zr ?_ _) | (with_reducible refine Kd.zq ?_ _) | (with_reducible refine Kd.C_drew ?_))); (case side2 => exact HC2_5.out); rintro e w9 ⟨rfl, hb⟩; refine ⟨_, rfl, ?_⟩; replace BK394 := zp.mk (zl (zv8 BK394.out) hb); replace HB := zp.mk (zj (zv7 HB.out) hb); (try clear hb); (try clear hb2); (try clear hk); (try clear hi); have y10_0 := zt0 BK394.out; have y10_1 := zt1 BK394.out; have y10_2 := zt2 BK394.out; have y10_3 := zt3 BK394.out; have y10_4 := zt4 BK394.out; have y10_5 := zt5 BK394.out; have u10_0 := zd BK394.out 0; have u10_1 := zd BK394.out 1; have u10_2 := zd BK394.out 2; have u10_3 := zd BK394.out 3; have u10_4 := zd BK394.out 4; have u10_5 := zd BK394.out 5))
   go_ret2
   exact ⟨_, by first | rfl | (simp [errW_none, errW_some] <;> rfl) | (simp [*, errW_none, errW_some] <;> rfl), by first | exact Kd.R_nil _ _ _ _ _ | exact Kd.N_nil _ _ _ _ _ | exact Kd.V_nil _ _ _ _ _ | exact Kd.Q_nil _ _ _ _ _ | exact Kd.S_nil _ _ _ _ _, zv7 HB.out⟩
  ·rw [if_neg c6] at H
   have c6b0 : (a2_0 == 0) = false := beq_eq_false_iff_ne.mpr c6
   have c6b1 : (a2_0 != 0) = true := bne_iff_ne.mpr c6
   replace H := zs4 H
   obtain ⟨t396, A110, H⟩ := H
   replace H : (if t396 = true then ((impl_done.f k a0 a1 a2_0 a2_1 a2_2 a2_3 a2_4 l2_5).bind fun bt397 => (some (bt397.1, bt397.2))) else (some (([] : List Int), false))) = some (r1, r2) := H
   have A11 := zp.mk A110
   clear A110
   by_cases c12 : t396 = true
   ·subst c12
    have H1 : ((impl_done.f k a0 a1 a2_0 a2_1 a2_2 a2_3 a2_4 l2_5).bind fun bt397 => (some (bt397.1, bt397.2))) = some (r1, r2) := by rw [if_pos rfl] at H; exact H
    clear H
    have H := H1
    clear H1
    replace H := zs4 H
    obtain ⟨⟨t397, t400⟩, A130, H⟩ := H
    replace H : (some (t397, t400)) = some (r1, r2) := H
    have A13 := zp.mk A130
    clear A130
    simp only [Option.some.injEq, Prod.mk.injEq] at H
    obtain ⟨rfl, rfl⟩ := H
    go_enter Try.func14, Try.ntmps14
    go_wp2_with (first | ((with_reducible refine zo (N := 5) rfl ?_); refine zm ?hg (N := 5) ?hd (cs := #[.int .i64 a2_0, .int .i64 a2_1, .int .u64 a2_2, .int .i64 a2_3, .int .i64 a2_4, .slice A2_5 l2_5.length c2_5]) (t := 32) ?hr ?_; (case hd => rfl); (case hg => rfl); (case hr => first | (go_simp; done) | (go_simp; rfl)); intro gb394 hg w14 hbox hb; have BK394 := zp.mk (hbox); have GW394 := zp.mk ((zv3 (zv6 HB.out) hg)); have GE394 := zp.mk ((zv3 (zv6 HB.out) hg)); replace HB := zp.mk (zj (zv6 HB.out) hb); clear hb hbox hg; have y15_0 := zt0 BK394.out; have y15_1 := zt1 BK394.out; have y15_2 := zt2 BK394.out; have y15_3 := zt3 BK394.out; have y15_4 := zt4 BK394.out; have y15_5 := zt5 BK394.out; have u15_0 := zd BK394.out 0; have u15_1 := zd BK394.out 1; have u15_2 := zd BK394.out 2; have u15_3 := zd BK394.out 3; have u15_4 := zd BK394.out 4; have u15_5 := zd BK394.out 5) | ((with_reducible refine zn (f := 34) rfl ?_); refine goesL_ (some 9) rfl rfl Try.func34 (by kernel_rfl) rfl #[.agg #[.int .i64 a2_0, .int .i64 a2_1, .int .u64 a2_2, .int .i64 a2_3, .int .i64 a2_4, .slice A2_5 l2_5.length c2_5]] rfl (by (try simp only [List.map_toArray, List.map_cons, List.map_nil]); first | done | rfl | (simp only [List.length_drop, List.length_take]; rfl)) ?_; (with_reducible refine (impl_isAgg.calls k a2_0 a2_1 a2_2 a2_3 a2_4 _ _ l2_5 true _ ?side1 ?side2 A4.out).mono ?_); (case side1 => repeat (first | exact (Kd.zs HR2_5.out HB.out) | (with_reducible refine Kd.zr ?_ _) | (with_reducible refine Kd.zq ?_ _) | (with_reducible refine Kd.C_drew ?_))); (case side2 => exact HC2_5.out); rintro e w16 ⟨rfl, hb⟩; refine ⟨_, rfl, ?_⟩; replace BK394 := zp.mk (zl (zv8 BK394.out) hb); replace HB := zp.mk (zj (zv7 HB.out) hb); (try clear hb); (try clear hb2); (try clear hk); (try clear hi); have y17_0 := zt0 BK394.out; have y17_1 := zt1 BK394.out; have y17_2 := zt2 BK394.out; have y17_3 := zt3 BK394.out; have y17_4 := zt4 BK394.out; have y17_5 := zt5 BK394.out; have u17_0 := zd BK394.out 0; have u17_1 := zd BK394.out 1; have u17_2 := zd BK394.out 2; have u17_3 := zd BK394.out 3; have u17_4 := zd BK394.out 4; have u17_5 := zd BK394.out 5) | (go_at_call 39; (with_reducible refine (impl_isAggKind.calls a0 a1 true _ A11.out).mono ?_); rintro e w' ⟨rfl, ⟨nd, rfl⟩⟩) | ((with_reducible refine zn (f := 40) rfl ?_); refine goesL_ (some 25) rfl rfl Try.func40 (by kernel_rfl) rfl #[.int .i64 a0, .int .i64 a1, .agg #[.int .i64 a2_0, .int .i64 a2_1, .int .u64 a2_2, .int .i64 a2_3, .int .i64 a2_4, .slice A2_5 l2_5.length c2_5]] rfl (by (try simp only [List.map_toArray, List.map_cons, List.map_nil]); first | done | rfl | (simp only [List.length_drop, List.length_take]; rfl)) ?_; (with_reducible refine (impl_done.calls k a0 a1 a2_0 a2_1 a2_2 a2_3 a2_4 _ _ l2_5 t397 t400 _ ?side1 ?side2 A13.out).mono ?_); (case side1 => repeat (first | exact (Kd.zs HR2_5.out (zv7 HB.out)) | (with_reducible refine Kd.zr ?_ _) | (with_reducible refine Kd.zq ?_ _) | (with_reducible refine Kd.C_drew ?_))); (case side2 => exact HC2_5.out); rintro e w18 ⟨v398, rfl, ho0, hb⟩; refine ⟨_, rfl, ?_⟩; have HO399 := zp.mk (Kd.R_lower ho0 (zk (zv7 HB.out))); replace BK394 := zp.mk (zl (zv8 BK394.out) hb); replace HB := zp.mk (zj (zv7 HB.out) hb); (try clear hb); (try clear hb2); (try clear hk); (try clear hi); (try clear ho0)))
    go_ret2
    exact ⟨_, by first | rfl | (simp [errW_none, errW_some] <;> rfl) | (simp [*, errW_none, errW_some] <;> rfl), by (with_reducible repeat (first | apply Kd.R_alloc | apply Kd.R_drewN | apply Kd.R_drew)); exact HO399.out, zv7 HB.out⟩
   ·replace c12 := Bool.eq_false_iff.mpr c12
    subst c12
    have H1 : (some (([] : List Int), false)) = some (r1, r2) := by rw [if_neg (show ¬ (false = true) by decide)] at H; exact H
    clear H
    have H := H1
    clear H1
    simp only [Option.some.injEq, Prod.mk.injEq] at H
    obtain ⟨rfl, rfl⟩ := H
    go_enter Try.func14, Try.ntmps14
    go_wp2_with (first | ((with_reducible refine zo (N := 5) rfl ?_); refine zm ?hg (N := 5) ?hd (cs := #[.int .i64 a2_0, .int .i64 a2_1, .int .u64 a2_2, .int .i64 a2_3, .int .i64 a2_4, .slice A2_5 l2_5.length c2_5]) (t := 32) ?hr ?_; (case hd => rfl); (case hg => rfl); (case hr => first | (go_simp; done) | (go_simp; rfl)); intro gb394 hg w19 hbox hb; have BK394 := zp.mk (hbox); have GW394 := zp.mk ((zv3 (zv6 HB.out) hg)); have GE394 := zp.mk ((zv3 (zv6 HB.out) hg)); replace HB := zp.mk (zj (zv6 HB.out) hb); clear hb hbox hg; have y20_0 := zt0 BK394.out; have y20_1 := zt1 BK394.out; have y20_2 := zt2 BK394.out; have y20_3 := zt3 BK394.out; have y20_4 := zt4 BK394.out; have y20_5 := zt5 BK394.out; have u20_0 := zd BK394.out 0; have u20_1 := zd BK394.out 1; have u20_2 := zd BK394.out 2; have u20_3 := zd BK394.out 3; have u20_4 := zd BK394.out 4; have u20_5 := zd BK394.out 5) | ((with_reducible refine zn (f := 34) rfl ?_); refine goesL_ (some 9) rfl rfl Try.func34 (by kernel_rfl) rfl #[.agg #[.int .i64 a2_0, .int .i64 a2_1, .int .u64 a2_2, .int .i64 a2_3, .int .i64 a2_4, .slice A2_5 l2_5.length c2_5]] rfl (by (try simp only [List.map_toArray, List.map_cons, List.map_nil]); first | done | rfl | (simp only [List.length_drop, List.length_take]; rfl)) ?_; (with_reducible refine (impl_isAgg.calls k a2_0 a2_1 a2_2 a2_3 a2_4 _ _ l2_5 true _ ?side1 ?side2 A4.out).mono ?_); (case side1 => repeat (first | exact (Kd.zs HR2_5.out HB.out) | (with_reducible refine Kd.zr ?_ _) | (with_reducible refine Kd.zq ?_ _) | (with_reducible refine Kd.C_drew ?_))); (case side2 => exact HC2_5.out); rintro e w21 ⟨rfl, hb⟩; refine ⟨_, rfl, ?_⟩; replace BK394 := zp.mk (zl (zv8 BK394.out) hb); replace HB := zp.mk (zj (zv7 HB.out) hb); (try clear hb); (try clear hb2); (try clear hk); (try clear hi); have y22_0 := zt0 BK394.out; have y22_1 := zt1 BK394.out; have y22_2 := zt2 BK394.out; have y22_3 := zt3 BK394.out; have y22_4 := zt4 BK394.out; have y22_5 := zt5 BK394.out; have u22_0 := zd BK394.out 0; have u22_1 := zd BK394.out 1; have u22_2 := zd BK394.out 2; have u22_3 := zd BK394.out 3; have u22_4 := zd BK394.out 4; have u22_5 := zd BK394.out 5) | (go_at_call 39; (with_reducible refine (impl_isAggKind.calls a0 a1 false _ A11.out).mono ?_); rintro e w' ⟨rfl, ⟨nd, rfl⟩⟩))
    go_ret2
    exact ⟨_, by first | rfl | (simp [errW_none, errW_some] <;> rfl) | (simp [*, errW_none, errW_some] <;> rfl), by first | exact Kd.R_nil _ _ _ _ _ | exact Kd.N_nil _ _ _ _ _ | exact Kd.V_nil _ _ _ _ _ | exact Kd.Q_nil _ _ _ _ _ | exact Kd.S_nil _ _ _ _ _, zv7 HB.out⟩
 ·replace c5 := Bool.eq_false_iff.mpr c5
  subst c5
  have H1 : (some (([] : List Int), false)) = some (r1, r2) := by rw [if_neg (show ¬ (false = true) by decide)] at H; exact H
  clear H
  have H := H1
  clear H1
  simp only [Option.some.injEq, Prod.mk.injEq] at H
  obtain ⟨rfl, rfl⟩ := H
  go_enter Try.func14, Try.ntmps14
  go_wp2_with (first | ((with_reducible refine zo (N := 5) rfl ?_); refine zm ?hg (N := 5) ?hd (cs := #[.int .i64 a2_0, .int .i64 a2_1, .int .u64 a2_2, .int .i64 a2_3, .int .i64 a2_4, .slice A2_5 l2_5.length c2_5]) (t := 32) ?hr ?_; (case hd => rfl); (case hg => rfl); (case hr => first | (go_simp; done) | (go_simp; rfl)); intro gb394 hg w23 hbox hb; have BK394 := zp.mk (hbox); have GW394 := zp.mk ((zv3 (zv6 HB.out) hg)); have GE394 := zp.mk ((zv3 (zv6 HB.out) hg)); replace HB := zp.mk (zj (zv6 HB.out) hb); clear hb hbox hg; have y24_0 := zt0 BK394.out; have y24_1 := zt1 BK394.out; have y24_2 := zt2 BK394.out; have y24_3 := zt3 BK394.out; have y24_4 := zt4 BK394.out; have y24_5 := zt5 BK394.out; have u24_0 := zd BK394.out 0; have u24_1 := zd BK394.out 1; have u24_2 := zd BK394.out 2; have u24_3 := zd BK394.out 3; have u24_4 := zd BK394.out 4; have u24_5 := zd BK394.out 5) | ((with_reducible refine zn (f := 34) rfl ?_); refine goesL_ (some 9) rfl rfl Try.func34 (by kernel_rfl) rfl #[.agg #[.int .i64 a2_0, .int .i64 a2_1, .int .u64 a2_2, .int .i64 a2_3, .int .i64 a2_4, .slice A2_5 l2_5.length c2_5]] rfl (by (try simp only [List.map_toArray, List.map_cons, List.map_nil]); first | done | rfl | (simp only [List.length_drop, List.length_take]; rfl)) ?_; (with_reducible refine (impl_isAgg.calls k a2_0 a2_1 a2_2 a2_3 a2_4 _ _ l2_5 false _ ?side1 ?side2 A4.out).mono ?_); (case side1 => repeat (first | exact (Kd.zs HR2_5.out HB.out) | (with_reducible refine Kd.zr ?_ _) | (with_reducible refine Kd.zq ?_ _) | (with_reducible refine Kd.C_drew ?_))); (case side2 => exact HC2_5.out); rintro e w25 ⟨rfl, hb⟩; refine ⟨_, rfl, ?_⟩; replace BK394 := zp.mk (zl (zv8 BK394.out) hb); replace HB := zp.mk (zj (zv7 HB.out) hb); (try clear hb); (try clear hb2); (try clear hk); (try clear hi)))
  go_ret2
  exact ⟨_, by first | rfl | (simp [errW_none, errW_some] <;> rfl) | (simp [*, errW_none, errW_some] <;> rfl), by first | exact Kd.R_nil _ _ _ _ _ | exact Kd.N_nil _ _ _ _ _ | exact Kd.V_nil _ _ _ _ _ | exact Kd.Q_nil _ _ _ _ _ | exact Kd.S_nil _ _ _ _ _, zv7 HB.out⟩

/-! ### laws_markIntS: function 17 -/
def laws_markIntS.l0 : Nat → List Int → Int → Int → Option (Int × List Int)
 | 0, _, _, _ => none
 | k + 1, x0, x1, x5 => if x5 < (x0.length : Int) then (if 0 ≤ x5 then (laws_markIntS.l0 k (x0.set (x5 : Int).toNat x1) (wrap64 (x1 + 1)) (wrap64 (x5 + 1))) else (none)) else (some (x1, x0))
def laws_markIntS.f (k : Nat) (l0 : List Int) (a1 : Int) : Option (Int × List Int) := laws_markIntS.l0 k l0 a1 0
set_option maxHeartbeats 8000000 in
set_option maxRecDepth 100000 in
theorem laws_markIntS.calls (k : Nat) (P0_ : Nat → Prop) (u9000_ : Value) (l0 : List Int) (a1 : Int) (r1 : Int) (r2 : List Int) (w0 w : World) (hB : Below w0.heap.size w0 w) (ho0 : Kd.R (Kd.int .i64) 3 w w0.heap.size P0_ u9000_ l0) (h : laws_markIntS.f k l0 a1 = some (r1, r2)) :
  Calls Try.prog 17 #[u9000_, .int .i64 a1] w fun e w' => e = .returned (.int .i64 r1) ∧ Kd.R (Kd.int .i64) 3 w' w0.heap.size (fun k_ => (P0_ k_ ∨ w.heap.size ≤ k_)) u9000_ r2 ∧ Below w0.heap.size w0 w' ∧ Kept w w' (fun k_ => P0_ k_) := by
 have HO0 := zp.mk (show Kd.R (Kd.int .i64) 3 w w0.heap.size (fun k_ => (P0_ k_ ∨ w.heap.size ≤ k_)) u9000_ l0 from Kd.R_mono ho0 (fun k_ hk => (.inl hk)))
 have HK := zp.mk (Kept.refl w (fun k_ => P0_ k_))
 have HW0 := zp.mk hB.size
 have HB := zp.mk hB
 clear hB
 have H : (laws_markIntS.l0 k l0 a1 0) = some (r1, r2) := h
 clear h
 have H' := zp.mk H
 clear H
 go_enter Try.func17, Try.ntmps17
 go_wp2
 go_loopg [1, 5] k (fun kq v1 v5 w' => ∃ (x0_1 : List Int) (x1_1 : Int) (x5_1 : Int), v1 = .int .i64 x1_1 ∧ v5 = .int .i64 x5_1 ∧ zp (laws_markIntS.l0 kq x0_1 x1_1 x5_1 = some (r1, r2)) ∧ zp (kq ≤ k) ∧ zp (Kd.R (Kd.int .i64) 3 w' w0.heap.size (fun k_ => (P0_ k_ ∨ w.heap.size ≤ k_)) u9000_ x0_1) ∧ zp (Kept w w' (fun k_ => P0_ k_)) ∧ zp (Below w0.heap.size w0 w'))
 case atStart => exact ⟨(l0), (a1), (0), (by first | rfl | (simp; done) | (simp [*]; done)), (by first | rfl | (simp; done) | (simp [*]; done)), H', ⟨Nat.le_refl _⟩, ⟨by (with_reducible repeat (first | apply Kd.R_alloc | apply Kd.R_drewN | apply Kd.R_drew)); exact HO0.out⟩, ⟨by repeat (first | (with_reducible first | exact HK.out | apply Kept.alloc | apply Kept.drewN | apply Kept.drew) | exact HK.out)⟩, ⟨zv6 HB.out⟩⟩
 case round =>
  clear H'
  try clear c1
  try clear p2
  obtain ⟨x0_1, x1_1, x5_1, rfl, rfl, HA, HK1, HO_0, HK, HB⟩ := hrel
  cases gk with
  | zero => exact absurd HA.out (by simp [laws_markIntS.l0])
  | succ k1 =>
   have H := HA.out
   clear HA
   simp only [laws_markIntS.l0] at H
   by_cases c3 : x5_1 < (x0_1.length : Int)
   ·rw [if_pos c3] at H
    have c3b0 : decide (x5_1 < (x0_1.length : Int)) = true := decide_eq_true c3
    clear c3
    by_cases c4 : 0 ≤ x5_1
    ·rw [if_pos c4] at H
     have c4b0 : decide (0 ≤ x5_1) = true := decide_eq_true c4
     clear c4
     obtain ⟨y401, hy401⟩ : ∃ y_ : List Int, y_ = (x0_1.set (x5_1 : Int).toNat x1_1) := ⟨_, rfl⟩
     replace H : (laws_markIntS.l0 k1 y401 (wrap64 (x1_1 + 1)) (wrap64 (x5_1 + 1))) = some (r1, r2) := by first | (rw [hy401]; with_reducible exact H) | (have H2_ := (Option.bind_some _ _).symm.trans H; rw [hy401]; with_reducible exact H2_) | (have H2_ := (Option.bind_some _ _).symm.trans H; with_reducible exact H2_) | with_reducible exact H | (rw [hy401]; exact H) | exact H
     have Ny401 := zp.mk hy401
     clear hy401
     have H' := zp.mk H
     clear H
     obtain ⟨Ao6, co6, eo6⟩ := Kd.R_slice HO_0.out
     subst eo6
     have p5 : 0 ≤ (x5_1 : Int) := of_decide_eq_true (by first | (with_reducible assumption) | assumption)
     have q5 : (x5_1 : Int) < ((x0_1.length : Int) : Int) := of_decide_eq_true (by first | (with_reducible assumption) | assumption)
     obtain ⟨go5, co5, eo5, gb5, gl5, cl5, HG5⟩ := Kd.R_form HO_0.out (by omega)
     (first | cases eo5 | (injection eo5 with ea_ en_ ec_; (first | subst ea_ | (injection ea_ with ea_; subst ea_)); subst ec_; clear en_))
     have GB5 := zp.mk gb5
     have GG5 := zp.mk HG5
     clear gb5 gl5 HG5
     have HMgo5 := zp.mk (show (P0_ go5 ∨ w.heap.size ≤ go5) from (HO_0.out.1 _ rfl))
     obtain ⟨hx5_0, hf5_0⟩ := Kd.R_celln 0 HO_0.out (x5_1 : Int) p5 q5
     replace p5 := eq_true p5
     replace q5 := eq_true q5
     have HP7 := Kd.R_putg HO_0.out (x5_1 : Int) x1_1
     go_wp2_with (first | ((with_reducible refine gate_store (t := 3) (p := 15) rfl ?_); refine store_event (t := 3) (p := 15) (v := ?vo_w8) (w1 := (wr.setCell ⟨go5, (x5_1 : Int).toNat, none⟩ (.int .i64 x1_1))) ?hg ?ho ?hn ?hr ?_; (case ho => rfl); (case hg => rfl); (case hn => rfl); (case hr => first | (go_simp; done) | (go_simp; rfl)); intro w8 hw; have hg : wr.grownBy w8 (some go5) := (by rw [hw]; exact HP7.2); have hp_ : Kd.R (Kd.int .i64) 3 w8 w0.heap.size (fun k_ => (P0_ k_ ∨ w.heap.size ≤ k_)) (.slice (some ⟨go5, 0, none⟩) x0_1.length co6) y401 := (by rw [hw, Ny401.out]; exact HP7.1); clear HP7; replace HB := zp.mk ((by rw [hw]; exact zh (HB.out) GB5.out : Below w0.heap.size w0 w8)); replace HK := zp.mk (Kept.of_grown (S := (fun k_ => P0_ k_)) hg (by repeat (first | (with_reducible first | exact HK.out | apply Kept.alloc | apply Kept.drewN | apply Kept.drew) | exact HK.out)) (fun k_ e_ => (HO_0.out.1 k_ e_))); replace HO_0 := zp.mk (hp_); clear hg hw hp_))
     go_roundg k1
     case measure => have := HK1.out; omega
     case rel => exact ⟨(y401), (wrap64 (x1_1 + 1)), (wrap64 (x5_1 + 1)), (by first | rfl | (simp; done) | (simp [*]; done)), (by first | rfl | (simp; done) | (simp [*]; done)), H', ⟨by have := HK1.out; omega⟩, ⟨by (with_reducible repeat (first | apply Kd.R_alloc | apply Kd.R_drewN | apply Kd.R_drew)); exact HO_0.out⟩, ⟨by repeat (first | (with_reducible first | exact HK.out | apply Kept.alloc | apply Kept.drewN | apply Kept.drew) | exact HK.out)⟩, ⟨zv6 HB.out⟩⟩
    ·rw [if_neg c4] at H
     exact absurd H (by simp)
   ·rw [if_neg c3] at H
    have c3b0 : decide (x5_1 < (x0_1.length : Int)) = false := decide_eq_false c3
    clear c3
    simp only [Option.some.injEq, Prod.mk.injEq] at H
    obtain ⟨rfl, rfl⟩ := H
    obtain ⟨Ao9, co9, eo9⟩ := Kd.R_slice HO_0.out
    subst eo9
    go_wp2
    go_ret
    exact ⟨by first | rfl | (simp [errW_none, errW_some] <;> rfl) | (simp [*, errW_none, errW_some] <;> rfl), by (with_reducible repeat (first | apply Kd.R_alloc | apply Kd.R_drewN | apply Kd.R_drew)); exact HO_0.out, zv6 HB.out, by repeat (first | (with_reducible first | exact HK.out | apply Kept.alloc | apply Kept.drewN | apply Kept.drew) | exact HK.out)⟩

/-! ### laws_markAgg: function 16 -/
def laws_markAgg.f (k : Nat) (a0_0 : Int) (a0_1 : Int) (a0_2 : Int) (a0_3 : Int) (a0_4 : Int) (l0_5 : List Int) (a1 : Int) : Option (Int × List Int) := (laws_markIntS.f k l0_5 a1).bind fun bt403 => (some (bt403.1, bt403.2))
set_option maxHeartbeats 8000000 in
set_option maxRecDepth 100000 in
theorem laws_markAgg.calls (k : Nat) (a0_0 : Int) (a0_1 : Int) (a0_2 : Int) (a0_3 : Int) (a0_4 : Int) (P0_5_ : Nat → Prop) (u9000_ : Value) (l0_5 : List Int) (a1 : Int) (r1 : Int) (r2 : List Int) (w0 w : World) (hB : Below w0.heap.size w0 w) (ho0_5 : Kd.R (Kd.int .i64) 3 w w0.heap.size P0_5_ u9000_ l0_5) (h : laws_markAgg.f k a0_0 a0_1 a0_2 a0_3 a0_4 l0_5 a1 = some (r1, r2)) :
  Calls Try.prog 16 #[.agg #[.int .i64 a0_0, .int .i64 a0_1, .int .u64 a0_2, .int .i64 a0_3, .int .i64 a0_4, u9000_], .int .i64 a1] w fun e w' => e = .returned (.int .i64 r1) ∧ Kd.R (Kd.int .i64) 3 w' w0.heap.size (fun k_ => (P0_5_ k_ ∨ w.heap.size ≤ k_)) u9000_ r2 ∧ Below w0.heap.size w0 w' ∧ Kept w w' (fun k_ => P0_5_ k_) := by
 have hu32 := Try.underlying32
 have HO0_5 := zp.mk (show Kd.R (Kd.int .i64) 3 w w0.heap.size (fun k_ => (P0_5_ k_ ∨ w.heap.size ≤ k_)) u9000_ l0_5 from Kd.R_mono ho0_5 (fun k_ hk => (.inl hk)))
 have HK := zp.mk (Kept.refl w (fun k_ => P0_5_ k_))
 have HW0 := zp.mk hB.size
 have HB := zp.mk hB
 clear hB
 have H : ((laws_markIntS.f k l0_5 a1).bind fun bt403 => (some (bt403.1, bt403.2))) = some (r1, r2) := h
 clear h
 replace H := zs4 H
 obtain ⟨⟨t403, t404⟩, A30, H⟩ := H
 replace H : (some (t403, t404)) = some (r1, r2) := H
 have A3 := zp.mk A30
 clear A30
 simp only [Option.some.injEq, Prod.mk.injEq] at H
 obtain ⟨rfl, rfl⟩ := H
 obtain ⟨Ao4, co4, eo4⟩ := Kd.R_slice HO0_5.out
 subst eo4
 go_enter Try.func16, Try.ntmps16
 go_wp2_with (first | ((with_reducible refine zo (N := 2) rfl ?_); refine zm ?hg (N := 2) ?hd (cs := #[.int .i64 a0_0, .int .i64 a0_1, .int .u64 a0_2, .int .i64 a0_3, .int .i64 a0_4, .slice Ao4 l0_5.length co4]) (t := 32) ?hr ?_; (case hd => rfl); (case hg => rfl); (case hr => first | (go_simp; done) | (go_simp; rfl)); intro gb402 hg w5 hbox hb; have BK402 := zp.mk (hbox); have GW402 := zp.mk ((by rw [hg]; exact (by first | exact HK.out.1 | exact (show Kept w _ (fun k_ => P0_5_ k_) from by repeat (first | (with_reducible first | exact HK.out | apply Kept.alloc | apply Kept.drewN | apply Kept.drew) | exact HK.out)).1) : w.heap.size ≤ gb402)); have GE402 := zp.mk ((by rw [hg]; exact (zk (zv6 HB.out)) : w0.heap.size ≤ gb402)); replace HO0_5 := zp.mk (Kd.R_below (by (with_reducible repeat (first | apply Kd.R_alloc | apply Kd.R_drewN | apply Kd.R_drew)); exact HO0_5.out) hb); replace HK := zp.mk (Kept.below (S := (fun k_ => P0_5_ k_)) (by repeat (first | (with_reducible first | exact HK.out | apply Kept.alloc | apply Kept.drewN | apply Kept.drew) | exact HK.out)) hb); replace HB := zp.mk (zj (zv6 HB.out) hb); clear hb hbox hg; have y6_0 := zt0 BK402.out; have y6_1 := zt1 BK402.out; have y6_2 := zt2 BK402.out; have y6_3 := zt3 BK402.out; have y6_4 := zt4 BK402.out; have y6_5 := zt5 BK402.out; have u6_0 := zd BK402.out 0; have u6_1 := zd BK402.out 1; have u6_2 := zd BK402.out 2; have u6_3 := zd BK402.out 3; have u6_4 := zd BK402.out 4; have u6_5 := zd BK402.out 5) | ((with_reducible refine zn (f := 17) rfl ?_); refine goesL_ (some 8) rfl rfl Try.func17 (by kernel_rfl) rfl #[.slice Ao4 l0_5.length co4, .int .i64 a1] rfl (by (try simp only [List.map_toArray, List.map_cons, List.map_nil]); first | done | rfl | (simp only [List.length_drop, List.length_take]; rfl)) ?_; (with_reducible refine (laws_markIntS.calls k (fun k_ => some k_ = (.slice Ao4 l0_5.length co4 : Value).ownBlock) (.slice Ao4 l0_5.length co4) l0_5 a1 t403 t404 w0 _ ?side1 ?side2 A3.out).mono ?_); (case side1 => repeat (first | (with_reducible first | exact HB.out | apply zc | apply za | apply zb | refine zh ?_ GE402.out) | exact HB.out)); (case side2 => exact Kd.R_tight rfl HO0_5.out); rintro e w7 ⟨rfl, hy0, hb, hkp⟩; refine ⟨_, rfl, ?_⟩; replace BK402 := zp.mk (blk_kept (zv8 BK402.out) hkp (fun hs_ => (fun e_ => (Kd.R_ne HO0_5.out BK402.out (by decide)) e_) hs_)); replace HK := zp.mk (Kept.then_ (S := (fun k_ => P0_5_ k_)) (by repeat (first | (with_reducible first | exact HK.out | apply Kept.alloc | apply Kept.drewN | apply Kept.drew | refine Kept.setCell ?_ (.inr GW402.out) _) | exact HK.out)) hkp (fun k_ hs_ => (fun e_ => (HO0_5.out.1 k_ e_.symm)) hs_)); replace HO0_5 := zp.mk (Kd.R_reok rfl hy0 (fun k_ e_ => HO0_5.out.1 k_ e_)); replace HB := zp.mk (hb); (try clear hb); (try clear hkp); (try clear hy0)))
 go_ret
 exact ⟨by first | rfl | (simp [errW_none, errW_some] <;> rfl) | (simp [*, errW_none, errW_some] <;> rfl), by (with_reducible repeat (first | apply Kd.R_alloc | apply Kd.R_drewN | apply Kd.R_drew)); exact HO0_5.out, zv7 HB.out, by repeat (first | (with_reducible first | exact HK.out | apply Kept.alloc | apply Kept.drewN | apply Kept.drew | refine Kept.setCell ?_ (.inr GW402.out) _) | exact HK.out)⟩

/-! ### laws_heldIntS: function 18 -/
def laws_heldIntS.l0 : Nat → List Int → Int → Int → Option (Int)
 | 0, _, _, _ => none
 | k + 1, x0, x1, x5 => if x5 < (x0.length : Int) then (if 0 ≤ x5 then (if (rd x0 x5) = x1 then (laws_heldIntS.l0 k x0 (wrap64 (x1 + 1)) (wrap64 (x5 + 1))) else (some (-1))) else (none)) else (some x1)
def laws_heldIntS.f (k : Nat) (l0 : List Int) (a1 : Int) : Option (Int) := laws_heldIntS.l0 k l0 a1 0
set_option maxHeartbeats 8000000 in
set_option maxRecDepth 100000 in
theorem laws_heldIntS.calls (k : Nat) (A0 : Option Addr) (c0 : Nat) (l0 : List Int) (a1 : Int) (r : Int) (w : World) (hr0 : Kd.C (Kd.int .i64) w A0 l0.length l0) (hc0 : l0.length ≤ c0) (h : laws_heldIntS.f k l0 a1 = some r) :
  Calls Try.prog 18 #[.slice A0 l0.length c0, .int .i64 a1] w fun e w' => e = .returned (.int .i64 r) ∧ Drawn0 w w' := by
 have HR0 := zp.mk hr0
 have HC0 := zp.mk hc0
 clear hr0 hc0
 have H : (laws_heldIntS.l0 k l0 a1 0) = some r := h
 clear h
 have H' := zp.mk H
 clear H
 go_enter Try.func18, Try.ntmps18
 go_wp2
 go_loopg [1, 5] k (fun kq v1 v5 w' => ∃ (x1_1 : Int) (x5_1 : Int), v1 = .int .i64 x1_1 ∧ v5 = .int .i64 x5_1 ∧ zp (laws_heldIntS.l0 kq l0 x1_1 x5_1 = some r) ∧ zp (kq ≤ k) ∧ Drawn0 w w')
 case atStart => exact ⟨(a1), (0), (by first | rfl | (simp; done) | (simp [*]; done)), (by first | rfl | (simp; done) | (simp [*]; done)), H', ⟨Nat.le_refl _⟩, by repeat (first | exact Drawn0.refl _ | apply Drawn0.step)⟩
 case round =>
  clear H'
  try clear c1
  try clear p2
  obtain ⟨x1_1, x5_1, rfl, rfl, HA, HK1, ⟨m1, rfl⟩⟩ := hrel
  cases gk with
  | zero => exact absurd HA.out (by simp [laws_heldIntS.l0])
  | succ k1 =>
   have H := HA.out
   clear HA
   simp only [laws_heldIntS.l0] at H
   by_cases c3 : x5_1 < (l0.length : Int)
   ·rw [if_pos c3] at H
    have c3b0 : decide (x5_1 < (l0.length : Int)) = true := decide_eq_true c3
    clear c3
    by_cases c4 : 0 ≤ x5_1
    ·rw [if_pos c4] at H
     have c4b0 : decide (0 ≤ x5_1) = true := decide_eq_true c4
     clear c4
     by_cases c5 : (rd l0 x5_1) = x1_1
     ·rw [if_pos c5] at H
      have c5b0 : ((rd l0 x5_1) == x1_1) = true := beq_iff_eq.mpr c5
      have c5b1 : ((rd l0 x5_1) != x1_1) = false := bne_eq_false_iff_eq.mpr c5
      clear c5
      have H' := zp.mk H
      clear H
      have p405 : 0 ≤ (x5_1 : Int) := of_decide_eq_true (by first | (with_reducible assumption) | assumption)
      have q405 : x5_1 < (l0.length : Int) := of_decide_eq_true (by first | (with_reducible assumption) | assumption)
      obtain ⟨ad405, e405, hx405_0⟩ := Kd.at_int HR0.out x5_1 p405 q405
      cases e405
      replace p405 := eq_true p405
      replace q405 := eq_true q405
      go_wp2
      go_roundg k1
      case measure => have := HK1.out; omega
      case rel => exact ⟨(wrap64 (x1_1 + 1)), (wrap64 (x5_1 + 1)), (by first | rfl | (simp; done) | (simp [*]; done)), (by first | rfl | (simp; done) | (simp [*]; done)), H', ⟨by have := HK1.out; omega⟩, by repeat (first | exact Drawn0.refl _ | apply Drawn0.step)⟩
     ·rw [if_neg c5] at H
      have c5b0 : ((rd l0 x5_1) == x1_1) = false := beq_eq_false_iff_ne.mpr c5
      have c5b1 : ((rd l0 x5_1) != x1_1) = true := bne_iff_ne.mpr c5
      obtain rfl := Option.some.inj H
      have p405 : 0 ≤ (x5_1 : Int) := of_decide_eq_true (by first | (with_reducible assumption) | assumption)
      have q405 : x5_1 < (l0.length : Int) := of_decide_eq_true (by first | (with_reducible assumption) | assumption)
      obtain ⟨ad405, e405, hx405_0⟩ := Kd.at_int HR0.out x5_1 p405 q405
      cases e405
      replace p405 := eq_true p405
      replace q405 := eq_true q405
      go_wp2
      go_ret
      exact ⟨by first | rfl | (simp; done) | (simp [*]; done), by repeat (first | exact Drawn0.refl _ | apply Drawn0.step)⟩
    ·rw [if_neg c4] at H
     exact absurd H (by simp)
   ·rw [if_neg c3] at H
    have c3b0 : decide (x5_1 < (l0.length : Int)) = false := decide_eq_false c3
    clear c3
    obtain rfl := Option.some.inj H
    go_wp2
    go_ret
    exact ⟨by first | rfl | (simp; done) | (simp [*]; done), by repeat (first | exact Drawn0.refl _ | apply Drawn0.step)⟩

end Go.Proofs.Ytnnahpmnkpmopaa.QFnExactAggDone
