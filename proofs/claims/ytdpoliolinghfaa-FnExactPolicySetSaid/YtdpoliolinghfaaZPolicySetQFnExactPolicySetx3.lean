/- Proved: calls of the program come to the answers of the plain Lean functions that stand beside them. Each contract names its conditions. (Written by a program of this session, over the printer of the kit.) -/
import Derived.Test.YtdpoliolinghfaaZPolicySetQFnExactPolicySetx0
import Derived.Test.YtdpoliolinghfaaZPolicySetQFnExactPolicySetx2
namespace Go.Proofs.Ytdpoliolinghfaa.QFnExactPolicySet
open Go.RowKit Go.Proofs.YtdpoliolinghfaaW.PrintWords Go.Proofs.YtdpoliolinghfaaW.PrintLast Go.Proofs.YtdpoliolinghfaaW.PrintMore
attribute [local go_sem] max2_int min2_int max_two min_two max_three min_three max_four min_four   -- for this text's walks alone
set_option linter.unusedVariables false
set_option linter.unusedSimpArgs false

/-! ### spec_l01Side: function 100 -/
def spec_l01Side.f (a0_0 : Int) (l0_1 : List Int) (a1 : Int) (a2 : Int) (a3 : Bool) : Option (Bool) := if a3 = true then (if 0 ≤ a1 then (if a1 < (l0_1.length : Int) then ((spec_l01Bit.f (rd l0_1 a1) a2).bind fun t150 => (some t150)) else (none)) else (none)) else (if 0 ≤ a2 then (if a2 < (l0_1.length : Int) then ((spec_l01Bit.f (rd l0_1 a2) a1).bind fun t152 => (some t152)) else (none)) else (none))
set_option maxHeartbeats 8000000 in
set_option maxRecDepth 100000 in
theorem spec_l01Side.calls (a0_0 : Int) (A0_1 : Option Addr) (c0_1 : Nat) (l0_1 : List Int) (a1 : Int) (a2 : Int) (a3 : Bool) (r : Bool) (w : World) (hr0_1 : Kd.C (Kd.int .u64) w A0_1 l0_1.length l0_1) (hc0_1 : l0_1.length ≤ c0_1) (h : spec_l01Side.f a0_0 l0_1 a1 a2 a3 = some r) :
  Calls Try.prog 100 #[.agg #[.int .i64 a0_0, .slice A0_1 l0_1.length c0_1], .int .i64 a1, .int .i64 a2, .bool a3] w fun e w' => e = .returned (.bool r) ∧ Below w.heap.size w w' := by
 have hu27 := Try.underlying27
 have HR0_1 := zp.mk hr0_1
 have HC0_1 := zp.mk hc0_1
 clear hr0_1 hc0_1
 have HB := zp.mk (Below.refl w.heap.size w)
 have H : (if a3 = true then (if 0 ≤ a1 then (if a1 < (l0_1.length : Int) then ((spec_l01Bit.f (rd l0_1 a1) a2).bind fun t150 => (some t150)) else (none)) else (none)) else (if 0 ≤ a2 then (if a2 < (l0_1.length : Int) then ((spec_l01Bit.f (rd l0_1 a2) a1).bind fun t152 => (some t152)) else (none)) else (none))) = some r := h
 clear h
 by_cases c5 : a3 = true
 ·subst c5
  have H1 : (if 0 ≤ a1 then (if a1 < (l0_1.length : Int) then ((spec_l01Bit.f (rd l0_1 a1) a2).bind fun t150 => (some t150)) else (none)) else (none)) = some r := by rw [if_pos rfl] at H; exact H
  clear H
  have H := H1
  clear H1
  by_cases c6 : 0 ≤ a1
  ·rw [if_pos c6] at H
   have c6b0 : decide (0 ≤ a1) = true := decide_eq_true c6
   clear c6
   by_cases c7 : a1 < (l0_1.length : Int)
   ·rw [if_pos c7] at H
    have c7b0 : decide (a1 < (l0_1.length : Int)) = true := decide_eq_true c7
    clear c7
    replace H := zs4 H
    obtain ⟨t150, A80, H⟩ := H
    replace H : (some t150) = some r := H
    have A8 := zp.mk A80
    clear A80
    obtain rfl := Option.some.inj H
    go_enter Try.func100, Try.ntmps100
    go_wp2_with (first | ((with_reducible refine zo (N := 4) rfl ?_); refine zm ?hg (N := 4) ?hd (cs := #[.int .i64 a0_0, .slice A0_1 l0_1.length c0_1]) (t := 27) ?hr ?_; (case hd => rfl); (case hg => rfl); (case hr => first | (go_simp; done) | (go_simp; rfl)); intro gb148 hg w9 hbox hb; have BK148 := zp.mk (hbox); have GW148 := zp.mk ((zv3 (zv6 HB.out) hg)); have GE148 := zp.mk ((zv3 (zv6 HB.out) hg)); replace HB := zp.mk (zj (zv6 HB.out) hb); clear hb hbox hg; have y10_0 := zt0 BK148.out; have y10_1 := zt1 BK148.out; have u10_0 := zd BK148.out 0; have u10_1 := zd BK148.out 1; have p149 : 0 ≤ (a1 : Int) := of_decide_eq_true (by first | (with_reducible assumption) | assumption); have q149 : a1 < (l0_1.length : Int) := of_decide_eq_true (by first | (with_reducible assumption) | assumption); obtain ⟨ad149, e149, hx149_0⟩ := Kd.at_int HR0_1.out a1 p149 q149; cases e149; replace hx149_0 := (HB.out.cell (World.block_lt_of_cell? w _ hx149_0)).trans hx149_0; replace p149 := eq_true p149; replace q149 := eq_true q149) | ((with_reducible refine zn (f := 66) rfl ?_); refine goesL_ (some 16) rfl rfl Try.func66 (by kernel_rfl) rfl #[.int .u64 (rd l0_1 a1), .int .i64 a2] rfl (by (try simp only [List.map_toArray, List.map_cons, List.map_nil]); first | done | rfl | (simp only [List.length_drop, List.length_take]; rfl)) ?_; (with_reducible refine (spec_l01Bit.calls (rd l0_1 a1) a2 t150 _ A8.out).mono ?_); rintro e w' ⟨rfl, ⟨nd, rfl⟩⟩; refine ⟨_, rfl, ?_⟩))
    go_ret
    exact ⟨by first | rfl | (simp [errW_none, errW_some] <;> rfl) | (simp [*, errW_none, errW_some] <;> rfl), zv7 HB.out⟩
   ·rw [if_neg c7] at H
    exact absurd H (by simp)
  ·rw [if_neg c6] at H
   exact absurd H (by simp)
 ·replace c5 := Bool.eq_false_iff.mpr c5
  subst c5
  have H1 : (if 0 ≤ a2 then (if a2 < (l0_1.length : Int) then ((spec_l01Bit.f (rd l0_1 a2) a1).bind fun t152 => (some t152)) else (none)) else (none)) = some r := by rw [if_neg (show ¬ (false = true) by decide)] at H; exact H
  clear H
  have H := H1
  clear H1
  by_cases c11 : 0 ≤ a2
  ·rw [if_pos c11] at H
   have c11b0 : decide (0 ≤ a2) = true := decide_eq_true c11
   clear c11
   by_cases c12 : a2 < (l0_1.length : Int)
   ·rw [if_pos c12] at H
    have c12b0 : decide (a2 < (l0_1.length : Int)) = true := decide_eq_true c12
    clear c12
    replace H := zs4 H
    obtain ⟨t152, A130, H⟩ := H
    replace H : (some t152) = some r := H
    have A13 := zp.mk A130
    clear A130
    obtain rfl := Option.some.inj H
    go_enter Try.func100, Try.ntmps100
    go_wp2_with (first | ((with_reducible refine zo (N := 4) rfl ?_); refine zm ?hg (N := 4) ?hd (cs := #[.int .i64 a0_0, .slice A0_1 l0_1.length c0_1]) (t := 27) ?hr ?_; (case hd => rfl); (case hg => rfl); (case hr => first | (go_simp; done) | (go_simp; rfl)); intro gb148 hg w14 hbox hb; have BK148 := zp.mk (hbox); have GW148 := zp.mk ((zv3 (zv6 HB.out) hg)); have GE148 := zp.mk ((zv3 (zv6 HB.out) hg)); replace HB := zp.mk (zj (zv6 HB.out) hb); clear hb hbox hg; have y15_0 := zt0 BK148.out; have y15_1 := zt1 BK148.out; have u15_0 := zd BK148.out 0; have u15_1 := zd BK148.out 1; have p151 : 0 ≤ (a2 : Int) := of_decide_eq_true (by first | (with_reducible assumption) | assumption); have q151 : a2 < (l0_1.length : Int) := of_decide_eq_true (by first | (with_reducible assumption) | assumption); obtain ⟨ad151, e151, hx151_0⟩ := Kd.at_int HR0_1.out a2 p151 q151; cases e151; replace hx151_0 := (HB.out.cell (World.block_lt_of_cell? w _ hx151_0)).trans hx151_0; replace p151 := eq_true p151; replace q151 := eq_true q151) | ((with_reducible refine zn (f := 66) rfl ?_); refine goesL_ (some 23) rfl rfl Try.func66 (by kernel_rfl) rfl #[.int .u64 (rd l0_1 a2), .int .i64 a1] rfl (by (try simp only [List.map_toArray, List.map_cons, List.map_nil]); first | done | rfl | (simp only [List.length_drop, List.length_take]; rfl)) ?_; (with_reducible refine (spec_l01Bit.calls (rd l0_1 a2) a1 t152 _ A13.out).mono ?_); rintro e w' ⟨rfl, ⟨nd, rfl⟩⟩; refine ⟨_, rfl, ?_⟩))
    go_ret
    exact ⟨by first | rfl | (simp [errW_none, errW_some] <;> rfl) | (simp [*, errW_none, errW_some] <;> rfl), zv7 HB.out⟩
   ·rw [if_neg c12] at H
    exact absurd H (by simp)
  ·rw [if_neg c11] at H
   exact absurd H (by simp)

/-! ### spec_l01Bound: function 68 -/
mutual
def spec_l01Bound.l0 : Nat → Int → Int → Bool → Int → Int → List Int → Option (Int)
 | 0, _, _, _, _, _, _ => none
 | k + 1, x1, x2, x3, x9, x154000, x154001 => if x9 < x154000 then ((spec_l01Side.f x154000 x154001 x1 x9 x3).bind fun t154 => (if t154 = true then ((spec_l01Side.f x154000 x154001 x2 x9 x3).bind fun t155 => (spec_l01Bound.j1 k x1 x2 x3 x9 t155 x154000 x154001)) else (spec_l01Bound.j1 k x1 x2 x3 x9 false x154000 x154001))) else (some (-1))
def spec_l01Bound.j1 : Nat → Int → Int → Bool → Int → Bool → Int → List Int → Option (Int)
 | 0, _, _, _, _, _, _, _ => none
 | k + 1, x1, x2, x3, x9, x10, x154000, x154001 => spec_l01Bound.l1 k x1 x2 x3 x9 x10 0 x154000 x154001
def spec_l01Bound.l1 : Nat → Int → Int → Bool → Int → Bool → Int → Int → List Int → Option (Int)
 | 0, _, _, _, _, _, _, _, _ => none
 | k + 1, x1, x2, x3, x9, x10, x11, x154000, x154001 => if x11 < x154000 then (spec_l01Bound.j3 k x1 x2 x3 x9 x10 x11 x10 x154000 x154001) else (spec_l01Bound.j3 k x1 x2 x3 x9 x10 x11 false x154000 x154001)
def spec_l01Bound.j3 : Nat → Int → Int → Bool → Int → Bool → Int → Bool → Int → List Int → Option (Int)
 | 0, _, _, _, _, _, _, _, _, _ => none
 | k + 1, x1, x2, x3, x9, x10, x11, x36, x154000, x154001 => if x36 = true then ((spec_l01Side.f x154000 x154001 x1 x11 x3).bind fun t156 => (if t156 = true then ((spec_l01Side.f x154000 x154001 x2 x11 x3).bind fun t157 => (if t157 = true then ((spec_l01Side.f x154000 x154001 x9 x11 x3).bind fun t158 => (if t158 = true then (spec_l01Bound.l1 k x1 x2 x3 x9 x10 (wrap64 (x11 + 1)) x154000 x154001) else (spec_l01Bound.l1 k x1 x2 x3 x9 false (wrap64 (x11 + 1)) x154000 x154001))) else (spec_l01Bound.l1 k x1 x2 x3 x9 x10 (wrap64 (x11 + 1)) x154000 x154001))) else (spec_l01Bound.l1 k x1 x2 x3 x9 x10 (wrap64 (x11 + 1)) x154000 x154001))) else (if x10 = true then (some x9) else (spec_l01Bound.l0 k x1 x2 x3 (wrap64 (x9 + 1)) x154000 x154001))
end
def spec_l01Bound.f (k : Nat) (a0_0 : Int) (l0_1 : List Int) (a1 : Int) (a2 : Int) (a3 : Bool) : Option (Int) := spec_l01Bound.l0 k a1 a2 a3 0 a0_0 l0_1
set_option maxHeartbeats 8000000 in
set_option maxRecDepth 100000 in
theorem spec_l01Bound.calls (k : Nat) (a0_0 : Int) (A0_1 : Option Addr) (c0_1 : Nat) (l0_1 : List Int) (a1 : Int) (a2 : Int) (a3 : Bool) (r : Int) (w : World) (hr0_1 : Kd.C (Kd.int .u64) w A0_1 l0_1.length l0_1) (hc0_1 : l0_1.length ≤ c0_1) (h : spec_l01Bound.f k a0_0 l0_1 a1 a2 a3 = some r) :
  Calls Try.prog 68 #[.agg #[.int .i64 a0_0, .slice A0_1 l0_1.length c0_1], .int .i64 a1, .int .i64 a2, .bool a3] w fun e w' => e = .returned (.int .i64 r) ∧ Below w.heap.size w w' := by
 have hu27 := Try.underlying27
 have HR0_1 := zp.mk hr0_1
 have HC0_1 := zp.mk hc0_1
 clear hr0_1 hc0_1
 have HB := zp.mk (Below.refl w.heap.size w)
 have H : (spec_l01Bound.l0 k a1 a2 a3 0 a0_0 l0_1) = some r := h
 clear h
 have H' := zp.mk H
 clear H
 go_enter Try.func68, Try.ntmps68
 go_wp2_with (first | ((with_reducible refine zo (N := 4) rfl ?_); refine zm ?hg (N := 4) ?hd (cs := #[.int .i64 a0_0, .slice A0_1 l0_1.length c0_1]) (t := 27) ?hr ?_; (case hd => rfl); (case hg => rfl); (case hr => first | (go_simp; done) | (go_simp; rfl)); intro gb153 hg w5 hbox hb; have BK153 := zp.mk (hbox); have GW153 := zp.mk ((zv3 (zv6 HB.out) hg)); have GE153 := zp.mk ((zv3 (zv6 HB.out) hg)); replace HB := zp.mk (zj (zv6 HB.out) hb); clear hb hbox hg))
 go_loopg [9] k (fun kq v9 w' => ∃ (x9_1 : Int), v9 = .int .i64 x9_1 ∧ zp (spec_l01Bound.l0 kq a1 a2 a3 x9_1 a0_0 l0_1 = some r) ∧ zp (kq ≤ k) ∧ zp (w'.heap[gb153]? = some (.cells #[.int .i64 a0_0, (.slice A0_1 l0_1.length c0_1)] 27 (0, 0))) ∧ zp (Below w.heap.size w w'))
 case atStart => exact ⟨(0), (by first | rfl | (simp; done) | (simp [*]; done)), H', ⟨Nat.le_refl _⟩, ⟨zv8 BK153.out⟩, ⟨zv7 HB.out⟩⟩
 case round =>
  clear H'
  try clear p2
  obtain ⟨x9_1, rfl, HA, HK1, BK153, HB⟩ := hrel
  cases gk with
  | zero => exact absurd HA.out (by simp [spec_l01Bound.l0])
  | succ k1 =>
   have H := HA.out
   clear HA
   simp only [spec_l01Bound.l0] at H
   by_cases c6 : x9_1 < a0_0
   ·rw [if_pos c6] at H
    have c6b0 : decide (x9_1 < a0_0) = true := decide_eq_true c6
    clear c6
    have HC7 := zp.mk H
    clear H
    have y8_0 := zt0 BK153.out
    have y8_1 := zt1 BK153.out
    have u8_0 := zd BK153.out 0
    have u8_1 := zd BK153.out 1
    go_upto_region 4 with (fail)
    go_cut [10] (fun v10 wc => ∃ (kq : Nat) (x10_6 : Bool), v10 = .bool x10_6 ∧ zp (spec_l01Bound.j1 kq a1 a2 a3 x9_1 x10_6 a0_0 l0_1 = some r) ∧ zp (kq ≤ k1) ∧ zp (wc.heap[gb153]? = some (.cells #[.int .i64 a0_0, (.slice A0_1 l0_1.length c0_1)] 27 (0, 0))) ∧ zp (Below w.heap.size w wc))
    case first =>
     have H := HC7.out
     clear HC7
     replace H := zs4 H
     obtain ⟨t154, A90, H⟩ := H
     replace H : (if t154 = true then ((spec_l01Side.f a0_0 l0_1 a2 x9_1 a3).bind fun t155 => (spec_l01Bound.j1 k1 a1 a2 a3 x9_1 t155 a0_0 l0_1)) else (spec_l01Bound.j1 k1 a1 a2 a3 x9_1 false a0_0 l0_1)) = some r := H
     have A9 := zp.mk A90
     clear A90
     by_cases c10 : t154 = true
     ·subst c10
      have H1 : ((spec_l01Side.f a0_0 l0_1 a2 x9_1 a3).bind fun t155 => (spec_l01Bound.j1 k1 a1 a2 a3 x9_1 t155 a0_0 l0_1)) = some r := by rw [if_pos rfl] at H; exact H
      clear H
      have H := H1
      clear H1
      replace H := zs4 H
      obtain ⟨t155, A110, H⟩ := H
      replace H : (spec_l01Bound.j1 k1 a1 a2 a3 x9_1 t155 a0_0 l0_1) = some r := H
      have A11 := zp.mk A110
      clear A110
      have H' := zp.mk H
      clear H
      have y12_0 := zt0 BK153.out
      have y12_1 := zt1 BK153.out
      have u12_0 := zd BK153.out 0
      have u12_1 := zd BK153.out 1
      go_wp2_with (first | ((with_reducible refine zn (f := 100) rfl ?_); refine goesL_ (some 22) rfl rfl Try.func100 (by kernel_rfl) rfl #[.agg #[.int .i64 a0_0, .slice A0_1 l0_1.length c0_1], .int .i64 a1, .int .i64 x9_1, .bool a3] rfl (by (try simp only [List.map_toArray, List.map_cons, List.map_nil]); first | done | rfl | (simp only [List.length_drop, List.length_take]; rfl)) ?_; (with_reducible refine (spec_l01Side.calls a0_0 _ _ l0_1 a1 x9_1 a3 true _ ?side1 ?side2 A9.out).mono ?_); (case side1 => repeat (first | exact (Kd.zt HR0_1.out HB.out) | (with_reducible refine Kd.zr ?_ _) | (with_reducible refine Kd.zq ?_ _) | (with_reducible refine Kd.C_drew ?_))); (case side2 => exact HC0_1.out); rintro e w13 ⟨rfl, hb⟩; refine ⟨_, rfl, ?_⟩; replace BK153 := zp.mk (zl (zv8 BK153.out) hb); replace HB := zp.mk (zj (zv7 HB.out) hb); (try clear hb); (try clear hb2); (try clear hk); (try clear hi); have y14_0 := zt0 BK153.out; have y14_1 := zt1 BK153.out; have u14_0 := zd BK153.out 0; have u14_1 := zd BK153.out 1) | (go_at_call 100; (with_reducible refine (spec_l01Side.calls a0_0 _ _ l0_1 a2 x9_1 a3 t155 _ ?side1 ?side2 A11.out).mono ?_); (case side1 => repeat (first | exact (Kd.zt HR0_1.out HB.out) | (with_reducible refine Kd.zr ?_ _) | (with_reducible refine Kd.zq ?_ _) | (with_reducible refine Kd.C_drew ?_))); (case side2 => exact HC0_1.out); rintro e w15 ⟨rfl, hb⟩; replace BK153 := zp.mk (zl (zv8 BK153.out) hb); replace HB := zp.mk (zj (zv7 HB.out) hb); (try clear hb); (try clear hb2); (try clear hk); (try clear hi)))
      go_meet
      case rel => exact ⟨_, (t155), (by first | rfl | (simp; done) | (simp [*]; done)), H', ⟨by have := HK1.out; first | omega | exact Nat.le_refl _⟩, ⟨zv8 BK153.out⟩, ⟨zv7 HB.out⟩⟩
     ·replace c10 := Bool.eq_false_iff.mpr c10
      subst c10
      have H1 : (spec_l01Bound.j1 k1 a1 a2 a3 x9_1 false a0_0 l0_1) = some r := by rw [if_neg (show ¬ (false = true) by decide)] at H; exact H
      clear H
      have H := H1
      clear H1
      have H' := zp.mk H
      clear H
      have y16_0 := zt0 BK153.out
      have y16_1 := zt1 BK153.out
      have u16_0 := zd BK153.out 0
      have u16_1 := zd BK153.out 1
      go_wp2_with (first | ((with_reducible refine zn (f := 100) rfl ?_); refine goesL_ (some 22) rfl rfl Try.func100 (by kernel_rfl) rfl #[.agg #[.int .i64 a0_0, .slice A0_1 l0_1.length c0_1], .int .i64 a1, .int .i64 x9_1, .bool a3] rfl (by (try simp only [List.map_toArray, List.map_cons, List.map_nil]); first | done | rfl | (simp only [List.length_drop, List.length_take]; rfl)) ?_; (with_reducible refine (spec_l01Side.calls a0_0 _ _ l0_1 a1 x9_1 a3 false _ ?side1 ?side2 A9.out).mono ?_); (case side1 => repeat (first | exact (Kd.zt HR0_1.out HB.out) | (with_reducible refine Kd.zr ?_ _) | (with_reducible refine Kd.zq ?_ _) | (with_reducible refine Kd.C_drew ?_))); (case side2 => exact HC0_1.out); rintro e w17 ⟨rfl, hb⟩; refine ⟨_, rfl, ?_⟩; replace BK153 := zp.mk (zl (zv8 BK153.out) hb); replace HB := zp.mk (zj (zv7 HB.out) hb); (try clear hb); (try clear hb2); (try clear hk); (try clear hi)))
      go_meet
      case rel => exact ⟨_, (false), (by first | rfl | (simp; done) | (simp [*]; done)), H', ⟨by have := HK1.out; first | omega | exact Nat.le_refl _⟩, ⟨zv8 BK153.out⟩, ⟨zv7 HB.out⟩⟩
    case rest =>
     clear HC7
     try clear c1
     try clear p2
     try clear c6
     try clear c6b0
     try clear c10
     try clear y12_0
     try clear y12_1
     try clear y14_0
     try clear y14_1
     try clear y16_0
     try clear y16_1
     try clear y8_0
     try clear y8_1
     try clear u12_0
     try clear u12_1
     try clear u14_0
     try clear u14_1
     try clear u16_0
     try clear u16_1
     try clear u8_0
     try clear u8_1
     try clear p2
     obtain ⟨kq, x10_6, rfl, HA, HJ6, BK153, HB⟩ := hcut
     cases kq with
     | zero => exact absurd HA.out (by simp [spec_l01Bound.j1])
     | succ kj6 =>
      have H := HA.out
      clear HA
      simp only [spec_l01Bound.j1] at H
      have H' := zp.mk H
      clear H
      go_wp2
      go_loopg [10, 11] kj6 (fun kq v10 v11 w' => ∃ (x10_3 : Bool) (x11_3 : Int), v10 = .bool x10_3 ∧ v11 = .int .i64 x11_3 ∧ zp (spec_l01Bound.l1 kq a1 a2 a3 x9_1 x10_3 x11_3 a0_0 l0_1 = some r) ∧ zp (kq ≤ kj6) ∧ zp (w'.heap[gb153]? = some (.cells #[.int .i64 a0_0, (.slice A0_1 l0_1.length c0_1)] 27 (0, 0))) ∧ zp (Below w.heap.size w w'))
      case atStart => exact ⟨(x10_6), (0), (by first | rfl | (simp; done) | (simp [*]; done)), (by first | rfl | (simp; done) | (simp [*]; done)), H', ⟨Nat.le_refl _⟩, ⟨zv8 BK153.out⟩, ⟨zv7 HB.out⟩⟩
      case round =>
       clear H'
       try clear c1
       try clear p2
       try clear c6
       try clear c6b0
       try clear c10
       try clear y12_0
       try clear y12_1
       try clear y14_0
       try clear y14_1
       try clear y16_0
       try clear y16_1
       try clear y8_0
       try clear y8_1
       try clear u12_0
       try clear u12_1
       try clear u14_0
       try clear u14_1
       try clear u16_0
       try clear u16_1
       try clear u8_0
       try clear u8_1
       try clear p2
       obtain ⟨x10_3, x11_3, rfl, rfl, HA, HK3, BK153, HB⟩ := hrel
       cases gk with
       | zero => exact absurd HA.out (by simp [spec_l01Bound.l1])
       | succ k3 =>
        have H := HA.out
        clear HA
        simp only [spec_l01Bound.l1] at H
        have HC18 := zp.mk H
        clear H
        go_upto_region 6 with (fail)
        go_cut [36] (fun v36 wc => ∃ (kq : Nat) (x36_17 : Bool), v36 = .bool x36_17 ∧ zp (spec_l01Bound.j3 kq a1 a2 a3 x9_1 x10_3 x11_3 x36_17 a0_0 l0_1 = some r) ∧ zp (kq ≤ k3) ∧ zp (wc.heap[gb153]? = some (.cells #[.int .i64 a0_0, (.slice A0_1 l0_1.length c0_1)] 27 (0, 0))) ∧ zp (Below w.heap.size w wc))
        case first =>
         have H := HC18.out
         clear HC18
         by_cases c19 : x11_3 < a0_0
         ·rw [if_pos c19] at H
          have c19b0 : decide (x11_3 < a0_0) = true := decide_eq_true c19
          clear c19
          (first | rw [c19b0] | (simp only [i64_w, i32_w]; rw [c19b0]) | skip)
          have H' := zp.mk H
          clear H
          have y20_0 := zt0 BK153.out
          have y20_1 := zt1 BK153.out
          have u20_0 := zd BK153.out 0
          have u20_1 := zd BK153.out 1
          go_wp2
          go_meet
          case rel => exact ⟨_, (x10_3), (by first | rfl | (simp; done) | (simp [*]; done)), H', ⟨by have := HK1.out; have := HJ6.out; have := HK3.out; first | omega | exact Nat.le_refl _⟩, ⟨zv8 BK153.out⟩, ⟨zv7 HB.out⟩⟩
         ·rw [if_neg c19] at H
          have c19b0 : decide (x11_3 < a0_0) = false := decide_eq_false c19
          clear c19
          (first | rw [c19b0] | (simp only [i64_w, i32_w]; rw [c19b0]) | skip)
          have H' := zp.mk H
          clear H
          have y21_0 := zt0 BK153.out
          have y21_1 := zt1 BK153.out
          have u21_0 := zd BK153.out 0
          have u21_1 := zd BK153.out 1
          go_wp2
          go_meet
          case rel => exact ⟨_, (false), (by first | rfl | (simp; done) | (simp [*]; done)), H', ⟨by have := HK1.out; have := HJ6.out; have := HK3.out; first | omega | exact Nat.le_refl _⟩, ⟨zv8 BK153.out⟩, ⟨zv7 HB.out⟩⟩
        case rest =>
         clear HC18
         try clear c1
         try clear p2
         try clear c6
         try clear c6b0
         try clear c10
         try clear c19
         try clear c19b0
         try clear y12_0
         try clear y12_1
         try clear y14_0
         try clear y14_1
         try clear y16_0
         try clear y16_1
         try clear y20_0
         try clear y20_1
         try clear y21_0
         try clear y21_1
         try clear y8_0
         try clear y8_1
         try clear u12_0
         try clear u12_1
         try clear u14_0
         try clear u14_1
         try clear u16_0
         try clear u16_1
         try clear u20_0
         try clear u20_1
         try clear u21_0
         try clear u21_1
         try clear u8_0
         try clear u8_1
         try clear p2
         obtain ⟨kq, x36_17, rfl, HA, HJ17, BK153, HB⟩ := hcut
         cases kq with
         | zero => exact absurd HA.out (by simp [spec_l01Bound.j3])
         | succ kj17 =>
          have H := HA.out
          clear HA
          simp only [spec_l01Bound.j3] at H
          by_cases c22 : x36_17 = true
          ·subst c22
           have H1 : ((spec_l01Side.f a0_0 l0_1 a1 x11_3 a3).bind fun t156 => (if t156 = true then ((spec_l01Side.f a0_0 l0_1 a2 x11_3 a3).bind fun t157 => (if t157 = true then ((spec_l01Side.f a0_0 l0_1 x9_1 x11_3 a3).bind fun t158 => (if t158 = true then (spec_l01Bound.l1 kj17 a1 a2 a3 x9_1 x10_3 (wrap64 (x11_3 + 1)) a0_0 l0_1) else (spec_l01Bound.l1 kj17 a1 a2 a3 x9_1 false (wrap64 (x11_3 + 1)) a0_0 l0_1))) else (spec_l01Bound.l1 kj17 a1 a2 a3 x9_1 x10_3 (wrap64 (x11_3 + 1)) a0_0 l0_1))) else (spec_l01Bound.l1 kj17 a1 a2 a3 x9_1 x10_3 (wrap64 (x11_3 + 1)) a0_0 l0_1))) = some r := by rw [if_pos rfl] at H; exact H
           clear H
           have H := H1
           clear H1
           replace H := zs4 H
           obtain ⟨t156, A230, H⟩ := H
           replace H : (if t156 = true then ((spec_l01Side.f a0_0 l0_1 a2 x11_3 a3).bind fun t157 => (if t157 = true then ((spec_l01Side.f a0_0 l0_1 x9_1 x11_3 a3).bind fun t158 => (if t158 = true then (spec_l01Bound.l1 kj17 a1 a2 a3 x9_1 x10_3 (wrap64 (x11_3 + 1)) a0_0 l0_1) else (spec_l01Bound.l1 kj17 a1 a2 a3 x9_1 false (wrap64 (x11_3 + 1)) a0_0 l0_1))) else (spec_l01Bound.l1 kj17 a1 a2 a3 x9_1 x10_3 (wrap64 (x11_3 + 1)) a0_0 l0_1))) else (spec_l01Bound.l1 kj17 a1 a2 a3 x9_1 x10_3 (wrap64 (x11_3 + 1)) a0_0 l0_1)) = some r := H
           have A23 := zp.mk A230
           clear A230
           by_cases c24 : t156 = true
           ·subst c24
            have H1 : ((spec_l01Side.f a0_0 l0_1 a2 x11_3 a3).bind fun t157 => (if t157 = true then ((spec_l01Side.f a0_0 l0_1 x9_1 x11_3 a3).bind fun t158 => (if t158 = true then (spec_l01Bound.l1 kj17 a1 a2 a3 x9_1 x10_3 (wrap64 (x11_3 + 1)) a0_0 l0_1) else (spec_l01Bound.l1 kj17 a1 a2 a3 x9_1 false (wrap64 (x11_3 + 1)) a0_0 l0_1))) else (spec_l01Bound.l1 kj17 a1 a2 a3 x9_1 x10_3 (wrap64 (x11_3 + 1)) a0_0 l0_1))) = some r := by rw [if_pos rfl] at H; exact H
            clear H
            have H := H1
            clear H1
            replace H := zs4 H
            obtain ⟨t157, A250, H⟩ := H
            replace H : (if t157 = true then ((spec_l01Side.f a0_0 l0_1 x9_1 x11_3 a3).bind fun t158 => (if t158 = true then (spec_l01Bound.l1 kj17 a1 a2 a3 x9_1 x10_3 (wrap64 (x11_3 + 1)) a0_0 l0_1) else (spec_l01Bound.l1 kj17 a1 a2 a3 x9_1 false (wrap64 (x11_3 + 1)) a0_0 l0_1))) else (spec_l01Bound.l1 kj17 a1 a2 a3 x9_1 x10_3 (wrap64 (x11_3 + 1)) a0_0 l0_1)) = some r := H
            have A25 := zp.mk A250
            clear A250
            by_cases c26 : t157 = true
            ·subst c26
             have H1 : ((spec_l01Side.f a0_0 l0_1 x9_1 x11_3 a3).bind fun t158 => (if t158 = true then (spec_l01Bound.l1 kj17 a1 a2 a3 x9_1 x10_3 (wrap64 (x11_3 + 1)) a0_0 l0_1) else (spec_l01Bound.l1 kj17 a1 a2 a3 x9_1 false (wrap64 (x11_3 + 1)) a0_0 l0_1))) = some r := by rw [if_pos rfl] at H; exact H
             clear H
             have H := H1
             clear H1
             replace H := zs4 H
             obtain ⟨t158, A270, H⟩ := H
             replace H : (if t158 = true then (spec_l01Bound.l1 kj17 a1 a2 a3 x9_1 x10_3 (wrap64 (x11_3 + 1)) a0_0 l0_1) else (spec_l01Bound.l1 kj17 a1 a2 a3 x9_1 false (wrap64 (x11_3 + 1)) a0_0 l0_1)) = some r := H
             have A27 := zp.mk A270
             clear A270
             by_cases c28 : t158 = true
             ·subst c28
              have H1 : (spec_l01Bound.l1 kj17 a1 a2 a3 x9_1 x10_3 (wrap64 (x11_3 + 1)) a0_0 l0_1) = some r := by rw [if_pos rfl] at H; exact H
              clear H
              have H := H1
              clear H1
              have H' := zp.mk H
              clear H
              have y29_0 := zt0 BK153.out
              have y29_1 := zt1 BK153.out
              have u29_0 := zd BK153.out 0
              have u29_1 := zd BK153.out 1
              go_wp2_with (first | ((with_reducible refine zn (f := 100) rfl ?_); refine goesL_ (some 43) rfl rfl Try.func100 (by kernel_rfl) rfl #[.agg #[.int .i64 a0_0, .slice A0_1 l0_1.length c0_1], .int .i64 a1, .int .i64 x11_3, .bool a3] rfl (by (try simp only [List.map_toArray, List.map_cons, List.map_nil]); first | done | rfl | (simp only [List.length_drop, List.length_take]; rfl)) ?_; (with_reducible refine (spec_l01Side.calls a0_0 _ _ l0_1 a1 x11_3 a3 true _ ?side1 ?side2 A23.out).mono ?_); (case side1 => repeat (first | exact (Kd.zt HR0_1.out HB.out) | (with_reducible refine Kd.zr ?_ _) | (with_reducible refine Kd.zq ?_ _) | (with_reducible refine Kd.C_drew ?_))); (case side2 => exact HC0_1.out); rintro e w30 ⟨rfl, hb⟩; refine ⟨_, rfl, ?_⟩; replace BK153 := zp.mk (zl (zv8 BK153.out) hb); replace HB := zp.mk (zj (zv7 HB.out) hb); (try clear hb); (try clear hb2); (try clear hk); (try clear hi); have y31_0 := zt0 BK153.out; have y31_1 := zt1 BK153.out; have u31_0 := zd BK153.out 0; have u31_1 := zd BK153.out 1) | (go_at_call 100; (with_reducible refine (spec_l01Side.calls a0_0 _ _ l0_1 a2 x11_3 a3 true _ ?side1 ?side2 A25.out).mono ?_); (case side1 => repeat (first | exact (Kd.zt HR0_1.out HB.out) | (with_reducible refine Kd.zr ?_ _) | (with_reducible refine Kd.zq ?_ _) | (with_reducible refine Kd.C_drew ?_))); (case side2 => exact HC0_1.out); rintro e w32 ⟨rfl, hb⟩; replace BK153 := zp.mk (zl (zv8 BK153.out) hb); replace HB := zp.mk (zj (zv7 HB.out) hb); (try clear hb); (try clear hb2); (try clear hk); (try clear hi); have y33_0 := zt0 BK153.out; have y33_1 := zt1 BK153.out; have u33_0 := zd BK153.out 0; have u33_1 := zd BK153.out 1) | (go_at_call 100; (with_reducible refine (spec_l01Side.calls a0_0 _ _ l0_1 x9_1 x11_3 a3 true _ ?side1 ?side2 A27.out).mono ?_); (case side1 => repeat (first | exact (Kd.zt HR0_1.out HB.out) | (with_reducible refine Kd.zr ?_ _) | (with_reducible refine Kd.zq ?_ _) | (with_reducible refine Kd.C_drew ?_))); (case side2 => exact HC0_1.out); rintro e w34 ⟨rfl, hb⟩; replace BK153 := zp.mk (zl (zv8 BK153.out) hb); replace HB := zp.mk (zj (zv7 HB.out) hb); (try clear hb); (try clear hb2); (try clear hk); (try clear hi)))
              go_roundg kj17
              case measure => have := HK1.out; have := HJ6.out; have := HK3.out; have := HJ17.out; omega
              case rel => exact ⟨(x10_3), (wrap64 (x11_3 + 1)), (by first | rfl | (simp; done) | (simp [*]; done)), (by first | rfl | (simp; done) | (simp [*]; done)), H', ⟨by have := HK1.out; have := HJ6.out; have := HK3.out; have := HJ17.out; omega⟩, ⟨zv8 BK153.out⟩, ⟨zv7 HB.out⟩⟩
             ·replace c28 := Bool.eq_false_iff.mpr c28
              subst c28
              have H1 : (spec_l01Bound.l1 kj17 a1 a2 a3 x9_1 false (wrap64 (x11_3 + 1)) a0_0 l0_1) = some r := by rw [if_neg (show ¬ (false = true) by decide)] at H; exact H
              clear H
              have H := H1
              clear H1
              have H' := zp.mk H
              clear H
              have y35_0 := zt0 BK153.out
              have y35_1 := zt1 BK153.out
              have u35_0 := zd BK153.out 0
              have u35_1 := zd BK153.out 1
              go_wp2_with (first | ((with_reducible refine zn (f := 100) rfl ?_); refine goesL_ (some 43) rfl rfl Try.func100 (by kernel_rfl) rfl #[.agg #[.int .i64 a0_0, .slice A0_1 l0_1.length c0_1], .int .i64 a1, .int .i64 x11_3, .bool a3] rfl (by (try simp only [List.map_toArray, List.map_cons, List.map_nil]); first | done | rfl | (simp only [List.length_drop, List.length_take]; rfl)) ?_; (with_reducible refine (spec_l01Side.calls a0_0 _ _ l0_1 a1 x11_3 a3 true _ ?side1 ?side2 A23.out).mono ?_); (case side1 => repeat (first | exact (Kd.zt HR0_1.out HB.out) | (with_reducible refine Kd.zr ?_ _) | (with_reducible refine Kd.zq ?_ _) | (with_reducible refine Kd.C_drew ?_))); (case side2 => exact HC0_1.out); rintro e w36 ⟨rfl, hb⟩; refine ⟨_, rfl, ?_⟩; replace BK153 := zp.mk (zl (zv8 BK153.out) hb); replace HB := zp.mk (zj (zv7 HB.out) hb); (try clear hb); (try clear hb2); (try clear hk); (try clear hi); have y37_0 := zt0 BK153.out; have y37_1 := zt1 BK153.out; have u37_0 := zd BK153.out 0; have u37_1 := zd BK153.out 1) | (go_at_call 100; (with_reducible refine (spec_l01Side.calls a0_0 _ _ l0_1 a2 x11_3 a3 true _ ?side1 ?side2 A25.out).mono ?_); (case side1 => repeat (first | exact (Kd.zt HR0_1.out HB.out) | (with_reducible refine Kd.zr ?_ _) | (with_reducible refine Kd.zq ?_ _) | (with_reducible refine Kd.C_drew ?_))); (case side2 => exact HC0_1.out); rintro e w38 ⟨rfl, hb⟩; replace BK153 := zp.mk (zl (zv8 BK153.out) hb); replace HB := zp.mk (zj (zv7 HB.out) hb); (try clear hb); (try clear hb2); (try clear hk); (try clear hi); have y39_0 := zt0 BK153.out; have y39_1 := zt1 BK153.out; have u39_0 := zd BK153.out 0; have u39_1 := zd BK153.out 1) | (go_at_call 100; (with_reducible refine (spec_l01Side.calls a0_0 _ _ l0_1 x9_1 x11_3 a3 false _ ?side1 ?side2 A27.out).mono ?_); (case side1 => repeat (first | exact (Kd.zt HR0_1.out HB.out) | (with_reducible refine Kd.zr ?_ _) | (with_reducible refine Kd.zq ?_ _) | (with_reducible refine Kd.C_drew ?_))); (case side2 => exact HC0_1.out); rintro e w40 ⟨rfl, hb⟩; replace BK153 := zp.mk (zl (zv8 BK153.out) hb); replace HB := zp.mk (zj (zv7 HB.out) hb); (try clear hb); (try clear hb2); (try clear hk); (try clear hi)))
              go_roundg kj17
              case measure => have := HK1.out; have := HJ6.out; have := HK3.out; have := HJ17.out; omega
              case rel => exact ⟨(false), (wrap64 (x11_3 + 1)), (by first | rfl | (simp; done) | (simp [*]; done)), (by first | rfl | (simp; done) | (simp [*]; done)), H', ⟨by have := HK1.out; have := HJ6.out; have := HK3.out; have := HJ17.out; omega⟩, ⟨zv8 BK153.out⟩, ⟨zv7 HB.out⟩⟩
            ·replace c26 := Bool.eq_false_iff.mpr c26
             subst c26
             have H1 : (spec_l01Bound.l1 kj17 a1 a2 a3 x9_1 x10_3 (wrap64 (x11_3 + 1)) a0_0 l0_1) = some r := by rw [if_neg (show ¬ (false = true) by decide)] at H; exact H
             clear H
             have H := H1
             clear H1
             have H' := zp.mk H
             clear H
             have y41_0 := zt0 BK153.out
             have y41_1 := zt1 BK153.out
             have u41_0 := zd BK153.out 0
             have u41_1 := zd BK153.out 1
             go_wp2_with (first | ((with_reducible refine zn (f := 100) rfl ?_); refine goesL_ (some 43) rfl rfl Try.func100 (by kernel_rfl) rfl #[.agg #[.int .i64 a0_0, .slice A0_1 l0_1.length c0_1], .int .i64 a1, .int .i64 x11_3, .bool a3] rfl (by (try simp only [List.map_toArray, List.map_cons, List.map_nil]); first | done | rfl | (simp only [List.length_drop, List.length_take]; rfl)) ?_; (with_reducible refine (spec_l01Side.calls a0_0 _ _ l0_1 a1 x11_3 a3 true _ ?side1 ?side2 A23.out).mono ?_); (case side1 => repeat (first | exact (Kd.zt HR0_1.out HB.out) | (with_reducible refine Kd.zr ?_ _) | (with_reducible refine Kd.zq ?_ _) | (with_reducible refine Kd.C_drew ?_))); (case side2 => exact HC0_1.out); rintro e w42 ⟨rfl, hb⟩; refine ⟨_, rfl, ?_⟩; replace BK153 := zp.mk (zl (zv8 BK153.out) hb); replace HB := zp.mk (zj (zv7 HB.out) hb); (try clear hb); (try clear hb2); (try clear hk); (try clear hi); have y43_0 := zt0 BK153.out; have y43_1 := zt1 BK153.out; have u43_0 := zd BK153.out 0; have u43_1 := zd BK153.out 1) | (go_at_call 100; (with_reducible refine (spec_l01Side.calls a0_0 _ _ l0_1 a2 x11_3 a3 false _ ?side1 ?side2 A25.out).mono ?_); (case side1 => repeat (first | exact (Kd.zt HR0_1.out HB.out) | (with_reducible refine Kd.zr ?_ _) | (with_reducible refine Kd.zq ?_ _) | (with_reducible refine Kd.C_drew ?_))); (case side2 => exact HC0_1.out); rintro e w44 ⟨rfl, hb⟩; replace BK153 := zp.mk (zl (zv8 BK153.out) hb); replace HB := zp.mk (zj (zv7 HB.out) hb); (try clear hb); (try clear hb2); (try clear hk); (try clear hi)))
             go_roundg kj17
             case measure => have := HK1.out; have := HJ6.out; have := HK3.out; have := HJ17.out; omega
             case rel => exact ⟨(x10_3), (wrap64 (x11_3 + 1)), (by first | rfl | (simp; done) | (simp [*]; done)), (by first | rfl | (simp; done) | (simp [*]; done)), H', ⟨by have := HK1.out; have := HJ6.out; have := HK3.out; have := HJ17.out; omega⟩, ⟨zv8 BK153.out⟩, ⟨zv7 HB.out⟩⟩
           ·replace c24 := Bool.eq_false_iff.mpr c24
            subst c24
            have H1 : (spec_l01Bound.l1 kj17 a1 a2 a3 x9_1 x10_3 (wrap64 (x11_3 + 1)) a0_0 l0_1) = some r := by rw [if_neg (show ¬ (false = true) by decide)] at H; exact H
            clear H
            have H := H1
            clear H1
            have H' := zp.mk H
            clear H
            have y45_0 := zt0 BK153.out
            have y45_1 := zt1 BK153.out
            have u45_0 := zd BK153.out 0
            have u45_1 := zd BK153.out 1
            go_wp2_with (first | ((with_reducible refine zn (f := 100) rfl ?_); refine goesL_ (some 43) rfl rfl Try.func100 (by kernel_rfl) rfl #[.agg #[.int .i64 a0_0, .slice A0_1 l0_1.length c0_1], .int .i64 a1, .int .i64 x11_3, .bool a3] rfl (by (try simp only [List.map_toArray, List.map_cons, List.map_nil]); first | done | rfl | (simp only [List.length_drop, List.length_take]; rfl)) ?_; (with_reducible refine (spec_l01Side.calls a0_0 _ _ l0_1 a1 x11_3 a3 false _ ?side1 ?side2 A23.out).mono ?_); (case side1 => repeat (first | exact (Kd.zt HR0_1.out HB.out) | (with_reducible refine Kd.zr ?_ _) | (with_reducible refine Kd.zq ?_ _) | (with_reducible refine Kd.C_drew ?_))); (case side2 => exact HC0_1.out); rintro e w46 ⟨rfl, hb⟩; refine ⟨_, rfl, ?_⟩; replace BK153 := zp.mk (zl (zv8 BK153.out) hb); replace HB := zp.mk (zj (zv7 HB.out) hb); (try clear hb); (try clear hb2); (try clear hk); (try clear hi)))
            go_roundg kj17
            case measure => have := HK1.out; have := HJ6.out; have := HK3.out; have := HJ17.out; omega
            case rel => exact ⟨(x10_3), (wrap64 (x11_3 + 1)), (by first | rfl | (simp; done) | (simp [*]; done)), (by first | rfl | (simp; done) | (simp [*]; done)), H', ⟨by have := HK1.out; have := HJ6.out; have := HK3.out; have := HJ17.out; omega⟩, ⟨zv8 BK153.out⟩, ⟨zv7 HB.out⟩⟩
          ·replace c22 := Bool.eq_false_iff.mpr c22
           subst c22
           have H1 : (if x10_3 = true then (some x9_1) else (spec_l01Bound.l0 kj17 a1 a2 a3 (wrap64 (x9_1 + 1)) a0_0 l0_1)) = some r := by rw [if_neg (show ¬ (false = true) by decide)] at H; exact H
           clear H
           have H := H1
           clear H1
           by_cases c47 : x10_3 = true
           ·subst c47
            have H1 : (some x9_1) = some r := by rw [if_pos rfl] at H; exact H
            clear H
            have H := H1
            clear H1
            obtain rfl := Option.some.inj H
            go_wp2
            go_ret
            exact ⟨by first | rfl | (simp [errW_none, errW_some] <;> rfl) | (simp [*, errW_none, errW_some] <;> rfl), zv7 HB.out⟩
           ·replace c47 := Bool.eq_false_iff.mpr c47
            subst c47
            have H1 : (spec_l01Bound.l0 kj17 a1 a2 a3 (wrap64 (x9_1 + 1)) a0_0 l0_1) = some r := by rw [if_neg (show ¬ (false = true) by decide)] at H; exact H
            clear H
            have H := H1
            clear H1
            have H' := zp.mk H
            clear H
            go_wp2
            go_roundg kj17
            case measure => have := HK1.out; have := HJ6.out; have := HK3.out; have := HJ17.out; omega
            case rel => exact ⟨(wrap64 (x9_1 + 1)), (by first | rfl | (simp; done) | (simp [*]; done)), H', ⟨by have := HK1.out; have := HJ6.out; have := HK3.out; have := HJ17.out; omega⟩, ⟨zv8 BK153.out⟩, ⟨zv7 HB.out⟩⟩
   ·rw [if_neg c6] at H
    have c6b0 : decide (x9_1 < a0_0) = false := decide_eq_false c6
    clear c6
    obtain rfl := Option.some.inj H
    have y48_0 := zt0 BK153.out
    have y48_1 := zt1 BK153.out
    have u48_0 := zd BK153.out 0
    have u48_1 := zd BK153.out 1
    go_wp2
    go_ret
    exact ⟨by first | rfl | (simp [errW_none, errW_some] <;> rfl) | (simp [*, errW_none, errW_some] <;> rfl), zv7 HB.out⟩

end Go.Proofs.Ytdpoliolinghfaa.QFnExactPolicySet
