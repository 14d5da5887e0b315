/- Proved: calls of the program come to the answers of the plain Lean functions that stand beside them. Each contract names its conditions. (Written by a program of this session, over the printer of the kit.) -/
import Derived.Test.YtdpoliolinghfaaZPolicySetQFnExactPolicySetx0
import Derived.Test.YtdpoliolinghfaaZPolicySetQFnExactPolicySetx9
import Derived.Test.YtdpoliolinghfaaZPolicySetQFnExactPolicySetx10
namespace Go.Proofs.Ytdpoliolinghfaa.QFnExactPolicySet
open Go.RowKit Go.Proofs.YtdpoliolinghfaaW.PrintWords Go.Proofs.YtdpoliolinghfaaW.PrintLast Go.Proofs.YtdpoliolinghfaaW.PrintMore
attribute [local go_sem] max2_int min2_int max_two min_two max_three min_three max_four min_four   -- for this text's walks alone
set_option linter.unusedVariables false
set_option linter.unusedSimpArgs false

/-! ### impl_isLat: function 70 -/
mutual
def impl_isLat.j0 : Nat → Bool → Int → List Int → Option (Bool)
 | 0, _, _, _ => none
 | k + 1, x18, x276000, x276001 => if x18 = true then (some false) else (impl_isLat.l0 k x276001 (x276001.length : Int) 0 x276000 x276001)
def impl_isLat.l0 : Nat → List Int → Int → Int → Int → List Int → Option (Bool)
 | 0, _, _, _, _, _ => none
 | k + 1, x20, x21, x22, x276000, x276001 => if x22 < x21 then (if 0 ≤ x22 then (if x22 < (x20.length : Int) then (if 0 ≤ x276000 then (if (shr .u64 (rd x20 x22) x276000) = 0 then (impl_isLat.l0 k x20 x21 (wrap64 (x22 + 1)) x276000 x276001) else (some false)) else (none)) else (none)) else (none)) else ((impl_Lat_isOrder.f k x276000 x276001).bind fun t278 => (if t278 = true then (impl_isLat.l1 k x276000 0 x276000 x276001) else (some false)))
def impl_isLat.l1 : Nat → Int → Int → Int → List Int → Option (Bool)
 | 0, _, _, _, _ => none
 | k + 1, x36, x37, x276000, x276001 => if x37 < x36 then (impl_isLat.l2 k x37 x36 x37 x276000 0 x276000 x276001) else (some true)
def impl_isLat.l2 : Nat → Int → Int → Int → Int → Int → Int → List Int → Option (Bool)
 | 0, _, _, _, _, _, _, _ => none
 | k + 1, x5, x36, x37, x41, x42, x276000, x276001 => if x42 < x41 then ((impl_Lat_bound.f k x276000 x276001 x5 x42 true).bind fun t279 => (if t279 < 0 then (some false) else ((impl_Lat_bound.f k x276000 x276001 x5 x42 false).bind fun t280 => (if t280 < 0 then (some false) else (impl_isLat.l2 k x5 x36 x37 x41 (wrap64 (x42 + 1)) x276000 x276001))))) else (impl_isLat.l1 k x36 (wrap64 (x37 + 1)) x276000 x276001)
end
def impl_isLat.f (k : Nat) (a0_0 : Int) (l0_1 : List Int) : Option (Bool) := (impl_in.f a0_0 1 16).bind fun t276 => (if t276 = true then (impl_isLat.j0 k ((l0_1.length : Int) != a0_0) a0_0 l0_1) else (impl_isLat.j0 k true a0_0 l0_1))
set_option maxHeartbeats 8000000 in
set_option maxRecDepth 100000 in
theorem impl_isLat.calls (k : Nat) (a0_0 : Int) (A0_1 : Option Addr) (c0_1 : Nat) (l0_1 : List Int) (r : Bool) (w : World) (hr0_1 : Kd.C (Kd.int .u64) w A0_1 l0_1.length l0_1) (hc0_1 : l0_1.length ≤ c0_1) (h : impl_isLat.f k a0_0 l0_1 = some r) :
  Calls Try.prog 70 #[.agg #[.int .i64 a0_0, .slice A0_1 l0_1.length c0_1]] w fun e w' => e = .returned (.bool r) ∧ Below w.heap.size w w' := by
 have hu27 := Try.underlying27
 have HR0_1 := zp.mk hr0_1
 have HC0_1 := zp.mk hc0_1
 clear hr0_1 hc0_1
 have HB := zp.mk (Below.refl w.heap.size w)
 have H : ((impl_in.f a0_0 1 16).bind fun t276 => (if t276 = true then (impl_isLat.j0 k ((l0_1.length : Int) != a0_0) a0_0 l0_1) else (impl_isLat.j0 k true a0_0 l0_1))) = some r := h
 clear h
 have HC2 := zp.mk H
 clear H
 go_enter Try.func70, Try.ntmps70
 go_upto_region 1 with (first | ((with_reducible refine zo (N := 1) rfl ?_); (try (refine gate_guard (by rfl) ?_; dsimp only)); refine zm ?hg (N := 1) ?hd (cs := #[.int .i64 a0_0, .slice A0_1 l0_1.length c0_1]) (t := 27) ?hr ?_; (case hd => rfl); (case hg => rfl); (case hr => first | (go_simp; done) | (go_simp; rfl)); intro gb275 hg w3 hbox hb; have BK275 := zp.mk (hbox); have GW275 := zp.mk ((zv3 (zv6 HB.out) hg)); have GE275 := zp.mk ((zv3 (zv6 HB.out) hg)); replace HB := zp.mk (zj (zv6 HB.out) hb); clear hb hbox hg))
 (try simp only [Act.put, zs1, zs2, zs3])
 go_cut [18] (fun v18 wc => ∃ (kq : Nat) (x18_1 : Bool), v18 = .bool x18_1 ∧ zp (impl_isLat.j0 kq x18_1 a0_0 l0_1 = some r) ∧ zp (kq ≤ k) ∧ zp (wc.heap[gb275]? = some (.cells #[.int .i64 a0_0, (.slice A0_1 l0_1.length c0_1)] 27 (0, 0))) ∧ zp (Below w.heap.size w wc))
 case first =>
  have H := HC2.out
  clear HC2
  replace H := zs4 H
  obtain ⟨t276, A40, H⟩ := H
  replace H : (if t276 = true then (impl_isLat.j0 k ((l0_1.length : Int) != a0_0) a0_0 l0_1) else (impl_isLat.j0 k true a0_0 l0_1)) = some r := H
  have A4 := zp.mk A40
  clear A40
  by_cases c5 : t276 = true
  ·subst c5
   have H1 : (impl_isLat.j0 k ((l0_1.length : Int) != a0_0) a0_0 l0_1) = some r := by rw [if_pos rfl] at H; exact H
   clear H
   have H := H1
   clear H1
   have H' := zp.mk H
   clear H
   have y6_0 := zt0 BK275.out
   have y6_1 := zt1 BK275.out
   have u6_0 := zd BK275.out 0
   have u6_1 := zd BK275.out 1
   go_wp2_with (first | ((with_reducible refine zn (f := 82) rfl ?_); refine goesL_ (some 9) rfl rfl Try.func82 (by kernel_rfl) rfl #[.int .i64 a0_0, .int .i64 1, .int .i64 16] rfl (by (try simp only [List.map_toArray, List.map_cons, List.map_nil]); first | done | rfl | (simp only [List.length_drop, List.length_take]; rfl)) ?_; (with_reducible refine (impl_in.calls a0_0 1 16 true _ A4.out).mono ?_); rintro e w' ⟨rfl, ⟨nd, rfl⟩⟩; refine ⟨_, rfl, ?_⟩))
   go_meet
   case rel => exact ⟨_, (((l0_1.length : Int) != a0_0)), (by first | rfl | (simp; done) | (simp [*]; done)), H', ⟨by first | omega | exact Nat.le_refl _⟩, ⟨zv8 BK275.out⟩, ⟨zv7 HB.out⟩⟩
  ·replace c5 := Bool.eq_false_iff.mpr c5
   subst c5
   have H1 : (impl_isLat.j0 k true a0_0 l0_1) = some r := by rw [if_neg (show ¬ (false = true) by decide)] at H; exact H
   clear H
   have H := H1
   clear H1
   have H' := zp.mk H
   clear H
   have y7_0 := zt0 BK275.out
   have y7_1 := zt1 BK275.out
   have u7_0 := zd BK275.out 0
   have u7_1 := zd BK275.out 1
   go_wp2_with (first | ((with_reducible refine zn (f := 82) rfl ?_); refine goesL_ (some 9) rfl rfl Try.func82 (by kernel_rfl) rfl #[.int .i64 a0_0, .int .i64 1, .int .i64 16] rfl (by (try simp only [List.map_toArray, List.map_cons, List.map_nil]); first | done | rfl | (simp only [List.length_drop, List.length_take]; rfl)) ?_; (with_reducible refine (impl_in.calls a0_0 1 16 false _ A4.out).mono ?_); rintro e w' ⟨rfl, ⟨nd, rfl⟩⟩; refine ⟨_, rfl, ?_⟩))
   go_meet
   case rel => exact ⟨_, (true), (by first | rfl | (simp; done) | (simp [*]; done)), H', ⟨by first | omega | exact Nat.le_refl _⟩, ⟨zv8 BK275.out⟩, ⟨zv7 HB.out⟩⟩
 case rest =>
  clear HC2
  try clear p2
  try clear c5
  try clear c7
  try clear y6_0
  try clear y6_1
  try clear y7_0
  try clear y7_1
  try clear u6_0
  try clear u6_1
  try clear u7_0
  try clear u7_1
  obtain ⟨kq, x18_1, rfl, HA, HJ1, BK275, HB⟩ := hcut
  cases kq with
  | zero => exact absurd HA.out (by simp [impl_isLat.j0])
  | succ kj1 =>
   have H := HA.out
   clear HA
   simp only [impl_isLat.j0] at H
   by_cases c8 : x18_1 = true
   ·subst c8
    have H1 : (some false) = some r := by rw [if_pos rfl] at H; exact H
    clear H
    have H := H1
    clear H1
    obtain rfl := Option.some.inj H
    go_wp2
    go_ret
    exact ⟨by first | rfl | (simp [errW_none, errW_some] <;> rfl) | (simp [*, errW_none, errW_some] <;> rfl), zv7 HB.out⟩
   ·replace c8 := Bool.eq_false_iff.mpr c8
    subst c8
    have H1 : (impl_isLat.l0 kj1 l0_1 (l0_1.length : Int) 0 a0_0 l0_1) = some r := by rw [if_neg (show ¬ (false = true) by decide)] at H; exact H
    clear H
    have H := H1
    clear H1
    have H' := zp.mk H
    clear H
    have y9_0 := zt0 BK275.out
    have y9_1 := zt1 BK275.out
    have u9_0 := zd BK275.out 0
    have u9_1 := zd BK275.out 1
    go_wp2
    go_loopg [22] kj1 (fun kq v22 w' => ∃ (x22_2 : Int), v22 = .int .i64 x22_2 ∧ zp (impl_isLat.l0 kq l0_1 (l0_1.length : Int) x22_2 a0_0 l0_1 = some r) ∧ zp (kq ≤ kj1) ∧ zp (w'.heap[gb275]? = some (.cells #[.int .i64 a0_0, (.slice A0_1 l0_1.length c0_1)] 27 (0, 0))) ∧ zp (Below w.heap.size w w'))
    case atStart => exact ⟨(0), (by first | rfl | (simp; done) | (simp [*]; done)), H', ⟨Nat.le_refl _⟩, ⟨zv8 BK275.out⟩, ⟨zv7 HB.out⟩⟩
    case round =>
     clear H'
     try clear p2
     try clear c5
     try clear c7
     try clear c8
     try clear y6_0
     try clear y6_1
     try clear y7_0
     try clear y7_1
     try clear y9_0
     try clear y9_1
     try clear u6_0
     try clear u6_1
     try clear u7_0
     try clear u7_1
     try clear u9_0
     try clear u9_1
     try clear p2
     obtain ⟨x22_2, rfl, HA, HK2, BK275, HB⟩ := hrel
     cases gk with
     | zero => exact absurd HA.out (by simp [impl_isLat.l0])
     | succ k2 =>
      have H := HA.out
      clear HA
      simp only [impl_isLat.l0] at H
      by_cases c10 : x22_2 < (l0_1.length : Int)
      ·rw [if_pos c10] at H
       have c10b0 : decide (x22_2 < (l0_1.length : Int)) = true := decide_eq_true c10
       clear c10
       by_cases c11 : 0 ≤ x22_2
       ·rw [if_pos c11] at H
        have c11b0 : decide (0 ≤ x22_2) = true := decide_eq_true c11
        clear c11
        by_cases c12 : x22_2 < (l0_1.length : Int)
        ·rw [if_pos c12] at H
         have c12b0 : decide (x22_2 < (l0_1.length : Int)) = true := decide_eq_true c12
         clear c12
         by_cases c13 : 0 ≤ a0_0
         ·rw [if_pos c13] at H
          have c13b0 := eq_true c13
          have c13b1 : decide (0 ≤ a0_0) = true := decide_eq_true c13
          clear c13
          obtain ⟨ji14, hji14⟩ : ∃ j_ : Int, (shr .u64 (rd l0_1 x22_2) a0_0) = j_ := ⟨_, rfl⟩
          replace H : (if (ji14) = 0 then (impl_isLat.l0 k2 l0_1 (l0_1.length : Int) (wrap64 (x22_2 + 1)) a0_0 l0_1) else (some false)) = some r := by first | (rw [hji14] at H; exact H) | (simp only [hji14] at H ⊢; exact H)
          have hji14_ : ((rd l0_1 x22_2) / 2 ^ min a0_0.toNat 64) = ji14 := hji14
          have hji14z : a0_0 ≤ 64 → ((rd l0_1 x22_2) / 2 ^ a0_0.toNat) = ji14 := shr_small hji14
          by_cases c15 : (ji14) = 0
          ·rw [if_pos c15] at H
           have c15b0 : ((ji14) == 0) = true := beq_iff_eq.mpr c15
           have c15b1 : ((ji14) != 0) = false := bne_eq_false_iff_eq.mpr c15
           clear c15
           have H' := zp.mk H
           clear H
           have p277 : 0 ≤ (x22_2 : Int) := of_decide_eq_true (by first | (with_reducible assumption) | assumption)
           have q277 : x22_2 < (l0_1.length : Int) := of_decide_eq_true (by first | (with_reducible assumption) | assumption)
           obtain ⟨ad277, e277, hx277_0⟩ := Kd.at_int HR0_1.out x22_2 p277 q277
           cases e277
           replace hx277_0 := (HB.out.cell (World.block_lt_of_cell? w _ hx277_0)).trans hx277_0
           replace p277 := eq_true p277
           replace q277 := eq_true q277
           have y16_0 := zt0 BK275.out
           have y16_1 := zt1 BK275.out
           have u16_0 := zd BK275.out 0
           have u16_1 := zd BK275.out 1
           go_wp2
           go_roundg k2
           case measure => have := HJ1.out; have := HK2.out; omega
           case rel => exact ⟨(wrap64 (x22_2 + 1)), (by first | rfl | (simp; done) | (simp [*]; done)), H', ⟨by have := HJ1.out; have := HK2.out; omega⟩, ⟨zv8 BK275.out⟩, ⟨zv7 HB.out⟩⟩
          ·rw [if_neg c15] at H
           have c15b0 : ((ji14) == 0) = false := beq_eq_false_iff_ne.mpr c15
           have c15b1 : ((ji14) != 0) = true := bne_iff_ne.mpr c15
           obtain rfl := Option.some.inj H
           have p277 : 0 ≤ (x22_2 : Int) := of_decide_eq_true (by first | (with_reducible assumption) | assumption)
           have q277 : x22_2 < (l0_1.length : Int) := of_decide_eq_true (by first | (with_reducible assumption) | assumption)
           obtain ⟨ad277, e277, hx277_0⟩ := Kd.at_int HR0_1.out x22_2 p277 q277
           cases e277
           replace hx277_0 := (HB.out.cell (World.block_lt_of_cell? w _ hx277_0)).trans hx277_0
           replace p277 := eq_true p277
           replace q277 := eq_true q277
           have y17_0 := zt0 BK275.out
           have y17_1 := zt1 BK275.out
           have u17_0 := zd BK275.out 0
           have u17_1 := zd BK275.out 1
           go_wp2
           go_ret
           exact ⟨by first | rfl | (simp [errW_none, errW_some] <;> rfl) | (simp only [← hji14]; first | rfl | (simp [errW_none, errW_some] <;> rfl)) | (simp [*, errW_none, errW_some] <;> rfl), zv7 HB.out⟩
         ·rw [if_neg c13] at H
          exact absurd H (by simp)
        ·rw [if_neg c12] at H
         exact absurd H (by simp)
       ·rw [if_neg c11] at H
        exact absurd H (by simp)
      ·rw [if_neg c10] at H
       have c10b0 : decide (x22_2 < (l0_1.length : Int)) = false := decide_eq_false c10
       clear c10
       replace H := zs4 H
       obtain ⟨t278, A180, H⟩ := H
       replace H : (if t278 = true then (impl_isLat.l1 k2 a0_0 0 a0_0 l0_1) else (some false)) = some r := H
       have A18 := zp.mk A180
       clear A180
       by_cases c19 : t278 = true
       ·subst c19
        have H1 : (impl_isLat.l1 k2 a0_0 0 a0_0 l0_1) = some r := by rw [if_pos rfl] at H; exact H
        clear H
        have H := H1
        clear H1
        have H' := zp.mk H
        clear H
        have y20_0 := zt0 BK275.out
        have y20_1 := zt1 BK275.out
        have u20_0 := zd BK275.out 0
        have u20_1 := zd BK275.out 1
        go_wp2_with (first | ((with_reducible refine zn (f := 101) rfl ?_); refine goesL_ (some 33) rfl rfl Try.func101 (by kernel_rfl) rfl #[.agg #[.int .i64 a0_0, .slice A0_1 l0_1.length c0_1]] rfl (by (try simp only [List.map_toArray, List.map_cons, List.map_nil]); first | done | rfl | (simp only [List.length_drop, List.length_take]; rfl)) ?_; (with_reducible refine (impl_Lat_isOrder.calls k2 a0_0 _ _ l0_1 true _ ?side1 ?side2 A18.out).mono ?_); (case side1 => repeat (first | exact (Kd.zt HR0_1.out HB.out) | (with_reducible refine Kd.zr ?_ _) | (with_reducible refine Kd.zq ?_ _) | (with_reducible refine Kd.C_drew ?_))); (case side2 => exact HC0_1.out); rintro e w21 ⟨rfl, hb⟩; refine ⟨_, rfl, ?_⟩; replace BK275 := zp.mk (zl (zv8 BK275.out) hb); replace HB := zp.mk (zj (zv7 HB.out) hb); (try clear hb); (try clear hb2); (try clear hk); (try clear hi); have y22_0 := zt0 BK275.out; have y22_1 := zt1 BK275.out; have u22_0 := zd BK275.out 0; have u22_1 := zd BK275.out 1))
        go_loopg [37] k2 (fun kq v37 w' => ∃ (x37_3 : Int), v37 = .int .i64 x37_3 ∧ zp (impl_isLat.l1 kq a0_0 x37_3 a0_0 l0_1 = some r) ∧ zp (kq ≤ k2) ∧ zp (w'.heap[gb275]? = some (.cells #[.int .i64 a0_0, (.slice A0_1 l0_1.length c0_1)] 27 (0, 0))) ∧ zp (Below w.heap.size w w'))
        case atStart => exact ⟨(0), (by first | rfl | (simp; done) | (simp [*]; done)), H', ⟨Nat.le_refl _⟩, ⟨zv8 BK275.out⟩, ⟨zv7 HB.out⟩⟩
        case round =>
         clear H'
         try clear c1
         try clear p2
         try clear q2
         try clear hx2
         try clear c5
         try clear p6
         try clear c7
         try clear c8
         try clear c10
         try clear c10b0
         try clear c11
         try clear c11b0
         try clear c12
         try clear c12b0
         try clear c13
         try clear c13b0
         try clear c13b1
         try clear c15
         try clear c15b0
         try clear c15b1
         try clear c19
         try clear y16_0
         try clear y16_1
         try clear y17_0
         try clear y17_1
         try clear y20_0
         try clear y20_1
         try clear y22_0
         try clear y22_1
         try clear y6_0
         try clear y6_1
         try clear y7_0
         try clear y7_1
         try clear y9_0
         try clear y9_1
         try clear u16_0
         try clear u16_1
         try clear u17_0
         try clear u17_1
         try clear u20_0
         try clear u20_1
         try clear u22_0
         try clear u22_1
         try clear u6_0
         try clear u6_1
         try clear u7_0
         try clear u7_1
         try clear u9_0
         try clear u9_1
         try clear hx277_0
         try clear p2
         try clear p277
         try clear q277
         obtain ⟨x37_3, rfl, HA, HK3, BK275, HB⟩ := hrel
         cases gk with
         | zero => exact absurd HA.out (by simp [impl_isLat.l1])
         | succ k3 =>
          have H := HA.out
          clear HA
          simp only [impl_isLat.l1] at H
          by_cases c23 : x37_3 < a0_0
          ·rw [if_pos c23] at H
           have c23b0 : decide (x37_3 < a0_0) = true := decide_eq_true c23
           clear c23
           have H' := zp.mk H
           clear H
           have y24_0 := zt0 BK275.out
           have y24_1 := zt1 BK275.out
           have u24_0 := zd BK275.out 0
           have u24_1 := zd BK275.out 1
           go_wp2
           go_loopg [42] k3 (fun kq v42 w' => ∃ (x42_4 : Int), v42 = .int .i64 x42_4 ∧ zp (impl_isLat.l2 kq x37_3 a0_0 x37_3 a0_0 x42_4 a0_0 l0_1 = some r) ∧ zp (kq ≤ k3) ∧ zp (w'.heap[gb275]? = some (.cells #[.int .i64 a0_0, (.slice A0_1 l0_1.length c0_1)] 27 (0, 0))) ∧ zp (Below w.heap.size w w'))
           case atStart => exact ⟨(0), (by first | rfl | (simp; done) | (simp [*]; done)), H', ⟨Nat.le_refl _⟩, ⟨zv8 BK275.out⟩, ⟨zv7 HB.out⟩⟩
           case round =>
            clear H'
            try clear c1
            try clear c2
            try clear p2
            try clear q2
            try clear hx2
            try clear c5
            try clear p6
            try clear c7
            try clear c8
            try clear c10
            try clear c10b0
            try clear c11
            try clear c11b0
            try clear c12
            try clear c12b0
            try clear c13
            try clear c13b0
            try clear c13b1
            try clear c15
            try clear c15b0
            try clear c15b1
            try clear c19
            try clear c23
            try clear c23b0
            try clear y16_0
            try clear y16_1
            try clear y17_0
            try clear y17_1
            try clear y20_0
            try clear y20_1
            try clear y22_0
            try clear y22_1
            try clear y24_0
            try clear y24_1
            try clear y6_0
            try clear y6_1
            try clear y7_0
            try clear y7_1
            try clear y9_0
            try clear y9_1
            try clear u16_0
            try clear u16_1
            try clear u17_0
            try clear u17_1
            try clear u20_0
            try clear u20_1
            try clear u22_0
            try clear u22_1
            try clear u24_0
            try clear u24_1
            try clear u6_0
            try clear u6_1
            try clear u7_0
            try clear u7_1
            try clear u9_0
            try clear u9_1
            try clear hx277_0
            try clear p2
            try clear p277
            try clear p6
            try clear q2
            try clear q277
            obtain ⟨x42_4, rfl, HA, HK4, BK275, HB⟩ := hrel
            cases gk with
            | zero => exact absurd HA.out (by simp [impl_isLat.l2])
            | succ k4 =>
             have H := HA.out
             clear HA
             simp only [impl_isLat.l2] at H
             by_cases c25 : x42_4 < a0_0
             ·rw [if_pos c25] at H
              have c25b0 : decide (x42_4 < a0_0) = true := decide_eq_true c25
              clear c25
              replace H := zs4 H
              obtain ⟨t279, A260, H⟩ := H
              replace H : (if t279 < 0 then (some false) else ((impl_Lat_bound.f k4 a0_0 l0_1 x37_3 x42_4 false).bind fun t280 => (if t280 < 0 then (some false) else (impl_isLat.l2 k4 x37_3 a0_0 x37_3 a0_0 (wrap64 (x42_4 + 1)) a0_0 l0_1)))) = some r := H
              have A26 := zp.mk A260
              clear A260
              by_cases c27 : t279 < 0
              ·rw [if_pos c27] at H
               have c27b0 : decide (t279 < 0) = true := decide_eq_true c27
               clear c27
               obtain rfl := Option.some.inj H
               have y28_0 := zt0 BK275.out
               have y28_1 := zt1 BK275.out
               have u28_0 := zd BK275.out 0
               have u28_1 := zd BK275.out 1
               go_wp2_with (first | ((with_reducible refine zn (f := 75) rfl ?_); refine goesL_ (some 48) rfl rfl Try.func75 (by kernel_rfl) rfl #[.agg #[.int .i64 a0_0, .slice A0_1 l0_1.length c0_1], .int .i64 x37_3, .int .i64 x42_4, .bool true] rfl (by (try simp only [List.map_toArray, List.map_cons, List.map_nil]); first | done | rfl | (simp only [List.length_drop, List.length_take]; rfl)) ?_; (with_reducible refine (impl_Lat_bound.calls k4 a0_0 _ _ l0_1 x37_3 x42_4 true t279 _ ?side1 ?side2 A26.out).mono ?_); (case side1 => repeat (first | exact (Kd.zt HR0_1.out HB.out) | (with_reducible refine Kd.zr ?_ _) | (with_reducible refine Kd.zq ?_ _) | (with_reducible refine Kd.C_drew ?_))); (case side2 => exact HC0_1.out); rintro e w29 ⟨rfl, hb⟩; refine ⟨_, rfl, ?_⟩; replace BK275 := zp.mk (zl (zv8 BK275.out) hb); replace HB := zp.mk (zj (zv7 HB.out) hb); (try clear hb); (try clear hb2); (try clear hk); (try clear hi)))
               go_ret
               exact ⟨by first | rfl | (simp [errW_none, errW_some] <;> rfl) | (simp [*, errW_none, errW_some] <;> rfl), zv7 HB.out⟩
              ·rw [if_neg c27] at H
               have c27b0 : decide (t279 < 0) = false := decide_eq_false c27
               clear c27
               replace H := zs4 H
               obtain ⟨t280, A300, H⟩ := H
               replace H : (if t280 < 0 then (some false) else (impl_isLat.l2 k4 x37_3 a0_0 x37_3 a0_0 (wrap64 (x42_4 + 1)) a0_0 l0_1)) = some r := H
               have A30 := zp.mk A300
               clear A300
               by_cases c31 : t280 < 0
               ·rw [if_pos c31] at H
                have c31b0 : decide (t280 < 0) = true := decide_eq_true c31
                clear c31
                obtain rfl := Option.some.inj H
                have y32_0 := zt0 BK275.out
                have y32_1 := zt1 BK275.out
                have u32_0 := zd BK275.out 0
                have u32_1 := zd BK275.out 1
                go_wp2_with (first | ((with_reducible refine zn (f := 75) rfl ?_); refine goesL_ (some 48) rfl rfl Try.func75 (by kernel_rfl) rfl #[.agg #[.int .i64 a0_0, .slice A0_1 l0_1.length c0_1], .int .i64 x37_3, .int .i64 x42_4, .bool true] rfl (by (try simp only [List.map_toArray, List.map_cons, List.map_nil]); first | done | rfl | (simp only [List.length_drop, List.length_take]; rfl)) ?_; (with_reducible refine (impl_Lat_bound.calls k4 a0_0 _ _ l0_1 x37_3 x42_4 true t279 _ ?side1 ?side2 A26.out).mono ?_); (case side1 => repeat (first | exact (Kd.zt HR0_1.out HB.out) | (with_reducible refine Kd.zr ?_ _) | (with_reducible refine Kd.zq ?_ _) | (with_reducible refine Kd.C_drew ?_))); (case side2 => exact HC0_1.out); rintro e w33 ⟨rfl, hb⟩; refine ⟨_, rfl, ?_⟩; replace BK275 := zp.mk (zl (zv8 BK275.out) hb); replace HB := zp.mk (zj (zv7 HB.out) hb); (try clear hb); (try clear hb2); (try clear hk); (try clear hi); have y34_0 := zt0 BK275.out; have y34_1 := zt1 BK275.out; have u34_0 := zd BK275.out 0; have u34_1 := zd BK275.out 1) | (go_at_call 75; (with_reducible refine (impl_Lat_bound.calls k4 a0_0 _ _ l0_1 x37_3 x42_4 false t280 _ ?side1 ?side2 A30.out).mono ?_); (case side1 => repeat (first | exact (Kd.zt HR0_1.out HB.out) | (with_reducible refine Kd.zr ?_ _) | (with_reducible refine Kd.zq ?_ _) | (with_reducible refine Kd.C_drew ?_))); (case side2 => exact HC0_1.out); rintro e w35 ⟨rfl, hb⟩; replace BK275 := zp.mk (zl (zv8 BK275.out) hb); replace HB := zp.mk (zj (zv7 HB.out) hb); (try clear hb); (try clear hb2); (try clear hk); (try clear hi)))
                go_ret
                exact ⟨by first | rfl | (simp [errW_none, errW_some] <;> rfl) | (simp [*, errW_none, errW_some] <;> rfl), zv7 HB.out⟩
               ·rw [if_neg c31] at H
                have c31b0 : decide (t280 < 0) = false := decide_eq_false c31
                clear c31
                have H' := zp.mk H
                clear H
                have y36_0 := zt0 BK275.out
                have y36_1 := zt1 BK275.out
                have u36_0 := zd BK275.out 0
                have u36_1 := zd BK275.out 1
                go_wp2_with (first | ((with_reducible refine zn (f := 75) rfl ?_); refine goesL_ (some 48) rfl rfl Try.func75 (by kernel_rfl) rfl #[.agg #[.int .i64 a0_0, .slice A0_1 l0_1.length c0_1], .int .i64 x37_3, .int .i64 x42_4, .bool true] rfl (by (try simp only [List.map_toArray, List.map_cons, List.map_nil]); first | done | rfl | (simp only [List.length_drop, List.length_take]; rfl)) ?_; (with_reducible refine (impl_Lat_bound.calls k4 a0_0 _ _ l0_1 x37_3 x42_4 true t279 _ ?side1 ?side2 A26.out).mono ?_); (case side1 => repeat (first | exact (Kd.zt HR0_1.out HB.out) | (with_reducible refine Kd.zr ?_ _) | (with_reducible refine Kd.zq ?_ _) | (with_reducible refine Kd.C_drew ?_))); (case side2 => exact HC0_1.out); rintro e w37 ⟨rfl, hb⟩; refine ⟨_, rfl, ?_⟩; replace BK275 := zp.mk (zl (zv8 BK275.out) hb); replace HB := zp.mk (zj (zv7 HB.out) hb); (try clear hb); (try clear hb2); (try clear hk); (try clear hi); have y38_0 := zt0 BK275.out; have y38_1 := zt1 BK275.out; have u38_0 := zd BK275.out 0; have u38_1 := zd BK275.out 1) | (go_at_call 75; (with_reducible refine (impl_Lat_bound.calls k4 a0_0 _ _ l0_1 x37_3 x42_4 false t280 _ ?side1 ?side2 A30.out).mono ?_); (case side1 => repeat (first | exact (Kd.zt HR0_1.out HB.out) | (with_reducible refine Kd.zr ?_ _) | (with_reducible refine Kd.zq ?_ _) | (with_reducible refine Kd.C_drew ?_))); (case side2 => exact HC0_1.out); rintro e w39 ⟨rfl, hb⟩; replace BK275 := zp.mk (zl (zv8 BK275.out) hb); replace HB := zp.mk (zj (zv7 HB.out) hb); (try clear hb); (try clear hb2); (try clear hk); (try clear hi)))
                go_roundg k4
                case measure => have := HJ1.out; have := HK2.out; have := HK3.out; have := HK4.out; omega
                case rel => exact ⟨(wrap64 (x42_4 + 1)), (by first | rfl | (simp; done) | (simp [*]; done)), H', ⟨by have := HJ1.out; have := HK2.out; have := HK3.out; have := HK4.out; omega⟩, ⟨zv8 BK275.out⟩, ⟨zv7 HB.out⟩⟩
             ·rw [if_neg c25] at H
              have c25b0 : decide (x42_4 < a0_0) = false := decide_eq_false c25
              clear c25
              have H' := zp.mk H
              clear H
              go_wp2
              go_roundg k4
              case measure => have := HJ1.out; have := HK2.out; have := HK3.out; have := HK4.out; omega
              case rel => exact ⟨(wrap64 (x37_3 + 1)), (by first | rfl | (simp; done) | (simp [*]; done)), H', ⟨by have := HJ1.out; have := HK2.out; have := HK3.out; have := HK4.out; omega⟩, ⟨zv8 BK275.out⟩, ⟨zv7 HB.out⟩⟩
          ·rw [if_neg c23] at H
           have c23b0 : decide (x37_3 < a0_0) = false := decide_eq_false c23
           clear c23
           obtain rfl := Option.some.inj H
           go_wp2
           go_ret
           exact ⟨by first | rfl | (simp [errW_none, errW_some] <;> rfl) | (simp [*, errW_none, errW_some] <;> rfl), zv7 HB.out⟩
       ·replace c19 := Bool.eq_false_iff.mpr c19
        subst c19
        have H1 : (some false) = some r := by rw [if_neg (show ¬ (false = true) by decide)] at H; exact H
        clear H
        have H := H1
        clear H1
        obtain rfl := Option.some.inj H
        have y40_0 := zt0 BK275.out
        have y40_1 := zt1 BK275.out
        have u40_0 := zd BK275.out 0
        have u40_1 := zd BK275.out 1
        go_wp2_with (first | ((with_reducible refine zn (f := 101) rfl ?_); refine goesL_ (some 33) rfl rfl Try.func101 (by kernel_rfl) rfl #[.agg #[.int .i64 a0_0, .slice A0_1 l0_1.length c0_1]] rfl (by (try simp only [List.map_toArray, List.map_cons, List.map_nil]); first | done | rfl | (simp only [List.length_drop, List.length_take]; rfl)) ?_; (with_reducible refine (impl_Lat_isOrder.calls k2 a0_0 _ _ l0_1 false _ ?side1 ?side2 A18.out).mono ?_); (case side1 => repeat (first | exact (Kd.zt HR0_1.out HB.out) | (with_reducible refine Kd.zr ?_ _) | (with_reducible refine Kd.zq ?_ _) | (with_reducible refine Kd.C_drew ?_))); (case side2 => exact HC0_1.out); rintro e w41 ⟨rfl, hb⟩; refine ⟨_, rfl, ?_⟩; replace BK275 := zp.mk (zl (zv8 BK275.out) hb); replace HB := zp.mk (zj (zv7 HB.out) hb); (try clear hb); (try clear hb2); (try clear hk); (try clear hi)))
        go_ret
        exact ⟨by first | rfl | (simp [errW_none, errW_some] <;> rfl) | (simp [*, errW_none, errW_some] <;> rfl), zv7 HB.out⟩

/-! ### impl_Lat_has: function 83 -/
def impl_Lat_has.f (a0_0 : Int) (l0_1 : List Int) (a1 : Int) : Option (Bool) := (impl_in.f a1 0 (wrap64 (a0_0 - 1))).bind fun t282 => (some t282)
set_option maxHeartbeats 8000000 in
set_option maxRecDepth 100000 in
theorem impl_Lat_has.calls (a0_0 : Int) (A0_1 : Option Addr) (c0_1 : Nat) (l0_1 : List Int) (a1 : Int) (r : Bool) (w : World) (hr0_1 : Kd.C (Kd.int .u64) w A0_1 l0_1.length l0_1) (hc0_1 : l0_1.length ≤ c0_1) (h : impl_Lat_has.f a0_0 l0_1 a1 = some r) :
  Calls Try.prog 83 #[.agg #[.int .i64 a0_0, .slice A0_1 l0_1.length c0_1], .int .i64 a1] w fun e w' => e = .returned (.bool r) ∧ Below w.heap.size w w' := by
 have hu27 := Try.underlying27
 have HR0_1 := zp.mk hr0_1
 have HC0_1 := zp.mk hc0_1
 clear hr0_1 hc0_1
 have HB := zp.mk (Below.refl w.heap.size w)
 have H : ((impl_in.f a1 0 (wrap64 (a0_0 - 1))).bind fun t282 => (some t282)) = some r := h
 clear h
 replace H := zs4 H
 obtain ⟨t282, A30, H⟩ := H
 replace H : (some t282) = some r := H
 have A3 := zp.mk A30
 clear A30
 obtain rfl := Option.some.inj H
 go_enter Try.func83, Try.ntmps83
 go_wp2_with (first | ((with_reducible refine zo (N := 2) rfl ?_); refine zm ?hg (N := 2) ?hd (cs := #[.int .i64 a0_0, .slice A0_1 l0_1.length c0_1]) (t := 27) ?hr ?_; (case hd => rfl); (case hg => rfl); (case hr => first | (go_simp; done) | (go_simp; rfl)); intro gb281 hg w4 hbox hb; have BK281 := zp.mk (hbox); have GW281 := zp.mk ((zv3 (zv6 HB.out) hg)); have GE281 := zp.mk ((zv3 (zv6 HB.out) hg)); replace HB := zp.mk (zj (zv6 HB.out) hb); clear hb hbox hg; have y5_0 := zt0 BK281.out; have y5_1 := zt1 BK281.out; have u5_0 := zd BK281.out 0; have u5_1 := zd BK281.out 1) | ((with_reducible refine zn (f := 82) rfl ?_); refine goesL_ (some 9) rfl rfl Try.func82 (by kernel_rfl) rfl #[.int .i64 a1, .int .i64 0, .int .i64 (wrap64 (a0_0 - 1))] rfl (by (try simp only [List.map_toArray, List.map_cons, List.map_nil]); first | done | rfl | (simp only [List.length_drop, List.length_take]; rfl)) ?_; (with_reducible refine (impl_in.calls a1 0 (wrap64 (a0_0 - 1)) t282 _ A3.out).mono ?_); rintro e w' ⟨rfl, ⟨nd, rfl⟩⟩; refine ⟨_, rfl, ?_⟩))
 go_ret
 exact ⟨by first | rfl | (simp [errW_none, errW_some] <;> rfl) | (simp [*, errW_none, errW_some] <;> rfl), zv7 HB.out⟩

/-! ### impl_isSource: function 94 -/
def impl_isSource.f (a0 : Int) : Option (Bool) := (impl_in.f a0 0 3).bind fun t283 => (some t283)
set_option maxHeartbeats 8000000 in
set_option maxRecDepth 100000 in
theorem impl_isSource.calls (a0 : Int) (r : Bool) (w : World) (h : impl_isSource.f a0 = some r) :
  Calls Try.prog 94 #[.int .i64 a0] w fun e w' => e = .returned (.bool r) ∧ Drawn0 w w' := by
 have H : ((impl_in.f a0 0 3).bind fun t283 => (some t283)) = some r := h
 clear h
 replace H := zs4 H
 obtain ⟨t283, A20, H⟩ := H
 replace H : (some t283) = some r := H
 have A2 := zp.mk A20
 clear A20
 obtain rfl := Option.some.inj H
 go_enter Try.func94, Try.ntmps94
 go_wp2_with (first | ((with_reducible refine zn (f := 82) rfl ?_); refine goesL_ (some 4) rfl rfl Try.func82 (by kernel_rfl) rfl #[.int .i64 a0, .int .i64 0, .int .i64 3] rfl (by (try simp only [List.map_toArray, List.map_cons, List.map_nil]); first | done | rfl | (simp only [List.length_drop, List.length_take]; rfl)) ?_; (with_reducible refine (impl_in.calls a0 0 3 t283 _ A2.out).mono ?_); rintro e w' ⟨rfl, ⟨nd, rfl⟩⟩; refine ⟨_, rfl, ?_⟩))
 go_ret
 exact ⟨by first | rfl | (simp; done) | (simp [*]; done), by repeat (first | exact Drawn0.refl _ | apply Drawn0.step)⟩

/-! ### impl_isKey: function 95 -/
def impl_isKey.f (a0 : Int) : Option (Bool) := (impl_in.f a0 0 15).bind fun t284 => (some t284)
set_option maxHeartbeats 8000000 in
set_option maxRecDepth 100000 in
theorem impl_isKey.calls (a0 : Int) (r : Bool) (w : World) (h : impl_isKey.f a0 = some r) :
  Calls Try.prog 95 #[.int .i64 a0] w fun e w' => e = .returned (.bool r) ∧ Drawn0 w w' := by
 have H : ((impl_in.f a0 0 15).bind fun t284 => (some t284)) = some r := h
 clear h
 replace H := zs4 H
 obtain ⟨t284, A20, H⟩ := H
 replace H : (some t284) = some r := H
 have A2 := zp.mk A20
 clear A20
 obtain rfl := Option.some.inj H
 go_enter Try.func95, Try.ntmps95
 go_wp2_with (first | ((with_reducible refine zn (f := 82) rfl ?_); refine goesL_ (some 4) rfl rfl Try.func82 (by kernel_rfl) rfl #[.int .i64 a0, .int .i64 0, .int .i64 15] rfl (by (try simp only [List.map_toArray, List.map_cons, List.map_nil]); first | done | rfl | (simp only [List.length_drop, List.length_take]; rfl)) ?_; (with_reducible refine (impl_in.calls a0 0 15 t284 _ A2.out).mono ?_); rintro e w' ⟨rfl, ⟨nd, rfl⟩⟩; refine ⟨_, rfl, ?_⟩))
 go_ret
 exact ⟨by first | rfl | (simp; done) | (simp [*]; done), by repeat (first | exact Drawn0.refl _ | apply Drawn0.step)⟩

/-! ### impl_Punct_isPlace: function 105 -/
def impl_Punct_isPlace.f (a0_0 : Int) (a0_1 : Int) (a0_2 : Int) (a0_3 : Int) : Option (Bool) := (impl_isSource.f a0_0).bind fun t286 => (if t286 = true then ((impl_in.f a0_1 0 4).bind fun t287 => (if t287 = true then ((impl_isKey.f a0_2).bind fun t288 => (some t288)) else (some false))) else (some false))
set_option maxHeartbeats 8000000 in
set_option maxRecDepth 100000 in
theorem impl_Punct_isPlace.calls (a0_0 : Int) (a0_1 : Int) (a0_2 : Int) (a0_3 : Int) (r : Bool) (w : World) (h : impl_Punct_isPlace.f a0_0 a0_1 a0_2 a0_3 = some r) :
  Calls Try.prog 105 #[.agg #[.int .i64 a0_0, .int .i64 a0_1, .int .i64 a0_2, .int .i64 a0_3]] w fun e w' => e = .returned (.bool r) ∧ Below w.heap.size w w' := by
 have hu58 := Try.underlying58
 have HB := zp.mk (Below.refl w.heap.size w)
 have H : ((impl_isSource.f a0_0).bind fun t286 => (if t286 = true then ((impl_in.f a0_1 0 4).bind fun t287 => (if t287 = true then ((impl_isKey.f a0_2).bind fun t288 => (some t288)) else (some false))) else (some false))) = some r := h
 clear h
 replace H := zs4 H
 obtain ⟨t286, A20, H⟩ := H
 replace H : (if t286 = true then ((impl_in.f a0_1 0 4).bind fun t287 => (if t287 = true then ((impl_isKey.f a0_2).bind fun t288 => (some t288)) else (some false))) else (some false)) = some r := H
 have A2 := zp.mk A20
 clear A20
 by_cases c3 : t286 = true
 ·subst c3
  have H1 : ((impl_in.f a0_1 0 4).bind fun t287 => (if t287 = true then ((impl_isKey.f a0_2).bind fun t288 => (some t288)) else (some false))) = some r := by rw [if_pos rfl] at H; exact H
  clear H
  have H := H1
  clear H1
  replace H := zs4 H
  obtain ⟨t287, A40, H⟩ := H
  replace H : (if t287 = true then ((impl_isKey.f a0_2).bind fun t288 => (some t288)) else (some false)) = some r := H
  have A4 := zp.mk A40
  clear A40
  by_cases c5 : t287 = true
  ·subst c5
   have H1 : ((impl_isKey.f a0_2).bind fun t288 => (some t288)) = some r := by rw [if_pos rfl] at H; exact H
   clear H
   have H := H1
   clear H1
   replace H := zs4 H
   obtain ⟨t288, A60, H⟩ := H
   replace H : (some t288) = some r := H
   have A6 := zp.mk A60
   clear A60
   obtain rfl := Option.some.inj H
   go_enter Try.func105, Try.ntmps105
   go_wp2_with (first | ((with_reducible refine zo (N := 1) rfl ?_); refine zm ?hg (N := 1) ?hd (cs := #[.int .i64 a0_0, .int .i64 a0_1, .int .i64 a0_2, .int .i64 a0_3]) (t := 58) ?hr ?_; (case hd => rfl); (case hg => rfl); (case hr => first | (go_simp; done) | (go_simp; rfl)); intro gb285 hg w7 hbox hb; have BK285 := zp.mk (hbox); have GW285 := zp.mk ((zv3 (zv6 HB.out) hg)); have GE285 := zp.mk ((zv3 (zv6 HB.out) hg)); replace HB := zp.mk (zj (zv6 HB.out) hb); clear hb hbox hg; have y8_0 := zt0 BK285.out; have y8_1 := zt1 BK285.out; have y8_2 := zt2 BK285.out; have y8_3 := zt3 BK285.out; have u8_0 := zd BK285.out 0; have u8_1 := zd BK285.out 1; have u8_2 := zd BK285.out 2; have u8_3 := zd BK285.out 3) | ((with_reducible refine zn (f := 94) rfl ?_); refine goesL_ (some 5) rfl rfl Try.func94 (by kernel_rfl) rfl #[.int .i64 a0_0] rfl (by (try simp only [List.map_toArray, List.map_cons, List.map_nil]); first | done | rfl | (simp only [List.length_drop, List.length_take]; rfl)) ?_; (with_reducible refine (impl_isSource.calls a0_0 true _ A2.out).mono ?_); rintro e w' ⟨rfl, ⟨nd, rfl⟩⟩; refine ⟨_, rfl, ?_⟩) | (go_at_call 82; (with_reducible refine (impl_in.calls a0_1 0 4 true _ A4.out).mono ?_); rintro e w' ⟨rfl, ⟨nd, rfl⟩⟩) | (go_at_call 95; (with_reducible refine (impl_isKey.calls a0_2 t288 _ A6.out).mono ?_); rintro e w' ⟨rfl, ⟨nd, rfl⟩⟩))
   go_ret
   exact ⟨by first | rfl | (simp [errW_none, errW_some] <;> rfl) | (simp [*, errW_none, errW_some] <;> rfl), zv7 HB.out⟩
  ·replace c5 := Bool.eq_false_iff.mpr c5
   subst c5
   have H1 : (some false) = some r := by rw [if_neg (show ¬ (false = true) by decide)] at H; exact H
   clear H
   have H := H1
   clear H1
   obtain rfl := Option.some.inj H
   go_enter Try.func105, Try.ntmps105
   go_wp2_with (first | ((with_reducible refine zo (N := 1) rfl ?_); refine zm ?hg (N := 1) ?hd (cs := #[.int .i64 a0_0, .int .i64 a0_1, .int .i64 a0_2, .int .i64 a0_3]) (t := 58) ?hr ?_; (case hd => rfl); (case hg => rfl); (case hr => first | (go_simp; done) | (go_simp; rfl)); intro gb285 hg w9 hbox hb; have BK285 := zp.mk (hbox); have GW285 := zp.mk ((zv3 (zv6 HB.out) hg)); have GE285 := zp.mk ((zv3 (zv6 HB.out) hg)); replace HB := zp.mk (zj (zv6 HB.out) hb); clear hb hbox hg; have y10_0 := zt0 BK285.out; have y10_1 := zt1 BK285.out; have y10_2 := zt2 BK285.out; have y10_3 := zt3 BK285.out; have u10_0 := zd BK285.out 0; have u10_1 := zd BK285.out 1; have u10_2 := zd BK285.out 2; have u10_3 := zd BK285.out 3) | ((with_reducible refine zn (f := 94) rfl ?_); refine goesL_ (some 5) rfl rfl Try.func94 (by kernel_rfl) rfl #[.int .i64 a0_0] rfl (by (try simp only [List.map_toArray, List.map_cons, List.map_nil]); first | done | rfl | (simp only [List.length_drop, List.length_take]; rfl)) ?_; (with_reducible refine (impl_isSource.calls a0_0 true _ A2.out).mono ?_); rintro e w' ⟨rfl, ⟨nd, rfl⟩⟩; refine ⟨_, rfl, ?_⟩) | (go_at_call 82; (with_reducible refine (impl_in.calls a0_1 0 4 false _ A4.out).mono ?_); rintro e w' ⟨rfl, ⟨nd, rfl⟩⟩))
   go_ret
   exact ⟨by first | rfl | (simp [errW_none, errW_some] <;> rfl) | (simp [*, errW_none, errW_some] <;> rfl), zv7 HB.out⟩
 ·replace c3 := Bool.eq_false_iff.mpr c3
  subst c3
  have H1 : (some false) = some r := by rw [if_neg (show ¬ (false = true) by decide)] at H; exact H
  clear H
  have H := H1
  clear H1
  obtain rfl := Option.some.inj H
  go_enter Try.func105, Try.ntmps105
  go_wp2_with (first | ((with_reducible refine zo (N := 1) rfl ?_); refine zm ?hg (N := 1) ?hd (cs := #[.int .i64 a0_0, .int .i64 a0_1, .int .i64 a0_2, .int .i64 a0_3]) (t := 58) ?hr ?_; (case hd => rfl); (case hg => rfl); (case hr => first | (go_simp; done) | (go_simp; rfl)); intro gb285 hg w11 hbox hb; have BK285 := zp.mk (hbox); have GW285 := zp.mk ((zv3 (zv6 HB.out) hg)); have GE285 := zp.mk ((zv3 (zv6 HB.out) hg)); replace HB := zp.mk (zj (zv6 HB.out) hb); clear hb hbox hg; have y12_0 := zt0 BK285.out; have y12_1 := zt1 BK285.out; have y12_2 := zt2 BK285.out; have y12_3 := zt3 BK285.out; have u12_0 := zd BK285.out 0; have u12_1 := zd BK285.out 1; have u12_2 := zd BK285.out 2; have u12_3 := zd BK285.out 3) | ((with_reducible refine zn (f := 94) rfl ?_); refine goesL_ (some 5) rfl rfl Try.func94 (by kernel_rfl) rfl #[.int .i64 a0_0] rfl (by (try simp only [List.map_toArray, List.map_cons, List.map_nil]); first | done | rfl | (simp only [List.length_drop, List.length_take]; rfl)) ?_; (with_reducible refine (impl_isSource.calls a0_0 false _ A2.out).mono ?_); rintro e w' ⟨rfl, ⟨nd, rfl⟩⟩; refine ⟨_, rfl, ?_⟩))
  go_ret
  exact ⟨by first | rfl | (simp [errW_none, errW_some] <;> rfl) | (simp [*, errW_none, errW_some] <;> rfl), zv7 HB.out⟩

/-! ### impl_Punct_front: function 106 -/
def impl_Punct_front.f (a0_0 : Int) (a0_1 : Int) (a0_2 : Int) (a0_3 : Int) (a1 : Int) : Option (Int) := if 0 ≤ (wrap64 (4 - a0_1)) then (some (shr .i64 a1 (wrap64 (4 - a0_1)))) else (none)
set_option maxHeartbeats 8000000 in
set_option maxRecDepth 100000 in
theorem impl_Punct_front.calls (a0_0 : Int) (a0_1 : Int) (a0_2 : Int) (a0_3 : Int) (a1 : Int) (r : Int) (w : World) (h : impl_Punct_front.f a0_0 a0_1 a0_2 a0_3 a1 = some r) :
  Calls Try.prog 106 #[.agg #[.int .i64 a0_0, .int .i64 a0_1, .int .i64 a0_2, .int .i64 a0_3], .int .i64 a1] w fun e w' => e = .returned (.int .i64 r) ∧ Below w.heap.size w w' := by
 have hu58 := Try.underlying58
 have HB := zp.mk (Below.refl w.heap.size w)
 have H : (if 0 ≤ (wrap64 (4 - a0_1)) then (some (shr .i64 a1 (wrap64 (4 - a0_1)))) else (none)) = some r := h
 clear h
 obtain ⟨ji3, hji3⟩ : ∃ j_ : Int, (wrap64 (4 - a0_1)) = j_ := ⟨_, rfl⟩
 replace H : (if 0 ≤ (ji3) then (some (shr .i64 a1 (ji3))) else (none)) = some r := by first | (rw [hji3] at H; exact H) | (simp only [hji3] at H ⊢; exact H)
 have hji3w : (IntKind.i64.wrap (4 - a0_1)) = ji3 := (i64_w _).trans hji3
 by_cases c4 : 0 ≤ (ji3)
 ·rw [if_pos c4] at H
  have c4b0 := eq_true c4
  have c4b1 : decide (0 ≤ (ji3)) = true := decide_eq_true c4
  clear c4
  obtain ⟨ji5, hji5⟩ : ∃ j_ : Int, (shr .i64 a1 (ji3)) = j_ := ⟨_, rfl⟩
  replace H : (some ji5) = some r := by first | (rw [hji5] at H; exact H) | (simp only [hji5] at H ⊢; exact H)
  have hji5_ : (a1 / 2 ^ min (ji3).toNat 64) = ji5 := hji5
  have hji5z : (ji3) ≤ 64 → (a1 / 2 ^ (ji3).toNat) = ji5 := shr_small hji5
  obtain rfl := Option.some.inj H
  go_enter Try.func106, Try.ntmps106
  go_wp2_with (first | ((with_reducible refine zo (N := 2) rfl ?_); refine zm ?hg (N := 2) ?hd (cs := #[.int .i64 a0_0, .int .i64 a0_1, .int .i64 a0_2, .int .i64 a0_3]) (t := 58) ?hr ?_; (case hd => rfl); (case hg => rfl); (case hr => first | (go_simp; done) | (go_simp; rfl)); intro gb289 hg w6 hbox hb; have BK289 := zp.mk (hbox); have GW289 := zp.mk ((zv3 (zv6 HB.out) hg)); have GE289 := zp.mk ((zv3 (zv6 HB.out) hg)); replace HB := zp.mk (zj (zv6 HB.out) hb); clear hb hbox hg; have y7_0 := zt0 BK289.out; have y7_1 := zt1 BK289.out; have y7_2 := zt2 BK289.out; have y7_3 := zt3 BK289.out; have u7_0 := zd BK289.out 0; have u7_1 := zd BK289.out 1; have u7_2 := zd BK289.out 2; have u7_3 := zd BK289.out 3))
  go_ret
  exact ⟨by first | rfl | (simp [errW_none, errW_some] <;> rfl) | (simp only [← hji3, ← hji5]; first | rfl | (simp [errW_none, errW_some] <;> rfl)) | (simp [*, errW_none, errW_some] <;> rfl), zv7 HB.out⟩
 ·rw [if_neg c4] at H
  exact absurd H (by simp)

end Go.Proofs.Ytdpoliolinghfaa.QFnExactPolicySet
