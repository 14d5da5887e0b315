/- Proved: calls of the program come to the answers of the plain Lean functions that stand beside them. Each contract names its conditions. (Written by a program of this session, over the printer of the kit.) -/
import Derived.Test.YtdpoliolinghfaaZPolicySetQFnExactPolicySetx0
import Derived.Test.YtdpoliolinghfaaZPolicySetQFnExactPolicySetx2
import Derived.Test.YtdpoliolinghfaaZPolicySetQFnExactPolicySetx3
namespace Go.Proofs.Ytdpoliolinghfaa.QFnExactPolicySet
open Go.RowKit Go.Proofs.YtdpoliolinghfaaW.PrintWords Go.Proofs.YtdpoliolinghfaaW.PrintLast Go.Proofs.YtdpoliolinghfaaW.PrintMore
attribute [local go_sem] max2_int min2_int max_two min_two max_three min_three max_four min_four   -- for this text's walks alone
set_option linter.unusedVariables false
set_option linter.unusedSimpArgs false

/-! ### spec_LatOk: function 18 -/
mutual
def spec_LatOk.j0 : Nat → Bool → Int → List Int → Option (Bool)
 | 0, _, _, _ => none
 | k + 1, x23, x160000, x160001 => if x23 = true then (some false) else (spec_LatOk.l0 k 0 x160000 x160001)
def spec_LatOk.l0 : Nat → Int → Int → List Int → Option (Bool)
 | 0, _, _, _ => none
 | k + 1, x3, x160000, x160001 => if x3 < x160000 then (if 0 ≤ x3 then (if x3 < (x160001.length : Int) then ((spec_l01Bit.f (rd x160001 x3) x3).bind fun t161 => (if t161 = true then ((spec_l01Power.f k x160000).bind fun t163 => (spec_LatOk.j2 k x3 (decide ((rd x160001 x3) ≥ t163)) x160000 x160001)) else (spec_LatOk.j2 k x3 true x160000 x160001))) else (none)) else (none)) else (spec_LatOk.l3 k 0 x160000 x160001)
def spec_LatOk.j2 : Nat → Int → Bool → Int → List Int → Option (Bool)
 | 0, _, _, _, _ => none
 | k + 1, x3, x48, x160000, x160001 => if x48 = true then (some false) else (spec_LatOk.l1 k x3 0 x160000 x160001)
def spec_LatOk.l1 : Nat → Int → Int → Int → List Int → Option (Bool)
 | 0, _, _, _, _ => none
 | k + 1, x3, x4, x160000, x160001 => if x4 < x160000 then (if x3 = x4 then (spec_LatOk.j4 k x3 x4 false x160000 x160001) else (if 0 ≤ x3 then (if x3 < (x160001.length : Int) then ((spec_l01Bit.f (rd x160001 x3) x4).bind fun t165 => (if t165 = true then (if 0 ≤ x4 then (if x4 < (x160001.length : Int) then ((spec_l01Bit.f (rd x160001 x4) x3).bind fun t167 => (spec_LatOk.j4 k x3 x4 t167 x160000 x160001)) else (none)) else (none)) else (spec_LatOk.j4 k x3 x4 false x160000 x160001))) else (none)) else (none))) else (spec_LatOk.l0 k (wrap64 (x3 + 1)) x160000 x160001)
def spec_LatOk.j4 : Nat → Int → Int → Bool → Int → List Int → Option (Bool)
 | 0, _, _, _, _, _ => none
 | k + 1, x3, x4, x75, x160000, x160001 => if x75 = true then (some false) else (spec_LatOk.l2 k x3 x4 0 x160000 x160001)
def spec_LatOk.l2 : Nat → Int → Int → Int → Int → List Int → Option (Bool)
 | 0, _, _, _, _, _ => none
 | k + 1, x3, x4, x5, x160000, x160001 => if x5 < x160000 then (if 0 ≤ x3 then (if x3 < (x160001.length : Int) then ((spec_l01Bit.f (rd x160001 x3) x4).bind fun t169 => (if t169 = true then (if 0 ≤ x4 then (if x4 < (x160001.length : Int) then ((spec_l01Bit.f (rd x160001 x4) x5).bind fun t171 => (if t171 = true then ((spec_l01Bit.f (rd x160001 x3) x5).bind fun t173 => (if t173 = true then (spec_LatOk.l2 k x3 x4 (wrap64 (x5 + 1)) x160000 x160001) else (some false))) else (spec_LatOk.l2 k x3 x4 (wrap64 (x5 + 1)) x160000 x160001))) else (none)) else (none)) else (spec_LatOk.l2 k x3 x4 (wrap64 (x5 + 1)) x160000 x160001))) else (none)) else (none)) else (spec_LatOk.l1 k x3 (wrap64 (x4 + 1)) x160000 x160001)
def spec_LatOk.l3 : Nat → Int → Int → List Int → Option (Bool)
 | 0, _, _, _ => none
 | k + 1, x6, x160000, x160001 => if x6 < x160000 then (spec_LatOk.l4 k x6 0 x160000 x160001) else (some true)
def spec_LatOk.l4 : Nat → Int → Int → Int → List Int → Option (Bool)
 | 0, _, _, _, _ => none
 | k + 1, x6, x7, x160000, x160001 => if x7 < x6 then ((spec_l01Bound.f k x160000 x160001 x6 x7 true).bind fun t174 => (if t174 < 0 then (some false) else ((spec_l01Bound.f k x160000 x160001 x6 x7 false).bind fun t175 => (if t175 < 0 then (some false) else (spec_LatOk.l4 k x6 (wrap64 (x7 + 1)) x160000 x160001))))) else (spec_LatOk.l3 k (wrap64 (x6 + 1)) x160000 x160001)
end
def spec_LatOk.f (k : Nat) (a0_0 : Int) (l0_1 : List Int) : Option (Bool) := if a0_0 < 1 then (spec_LatOk.j0 k true a0_0 l0_1) else (if a0_0 > 16 then (spec_LatOk.j0 k true a0_0 l0_1) else (spec_LatOk.j0 k ((l0_1.length : Int) != a0_0) a0_0 l0_1))
set_option maxHeartbeats 8000000 in
set_option maxRecDepth 100000 in
theorem spec_LatOk.calls (k : Nat) (a0_0 : Int) (A0_1 : Option Addr) (c0_1 : Nat) (l0_1 : List Int) (r : Bool) (w : World) (hr0_1 : Kd.C (Kd.int .u64) w A0_1 l0_1.length l0_1) (hc0_1 : l0_1.length ≤ c0_1) (h : spec_LatOk.f k a0_0 l0_1 = some r) :
  Calls Try.prog 18 #[.agg #[.int .i64 a0_0, .slice A0_1 l0_1.length c0_1]] w fun e w' => e = .returned (.bool r) ∧ Below w.heap.size w w' := by
 have hu27 := Try.underlying27
 have HR0_1 := zp.mk hr0_1
 have HC0_1 := zp.mk hc0_1
 clear hr0_1 hc0_1
 have HB := zp.mk (Below.refl w.heap.size w)
 have H : (if a0_0 < 1 then (spec_LatOk.j0 k true a0_0 l0_1) else (if a0_0 > 16 then (spec_LatOk.j0 k true a0_0 l0_1) else (spec_LatOk.j0 k ((l0_1.length : Int) != a0_0) a0_0 l0_1))) = some r := h
 clear h
 have HC2 := zp.mk H
 clear H
 go_enter Try.func18, Try.ntmps18
 go_upto_region 1 with (first | ((with_reducible refine zo (N := 1) rfl ?_); (try (refine gate_guard (by rfl) ?_; dsimp only)); refine zm ?hg (N := 1) ?hd (cs := #[.int .i64 a0_0, .slice A0_1 l0_1.length c0_1]) (t := 27) ?hr ?_; (case hd => rfl); (case hg => rfl); (case hr => first | (go_simp; done) | (go_simp; rfl)); intro gb159 hg w3 hbox hb; have BK159 := zp.mk (hbox); have GW159 := zp.mk ((zv3 (zv6 HB.out) hg)); have GE159 := zp.mk ((zv3 (zv6 HB.out) hg)); replace HB := zp.mk (zj (zv6 HB.out) hb); clear hb hbox hg))
 repeat (go_quiet (first | ((with_reducible refine zo (N := 1) rfl ?_); (try (refine gate_guard (by rfl) ?_; dsimp only)); refine zm ?hg (N := 1) ?hd (cs := #[.int .i64 a0_0, .slice A0_1 l0_1.length c0_1]) (t := 27) ?hr ?_; (case hd => rfl); (case hg => rfl); (case hr => first | (go_simp; done) | (go_simp; rfl)); intro gb159 hg w3 hbox hb; have BK159 := zp.mk (hbox); have GW159 := zp.mk ((zv3 (zv6 HB.out) hg)); have GE159 := zp.mk ((zv3 (zv6 HB.out) hg)); replace HB := zp.mk (zj (zv6 HB.out) hb); clear hb hbox hg)); go_upto_region 1 with (first | ((with_reducible refine zo (N := 1) rfl ?_); (try (refine gate_guard (by rfl) ?_; dsimp only)); refine zm ?hg (N := 1) ?hd (cs := #[.int .i64 a0_0, .slice A0_1 l0_1.length c0_1]) (t := 27) ?hr ?_; (case hd => rfl); (case hg => rfl); (case hr => first | (go_simp; done) | (go_simp; rfl)); intro gb159 hg w3 hbox hb; have BK159 := zp.mk (hbox); have GW159 := zp.mk ((zv3 (zv6 HB.out) hg)); have GE159 := zp.mk ((zv3 (zv6 HB.out) hg)); replace HB := zp.mk (zj (zv6 HB.out) hb); clear hb hbox hg)))
 (try simp only [Act.put, zs1, zs2, zs3])
 go_cut [23] (fun v23 wc => ∃ (kq : Nat) (x23_1 : Bool), v23 = .bool x23_1 ∧ zp (spec_LatOk.j0 kq x23_1 a0_0 l0_1 = some r) ∧ zp (kq ≤ k) ∧ zp (wc.heap[gb159]? = some (.cells #[.int .i64 a0_0, (.slice A0_1 l0_1.length c0_1)] 27 (0, 0))) ∧ zp (Below w.heap.size w wc))
 case first =>
  have H := HC2.out
  clear HC2
  by_cases c4 : a0_0 < 1
  ·rw [if_pos c4] at H
   have c4b0 : decide (a0_0 < 1) = true := decide_eq_true c4
   clear c4
   (first | rw [c4b0] | (simp only [i64_w, i32_w]; rw [c4b0]) | skip)
   have H' := zp.mk H
   clear H
   have y5_0 := zt0 BK159.out
   have y5_1 := zt1 BK159.out
   have u5_0 := zd BK159.out 0
   have u5_1 := zd BK159.out 1
   go_wp2
   repeat (go_quiet (fail); try go_wp2)
   go_meet
   case rel => exact ⟨_, (true), (by first | rfl | (simp; done) | (simp [*]; done)), H', ⟨by first | omega | exact Nat.le_refl _⟩, ⟨zv8 BK159.out⟩, ⟨zv7 HB.out⟩⟩
  ·rw [if_neg c4] at H
   have c4b0 : decide (a0_0 < 1) = false := decide_eq_false c4
   clear c4
   (first | rw [c4b0] | (simp only [i64_w, i32_w]; rw [c4b0]) | skip)
   by_cases c6 : a0_0 > 16
   ·rw [if_pos c6] at H
    have c6b0 : decide (16 < a0_0) = true := decide_eq_true c6
    clear c6
    have H' := zp.mk H
    clear H
    have y7_0 := zt0 BK159.out
    have y7_1 := zt1 BK159.out
    have u7_0 := zd BK159.out 0
    have u7_1 := zd BK159.out 1
    go_wp2
    repeat (go_quiet (fail); try go_wp2)
    go_meet
    case rel => exact ⟨_, (true), (by first | rfl | (simp; done) | (simp [*]; done)), H', ⟨by first | omega | exact Nat.le_refl _⟩, ⟨zv8 BK159.out⟩, ⟨zv7 HB.out⟩⟩
   ·rw [if_neg c6] at H
    have c6b0 : decide (16 < a0_0) = false := decide_eq_false c6
    clear c6
    have H' := zp.mk H
    clear H
    have y8_0 := zt0 BK159.out
    have y8_1 := zt1 BK159.out
    have u8_0 := zd BK159.out 0
    have u8_1 := zd BK159.out 1
    go_wp2
    repeat (go_quiet (fail); try go_wp2)
    go_meet
    case rel => exact ⟨_, (((l0_1.length : Int) != a0_0)), (by first | rfl | (simp; done) | (simp [*]; done)), H', ⟨by first | omega | exact Nat.le_refl _⟩, ⟨zv8 BK159.out⟩, ⟨zv7 HB.out⟩⟩
 case rest =>
  clear HC2
  try clear c1
  try clear p2
  try clear c4
  try clear c4b0
  try clear c6
  try clear c6b0
  try clear y5_0
  try clear y5_1
  try clear y7_0
  try clear y7_1
  try clear y8_0
  try clear y8_1
  try clear u5_0
  try clear u5_1
  try clear u7_0
  try clear u7_1
  try clear u8_0
  try clear u8_1
  obtain ⟨kq, x23_1, rfl, HA, HJ1, BK159, HB⟩ := hcut
  cases kq with
  | zero => exact absurd HA.out (by simp [spec_LatOk.j0])
  | succ kj1 =>
   have H := HA.out
   clear HA
   simp only [spec_LatOk.j0] at H
   by_cases c9 : x23_1 = true
   ·subst c9
    have H1 : (some false) = some r := by rw [if_pos rfl] at H; exact H
    clear H
    have H := H1
    clear H1
    obtain rfl := Option.some.inj H
    go_wp2
    repeat (go_quiet (fail); try go_wp2)
    go_ret
    exact ⟨by first | rfl | (simp [errW_none, errW_some] <;> rfl) | (simp [*, errW_none, errW_some] <;> rfl), zv7 HB.out⟩
   ·replace c9 := Bool.eq_false_iff.mpr c9
    subst c9
    have H1 : (spec_LatOk.l0 kj1 0 a0_0 l0_1) = some r := by rw [if_neg (show ¬ (false = true) by decide)] at H; exact H
    clear H
    have H := H1
    clear H1
    have H' := zp.mk H
    clear H
    go_wp2
    repeat (go_quiet (fail); try go_wp2)
    go_loopg [3] kj1 (fun kq v3 w' => ∃ (x3_2 : Int), v3 = .int .i64 x3_2 ∧ zp (spec_LatOk.l0 kq x3_2 a0_0 l0_1 = some r) ∧ zp (kq ≤ kj1) ∧ zp (w'.heap[gb159]? = some (.cells #[.int .i64 a0_0, (.slice A0_1 l0_1.length c0_1)] 27 (0, 0))) ∧ zp (Below w.heap.size w w'))
    case atStart => exact ⟨(0), (by first | rfl | (simp; done) | (simp [*]; done)), H', ⟨Nat.le_refl _⟩, ⟨zv8 BK159.out⟩, ⟨zv7 HB.out⟩⟩
    case round =>
     clear H'
     try clear c1
     try clear p2
     try clear c4
     try clear c4b0
     try clear c6
     try clear c6b0
     try clear c9
     try clear y5_0
     try clear y5_1
     try clear y7_0
     try clear y7_1
     try clear y8_0
     try clear y8_1
     try clear u5_0
     try clear u5_1
     try clear u7_0
     try clear u7_1
     try clear u8_0
     try clear u8_1
     try clear p2
     obtain ⟨x3_2, rfl, HA, HK2, BK159, HB⟩ := hrel
     cases gk with
     | zero => exact absurd HA.out (by simp [spec_LatOk.l0])
     | succ k2 =>
      have H := HA.out
      clear HA
      simp only [spec_LatOk.l0] at H
      by_cases c10 : x3_2 < a0_0
      ·rw [if_pos c10] at H
       have c10b0 : decide (x3_2 < a0_0) = true := decide_eq_true c10
       clear c10
       have HC11 := zp.mk H
       clear H
       have y12_0 := zt0 BK159.out
       have y12_1 := zt1 BK159.out
       have u12_0 := zd BK159.out 0
       have u12_1 := zd BK159.out 1
       go_upto_region 6 with (fail)
       repeat (go_quiet (fail); go_upto_region 6 with (fail))
       go_cut [48] (fun v48 wc => ∃ (kq : Nat) (x48_10 : Bool), v48 = .bool x48_10 ∧ zp (spec_LatOk.j2 kq x3_2 x48_10 a0_0 l0_1 = some r) ∧ zp (kq ≤ k2) ∧ zp (wc.heap[gb159]? = some (.cells #[.int .i64 a0_0, (.slice A0_1 l0_1.length c0_1)] 27 (0, 0))) ∧ zp (Below w.heap.size w wc))
       case first =>
        have H := HC11.out
        clear HC11
        by_cases c13 : 0 ≤ x3_2
        ·rw [if_pos c13] at H
         have c13b0 : decide (0 ≤ x3_2) = true := decide_eq_true c13
         clear c13
         (first | rw [c13b0] | (simp only [i64_w, i32_w]; rw [c13b0]) | skip)
         by_cases c14 : x3_2 < (l0_1.length : Int)
         ·rw [if_pos c14] at H
          have c14b0 : decide (x3_2 < (l0_1.length : Int)) = true := decide_eq_true c14
          clear c14
          replace H := zs4 H
          obtain ⟨t161, A150, H⟩ := H
          replace H : (if t161 = true then ((spec_l01Power.f k2 a0_0).bind fun t163 => (spec_LatOk.j2 k2 x3_2 (decide ((rd l0_1 x3_2) ≥ t163)) a0_0 l0_1)) else (spec_LatOk.j2 k2 x3_2 true a0_0 l0_1)) = some r := H
          have A15 := zp.mk A150
          clear A150
          by_cases c16 : t161 = true
          ·subst c16
           have H1 : ((spec_l01Power.f k2 a0_0).bind fun t163 => (spec_LatOk.j2 k2 x3_2 (decide ((rd l0_1 x3_2) ≥ t163)) a0_0 l0_1)) = some r := by rw [if_pos rfl] at H; exact H
           clear H
           have H := H1
           clear H1
           replace H := zs4 H
           obtain ⟨t163, A170, H⟩ := H
           replace H : (spec_LatOk.j2 k2 x3_2 (decide ((rd l0_1 x3_2) ≥ t163)) a0_0 l0_1) = some r := H
           have A17 := zp.mk A170
           clear A170
           have H' := zp.mk H
           clear H
           have y18_0 := zt0 BK159.out
           have y18_1 := zt1 BK159.out
           have u18_0 := zd BK159.out 0
           have u18_1 := zd BK159.out 1
           have p160 : 0 ≤ (x3_2 : Int) := of_decide_eq_true (by first | (with_reducible assumption) | assumption)
           have q160 : x3_2 < (l0_1.length : Int) := of_decide_eq_true (by first | (with_reducible assumption) | assumption)
           obtain ⟨ad160, e160, hx160_0⟩ := Kd.at_int HR0_1.out x3_2 p160 q160
           cases e160
           replace hx160_0 := (HB.out.cell (World.block_lt_of_cell? w _ hx160_0)).trans hx160_0
           replace p160 := eq_true p160
           replace q160 := eq_true q160
           go_wp2_with (first | (go_at_call 66; (with_reducible refine (spec_l01Bit.calls (rd l0_1 x3_2) x3_2 true _ A15.out).mono ?_); rintro e w' ⟨rfl, ⟨nd, rfl⟩⟩; (try first | exact ⟨rfl, _, World.drewN_drewN _ _ _⟩ | exact ⟨rfl, _, Eq.trans (World.drewN_drewN _ _ _) (congrArg (World.drewN _) (Nat.add_assoc _ _ _))⟩); have p162 : 0 ≤ (x3_2 : Int) := of_decide_eq_true (by first | (with_reducible assumption) | assumption); have q162 : x3_2 < (l0_1.length : Int) := of_decide_eq_true (by first | (with_reducible assumption) | assumption); obtain ⟨ad162, e162, hx162_0⟩ := Kd.at_int HR0_1.out x3_2 p162 q162; obtain rfl : ad160 = ad162 := (by injection e162); replace hx162_0 := (HB.out.cell (World.block_lt_of_cell? w _ hx162_0)).trans hx162_0; replace p162 := eq_true p162; replace q162 := eq_true q162) | (go_at_call 67; (with_reducible refine (spec_l01Power.calls k2 a0_0 t163 _ A17.out).mono ?_); rintro e w' ⟨rfl, ⟨nd, rfl⟩⟩; (try first | exact ⟨rfl, _, World.drewN_drewN _ _ _⟩ | exact ⟨rfl, _, Eq.trans (World.drewN_drewN _ _ _) (congrArg (World.drewN _) (Nat.add_assoc _ _ _))⟩)))
           repeat (go_quiet (first | (go_at_call 66; (with_reducible refine (spec_l01Bit.calls (rd l0_1 x3_2) x3_2 true _ A15.out).mono ?_); rintro e w' ⟨rfl, ⟨nd, rfl⟩⟩; (try first | exact ⟨rfl, _, World.drewN_drewN _ _ _⟩ | exact ⟨rfl, _, Eq.trans (World.drewN_drewN _ _ _) (congrArg (World.drewN _) (Nat.add_assoc _ _ _))⟩); have p162 : 0 ≤ (x3_2 : Int) := of_decide_eq_true (by first | (with_reducible assumption) | assumption); have q162 : x3_2 < (l0_1.length : Int) := of_decide_eq_true (by first | (with_reducible assumption) | assumption); obtain ⟨ad162, e162, hx162_0⟩ := Kd.at_int HR0_1.out x3_2 p162 q162; obtain rfl : ad160 = ad162 := (by injection e162); replace hx162_0 := (HB.out.cell (World.block_lt_of_cell? w _ hx162_0)).trans hx162_0; replace p162 := eq_true p162; replace q162 := eq_true q162) | (go_at_call 67; (with_reducible refine (spec_l01Power.calls k2 a0_0 t163 _ A17.out).mono ?_); rintro e w' ⟨rfl, ⟨nd, rfl⟩⟩; (try first | exact ⟨rfl, _, World.drewN_drewN _ _ _⟩ | exact ⟨rfl, _, Eq.trans (World.drewN_drewN _ _ _) (congrArg (World.drewN _) (Nat.add_assoc _ _ _))⟩))); try go_wp2_with (first | (go_at_call 66; (with_reducible refine (spec_l01Bit.calls (rd l0_1 x3_2) x3_2 true _ A15.out).mono ?_); rintro e w' ⟨rfl, ⟨nd, rfl⟩⟩; (try first | exact ⟨rfl, _, World.drewN_drewN _ _ _⟩ | exact ⟨rfl, _, Eq.trans (World.drewN_drewN _ _ _) (congrArg (World.drewN _) (Nat.add_assoc _ _ _))⟩); have p162 : 0 ≤ (x3_2 : Int) := of_decide_eq_true (by first | (with_reducible assumption) | assumption); have q162 : x3_2 < (l0_1.length : Int) := of_decide_eq_true (by first | (with_reducible assumption) | assumption); obtain ⟨ad162, e162, hx162_0⟩ := Kd.at_int HR0_1.out x3_2 p162 q162; obtain rfl : ad160 = ad162 := (by injection e162); replace hx162_0 := (HB.out.cell (World.block_lt_of_cell? w _ hx162_0)).trans hx162_0; replace p162 := eq_true p162; replace q162 := eq_true q162) | (go_at_call 67; (with_reducible refine (spec_l01Power.calls k2 a0_0 t163 _ A17.out).mono ?_); rintro e w' ⟨rfl, ⟨nd, rfl⟩⟩; (try first | exact ⟨rfl, _, World.drewN_drewN _ _ _⟩ | exact ⟨rfl, _, Eq.trans (World.drewN_drewN _ _ _) (congrArg (World.drewN _) (Nat.add_assoc _ _ _))⟩))))
           go_meet
           case rel => exact ⟨_, (decide ((rd l0_1 x3_2) ≥ t163)), (by first | rfl | (simp; done) | (simp [*]; done)), H', ⟨by have := HJ1.out; have := HK2.out; first | omega | exact Nat.le_refl _⟩, ⟨zv8 BK159.out⟩, ⟨zv7 HB.out⟩⟩
          ·replace c16 := Bool.eq_false_iff.mpr c16
           subst c16
           have H1 : (spec_LatOk.j2 k2 x3_2 true a0_0 l0_1) = some r := by rw [if_neg (show ¬ (false = true) by decide)] at H; exact H
           clear H
           have H := H1
           clear H1
           have H' := zp.mk H
           clear H
           have y19_0 := zt0 BK159.out
           have y19_1 := zt1 BK159.out
           have u19_0 := zd BK159.out 0
           have u19_1 := zd BK159.out 1
           have p160 : 0 ≤ (x3_2 : Int) := of_decide_eq_true (by first | (with_reducible assumption) | assumption)
           have q160 : x3_2 < (l0_1.length : Int) := of_decide_eq_true (by first | (with_reducible assumption) | assumption)
           obtain ⟨ad160, e160, hx160_0⟩ := Kd.at_int HR0_1.out x3_2 p160 q160
           cases e160
           replace hx160_0 := (HB.out.cell (World.block_lt_of_cell? w _ hx160_0)).trans hx160_0
           replace p160 := eq_true p160
           replace q160 := eq_true q160
           go_wp2_with (first | (go_at_call 66; (with_reducible refine (spec_l01Bit.calls (rd l0_1 x3_2) x3_2 false _ A15.out).mono ?_); rintro e w' ⟨rfl, ⟨nd, rfl⟩⟩; (try first | exact ⟨rfl, _, World.drewN_drewN _ _ _⟩ | exact ⟨rfl, _, Eq.trans (World.drewN_drewN _ _ _) (congrArg (World.drewN _) (Nat.add_assoc _ _ _))⟩)))
           repeat (go_quiet (first | (go_at_call 66; (with_reducible refine (spec_l01Bit.calls (rd l0_1 x3_2) x3_2 false _ A15.out).mono ?_); rintro e w' ⟨rfl, ⟨nd, rfl⟩⟩; (try first | exact ⟨rfl, _, World.drewN_drewN _ _ _⟩ | exact ⟨rfl, _, Eq.trans (World.drewN_drewN _ _ _) (congrArg (World.drewN _) (Nat.add_assoc _ _ _))⟩))); try go_wp2_with (first | (go_at_call 66; (with_reducible refine (spec_l01Bit.calls (rd l0_1 x3_2) x3_2 false _ A15.out).mono ?_); rintro e w' ⟨rfl, ⟨nd, rfl⟩⟩; (try first | exact ⟨rfl, _, World.drewN_drewN _ _ _⟩ | exact ⟨rfl, _, Eq.trans (World.drewN_drewN _ _ _) (congrArg (World.drewN _) (Nat.add_assoc _ _ _))⟩))))
           go_meet
           case rel => exact ⟨_, (true), (by first | rfl | (simp; done) | (simp [*]; done)), H', ⟨by have := HJ1.out; have := HK2.out; first | omega | exact Nat.le_refl _⟩, ⟨zv8 BK159.out⟩, ⟨zv7 HB.out⟩⟩
         ·rw [if_neg c14] at H
          exact absurd H (by simp)
        ·rw [if_neg c13] at H
         exact absurd H (by simp)
       case rest =>
        clear HC11
        try clear c1
        try clear p1
        try clear q1
        try clear hx1
        try clear p2
        try clear c4
        try clear c4b0
        try clear c6
        try clear c6b0
        try clear c9
        try clear c10
        try clear c10b0
        try clear c13
        try clear c13b0
        try clear c14
        try clear c14b0
        try clear c16
        try clear p16
        try clear q16
        try clear hx16
        try clear c18
        try clear y12_0
        try clear y12_1
        try clear y18_0
        try clear y18_1
        try clear y19_0
        try clear y19_1
        try clear y5_0
        try clear y5_1
        try clear y7_0
        try clear y7_1
        try clear y8_0
        try clear y8_1
        try clear u12_0
        try clear u12_1
        try clear u18_0
        try clear u18_1
        try clear u19_0
        try clear u19_1
        try clear u5_0
        try clear u5_1
        try clear u7_0
        try clear u7_1
        try clear u8_0
        try clear u8_1
        try clear hx160_0
        try clear hx162_0
        try clear p160
        try clear p162
        try clear p2
        try clear q160
        try clear q162
        obtain ⟨kq, x48_10, rfl, HA, HJ10, BK159, HB⟩ := hcut
        cases kq with
        | zero => exact absurd HA.out (by simp [spec_LatOk.j2])
        | succ kj10 =>
         have H := HA.out
         clear HA
         simp only [spec_LatOk.j2] at H
         by_cases c20 : x48_10 = true
         ·subst c20
          have H1 : (some false) = some r := by rw [if_pos rfl] at H; exact H
          clear H
          have H := H1
          clear H1
          obtain rfl := Option.some.inj H
          go_wp2
          repeat (go_quiet (fail); try go_wp2)
          go_ret
          exact ⟨by first | rfl | (simp [errW_none, errW_some] <;> rfl) | (simp [*, errW_none, errW_some] <;> rfl), zv7 HB.out⟩
         ·replace c20 := Bool.eq_false_iff.mpr c20
          subst c20
          have H1 : (spec_LatOk.l1 kj10 x3_2 0 a0_0 l0_1) = some r := by rw [if_neg (show ¬ (false = true) by decide)] at H; exact H
          clear H
          have H := H1
          clear H1
          have H' := zp.mk H
          clear H
          go_wp2
          repeat (go_quiet (fail); try go_wp2)
          go_loopg [4] kj10 (fun kq v4 w' => ∃ (x4_4 : Int), v4 = .int .i64 x4_4 ∧ zp (spec_LatOk.l1 kq x3_2 x4_4 a0_0 l0_1 = some r) ∧ zp (kq ≤ kj10) ∧ zp (w'.heap[gb159]? = some (.cells #[.int .i64 a0_0, (.slice A0_1 l0_1.length c0_1)] 27 (0, 0))) ∧ zp (Below w.heap.size w w'))
          case atStart => exact ⟨(0), (by first | rfl | (simp; done) | (simp [*]; done)), H', ⟨Nat.le_refl _⟩, ⟨zv8 BK159.out⟩, ⟨zv7 HB.out⟩⟩
          case round =>
           clear H'
           try clear c1
           try clear p1
           try clear q1
           try clear hx1
           try clear c2
           try clear p2
           try clear c4
           try clear c4b0
           try clear c6
           try clear c6b0
           try clear c9
           try clear c10
           try clear c10b0
           try clear c13
           try clear c13b0
           try clear c14
           try clear c14b0
           try clear c16
           try clear p16
           try clear q16
           try clear hx16
           try clear c18
           try clear c20
           try clear y12_0
           try clear y12_1
           try clear y18_0
           try clear y18_1
           try clear y19_0
           try clear y19_1
           try clear y5_0
           try clear y5_1
           try clear y7_0
           try clear y7_1
           try clear y8_0
           try clear y8_1
           try clear u12_0
           try clear u12_1
           try clear u18_0
           try clear u18_1
           try clear u19_0
           try clear u19_1
           try clear u5_0
           try clear u5_1
           try clear u7_0
           try clear u7_1
           try clear u8_0
           try clear u8_1
           try clear hx160_0
           try clear hx162_0
           try clear p1
           try clear p16
           try clear p160
           try clear p162
           try clear p2
           try clear q1
           try clear q16
           try clear q160
           try clear q162
           obtain ⟨x4_4, rfl, HA, HK4, BK159, HB⟩ := hrel
           cases gk with
           | zero => exact absurd HA.out (by simp [spec_LatOk.l1])
           | succ k4 =>
            have H := HA.out
            clear HA
            simp only [spec_LatOk.l1] at H
            by_cases c21 : x4_4 < a0_0
            ·rw [if_pos c21] at H
             have c21b0 : decide (x4_4 < a0_0) = true := decide_eq_true c21
             clear c21
             have HC22 := zp.mk H
             clear H
             have y23_0 := zt0 BK159.out
             have y23_1 := zt1 BK159.out
             have u23_0 := zd BK159.out 0
             have u23_1 := zd BK159.out 1
             go_upto_region 11 with (fail)
             repeat (go_quiet (fail); go_upto_region 11 with (fail))
             go_cut [75] (fun v75 wc => ∃ (kq : Nat) (x75_21 : Bool), v75 = .bool x75_21 ∧ zp (spec_LatOk.j4 kq x3_2 x4_4 x75_21 a0_0 l0_1 = some r) ∧ zp (kq ≤ k4) ∧ zp (wc.heap[gb159]? = some (.cells #[.int .i64 a0_0, (.slice A0_1 l0_1.length c0_1)] 27 (0, 0))) ∧ zp (Below w.heap.size w wc))
             case first =>
              have H := HC22.out
              clear HC22
              by_cases c24 : x3_2 = x4_4
              ·rw [if_pos c24] at H
               have c24b0 : (x3_2 == x4_4) = true := beq_iff_eq.mpr c24
               have c24b1 : (x3_2 != x4_4) = false := bne_eq_false_iff_eq.mpr c24
               clear c24
               (first | rw [c24b0] | (simp only [i64_w, i32_w]; rw [c24b0]) | skip)
               have H' := zp.mk H
               clear H
               go_wp2
               repeat (go_quiet (fail); try go_wp2)
               go_meet
               case rel => exact ⟨_, (false), (by first | rfl | (simp; done) | (simp [*]; done)), H', ⟨by have := HJ1.out; have := HK2.out; have := HJ10.out; have := HK4.out; first | omega | exact Nat.le_refl _⟩, ⟨zv8 BK159.out⟩, ⟨zv7 HB.out⟩⟩
              ·rw [if_neg c24] at H
               have c24b0 : (x3_2 == x4_4) = false := beq_eq_false_iff_ne.mpr c24
               have c24b1 : (x3_2 != x4_4) = true := bne_iff_ne.mpr c24
               (first | rw [c24b0] | (simp only [i64_w, i32_w]; rw [c24b0]) | skip)
               by_cases c25 : 0 ≤ x3_2
               ·rw [if_pos c25] at H
                have c25b0 : decide (0 ≤ x3_2) = true := decide_eq_true c25
                clear c25
                by_cases c26 : x3_2 < (l0_1.length : Int)
                ·rw [if_pos c26] at H
                 have c26b0 : decide (x3_2 < (l0_1.length : Int)) = true := decide_eq_true c26
                 clear c26
                 replace H := zs4 H
                 obtain ⟨t165, A270, H⟩ := H
                 replace H : (if t165 = true then (if 0 ≤ x4_4 then (if x4_4 < (l0_1.length : Int) then ((spec_l01Bit.f (rd l0_1 x4_4) x3_2).bind fun t167 => (spec_LatOk.j4 k4 x3_2 x4_4 t167 a0_0 l0_1)) else (none)) else (none)) else (spec_LatOk.j4 k4 x3_2 x4_4 false a0_0 l0_1)) = some r := H
                 have A27 := zp.mk A270
                 clear A270
                 by_cases c28 : t165 = true
                 ·subst c28
                  have H1 : (if 0 ≤ x4_4 then (if x4_4 < (l0_1.length : Int) then ((spec_l01Bit.f (rd l0_1 x4_4) x3_2).bind fun t167 => (spec_LatOk.j4 k4 x3_2 x4_4 t167 a0_0 l0_1)) else (none)) else (none)) = some r := by rw [if_pos rfl] at H; exact H
                  clear H
                  have H := H1
                  clear H1
                  by_cases c29 : 0 ≤ x4_4
                  ·rw [if_pos c29] at H
                   have c29b0 : decide (0 ≤ x4_4) = true := decide_eq_true c29
                   clear c29
                   by_cases c30 : x4_4 < (l0_1.length : Int)
                   ·rw [if_pos c30] at H
                    have c30b0 : decide (x4_4 < (l0_1.length : Int)) = true := decide_eq_true c30
                    clear c30
                    replace H := zs4 H
                    obtain ⟨t167, A310, H⟩ := H
                    replace H : (spec_LatOk.j4 k4 x3_2 x4_4 t167 a0_0 l0_1) = some r := H
                    have A31 := zp.mk A310
                    clear A310
                    have H' := zp.mk H
                    clear H
                    have y32_0 := zt0 BK159.out
                    have y32_1 := zt1 BK159.out
                    have u32_0 := zd BK159.out 0
                    have u32_1 := zd BK159.out 1
                    have p164 : 0 ≤ (x3_2 : Int) := of_decide_eq_true (by first | (with_reducible assumption) | assumption)
                    have q164 : x3_2 < (l0_1.length : Int) := of_decide_eq_true (by first | (with_reducible assumption) | assumption)
                    obtain ⟨ad164, e164, hx164_0⟩ := Kd.at_int HR0_1.out x3_2 p164 q164
                    cases e164
                    replace hx164_0 := (HB.out.cell (World.block_lt_of_cell? w _ hx164_0)).trans hx164_0
                    replace p164 := eq_true p164
                    replace q164 := eq_true q164
                    go_wp2_with (first | (go_at_call 66; (with_reducible refine (spec_l01Bit.calls (rd l0_1 x3_2) x4_4 true _ A27.out).mono ?_); rintro e w' ⟨rfl, ⟨nd, rfl⟩⟩; (try first | exact ⟨rfl, _, World.drewN_drewN _ _ _⟩ | exact ⟨rfl, _, Eq.trans (World.drewN_drewN _ _ _) (congrArg (World.drewN _) (Nat.add_assoc _ _ _))⟩); have p166 : 0 ≤ (x4_4 : Int) := of_decide_eq_true (by first | (with_reducible assumption) | assumption); have q166 : x4_4 < (l0_1.length : Int) := of_decide_eq_true (by first | (with_reducible assumption) | assumption); obtain ⟨ad166, e166, hx166_0⟩ := Kd.at_int HR0_1.out x4_4 p166 q166; obtain rfl : ad164 = ad166 := (by injection e166); replace hx166_0 := (HB.out.cell (World.block_lt_of_cell? w _ hx166_0)).trans hx166_0; replace p166 := eq_true p166; replace q166 := eq_true q166) | (go_at_call 66; (with_reducible refine (spec_l01Bit.calls (rd l0_1 x4_4) x3_2 t167 _ A31.out).mono ?_); rintro e w' ⟨rfl, ⟨nd, rfl⟩⟩; (try first | exact ⟨rfl, _, World.drewN_drewN _ _ _⟩ | exact ⟨rfl, _, Eq.trans (World.drewN_drewN _ _ _) (congrArg (World.drewN _) (Nat.add_assoc _ _ _))⟩)))
                    repeat (go_quiet (first | (go_at_call 66; (with_reducible refine (spec_l01Bit.calls (rd l0_1 x3_2) x4_4 true _ A27.out).mono ?_); rintro e w' ⟨rfl, ⟨nd, rfl⟩⟩; (try first | exact ⟨rfl, _, World.drewN_drewN _ _ _⟩ | exact ⟨rfl, _, Eq.trans (World.drewN_drewN _ _ _) (congrArg (World.drewN _) (Nat.add_assoc _ _ _))⟩); have p166 : 0 ≤ (x4_4 : Int) := of_decide_eq_true (by first | (with_reducible assumption) | assumption); have q166 : x4_4 < (l0_1.length : Int) := of_decide_eq_true (by first | (with_reducible assumption) | assumption); obtain ⟨ad166, e166, hx166_0⟩ := Kd.at_int HR0_1.out x4_4 p166 q166; obtain rfl : ad164 = ad166 := (by injection e166); replace hx166_0 := (HB.out.cell (World.block_lt_of_cell? w _ hx166_0)).trans hx166_0; replace p166 := eq_true p166; replace q166 := eq_true q166) | (go_at_call 66; (with_reducible refine (spec_l01Bit.calls (rd l0_1 x4_4) x3_2 t167 _ A31.out).mono ?_); rintro e w' ⟨rfl, ⟨nd, rfl⟩⟩; (try first | exact ⟨rfl, _, World.drewN_drewN _ _ _⟩ | exact ⟨rfl, _, Eq.trans (World.drewN_drewN _ _ _) (congrArg (World.drewN _) (Nat.add_assoc _ _ _))⟩))); try go_wp2_with (first | (go_at_call 66; (with_reducible refine (spec_l01Bit.calls (rd l0_1 x3_2) x4_4 true _ A27.out).mono ?_); rintro e w' ⟨rfl, ⟨nd, rfl⟩⟩; (try first | exact ⟨rfl, _, World.drewN_drewN _ _ _⟩ | exact ⟨rfl, _, Eq.trans (World.drewN_drewN _ _ _) (congrArg (World.drewN _) (Nat.add_assoc _ _ _))⟩); have p166 : 0 ≤ (x4_4 : Int) := of_decide_eq_true (by first | (with_reducible assumption) | assumption); have q166 : x4_4 < (l0_1.length : Int) := of_decide_eq_true (by first | (with_reducible assumption) | assumption); obtain ⟨ad166, e166, hx166_0⟩ := Kd.at_int HR0_1.out x4_4 p166 q166; obtain rfl : ad164 = ad166 := (by injection e166); replace hx166_0 := (HB.out.cell (World.block_lt_of_cell? w _ hx166_0)).trans hx166_0; replace p166 := eq_true p166; replace q166 := eq_true q166) | (go_at_call 66; (with_reducible refine (spec_l01Bit.calls (rd l0_1 x4_4) x3_2 t167 _ A31.out).mono ?_); rintro e w' ⟨rfl, ⟨nd, rfl⟩⟩; (try first | exact ⟨rfl, _, World.drewN_drewN _ _ _⟩ | exact ⟨rfl, _, Eq.trans (World.drewN_drewN _ _ _) (congrArg (World.drewN _) (Nat.add_assoc _ _ _))⟩))))
                    go_meet
                    case rel => exact ⟨_, (t167), (by first | rfl | (simp; done) | (simp [*]; done)), H', ⟨by have := HJ1.out; have := HK2.out; have := HJ10.out; have := HK4.out; first | omega | exact Nat.le_refl _⟩, ⟨zv8 BK159.out⟩, ⟨zv7 HB.out⟩⟩
                   ·rw [if_neg c30] at H
                    exact absurd H (by simp)
                  ·rw [if_neg c29] at H
                   exact absurd H (by simp)
                 ·replace c28 := Bool.eq_false_iff.mpr c28
                  subst c28
                  have H1 : (spec_LatOk.j4 k4 x3_2 x4_4 false a0_0 l0_1) = some r := by rw [if_neg (show ¬ (false = true) by decide)] at H; exact H
                  clear H
                  have H := H1
                  clear H1
                  have H' := zp.mk H
                  clear H
                  have y33_0 := zt0 BK159.out
                  have y33_1 := zt1 BK159.out
                  have u33_0 := zd BK159.out 0
                  have u33_1 := zd BK159.out 1
                  have p164 : 0 ≤ (x3_2 : Int) := of_decide_eq_true (by first | (with_reducible assumption) | assumption)
                  have q164 : x3_2 < (l0_1.length : Int) := of_decide_eq_true (by first | (with_reducible assumption) | assumption)
                  obtain ⟨ad164, e164, hx164_0⟩ := Kd.at_int HR0_1.out x3_2 p164 q164
                  cases e164
                  replace hx164_0 := (HB.out.cell (World.block_lt_of_cell? w _ hx164_0)).trans hx164_0
                  replace p164 := eq_true p164
                  replace q164 := eq_true q164
                  go_wp2_with (first | (go_at_call 66; (with_reducible refine (spec_l01Bit.calls (rd l0_1 x3_2) x4_4 false _ A27.out).mono ?_); rintro e w' ⟨rfl, ⟨nd, rfl⟩⟩; (try first | exact ⟨rfl, _, World.drewN_drewN _ _ _⟩ | exact ⟨rfl, _, Eq.trans (World.drewN_drewN _ _ _) (congrArg (World.drewN _) (Nat.add_assoc _ _ _))⟩)))
                  repeat (go_quiet (first | (go_at_call 66; (with_reducible refine (spec_l01Bit.calls (rd l0_1 x3_2) x4_4 false _ A27.out).mono ?_); rintro e w' ⟨rfl, ⟨nd, rfl⟩⟩; (try first | exact ⟨rfl, _, World.drewN_drewN _ _ _⟩ | exact ⟨rfl, _, Eq.trans (World.drewN_drewN _ _ _) (congrArg (World.drewN _) (Nat.add_assoc _ _ _))⟩))); try go_wp2_with (first | (go_at_call 66; (with_reducible refine (spec_l01Bit.calls (rd l0_1 x3_2) x4_4 false _ A27.out).mono ?_); rintro e w' ⟨rfl, ⟨nd, rfl⟩⟩; (try first | exact ⟨rfl, _, World.drewN_drewN _ _ _⟩ | exact ⟨rfl, _, Eq.trans (World.drewN_drewN _ _ _) (congrArg (World.drewN _) (Nat.add_assoc _ _ _))⟩))))
                  go_meet
                  case rel => exact ⟨_, (false), (by first | rfl | (simp; done) | (simp [*]; done)), H', ⟨by have := HJ1.out; have := HK2.out; have := HJ10.out; have := HK4.out; first | omega | exact Nat.le_refl _⟩, ⟨zv8 BK159.out⟩, ⟨zv7 HB.out⟩⟩
                ·rw [if_neg c26] at H
                 exact absurd H (by simp)
               ·rw [if_neg c25] at H
                exact absurd H (by simp)
             case rest =>
              clear HC22
              try clear c1
              try clear p1
              try clear q1
              try clear hx1
              try clear c2
              try clear p2
              try clear c3
              try clear c4
              try clear c4b0
              try clear c6
              try clear c6b0
              try clear c9
              try clear c10
              try clear c10b0
              try clear c13
              try clear c13b0
              try clear c14
              try clear c14b0
              try clear c16
              try clear p16
              try clear q16
              try clear hx16
              try clear c18
              try clear c20
              try clear c21
              try clear c21b0
              try clear c24
              try clear c24b0
              try clear c24b1
              try clear c25
              try clear c25b0
              try clear c26
              try clear c26b0
              try clear c28
              try clear c29
              try clear c29b0
              try clear c30
              try clear c30b0
              try clear y12_0
              try clear y12_1
              try clear y18_0
              try clear y18_1
              try clear y19_0
              try clear y19_1
              try clear y23_0
              try clear y23_1
              try clear y32_0
              try clear y32_1
              try clear y33_0
              try clear y33_1
              try clear y5_0
              try clear y5_1
              try clear y7_0
              try clear y7_1
              try clear y8_0
              try clear y8_1
              try clear u12_0
              try clear u12_1
              try clear u18_0
              try clear u18_1
              try clear u19_0
              try clear u19_1
              try clear u23_0
              try clear u23_1
              try clear u32_0
              try clear u32_1
              try clear u33_0
              try clear u33_1
              try clear u5_0
              try clear u5_1
              try clear u7_0
              try clear u7_1
              try clear u8_0
              try clear u8_1
              try clear hx160_0
              try clear hx162_0
              try clear hx164_0
              try clear hx166_0
              try clear p1
              try clear p16
              try clear p160
              try clear p162
              try clear p164
              try clear p166
              try clear p2
              try clear q1
              try clear q16
              try clear q160
              try clear q162
              try clear q164
              try clear q166
              obtain ⟨kq, x75_21, rfl, HA, HJ21, BK159, HB⟩ := hcut
              cases kq with
              | zero => exact absurd HA.out (by simp [spec_LatOk.j4])
              | succ kj21 =>
               have H := HA.out
               clear HA
               simp only [spec_LatOk.j4] at H
               by_cases c34 : x75_21 = true
               ·subst c34
                have H1 : (some false) = some r := by rw [if_pos rfl] at H; exact H
                clear H
                have H := H1
                clear H1
                obtain rfl := Option.some.inj H
                go_wp2
                repeat (go_quiet (fail); try go_wp2)
                go_ret
                exact ⟨by first | rfl | (simp [errW_none, errW_some] <;> rfl) | (simp [*, errW_none, errW_some] <;> rfl), zv7 HB.out⟩
               ·replace c34 := Bool.eq_false_iff.mpr c34
                subst c34
                have H1 : (spec_LatOk.l2 kj21 x3_2 x4_4 0 a0_0 l0_1) = some r := by rw [if_neg (show ¬ (false = true) by decide)] at H; exact H
                clear H
                have H := H1
                clear H1
                have H' := zp.mk H
                clear H
                go_wp2
                repeat (go_quiet (fail); try go_wp2)
                go_loopg [5] kj21 (fun kq v5 w' => ∃ (x5_6 : Int), v5 = .int .i64 x5_6 ∧ zp (spec_LatOk.l2 kq x3_2 x4_4 x5_6 a0_0 l0_1 = some r) ∧ zp (kq ≤ kj21) ∧ zp (w'.heap[gb159]? = some (.cells #[.int .i64 a0_0, (.slice A0_1 l0_1.length c0_1)] 27 (0, 0))) ∧ zp (Below w.heap.size w w'))
                case atStart => exact ⟨(0), (by first | rfl | (simp; done) | (simp [*]; done)), H', ⟨Nat.le_refl _⟩, ⟨zv8 BK159.out⟩, ⟨zv7 HB.out⟩⟩
                case round =>
                 clear H'
                 try clear c1
                 try clear p1
                 try clear q1
                 try clear hx1
                 try clear c2
                 try clear p2
                 try clear c3
                 try clear c4
                 try clear c4b0
                 try clear c6
                 try clear c6b0
                 try clear c9
                 try clear c10
                 try clear c10b0
                 try clear c13
                 try clear c13b0
                 try clear c14
                 try clear c14b0
                 try clear c16
                 try clear p16
                 try clear q16
                 try clear hx16
                 try clear c18
                 try clear c20
                 try clear c21
                 try clear c21b0
                 try clear c24
                 try clear c24b0
                 try clear c24b1
                 try clear c25
                 try clear c25b0
                 try clear c26
                 try clear c26b0
                 try clear c28
                 try clear c29
                 try clear c29b0
                 try clear c30
                 try clear c30b0
                 try clear c34
                 try clear y12_0
                 try clear y12_1
                 try clear y18_0
                 try clear y18_1
                 try clear y19_0
                 try clear y19_1
                 try clear y23_0
                 try clear y23_1
                 try clear y32_0
                 try clear y32_1
                 try clear y33_0
                 try clear y33_1
                 try clear y5_0
                 try clear y5_1
                 try clear y7_0
                 try clear y7_1
                 try clear y8_0
                 try clear y8_1
                 try clear u12_0
                 try clear u12_1
                 try clear u18_0
                 try clear u18_1
                 try clear u19_0
                 try clear u19_1
                 try clear u23_0
                 try clear u23_1
                 try clear u32_0
                 try clear u32_1
                 try clear u33_0
                 try clear u33_1
                 try clear u5_0
                 try clear u5_1
                 try clear u7_0
                 try clear u7_1
                 try clear u8_0
                 try clear u8_1
                 try clear hx160_0
                 try clear hx162_0
                 try clear hx164_0
                 try clear hx166_0
                 try clear p1
                 try clear p16
                 try clear p160
                 try clear p162
                 try clear p164
                 try clear p166
                 try clear p2
                 try clear q1
                 try clear q16
                 try clear q160
                 try clear q162
                 try clear q164
                 try clear q166
                 obtain ⟨x5_6, rfl, HA, HK6, BK159, HB⟩ := hrel
                 cases gk with
                 | zero => exact absurd HA.out (by simp [spec_LatOk.l2])
                 | succ k6 =>
                  have H := HA.out
                  clear HA
                  simp only [spec_LatOk.l2] at H
                  by_cases c35 : x5_6 < a0_0
                  ·rw [if_pos c35] at H
                   have c35b0 : decide (x5_6 < a0_0) = true := decide_eq_true c35
                   clear c35
                   by_cases c36 : 0 ≤ x3_2
                   ·rw [if_pos c36] at H
                    have c36b0 : decide (0 ≤ x3_2) = true := decide_eq_true c36
                    clear c36
                    by_cases c37 : x3_2 < (l0_1.length : Int)
                    ·rw [if_pos c37] at H
                     have c37b0 : decide (x3_2 < (l0_1.length : Int)) = true := decide_eq_true c37
                     clear c37
                     replace H := zs4 H
                     obtain ⟨t169, A380, H⟩ := H
                     replace H : (if t169 = true then (if 0 ≤ x4_4 then (if x4_4 < (l0_1.length : Int) then ((spec_l01Bit.f (rd l0_1 x4_4) x5_6).bind fun t171 => (if t171 = true then ((spec_l01Bit.f (rd l0_1 x3_2) x5_6).bind fun t173 => (if t173 = true then (spec_LatOk.l2 k6 x3_2 x4_4 (wrap64 (x5_6 + 1)) a0_0 l0_1) else (some false))) else (spec_LatOk.l2 k6 x3_2 x4_4 (wrap64 (x5_6 + 1)) a0_0 l0_1))) else (none)) else (none)) else (spec_LatOk.l2 k6 x3_2 x4_4 (wrap64 (x5_6 + 1)) a0_0 l0_1)) = some r := H
                     have A38 := zp.mk A380
                     clear A380
                     by_cases c39 : t169 = true
                     ·subst c39
                      have H1 : (if 0 ≤ x4_4 then (if x4_4 < (l0_1.length : Int) then ((spec_l01Bit.f (rd l0_1 x4_4) x5_6).bind fun t171 => (if t171 = true then ((spec_l01Bit.f (rd l0_1 x3_2) x5_6).bind fun t173 => (if t173 = true then (spec_LatOk.l2 k6 x3_2 x4_4 (wrap64 (x5_6 + 1)) a0_0 l0_1) else (some false))) else (spec_LatOk.l2 k6 x3_2 x4_4 (wrap64 (x5_6 + 1)) a0_0 l0_1))) else (none)) else (none)) = some r := by rw [if_pos rfl] at H; exact H
                      clear H
                      have H := H1
                      clear H1
                      by_cases c40 : 0 ≤ x4_4
                      ·rw [if_pos c40] at H
                       have c40b0 : decide (0 ≤ x4_4) = true := decide_eq_true c40
                       clear c40
                       by_cases c41 : x4_4 < (l0_1.length : Int)
                       ·rw [if_pos c41] at H
                        have c41b0 : decide (x4_4 < (l0_1.length : Int)) = true := decide_eq_true c41
                        clear c41
                        replace H := zs4 H
                        obtain ⟨t171, A420, H⟩ := H
                        replace H : (if t171 = true then ((spec_l01Bit.f (rd l0_1 x3_2) x5_6).bind fun t173 => (if t173 = true then (spec_LatOk.l2 k6 x3_2 x4_4 (wrap64 (x5_6 + 1)) a0_0 l0_1) else (some false))) else (spec_LatOk.l2 k6 x3_2 x4_4 (wrap64 (x5_6 + 1)) a0_0 l0_1)) = some r := H
                        have A42 := zp.mk A420
                        clear A420
                        by_cases c43 : t171 = true
                        ·subst c43
                         have H1 : ((spec_l01Bit.f (rd l0_1 x3_2) x5_6).bind fun t173 => (if t173 = true then (spec_LatOk.l2 k6 x3_2 x4_4 (wrap64 (x5_6 + 1)) a0_0 l0_1) else (some false))) = some r := by rw [if_pos rfl] at H; exact H
                         clear H
                         have H := H1
                         clear H1
                         replace H := zs4 H
                         obtain ⟨t173, A440, H⟩ := H
                         replace H : (if t173 = true then (spec_LatOk.l2 k6 x3_2 x4_4 (wrap64 (x5_6 + 1)) a0_0 l0_1) else (some false)) = some r := H
                         have A44 := zp.mk A440
                         clear A440
                         by_cases c45 : t173 = true
                         ·subst c45
                          have H1 : (spec_LatOk.l2 k6 x3_2 x4_4 (wrap64 (x5_6 + 1)) a0_0 l0_1) = some r := by rw [if_pos rfl] at H; exact H
                          clear H
                          have H := H1
                          clear H1
                          have H' := zp.mk H
                          clear H
                          have y46_0 := zt0 BK159.out
                          have y46_1 := zt1 BK159.out
                          have u46_0 := zd BK159.out 0
                          have u46_1 := zd BK159.out 1
                          have p168 : 0 ≤ (x3_2 : Int) := of_decide_eq_true (by first | (with_reducible assumption) | assumption)
                          have q168 : x3_2 < (l0_1.length : Int) := of_decide_eq_true (by first | (with_reducible assumption) | assumption)
                          obtain ⟨ad168, e168, hx168_0⟩ := Kd.at_int HR0_1.out x3_2 p168 q168
                          cases e168
                          replace hx168_0 := (HB.out.cell (World.block_lt_of_cell? w _ hx168_0)).trans hx168_0
                          replace p168 := eq_true p168
                          replace q168 := eq_true q168
                          go_wp2_with (first | (go_at_call 66; (with_reducible refine (spec_l01Bit.calls (rd l0_1 x3_2) x4_4 true _ A38.out).mono ?_); rintro e w' ⟨rfl, ⟨nd, rfl⟩⟩; (try first | exact ⟨rfl, _, World.drewN_drewN _ _ _⟩ | exact ⟨rfl, _, Eq.trans (World.drewN_drewN _ _ _) (congrArg (World.drewN _) (Nat.add_assoc _ _ _))⟩); have p170 : 0 ≤ (x4_4 : Int) := of_decide_eq_true (by first | (with_reducible assumption) | assumption); have q170 : x4_4 < (l0_1.length : Int) := of_decide_eq_true (by first | (with_reducible assumption) | assumption); obtain ⟨ad170, e170, hx170_0⟩ := Kd.at_int HR0_1.out x4_4 p170 q170; obtain rfl : ad168 = ad170 := (by injection e170); replace hx170_0 := (HB.out.cell (World.block_lt_of_cell? w _ hx170_0)).trans hx170_0; replace p170 := eq_true p170; replace q170 := eq_true q170) | (go_at_call 66; (with_reducible refine (spec_l01Bit.calls (rd l0_1 x4_4) x5_6 true _ A42.out).mono ?_); rintro e w' ⟨rfl, ⟨nd, rfl⟩⟩; (try first | exact ⟨rfl, _, World.drewN_drewN _ _ _⟩ | exact ⟨rfl, _, Eq.trans (World.drewN_drewN _ _ _) (congrArg (World.drewN _) (Nat.add_assoc _ _ _))⟩); have p172 : 0 ≤ (x3_2 : Int) := of_decide_eq_true (by first | (with_reducible assumption) | assumption); have q172 : x3_2 < (l0_1.length : Int) := of_decide_eq_true (by first | (with_reducible assumption) | assumption); obtain ⟨ad172, e172, hx172_0⟩ := Kd.at_int HR0_1.out x3_2 p172 q172; obtain rfl : ad168 = ad172 := (by injection e172); replace hx172_0 := (HB.out.cell (World.block_lt_of_cell? w _ hx172_0)).trans hx172_0; replace p172 := eq_true p172; replace q172 := eq_true q172) | (go_at_call 66; (with_reducible refine (spec_l01Bit.calls (rd l0_1 x3_2) x5_6 true _ A44.out).mono ?_); rintro e w' ⟨rfl, ⟨nd, rfl⟩⟩; (try first | exact ⟨rfl, _, World.drewN_drewN _ _ _⟩ | exact ⟨rfl, _, Eq.trans (World.drewN_drewN _ _ _) (congrArg (World.drewN _) (Nat.add_assoc _ _ _))⟩)))
                          repeat (go_quiet (first | (go_at_call 66; (with_reducible refine (spec_l01Bit.calls (rd l0_1 x3_2) x4_4 true _ A38.out).mono ?_); rintro e w' ⟨rfl, ⟨nd, rfl⟩⟩; (try first | exact ⟨rfl, _, World.drewN_drewN _ _ _⟩ | exact ⟨rfl, _, Eq.trans (World.drewN_drewN _ _ _) (congrArg (World.drewN _) (Nat.add_assoc _ _ _))⟩); have p170 : 0 ≤ (x4_4 : Int) := of_decide_eq_true (by first | (with_reducible assumption) | assumption); have q170 : x4_4 < (l0_1.length : Int) := of_decide_eq_true (by first | (with_reducible assumption) | assumption); obtain ⟨ad170, e170, hx170_0⟩ := Kd.at_int HR0_1.out x4_4 p170 q170; obtain rfl : ad168 = ad170 := (by injection e170); replace hx170_0 := (HB.out.cell (World.block_lt_of_cell? w _ hx170_0)).trans hx170_0; replace p170 := eq_true p170; replace q170 := eq_true q170) | (go_at_call 66; (with_reducible refine (spec_l01Bit.calls (rd l0_1 x4_4) x5_6 true _ A42.out).mono ?_); rintro e w' ⟨rfl, ⟨nd, rfl⟩⟩; (try first | exact ⟨rfl, _, World.drewN_drewN _ _ _⟩ | exact ⟨rfl, _, Eq.trans (World.drewN_drewN _ _ _) (congrArg (World.drewN _) (Nat.add_assoc _ _ _))⟩); have p172 : 0 ≤ (x3_2 : Int) := of_decide_eq_true (by first | (with_reducible assumption) | assumption); have q172 : x3_2 < (l0_1.length : Int) := of_decide_eq_true (by first | (with_reducible assumption) | assumption); obtain ⟨ad172, e172, hx172_0⟩ := Kd.at_int HR0_1.out x3_2 p172 q172; obtain rfl : ad168 = ad172 := (by injection e172); replace hx172_0 := (HB.out.cell (World.block_lt_of_cell? w _ hx172_0)).trans hx172_0; replace p172 := eq_true p172; replace q172 := eq_true q172) | (go_at_call 66; (with_reducible refine (spec_l01Bit.calls (rd l0_1 x3_2) x5_6 true _ A44.out).mono ?_); rintro e w' ⟨rfl, ⟨nd, rfl⟩⟩; (try first | exact ⟨rfl, _, World.drewN_drewN _ _ _⟩ | exact ⟨rfl, _, Eq.trans (World.drewN_drewN _ _ _) (congrArg (World.drewN _) (Nat.add_assoc _ _ _))⟩))); try go_wp2_with (first | (go_at_call 66; (with_reducible refine (spec_l01Bit.calls (rd l0_1 x3_2) x4_4 true _ A38.out).mono ?_); rintro e w' ⟨rfl, ⟨nd, rfl⟩⟩; (try first | exact ⟨rfl, _, World.drewN_drewN _ _ _⟩ | exact ⟨rfl, _, Eq.trans (World.drewN_drewN _ _ _) (congrArg (World.drewN _) (Nat.add_assoc _ _ _))⟩); have p170 : 0 ≤ (x4_4 : Int) := of_decide_eq_true (by first | (with_reducible assumption) | assumption); have q170 : x4_4 < (l0_1.length : Int) := of_decide_eq_true (by first | (with_reducible assumption) | assumption); obtain ⟨ad170, e170, hx170_0⟩ := Kd.at_int HR0_1.out x4_4 p170 q170; obtain rfl : ad168 = ad170 := (by injection e170); replace hx170_0 := (HB.out.cell (World.block_lt_of_cell? w _ hx170_0)).trans hx170_0; replace p170 := eq_true p170; replace q170 := eq_true q170) | (go_at_call 66; (with_reducible refine (spec_l01Bit.calls (rd l0_1 x4_4) x5_6 true _ A42.out).mono ?_); rintro e w' ⟨rfl, ⟨nd, rfl⟩⟩; (try first | exact ⟨rfl, _, World.drewN_drewN _ _ _⟩ | exact ⟨rfl, _, Eq.trans (World.drewN_drewN _ _ _) (congrArg (World.drewN _) (Nat.add_assoc _ _ _))⟩); have p172 : 0 ≤ (x3_2 : Int) := of_decide_eq_true (by first | (with_reducible assumption) | assumption); have q172 : x3_2 < (l0_1.length : Int) := of_decide_eq_true (by first | (with_reducible assumption) | assumption); obtain ⟨ad172, e172, hx172_0⟩ := Kd.at_int HR0_1.out x3_2 p172 q172; obtain rfl : ad168 = ad172 := (by injection e172); replace hx172_0 := (HB.out.cell (World.block_lt_of_cell? w _ hx172_0)).trans hx172_0; replace p172 := eq_true p172; replace q172 := eq_true q172) | (go_at_call 66; (with_reducible refine (spec_l01Bit.calls (rd l0_1 x3_2) x5_6 true _ A44.out).mono ?_); rintro e w' ⟨rfl, ⟨nd, rfl⟩⟩; (try first | exact ⟨rfl, _, World.drewN_drewN _ _ _⟩ | exact ⟨rfl, _, Eq.trans (World.drewN_drewN _ _ _) (congrArg (World.drewN _) (Nat.add_assoc _ _ _))⟩))))
                          go_roundg k6
                          case measure => have := HJ1.out; have := HK2.out; have := HJ10.out; have := HK4.out; have := HJ21.out; have := HK6.out; omega
                          case rel => exact ⟨(wrap64 (x5_6 + 1)), (by first | rfl | (simp; done) | (simp [*]; done)), H', ⟨by have := HJ1.out; have := HK2.out; have := HJ10.out; have := HK4.out; have := HJ21.out; have := HK6.out; omega⟩, ⟨zv8 BK159.out⟩, ⟨zv7 HB.out⟩⟩
                         ·replace c45 := Bool.eq_false_iff.mpr c45
                          subst c45
                          have H1 : (some false) = some r := by rw [if_neg (show ¬ (false = true) by decide)] at H; exact H
                          clear H
                          have H := H1
                          clear H1
                          obtain rfl := Option.some.inj H
                          have y47_0 := zt0 BK159.out
                          have y47_1 := zt1 BK159.out
                          have u47_0 := zd BK159.out 0
                          have u47_1 := zd BK159.out 1
                          have p168 : 0 ≤ (x3_2 : Int) := of_decide_eq_true (by first | (with_reducible assumption) | assumption)
                          have q168 : x3_2 < (l0_1.length : Int) := of_decide_eq_true (by first | (with_reducible assumption) | assumption)
                          obtain ⟨ad168, e168, hx168_0⟩ := Kd.at_int HR0_1.out x3_2 p168 q168
                          cases e168
                          replace hx168_0 := (HB.out.cell (World.block_lt_of_cell? w _ hx168_0)).trans hx168_0
                          replace p168 := eq_true p168
                          replace q168 := eq_true q168
                          go_wp2_with (first | (go_at_call 66; (with_reducible refine (spec_l01Bit.calls (rd l0_1 x3_2) x4_4 true _ A38.out).mono ?_); rintro e w' ⟨rfl, ⟨nd, rfl⟩⟩; (try first | exact ⟨rfl, _, World.drewN_drewN _ _ _⟩ | exact ⟨rfl, _, Eq.trans (World.drewN_drewN _ _ _) (congrArg (World.drewN _) (Nat.add_assoc _ _ _))⟩); have p170 : 0 ≤ (x4_4 : Int) := of_decide_eq_true (by first | (with_reducible assumption) | assumption); have q170 : x4_4 < (l0_1.length : Int) := of_decide_eq_true (by first | (with_reducible assumption) | assumption); obtain ⟨ad170, e170, hx170_0⟩ := Kd.at_int HR0_1.out x4_4 p170 q170; obtain rfl : ad168 = ad170 := (by injection e170); replace hx170_0 := (HB.out.cell (World.block_lt_of_cell? w _ hx170_0)).trans hx170_0; replace p170 := eq_true p170; replace q170 := eq_true q170) | (go_at_call 66; (with_reducible refine (spec_l01Bit.calls (rd l0_1 x4_4) x5_6 true _ A42.out).mono ?_); rintro e w' ⟨rfl, ⟨nd, rfl⟩⟩; (try first | exact ⟨rfl, _, World.drewN_drewN _ _ _⟩ | exact ⟨rfl, _, Eq.trans (World.drewN_drewN _ _ _) (congrArg (World.drewN _) (Nat.add_assoc _ _ _))⟩); have p172 : 0 ≤ (x3_2 : Int) := of_decide_eq_true (by first | (with_reducible assumption) | assumption); have q172 : x3_2 < (l0_1.length : Int) := of_decide_eq_true (by first | (with_reducible assumption) | assumption); obtain ⟨ad172, e172, hx172_0⟩ := Kd.at_int HR0_1.out x3_2 p172 q172; obtain rfl : ad168 = ad172 := (by injection e172); replace hx172_0 := (HB.out.cell (World.block_lt_of_cell? w _ hx172_0)).trans hx172_0; replace p172 := eq_true p172; replace q172 := eq_true q172) | (go_at_call 66; (with_reducible refine (spec_l01Bit.calls (rd l0_1 x3_2) x5_6 false _ A44.out).mono ?_); rintro e w' ⟨rfl, ⟨nd, rfl⟩⟩; (try first | exact ⟨rfl, _, World.drewN_drewN _ _ _⟩ | exact ⟨rfl, _, Eq.trans (World.drewN_drewN _ _ _) (congrArg (World.drewN _) (Nat.add_assoc _ _ _))⟩)))
                          repeat (go_quiet (first | (go_at_call 66; (with_reducible refine (spec_l01Bit.calls (rd l0_1 x3_2) x4_4 true _ A38.out).mono ?_); rintro e w' ⟨rfl, ⟨nd, rfl⟩⟩; (try first | exact ⟨rfl, _, World.drewN_drewN _ _ _⟩ | exact ⟨rfl, _, Eq.trans (World.drewN_drewN _ _ _) (congrArg (World.drewN _) (Nat.add_assoc _ _ _))⟩); have p170 : 0 ≤ (x4_4 : Int) := of_decide_eq_true (by first | (with_reducible assumption) | assumption); have q170 : x4_4 < (l0_1.length : Int) := of_decide_eq_true (by first | (with_reducible assumption) | assumption); obtain ⟨ad170, e170, hx170_0⟩ := Kd.at_int HR0_1.out x4_4 p170 q170; obtain rfl : ad168 = ad170 := (by injection e170); replace hx170_0 := (HB.out.cell (World.block_lt_of_cell? w _ hx170_0)).trans hx170_0; replace p170 := eq_true p170; replace q170 := eq_true q170) | (go_at_call 66; (with_reducible refine (spec_l01Bit.calls (rd l0_1 x4_4) x5_6 true _ A42.out).mono ?_); rintro e w' ⟨rfl, ⟨nd, rfl⟩⟩; (try first | exact ⟨rfl, _, World.drewN_drewN _ _ _⟩ | exact ⟨rfl, _, Eq.trans (World.drewN_drewN _ _ _) (congrArg (World.drewN _) (Nat.add_assoc _ _ _))⟩); have p172 : 0 ≤ (x3_2 : Int) := of_decide_eq_true (by first | (with_reducible assumption) | assumption); have q172 : x3_2 < (l0_1.length : Int) := of_decide_eq_true (by first | (with_reducible assumption) | assumption); obtain ⟨ad172, e172, hx172_0⟩ := Kd.at_int HR0_1.out x3_2 p172 q172; obtain rfl : ad168 = ad172 := (by injection e172); replace hx172_0 := (HB.out.cell (World.block_lt_of_cell? w _ hx172_0)).trans hx172_0; replace p172 := eq_true p172; replace q172 := eq_true q172) | (go_at_call 66; (with_reducible refine (spec_l01Bit.calls (rd l0_1 x3_2) x5_6 false _ A44.out).mono ?_); rintro e w' ⟨rfl, ⟨nd, rfl⟩⟩; (try first | exact ⟨rfl, _, World.drewN_drewN _ _ _⟩ | exact ⟨rfl, _, Eq.trans (World.drewN_drewN _ _ _) (congrArg (World.drewN _) (Nat.add_assoc _ _ _))⟩))); try go_wp2_with (first | (go_at_call 66; (with_reducible refine (spec_l01Bit.calls (rd l0_1 x3_2) x4_4 true _ A38.out).mono ?_); rintro e w' ⟨rfl, ⟨nd, rfl⟩⟩; (try first | exact ⟨rfl, _, World.drewN_drewN _ _ _⟩ | exact ⟨rfl, _, Eq.trans (World.drewN_drewN _ _ _) (congrArg (World.drewN _) (Nat.add_assoc _ _ _))⟩); have p170 : 0 ≤ (x4_4 : Int) := of_decide_eq_true (by first | (with_reducible assumption) | assumption); have q170 : x4_4 < (l0_1.length : Int) := of_decide_eq_true (by first | (with_reducible assumption) | assumption); obtain ⟨ad170, e170, hx170_0⟩ := Kd.at_int HR0_1.out x4_4 p170 q170; obtain rfl : ad168 = ad170 := (by injection e170); replace hx170_0 := (HB.out.cell (World.block_lt_of_cell? w _ hx170_0)).trans hx170_0; replace p170 := eq_true p170; replace q170 := eq_true q170) | (go_at_call 66; (with_reducible refine (spec_l01Bit.calls (rd l0_1 x4_4) x5_6 true _ A42.out).mono ?_); rintro e w' ⟨rfl, ⟨nd, rfl⟩⟩; (try first | exact ⟨rfl, _, World.drewN_drewN _ _ _⟩ | exact ⟨rfl, _, Eq.trans (World.drewN_drewN _ _ _) (congrArg (World.drewN _) (Nat.add_assoc _ _ _))⟩); have p172 : 0 ≤ (x3_2 : Int) := of_decide_eq_true (by first | (with_reducible assumption) | assumption); have q172 : x3_2 < (l0_1.length : Int) := of_decide_eq_true (by first | (with_reducible assumption) | assumption); obtain ⟨ad172, e172, hx172_0⟩ := Kd.at_int HR0_1.out x3_2 p172 q172; obtain rfl : ad168 = ad172 := (by injection e172); replace hx172_0 := (HB.out.cell (World.block_lt_of_cell? w _ hx172_0)).trans hx172_0; replace p172 := eq_true p172; replace q172 := eq_true q172) | (go_at_call 66; (with_reducible refine (spec_l01Bit.calls (rd l0_1 x3_2) x5_6 false _ A44.out).mono ?_); rintro e w' ⟨rfl, ⟨nd, rfl⟩⟩; (try first | exact ⟨rfl, _, World.drewN_drewN _ _ _⟩ | exact ⟨rfl, _, Eq.trans (World.drewN_drewN _ _ _) (congrArg (World.drewN _) (Nat.add_assoc _ _ _))⟩))))
                          go_ret
                          exact ⟨by first | rfl | (simp [errW_none, errW_some] <;> rfl) | (simp [*, errW_none, errW_some] <;> rfl), zv7 HB.out⟩
                        ·replace c43 := Bool.eq_false_iff.mpr c43
                         subst c43
                         have H1 : (spec_LatOk.l2 k6 x3_2 x4_4 (wrap64 (x5_6 + 1)) a0_0 l0_1) = some r := by rw [if_neg (show ¬ (false = true) by decide)] at H; exact H
                         clear H
                         have H := H1
                         clear H1
                         have H' := zp.mk H
                         clear H
                         have y48_0 := zt0 BK159.out
                         have y48_1 := zt1 BK159.out
                         have u48_0 := zd BK159.out 0
                         have u48_1 := zd BK159.out 1
                         have p168 : 0 ≤ (x3_2 : Int) := of_decide_eq_true (by first | (with_reducible assumption) | assumption)
                         have q168 : x3_2 < (l0_1.length : Int) := of_decide_eq_true (by first | (with_reducible assumption) | assumption)
                         obtain ⟨ad168, e168, hx168_0⟩ := Kd.at_int HR0_1.out x3_2 p168 q168
                         cases e168
                         replace hx168_0 := (HB.out.cell (World.block_lt_of_cell? w _ hx168_0)).trans hx168_0
                         replace p168 := eq_true p168
                         replace q168 := eq_true q168
                         go_wp2_with (first | (go_at_call 66; (with_reducible refine (spec_l01Bit.calls (rd l0_1 x3_2) x4_4 true _ A38.out).mono ?_); rintro e w' ⟨rfl, ⟨nd, rfl⟩⟩; (try first | exact ⟨rfl, _, World.drewN_drewN _ _ _⟩ | exact ⟨rfl, _, Eq.trans (World.drewN_drewN _ _ _) (congrArg (World.drewN _) (Nat.add_assoc _ _ _))⟩); have p170 : 0 ≤ (x4_4 : Int) := of_decide_eq_true (by first | (with_reducible assumption) | assumption); have q170 : x4_4 < (l0_1.length : Int) := of_decide_eq_true (by first | (with_reducible assumption) | assumption); obtain ⟨ad170, e170, hx170_0⟩ := Kd.at_int HR0_1.out x4_4 p170 q170; obtain rfl : ad168 = ad170 := (by injection e170); replace hx170_0 := (HB.out.cell (World.block_lt_of_cell? w _ hx170_0)).trans hx170_0; replace p170 := eq_true p170; replace q170 := eq_true q170) | (go_at_call 66; (with_reducible refine (spec_l01Bit.calls (rd l0_1 x4_4) x5_6 false _ A42.out).mono ?_); rintro e w' ⟨rfl, ⟨nd, rfl⟩⟩; (try first | exact ⟨rfl, _, World.drewN_drewN _ _ _⟩ | exact ⟨rfl, _, Eq.trans (World.drewN_drewN _ _ _) (congrArg (World.drewN _) (Nat.add_assoc _ _ _))⟩)))
                         repeat (go_quiet (first | (go_at_call 66; (with_reducible refine (spec_l01Bit.calls (rd l0_1 x3_2) x4_4 true _ A38.out).mono ?_); rintro e w' ⟨rfl, ⟨nd, rfl⟩⟩; (try first | exact ⟨rfl, _, World.drewN_drewN _ _ _⟩ | exact ⟨rfl, _, Eq.trans (World.drewN_drewN _ _ _) (congrArg (World.drewN _) (Nat.add_assoc _ _ _))⟩); have p170 : 0 ≤ (x4_4 : Int) := of_decide_eq_true (by first | (with_reducible assumption) | assumption); have q170 : x4_4 < (l0_1.length : Int) := of_decide_eq_true (by first | (with_reducible assumption) | assumption); obtain ⟨ad170, e170, hx170_0⟩ := Kd.at_int HR0_1.out x4_4 p170 q170; obtain rfl : ad168 = ad170 := (by injection e170); replace hx170_0 := (HB.out.cell (World.block_lt_of_cell? w _ hx170_0)).trans hx170_0; replace p170 := eq_true p170; replace q170 := eq_true q170) | (go_at_call 66; (with_reducible refine (spec_l01Bit.calls (rd l0_1 x4_4) x5_6 false _ A42.out).mono ?_); rintro e w' ⟨rfl, ⟨nd, rfl⟩⟩; (try first | exact ⟨rfl, _, World.drewN_drewN _ _ _⟩ | exact ⟨rfl, _, Eq.trans (World.drewN_drewN _ _ _) (congrArg (World.drewN _) (Nat.add_assoc _ _ _))⟩))); try go_wp2_with (first | (go_at_call 66; (with_reducible refine (spec_l01Bit.calls (rd l0_1 x3_2) x4_4 true _ A38.out).mono ?_); rintro e w' ⟨rfl, ⟨nd, rfl⟩⟩; (try first | exact ⟨rfl, _, World.drewN_drewN _ _ _⟩ | exact ⟨rfl, _, Eq.trans (World.drewN_drewN _ _ _) (congrArg (World.drewN _) (Nat.add_assoc _ _ _))⟩); have p170 : 0 ≤ (x4_4 : Int) := of_decide_eq_true (by first | (with_reducible assumption) | assumption); have q170 : x4_4 < (l0_1.length : Int) := of_decide_eq_true (by first | (with_reducible assumption) | assumption); obtain ⟨ad170, e170, hx170_0⟩ := Kd.at_int HR0_1.out x4_4 p170 q170; obtain rfl : ad168 = ad170 := (by injection e170); replace hx170_0 := (HB.out.cell (World.block_lt_of_cell? w _ hx170_0)).trans hx170_0; replace p170 := eq_true p170; replace q170 := eq_true q170) | (go_at_call 66; (with_reducible refine (spec_l01Bit.calls (rd l0_1 x4_4) x5_6 false _ A42.out).mono ?_); rintro e w' ⟨rfl, ⟨nd, rfl⟩⟩; (try first | exact ⟨rfl, _, World.drewN_drewN _ _ _⟩ | exact ⟨rfl, _, Eq.trans (World.drewN_drewN _ _ _) (congrArg (World.drewN _) (Nat.add_assoc _ _ _))⟩))))
                         go_roundg k6
                         case measure => have := HJ1.out; have := HK2.out; have := HJ10.out; have := HK4.out; have := HJ21.out; have := HK6.out; omega
                         case rel => exact ⟨(wrap64 (x5_6 + 1)), (by first | rfl | (simp; done) | (simp [*]; done)), H', ⟨by have := HJ1.out; have := HK2.out; have := HJ10.out; have := HK4.out; have := HJ21.out; have := HK6.out; omega⟩, ⟨zv8 BK159.out⟩, ⟨zv7 HB.out⟩⟩
                       ·rw [if_neg c41] at H
                        exact absurd H (by simp)
                      ·rw [if_neg c40] at H
                       exact absurd H (by simp)
                     ·replace c39 := Bool.eq_false_iff.mpr c39
                      subst c39
                      have H1 : (spec_LatOk.l2 k6 x3_2 x4_4 (wrap64 (x5_6 + 1)) a0_0 l0_1) = some r := by rw [if_neg (show ¬ (false = true) by decide)] at H; exact H
                      clear H
                      have H := H1
                      clear H1
                      have H' := zp.mk H
                      clear H
                      have y49_0 := zt0 BK159.out
                      have y49_1 := zt1 BK159.out
                      have u49_0 := zd BK159.out 0
                      have u49_1 := zd BK159.out 1
                      have p168 : 0 ≤ (x3_2 : Int) := of_decide_eq_true (by first | (with_reducible assumption) | assumption)
                      have q168 : x3_2 < (l0_1.length : Int) := of_decide_eq_true (by first | (with_reducible assumption) | assumption)
                      obtain ⟨ad168, e168, hx168_0⟩ := Kd.at_int HR0_1.out x3_2 p168 q168
                      cases e168
                      replace hx168_0 := (HB.out.cell (World.block_lt_of_cell? w _ hx168_0)).trans hx168_0
                      replace p168 := eq_true p168
                      replace q168 := eq_true q168
                      go_wp2_with (first | (go_at_call 66; (with_reducible refine (spec_l01Bit.calls (rd l0_1 x3_2) x4_4 false _ A38.out).mono ?_); rintro e w' ⟨rfl, ⟨nd, rfl⟩⟩; (try first | exact ⟨rfl, _, World.drewN_drewN _ _ _⟩ | exact ⟨rfl, _, Eq.trans (World.drewN_drewN _ _ _) (congrArg (World.drewN _) (Nat.add_assoc _ _ _))⟩)))
                      repeat (go_quiet (first | (go_at_call 66; (with_reducible refine (spec_l01Bit.calls (rd l0_1 x3_2) x4_4 false _ A38.out).mono ?_); rintro e w' ⟨rfl, ⟨nd, rfl⟩⟩; (try first | exact ⟨rfl, _, World.drewN_drewN _ _ _⟩ | exact ⟨rfl, _, Eq.trans (World.drewN_drewN _ _ _) (congrArg (World.drewN _) (Nat.add_assoc _ _ _))⟩))); try go_wp2_with (first | (go_at_call 66; (with_reducible refine (spec_l01Bit.calls (rd l0_1 x3_2) x4_4 false _ A38.out).mono ?_); rintro e w' ⟨rfl, ⟨nd, rfl⟩⟩; (try first | exact ⟨rfl, _, World.drewN_drewN _ _ _⟩ | exact ⟨rfl, _, Eq.trans (World.drewN_drewN _ _ _) (congrArg (World.drewN _) (Nat.add_assoc _ _ _))⟩))))
                      go_roundg k6
                      case measure => have := HJ1.out; have := HK2.out; have := HJ10.out; have := HK4.out; have := HJ21.out; have := HK6.out; omega
                      case rel => exact ⟨(wrap64 (x5_6 + 1)), (by first | rfl | (simp; done) | (simp [*]; done)), H', ⟨by have := HJ1.out; have := HK2.out; have := HJ10.out; have := HK4.out; have := HJ21.out; have := HK6.out; omega⟩, ⟨zv8 BK159.out⟩, ⟨zv7 HB.out⟩⟩
                    ·rw [if_neg c37] at H
                     exact absurd H (by simp)
                   ·rw [if_neg c36] at H
                    exact absurd H (by simp)
                  ·rw [if_neg c35] at H
                   have c35b0 : decide (x5_6 < a0_0) = false := decide_eq_false c35
                   clear c35
                   have H' := zp.mk H
                   clear H
                   have y50_0 := zt0 BK159.out
                   have y50_1 := zt1 BK159.out
                   have u50_0 := zd BK159.out 0
                   have u50_1 := zd BK159.out 1
                   go_wp2
                   repeat (go_quiet (fail); try go_wp2)
                   go_roundg k6
                   case measure => have := HJ1.out; have := HK2.out; have := HJ10.out; have := HK4.out; have := HJ21.out; have := HK6.out; omega
                   case rel => exact ⟨(wrap64 (x4_4 + 1)), (by first | rfl | (simp; done) | (simp [*]; done)), H', ⟨by have := HJ1.out; have := HK2.out; have := HJ10.out; have := HK4.out; have := HJ21.out; have := HK6.out; omega⟩, ⟨zv8 BK159.out⟩, ⟨zv7 HB.out⟩⟩
            ·rw [if_neg c21] at H
             have c21b0 : decide (x4_4 < a0_0) = false := decide_eq_false c21
             clear c21
             have H' := zp.mk H
             clear H
             have y51_0 := zt0 BK159.out
             have y51_1 := zt1 BK159.out
             have u51_0 := zd BK159.out 0
             have u51_1 := zd BK159.out 1
             go_wp2
             repeat (go_quiet (fail); try go_wp2)
             go_roundg k4
             case measure => have := HJ1.out; have := HK2.out; have := HJ10.out; have := HK4.out; omega
             case rel => exact ⟨(wrap64 (x3_2 + 1)), (by first | rfl | (simp; done) | (simp [*]; done)), H', ⟨by have := HJ1.out; have := HK2.out; have := HJ10.out; have := HK4.out; omega⟩, ⟨zv8 BK159.out⟩, ⟨zv7 HB.out⟩⟩
      ·rw [if_neg c10] at H
       have c10b0 : decide (x3_2 < a0_0) = false := decide_eq_false c10
       clear c10
       have H' := zp.mk H
       clear H
       have y52_0 := zt0 BK159.out
       have y52_1 := zt1 BK159.out
       have u52_0 := zd BK159.out 0
       have u52_1 := zd BK159.out 1
       go_wp2
       repeat (go_quiet (fail); try go_wp2)
       go_loopg [6] k2 (fun kq v6 w' => ∃ (x6_3 : Int), v6 = .int .i64 x6_3 ∧ zp (spec_LatOk.l3 kq x6_3 a0_0 l0_1 = some r) ∧ zp (kq ≤ k2) ∧ zp (w'.heap[gb159]? = some (.cells #[.int .i64 a0_0, (.slice A0_1 l0_1.length c0_1)] 27 (0, 0))) ∧ zp (Below w.heap.size w w'))
       case atStart => exact ⟨(0), (by first | rfl | (simp; done) | (simp [*]; done)), H', ⟨Nat.le_refl _⟩, ⟨zv8 BK159.out⟩, ⟨zv7 HB.out⟩⟩
       case round =>
        clear H'
        try clear c1
        try clear p1
        try clear q1
        try clear hx1
        try clear c2
        try clear p2
        try clear c3
        try clear c4
        try clear c4b0
        try clear c6
        try clear c6b0
        try clear p6
        try clear c9
        try clear c10
        try clear c10b0
        try clear c13
        try clear c13b0
        try clear c14
        try clear c14b0
        try clear c16
        try clear p16
        try clear q16
        try clear hx16
        try clear p17
        try clear q17
        try clear hx17
        try clear c18
        try clear c20
        try clear c21
        try clear c21b0
        try clear c24
        try clear c24b0
        try clear c24b1
        try clear c25
        try clear c25b0
        try clear c26
        try clear c26b0
        try clear c28
        try clear c29
        try clear c29b0
        try clear c30
        try clear c30b0
        try clear c34
        try clear c35
        try clear c35b0
        try clear c36
        try clear c36b0
        try clear c37
        try clear c37b0
        try clear c39
        try clear c40
        try clear c40b0
        try clear c41
        try clear c41b0
        try clear c43
        try clear c45
        try clear y12_0
        try clear y12_1
        try clear y18_0
        try clear y18_1
        try clear y19_0
        try clear y19_1
        try clear y23_0
        try clear y23_1
        try clear y32_0
        try clear y32_1
        try clear y33_0
        try clear y33_1
        try clear y46_0
        try clear y46_1
        try clear y47_0
        try clear y47_1
        try clear y48_0
        try clear y48_1
        try clear y49_0
        try clear y49_1
        try clear y50_0
        try clear y50_1
        try clear y51_0
        try clear y51_1
        try clear y52_0
        try clear y52_1
        try clear y5_0
        try clear y5_1
        try clear y7_0
        try clear y7_1
        try clear y8_0
        try clear y8_1
        try clear u12_0
        try clear u12_1
        try clear u18_0
        try clear u18_1
        try clear u19_0
        try clear u19_1
        try clear u23_0
        try clear u23_1
        try clear u32_0
        try clear u32_1
        try clear u33_0
        try clear u33_1
        try clear u46_0
        try clear u46_1
        try clear u47_0
        try clear u47_1
        try clear u48_0
        try clear u48_1
        try clear u49_0
        try clear u49_1
        try clear u50_0
        try clear u50_1
        try clear u51_0
        try clear u51_1
        try clear u52_0
        try clear u52_1
        try clear u5_0
        try clear u5_1
        try clear u7_0
        try clear u7_1
        try clear u8_0
        try clear u8_1
        try clear hx160_0
        try clear hx162_0
        try clear hx164_0
        try clear hx166_0
        try clear hx168_0
        try clear hx170_0
        try clear hx172_0
        try clear p1
        try clear p16
        try clear p160
        try clear p162
        try clear p164
        try clear p166
        try clear p168
        try clear p170
        try clear p172
        try clear p2
        try clear q1
        try clear q16
        try clear q160
        try clear q162
        try clear q164
        try clear q166
        try clear q168
        try clear q170
        try clear q172
        obtain ⟨x6_3, rfl, HA, HK3, BK159, HB⟩ := hrel
        cases gk with
        | zero => exact absurd HA.out (by simp [spec_LatOk.l3])
        | succ k3 =>
         have H := HA.out
         clear HA
         simp only [spec_LatOk.l3] at H
         by_cases c53 : x6_3 < a0_0
         ·rw [if_pos c53] at H
          have c53b0 : decide (x6_3 < a0_0) = true := decide_eq_true c53
          clear c53
          have H' := zp.mk H
          clear H
          have y54_0 := zt0 BK159.out
          have y54_1 := zt1 BK159.out
          have u54_0 := zd BK159.out 0
          have u54_1 := zd BK159.out 1
          go_wp2
          repeat (go_quiet (fail); try go_wp2)
          go_loopg [7] k3 (fun kq v7 w' => ∃ (x7_4 : Int), v7 = .int .i64 x7_4 ∧ zp (spec_LatOk.l4 kq x6_3 x7_4 a0_0 l0_1 = some r) ∧ zp (kq ≤ k3) ∧ zp (w'.heap[gb159]? = some (.cells #[.int .i64 a0_0, (.slice A0_1 l0_1.length c0_1)] 27 (0, 0))) ∧ zp (Below w.heap.size w w'))
          case atStart => exact ⟨(0), (by first | rfl | (simp; done) | (simp [*]; done)), H', ⟨Nat.le_refl _⟩, ⟨zv8 BK159.out⟩, ⟨zv7 HB.out⟩⟩
          case round =>
           clear H'
           try clear c1
           try clear p1
           try clear q1
           try clear hx1
           try clear c2
           try clear p2
           try clear c3
           try clear c4
           try clear c4b0
           try clear c5
           try clear c6
           try clear c6b0
           try clear p6
           try clear c9
           try clear c10
           try clear c10b0
           try clear c13
           try clear c13b0
           try clear c14
           try clear c14b0
           try clear c16
           try clear p16
           try clear q16
           try clear hx16
           try clear p17
           try clear q17
           try clear hx17
           try clear c18
           try clear c20
           try clear c21
           try clear c21b0
           try clear c24
           try clear c24b0
           try clear c24b1
           try clear c25
           try clear c25b0
           try clear c26
           try clear c26b0
           try clear c28
           try clear c29
           try clear c29b0
           try clear c30
           try clear c30b0
           try clear c34
           try clear c35
           try clear c35b0
           try clear c36
           try clear c36b0
           try clear c37
           try clear c37b0
           try clear c39
           try clear c40
           try clear c40b0
           try clear c41
           try clear c41b0
           try clear c43
           try clear c45
           try clear c53
           try clear c53b0
           try clear y12_0
           try clear y12_1
           try clear y18_0
           try clear y18_1
           try clear y19_0
           try clear y19_1
           try clear y23_0
           try clear y23_1
           try clear y32_0
           try clear y32_1
           try clear y33_0
           try clear y33_1
           try clear y46_0
           try clear y46_1
           try clear y47_0
           try clear y47_1
           try clear y48_0
           try clear y48_1
           try clear y49_0
           try clear y49_1
           try clear y50_0
           try clear y50_1
           try clear y51_0
           try clear y51_1
           try clear y52_0
           try clear y52_1
           try clear y54_0
           try clear y54_1
           try clear y5_0
           try clear y5_1
           try clear y7_0
           try clear y7_1
           try clear y8_0
           try clear y8_1
           try clear u12_0
           try clear u12_1
           try clear u18_0
           try clear u18_1
           try clear u19_0
           try clear u19_1
           try clear u23_0
           try clear u23_1
           try clear u32_0
           try clear u32_1
           try clear u33_0
           try clear u33_1
           try clear u46_0
           try clear u46_1
           try clear u47_0
           try clear u47_1
           try clear u48_0
           try clear u48_1
           try clear u49_0
           try clear u49_1
           try clear u50_0
           try clear u50_1
           try clear u51_0
           try clear u51_1
           try clear u52_0
           try clear u52_1
           try clear u54_0
           try clear u54_1
           try clear u5_0
           try clear u5_1
           try clear u7_0
           try clear u7_1
           try clear u8_0
           try clear u8_1
           try clear hx160_0
           try clear hx162_0
           try clear hx164_0
           try clear hx166_0
           try clear hx168_0
           try clear hx170_0
           try clear hx172_0
           try clear p1
           try clear p16
           try clear p160
           try clear p162
           try clear p164
           try clear p166
           try clear p168
           try clear p17
           try clear p170
           try clear p172
           try clear p2
           try clear p6
           try clear q1
           try clear q16
           try clear q160
           try clear q162
           try clear q164
           try clear q166
           try clear q168
           try clear q17
           try clear q170
           try clear q172
           obtain ⟨x7_4, rfl, HA, HK4, BK159, HB⟩ := hrel
           cases gk with
           | zero => exact absurd HA.out (by simp [spec_LatOk.l4])
           | succ k4 =>
            have H := HA.out
            clear HA
            simp only [spec_LatOk.l4] at H
            by_cases c55 : x7_4 < x6_3
            ·rw [if_pos c55] at H
             have c55b0 : decide (x7_4 < x6_3) = true := decide_eq_true c55
             clear c55
             replace H := zs4 H
             obtain ⟨t174, A560, H⟩ := H
             replace H : (if t174 < 0 then (some false) else ((spec_l01Bound.f k4 a0_0 l0_1 x6_3 x7_4 false).bind fun t175 => (if t175 < 0 then (some false) else (spec_LatOk.l4 k4 x6_3 (wrap64 (x7_4 + 1)) a0_0 l0_1)))) = some r := H
             have A56 := zp.mk A560
             clear A560
             by_cases c57 : t174 < 0
             ·rw [if_pos c57] at H
              have c57b0 : decide (t174 < 0) = true := decide_eq_true c57
              clear c57
              obtain rfl := Option.some.inj H
              have y58_0 := zt0 BK159.out
              have y58_1 := zt1 BK159.out
              have u58_0 := zd BK159.out 0
              have u58_1 := zd BK159.out 1
              go_wp2_with (first | (go_at_call 68; (with_reducible refine (spec_l01Bound.calls k4 a0_0 _ _ l0_1 x6_3 x7_4 true t174 _ ?side1 ?side2 A56.out).mono ?_); (case side1 => repeat (first | exact (Kd.zt HR0_1.out HB.out) | (with_reducible refine Kd.zr ?_ _) | (with_reducible refine Kd.zq ?_ _) | (with_reducible refine Kd.C_drew ?_))); (case side2 => exact HC0_1.out); rintro e w59 ⟨rfl, hb⟩; replace BK159 := zp.mk (zl (zv8 BK159.out) hb); replace HB := zp.mk (zj (zv7 HB.out) hb); (try clear hb); (try clear hb2); (try clear hk); (try clear hi)))
              repeat (go_quiet (first | (go_at_call 68; (with_reducible refine (spec_l01Bound.calls k4 a0_0 _ _ l0_1 x6_3 x7_4 true t174 _ ?side1 ?side2 A56.out).mono ?_); (case side1 => repeat (first | exact (Kd.zt HR0_1.out HB.out) | (with_reducible refine Kd.zr ?_ _) | (with_reducible refine Kd.zq ?_ _) | (with_reducible refine Kd.C_drew ?_))); (case side2 => exact HC0_1.out); rintro e w59 ⟨rfl, hb⟩; replace BK159 := zp.mk (zl (zv8 BK159.out) hb); replace HB := zp.mk (zj (zv7 HB.out) hb); (try clear hb); (try clear hb2); (try clear hk); (try clear hi))); try go_wp2_with (first | (go_at_call 68; (with_reducible refine (spec_l01Bound.calls k4 a0_0 _ _ l0_1 x6_3 x7_4 true t174 _ ?side1 ?side2 A56.out).mono ?_); (case side1 => repeat (first | exact (Kd.zt HR0_1.out HB.out) | (with_reducible refine Kd.zr ?_ _) | (with_reducible refine Kd.zq ?_ _) | (with_reducible refine Kd.C_drew ?_))); (case side2 => exact HC0_1.out); rintro e w59 ⟨rfl, hb⟩; replace BK159 := zp.mk (zl (zv8 BK159.out) hb); replace HB := zp.mk (zj (zv7 HB.out) hb); (try clear hb); (try clear hb2); (try clear hk); (try clear hi))))
              go_ret
              exact ⟨by first | rfl | (simp [errW_none, errW_some] <;> rfl) | (simp [*, errW_none, errW_some] <;> rfl), zv7 HB.out⟩
             ·rw [if_neg c57] at H
              have c57b0 : decide (t174 < 0) = false := decide_eq_false c57
              clear c57
              replace H := zs4 H
              obtain ⟨t175, A600, H⟩ := H
              replace H : (if t175 < 0 then (some false) else (spec_LatOk.l4 k4 x6_3 (wrap64 (x7_4 + 1)) a0_0 l0_1)) = some r := H
              have A60 := zp.mk A600
              clear A600
              by_cases c61 : t175 < 0
              ·rw [if_pos c61] at H
               have c61b0 : decide (t175 < 0) = true := decide_eq_true c61
               clear c61
               obtain rfl := Option.some.inj H
               have y62_0 := zt0 BK159.out
               have y62_1 := zt1 BK159.out
               have u62_0 := zd BK159.out 0
               have u62_1 := zd BK159.out 1
               go_wp2_with (first | (go_at_call 68; (with_reducible refine (spec_l01Bound.calls k4 a0_0 _ _ l0_1 x6_3 x7_4 true t174 _ ?side1 ?side2 A56.out).mono ?_); (case side1 => repeat (first | exact (Kd.zt HR0_1.out HB.out) | (with_reducible refine Kd.zr ?_ _) | (with_reducible refine Kd.zq ?_ _) | (with_reducible refine Kd.C_drew ?_))); (case side2 => exact HC0_1.out); rintro e w63 ⟨rfl, hb⟩; replace BK159 := zp.mk (zl (zv8 BK159.out) hb); replace HB := zp.mk (zj (zv7 HB.out) hb); (try clear hb); (try clear hb2); (try clear hk); (try clear hi); have y64_0 := zt0 BK159.out; have y64_1 := zt1 BK159.out; have u64_0 := zd BK159.out 0; have u64_1 := zd BK159.out 1) | (go_at_call 68; (with_reducible refine (spec_l01Bound.calls k4 a0_0 _ _ l0_1 x6_3 x7_4 false t175 _ ?side1 ?side2 A60.out).mono ?_); (case side1 => repeat (first | exact (Kd.zt HR0_1.out HB.out) | (with_reducible refine Kd.zr ?_ _) | (with_reducible refine Kd.zq ?_ _) | (with_reducible refine Kd.C_drew ?_))); (case side2 => exact HC0_1.out); rintro e w65 ⟨rfl, hb⟩; replace BK159 := zp.mk (zl (zv8 BK159.out) hb); replace HB := zp.mk (zj (zv7 HB.out) hb); (try clear hb); (try clear hb2); (try clear hk); (try clear hi)))
               repeat (go_quiet (first | (go_at_call 68; (with_reducible refine (spec_l01Bound.calls k4 a0_0 _ _ l0_1 x6_3 x7_4 true t174 _ ?side1 ?side2 A56.out).mono ?_); (case side1 => repeat (first | exact (Kd.zt HR0_1.out HB.out) | (with_reducible refine Kd.zr ?_ _) | (with_reducible refine Kd.zq ?_ _) | (with_reducible refine Kd.C_drew ?_))); (case side2 => exact HC0_1.out); rintro e w63 ⟨rfl, hb⟩; replace BK159 := zp.mk (zl (zv8 BK159.out) hb); replace HB := zp.mk (zj (zv7 HB.out) hb); (try clear hb); (try clear hb2); (try clear hk); (try clear hi); have y64_0 := zt0 BK159.out; have y64_1 := zt1 BK159.out; have u64_0 := zd BK159.out 0; have u64_1 := zd BK159.out 1) | (go_at_call 68; (with_reducible refine (spec_l01Bound.calls k4 a0_0 _ _ l0_1 x6_3 x7_4 false t175 _ ?side1 ?side2 A60.out).mono ?_); (case side1 => repeat (first | exact (Kd.zt HR0_1.out HB.out) | (with_reducible refine Kd.zr ?_ _) | (with_reducible refine Kd.zq ?_ _) | (with_reducible refine Kd.C_drew ?_))); (case side2 => exact HC0_1.out); rintro e w65 ⟨rfl, hb⟩; replace BK159 := zp.mk (zl (zv8 BK159.out) hb); replace HB := zp.mk (zj (zv7 HB.out) hb); (try clear hb); (try clear hb2); (try clear hk); (try clear hi))); try go_wp2_with (first | (go_at_call 68; (with_reducible refine (spec_l01Bound.calls k4 a0_0 _ _ l0_1 x6_3 x7_4 true t174 _ ?side1 ?side2 A56.out).mono ?_); (case side1 => repeat (first | exact (Kd.zt HR0_1.out HB.out) | (with_reducible refine Kd.zr ?_ _) | (with_reducible refine Kd.zq ?_ _) | (with_reducible refine Kd.C_drew ?_))); (case side2 => exact HC0_1.out); rintro e w63 ⟨rfl, hb⟩; replace BK159 := zp.mk (zl (zv8 BK159.out) hb); replace HB := zp.mk (zj (zv7 HB.out) hb); (try clear hb); (try clear hb2); (try clear hk); (try clear hi); have y64_0 := zt0 BK159.out; have y64_1 := zt1 BK159.out; have u64_0 := zd BK159.out 0; have u64_1 := zd BK159.out 1) | (go_at_call 68; (with_reducible refine (spec_l01Bound.calls k4 a0_0 _ _ l0_1 x6_3 x7_4 false t175 _ ?side1 ?side2 A60.out).mono ?_); (case side1 => repeat (first | exact (Kd.zt HR0_1.out HB.out) | (with_reducible refine Kd.zr ?_ _) | (with_reducible refine Kd.zq ?_ _) | (with_reducible refine Kd.C_drew ?_))); (case side2 => exact HC0_1.out); rintro e w65 ⟨rfl, hb⟩; replace BK159 := zp.mk (zl (zv8 BK159.out) hb); replace HB := zp.mk (zj (zv7 HB.out) hb); (try clear hb); (try clear hb2); (try clear hk); (try clear hi))))
               go_ret
               exact ⟨by first | rfl | (simp [errW_none, errW_some] <;> rfl) | (simp [*, errW_none, errW_some] <;> rfl), zv7 HB.out⟩
              ·rw [if_neg c61] at H
               have c61b0 : decide (t175 < 0) = false := decide_eq_false c61
               clear c61
               have H' := zp.mk H
               clear H
               have y66_0 := zt0 BK159.out
               have y66_1 := zt1 BK159.out
               have u66_0 := zd BK159.out 0
               have u66_1 := zd BK159.out 1
               go_wp2_with (first | (go_at_call 68; (with_reducible refine (spec_l01Bound.calls k4 a0_0 _ _ l0_1 x6_3 x7_4 true t174 _ ?side1 ?side2 A56.out).mono ?_); (case side1 => repeat (first | exact (Kd.zt HR0_1.out HB.out) | (with_reducible refine Kd.zr ?_ _) | (with_reducible refine Kd.zq ?_ _) | (with_reducible refine Kd.C_drew ?_))); (case side2 => exact HC0_1.out); rintro e w67 ⟨rfl, hb⟩; replace BK159 := zp.mk (zl (zv8 BK159.out) hb); replace HB := zp.mk (zj (zv7 HB.out) hb); (try clear hb); (try clear hb2); (try clear hk); (try clear hi); have y68_0 := zt0 BK159.out; have y68_1 := zt1 BK159.out; have u68_0 := zd BK159.out 0; have u68_1 := zd BK159.out 1) | (go_at_call 68; (with_reducible refine (spec_l01Bound.calls k4 a0_0 _ _ l0_1 x6_3 x7_4 false t175 _ ?side1 ?side2 A60.out).mono ?_); (case side1 => repeat (first | exact (Kd.zt HR0_1.out HB.out) | (with_reducible refine Kd.zr ?_ _) | (with_reducible refine Kd.zq ?_ _) | (with_reducible refine Kd.C_drew ?_))); (case side2 => exact HC0_1.out); rintro e w69 ⟨rfl, hb⟩; replace BK159 := zp.mk (zl (zv8 BK159.out) hb); replace HB := zp.mk (zj (zv7 HB.out) hb); (try clear hb); (try clear hb2); (try clear hk); (try clear hi)))
               repeat (go_quiet (first | (go_at_call 68; (with_reducible refine (spec_l01Bound.calls k4 a0_0 _ _ l0_1 x6_3 x7_4 true t174 _ ?side1 ?side2 A56.out).mono ?_); (case side1 => repeat (first | exact (Kd.zt HR0_1.out HB.out) | (with_reducible refine Kd.zr ?_ _) | (with_reducible refine Kd.zq ?_ _) | (with_reducible refine Kd.C_drew ?_))); (case side2 => exact HC0_1.out); rintro e w67 ⟨rfl, hb⟩; replace BK159 := zp.mk (zl (zv8 BK159.out) hb); replace HB := zp.mk (zj (zv7 HB.out) hb); (try clear hb); (try clear hb2); (try clear hk); (try clear hi); have y68_0 := zt0 BK159.out; have y68_1 := zt1 BK159.out; have u68_0 := zd BK159.out 0; have u68_1 := zd BK159.out 1) | (go_at_call 68; (with_reducible refine (spec_l01Bound.calls k4 a0_0 _ _ l0_1 x6_3 x7_4 false t175 _ ?side1 ?side2 A60.out).mono ?_); (case side1 => repeat (first | exact (Kd.zt HR0_1.out HB.out) | (with_reducible refine Kd.zr ?_ _) | (with_reducible refine Kd.zq ?_ _) | (with_reducible refine Kd.C_drew ?_))); (case side2 => exact HC0_1.out); rintro e w69 ⟨rfl, hb⟩; replace BK159 := zp.mk (zl (zv8 BK159.out) hb); replace HB := zp.mk (zj (zv7 HB.out) hb); (try clear hb); (try clear hb2); (try clear hk); (try clear hi))); try go_wp2_with (first | (go_at_call 68; (with_reducible refine (spec_l01Bound.calls k4 a0_0 _ _ l0_1 x6_3 x7_4 true t174 _ ?side1 ?side2 A56.out).mono ?_); (case side1 => repeat (first | exact (Kd.zt HR0_1.out HB.out) | (with_reducible refine Kd.zr ?_ _) | (with_reducible refine Kd.zq ?_ _) | (with_reducible refine Kd.C_drew ?_))); (case side2 => exact HC0_1.out); rintro e w67 ⟨rfl, hb⟩; replace BK159 := zp.mk (zl (zv8 BK159.out) hb); replace HB := zp.mk (zj (zv7 HB.out) hb); (try clear hb); (try clear hb2); (try clear hk); (try clear hi); have y68_0 := zt0 BK159.out; have y68_1 := zt1 BK159.out; have u68_0 := zd BK159.out 0; have u68_1 := zd BK159.out 1) | (go_at_call 68; (with_reducible refine (spec_l01Bound.calls k4 a0_0 _ _ l0_1 x6_3 x7_4 false t175 _ ?side1 ?side2 A60.out).mono ?_); (case side1 => repeat (first | exact (Kd.zt HR0_1.out HB.out) | (with_reducible refine Kd.zr ?_ _) | (with_reducible refine Kd.zq ?_ _) | (with_reducible refine Kd.C_drew ?_))); (case side2 => exact HC0_1.out); rintro e w69 ⟨rfl, hb⟩; replace BK159 := zp.mk (zl (zv8 BK159.out) hb); replace HB := zp.mk (zj (zv7 HB.out) hb); (try clear hb); (try clear hb2); (try clear hk); (try clear hi))))
               go_roundg k4
               case measure => have := HJ1.out; have := HK2.out; have := HK3.out; have := HK4.out; omega
               case rel => exact ⟨(wrap64 (x7_4 + 1)), (by first | rfl | (simp; done) | (simp [*]; done)), H', ⟨by have := HJ1.out; have := HK2.out; have := HK3.out; have := HK4.out; omega⟩, ⟨zv8 BK159.out⟩, ⟨zv7 HB.out⟩⟩
            ·rw [if_neg c55] at H
             have c55b0 : decide (x7_4 < x6_3) = false := decide_eq_false c55
             clear c55
             have H' := zp.mk H
             clear H
             go_wp2
             repeat (go_quiet (fail); try go_wp2)
             go_roundg k4
             case measure => have := HJ1.out; have := HK2.out; have := HK3.out; have := HK4.out; omega
             case rel => exact ⟨(wrap64 (x6_3 + 1)), (by first | rfl | (simp; done) | (simp [*]; done)), H', ⟨by have := HJ1.out; have := HK2.out; have := HK3.out; have := HK4.out; omega⟩, ⟨zv8 BK159.out⟩, ⟨zv7 HB.out⟩⟩
         ·rw [if_neg c53] at H
          have c53b0 : decide (x6_3 < a0_0) = false := decide_eq_false c53
          clear c53
          obtain rfl := Option.some.inj H
          have y70_0 := zt0 BK159.out
          have y70_1 := zt1 BK159.out
          have u70_0 := zd BK159.out 0
          have u70_1 := zd BK159.out 1
          go_wp2
          repeat (go_quiet (fail); try go_wp2)
          go_ret
          exact ⟨by first | rfl | (simp [errW_none, errW_some] <;> rfl) | (simp [*, errW_none, errW_some] <;> rfl), zv7 HB.out⟩

end Go.Proofs.Ytdpoliolinghfaa.QFnExactPolicySet
