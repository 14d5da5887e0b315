/- Proved: calls of the program come to the answers of the plain Lean functions that stand beside them. Each contract names its conditions. (Written by a program of this session, over the printer of the kit.) -/
import Derived.Test.YtdpoliolinghfaaZPolicySetQFnExactPolicySetx0
import Derived.Test.YtdpoliolinghfaaZPolicySetQFnExactPolicySetx9
namespace Go.Proofs.Ytdpoliolinghfaa.QFnExactPolicySet
open Go.RowKit Go.Proofs.YtdpoliolinghfaaW.PrintWords Go.Proofs.YtdpoliolinghfaaW.PrintLast Go.Proofs.YtdpoliolinghfaaW.PrintMore
attribute [local go_sem] max2_int min2_int max_two min_two max_three min_three max_four min_four   -- for this text's walks alone
set_option linter.unusedVariables false
set_option linter.unusedSimpArgs false

/-! ### impl_Lat_isOrder: function 101 -/
mutual
def impl_Lat_isOrder.l0 : Nat → Int → Int → Int → List Int → Option (Bool)
 | 0, _, _, _, _ => none
 | k + 1, x7, x8, x269000, x269001 => if x8 < x7 then ((impl_Lat_le.f x269000 x269001 x8 x8).bind fun t269 => (if t269 = true then (impl_Lat_isOrder.l1 k x8 x7 x8 x269000 0 x269000 x269001) else (some false))) else (some true)
def impl_Lat_isOrder.l1 : Nat → Int → Int → Int → Int → Int → Int → List Int → Option (Bool)
 | 0, _, _, _, _, _, _, _ => none
 | k + 1, x3, x7, x8, x17, x18, x269000, x269001 => if x18 < x17 then (if x3 = x18 then (impl_Lat_isOrder.j2 k x3 x18 x7 x8 x17 x18 false x269000 x269001) else ((impl_Lat_le.f x269000 x269001 x3 x18).bind fun t270 => (if t270 = true then ((impl_Lat_le.f x269000 x269001 x18 x3).bind fun t271 => (impl_Lat_isOrder.j2 k x3 x18 x7 x8 x17 x18 t271 x269000 x269001)) else (impl_Lat_isOrder.j2 k x3 x18 x7 x8 x17 x18 false x269000 x269001)))) else (impl_Lat_isOrder.l0 k x7 (wrap64 (x8 + 1)) x269000 x269001)
def impl_Lat_isOrder.j2 : Nat → Int → Int → Int → Int → Int → Int → Bool → Int → List Int → Option (Bool)
 | 0, _, _, _, _, _, _, _, _, _ => none
 | k + 1, x3, x4, x7, x8, x17, x18, x35, x269000, x269001 => if x35 = true then (some false) else (impl_Lat_isOrder.l2 k x3 x4 x7 x8 x17 x18 x269000 0 x269000 x269001)
def impl_Lat_isOrder.l2 : Nat → Int → Int → Int → Int → Int → Int → Int → Int → Int → List Int → Option (Bool)
 | 0, _, _, _, _, _, _, _, _, _, _ => none
 | k + 1, x3, x4, x7, x8, x17, x18, x37, x38, x269000, x269001 => if x38 < x37 then ((impl_Lat_le.f x269000 x269001 x3 x4).bind fun t272 => (if t272 = true then ((impl_Lat_le.f x269000 x269001 x4 x38).bind fun t273 => (if t273 = true then ((impl_Lat_le.f x269000 x269001 x3 x38).bind fun t274 => (if t274 = true then (impl_Lat_isOrder.l2 k x3 x4 x7 x8 x17 x18 x37 (wrap64 (x38 + 1)) x269000 x269001) else (some false))) else (impl_Lat_isOrder.l2 k x3 x4 x7 x8 x17 x18 x37 (wrap64 (x38 + 1)) x269000 x269001))) else (impl_Lat_isOrder.l2 k x3 x4 x7 x8 x17 x18 x37 (wrap64 (x38 + 1)) x269000 x269001))) else (impl_Lat_isOrder.l1 k x3 x7 x8 x17 (wrap64 (x18 + 1)) x269000 x269001)
end
def impl_Lat_isOrder.f (k : Nat) (a0_0 : Int) (l0_1 : List Int) : Option (Bool) := impl_Lat_isOrder.l0 k a0_0 0 a0_0 l0_1
set_option maxHeartbeats 8000000 in
set_option maxRecDepth 100000 in
theorem impl_Lat_isOrder.calls (k : Nat) (a0_0 : Int) (A0_1 : Option Addr) (c0_1 : Nat) (l0_1 : List Int) (r : Bool) (w : World) (hr0_1 : Kd.C (Kd.int .u64) w A0_1 l0_1.length l0_1) (hc0_1 : l0_1.length ≤ c0_1) (h : impl_Lat_isOrder.f k a0_0 l0_1 = some r) :
  Calls Try.prog 101 #[.agg #[.int .i64 a0_0, .slice A0_1 l0_1.length c0_1]] w fun e w' => e = .returned (.bool r) ∧ Below w.heap.size w w' := by
 have hu27 := Try.underlying27
 have HR0_1 := zp.mk hr0_1
 have HC0_1 := zp.mk hc0_1
 clear hr0_1 hc0_1
 have HB := zp.mk (Below.refl w.heap.size w)
 have H : (impl_Lat_isOrder.l0 k a0_0 0 a0_0 l0_1) = some r := h
 clear h
 have H' := zp.mk H
 clear H
 go_enter Try.func101, Try.ntmps101
 go_wp2_with (first | ((with_reducible refine zo (N := 1) rfl ?_); refine zm ?hg (N := 1) ?hd (cs := #[.int .i64 a0_0, .slice A0_1 l0_1.length c0_1]) (t := 27) ?hr ?_; (case hd => rfl); (case hg => rfl); (case hr => first | (go_simp; done) | (go_simp; rfl)); intro gb268 hg w2 hbox hb; have BK268 := zp.mk (hbox); have GW268 := zp.mk ((zv3 (zv6 HB.out) hg)); have GE268 := zp.mk ((zv3 (zv6 HB.out) hg)); replace HB := zp.mk (zj (zv6 HB.out) hb); clear hb hbox hg; have y3_0 := zt0 BK268.out; have y3_1 := zt1 BK268.out; have u3_0 := zd BK268.out 0; have u3_1 := zd BK268.out 1))
 go_loopg [8] k (fun kq v8 w' => ∃ (x8_1 : Int), v8 = .int .i64 x8_1 ∧ zp (impl_Lat_isOrder.l0 kq a0_0 x8_1 a0_0 l0_1 = some r) ∧ zp (kq ≤ k) ∧ zp (w'.heap[gb268]? = some (.cells #[.int .i64 a0_0, (.slice A0_1 l0_1.length c0_1)] 27 (0, 0))) ∧ zp (Below w.heap.size w w'))
 case atStart => exact ⟨(0), (by first | rfl | (simp; done) | (simp [*]; done)), H', ⟨Nat.le_refl _⟩, ⟨zv8 BK268.out⟩, ⟨zv7 HB.out⟩⟩
 case round =>
  clear H'
  try clear c1
  try clear p2
  try clear y3_0
  try clear y3_1
  try clear u3_0
  try clear u3_1
  obtain ⟨x8_1, rfl, HA, HK1, BK268, HB⟩ := hrel
  cases gk with
  | zero => exact absurd HA.out (by simp [impl_Lat_isOrder.l0])
  | succ k1 =>
   have H := HA.out
   clear HA
   simp only [impl_Lat_isOrder.l0] at H
   by_cases c4 : x8_1 < a0_0
   ·rw [if_pos c4] at H
    have c4b0 : decide (x8_1 < a0_0) = true := decide_eq_true c4
    clear c4
    replace H := zs4 H
    obtain ⟨t269, A50, H⟩ := H
    replace H : (if t269 = true then (impl_Lat_isOrder.l1 k1 x8_1 a0_0 x8_1 a0_0 0 a0_0 l0_1) else (some false)) = some r := H
    have A5 := zp.mk A50
    clear A50
    by_cases c6 : t269 = true
    ·subst c6
     have H1 : (impl_Lat_isOrder.l1 k1 x8_1 a0_0 x8_1 a0_0 0 a0_0 l0_1) = some r := by rw [if_pos rfl] at H; exact H
     clear H
     have H := H1
     clear H1
     have H' := zp.mk H
     clear H
     have y7_0 := zt0 BK268.out
     have y7_1 := zt1 BK268.out
     have u7_0 := zd BK268.out 0
     have u7_1 := zd BK268.out 1
     go_wp2_with (first | ((with_reducible refine zn (f := 74) rfl ?_); refine goesL_ (some 14) rfl rfl Try.func74 (by kernel_rfl) rfl #[.agg #[.int .i64 a0_0, .slice A0_1 l0_1.length c0_1], .int .i64 x8_1, .int .i64 x8_1] rfl (by (try simp only [List.map_toArray, List.map_cons, List.map_nil]); first | done | rfl | (simp only [List.length_drop, List.length_take]; rfl)) ?_; (with_reducible refine (impl_Lat_le.calls a0_0 _ _ l0_1 x8_1 x8_1 true _ ?side1 ?side2 A5.out).mono ?_); (case side1 => repeat (first | exact (Kd.zt HR0_1.out HB.out) | (with_reducible refine Kd.zr ?_ _) | (with_reducible refine Kd.zq ?_ _) | (with_reducible refine Kd.C_drew ?_))); (case side2 => exact HC0_1.out); rintro e w8 ⟨rfl, hb⟩; refine ⟨_, rfl, ?_⟩; replace BK268 := zp.mk (zl (zv8 BK268.out) hb); replace HB := zp.mk (zj (zv7 HB.out) hb); (try clear hb); (try clear hb2); (try clear hk); (try clear hi); have y9_0 := zt0 BK268.out; have y9_1 := zt1 BK268.out; have u9_0 := zd BK268.out 0; have u9_1 := zd BK268.out 1))
     go_loopg [18] k1 (fun kq v18 w' => ∃ (x18_2 : Int), v18 = .int .i64 x18_2 ∧ zp (impl_Lat_isOrder.l1 kq x8_1 a0_0 x8_1 a0_0 x18_2 a0_0 l0_1 = some r) ∧ zp (kq ≤ k1) ∧ zp (w'.heap[gb268]? = some (.cells #[.int .i64 a0_0, (.slice A0_1 l0_1.length c0_1)] 27 (0, 0))) ∧ zp (Below w.heap.size w w'))
     case atStart => exact ⟨(0), (by first | rfl | (simp; done) | (simp [*]; done)), H', ⟨Nat.le_refl _⟩, ⟨zv8 BK268.out⟩, ⟨zv7 HB.out⟩⟩
     case round =>
      clear H'
      try clear c1
      try clear p2
      try clear c4
      try clear c4b0
      try clear c6
      try clear c7
      try clear y3_0
      try clear y3_1
      try clear y7_0
      try clear y7_1
      try clear y9_0
      try clear y9_1
      try clear u3_0
      try clear u3_1
      try clear u7_0
      try clear u7_1
      try clear u9_0
      try clear u9_1
      try clear p2
      obtain ⟨x18_2, rfl, HA, HK2, BK268, HB⟩ := hrel
      cases gk with
      | zero => exact absurd HA.out (by simp [impl_Lat_isOrder.l1])
      | succ k2 =>
       have H := HA.out
       clear HA
       simp only [impl_Lat_isOrder.l1] at H
       by_cases c10 : x18_2 < a0_0
       ·rw [if_pos c10] at H
        have c10b0 : decide (x18_2 < a0_0) = true := decide_eq_true c10
        clear c10
        have HC11 := zp.mk H
        clear H
        go_upto_region 9 with (fail)
        go_cut [35] (fun v35 wc => ∃ (kq : Nat) (x35_10 : Bool), v35 = .bool x35_10 ∧ zp (impl_Lat_isOrder.j2 kq x8_1 x18_2 a0_0 x8_1 a0_0 x18_2 x35_10 a0_0 l0_1 = some r) ∧ zp (kq ≤ k2) ∧ zp (wc.heap[gb268]? = some (.cells #[.int .i64 a0_0, (.slice A0_1 l0_1.length c0_1)] 27 (0, 0))) ∧ zp (Below w.heap.size w wc))
        case first =>
         have H := HC11.out
         clear HC11
         by_cases c12 : x8_1 = x18_2
         ·rw [if_pos c12] at H
          have c12b0 : (x8_1 == x18_2) = true := beq_iff_eq.mpr c12
          have c12b1 : (x8_1 != x18_2) = false := bne_eq_false_iff_eq.mpr c12
          clear c12
          (first | rw [c12b0] | (simp only [i64_w, i32_w]; rw [c12b0]) | skip)
          have H' := zp.mk H
          clear H
          go_wp2
          go_meet
          case rel => exact ⟨_, (false), (by first | rfl | (simp; done) | (simp [*]; done)), H', ⟨by have := HK1.out; have := HK2.out; first | omega | exact Nat.le_refl _⟩, ⟨zv8 BK268.out⟩, ⟨zv7 HB.out⟩⟩
         ·rw [if_neg c12] at H
          have c12b0 : (x8_1 == x18_2) = false := beq_eq_false_iff_ne.mpr c12
          have c12b1 : (x8_1 != x18_2) = true := bne_iff_ne.mpr c12
          (first | rw [c12b0] | (simp only [i64_w, i32_w]; rw [c12b0]) | skip)
          replace H := zs4 H
          obtain ⟨t270, A130, H⟩ := H
          replace H : (if t270 = true then ((impl_Lat_le.f a0_0 l0_1 x18_2 x8_1).bind fun t271 => (impl_Lat_isOrder.j2 k2 x8_1 x18_2 a0_0 x8_1 a0_0 x18_2 t271 a0_0 l0_1)) else (impl_Lat_isOrder.j2 k2 x8_1 x18_2 a0_0 x8_1 a0_0 x18_2 false a0_0 l0_1)) = some r := H
          have A13 := zp.mk A130
          clear A130
          by_cases c14 : t270 = true
          ·subst c14
           have H1 : ((impl_Lat_le.f a0_0 l0_1 x18_2 x8_1).bind fun t271 => (impl_Lat_isOrder.j2 k2 x8_1 x18_2 a0_0 x8_1 a0_0 x18_2 t271 a0_0 l0_1)) = some r := by rw [if_pos rfl] at H; exact H
           clear H
           have H := H1
           clear H1
           replace H := zs4 H
           obtain ⟨t271, A150, H⟩ := H
           replace H : (impl_Lat_isOrder.j2 k2 x8_1 x18_2 a0_0 x8_1 a0_0 x18_2 t271 a0_0 l0_1) = some r := H
           have A15 := zp.mk A150
           clear A150
           have H' := zp.mk H
           clear H
           have y16_0 := zt0 BK268.out
           have y16_1 := zt1 BK268.out
           have u16_0 := zd BK268.out 0
           have u16_1 := zd BK268.out 1
           go_wp2_with (first | (go_at_call 74; (with_reducible refine (impl_Lat_le.calls a0_0 _ _ l0_1 x8_1 x18_2 true _ ?side1 ?side2 A13.out).mono ?_); (case side1 => repeat (first | exact (Kd.zt HR0_1.out HB.out) | (with_reducible refine Kd.zr ?_ _) | (with_reducible refine Kd.zq ?_ _) | (with_reducible refine Kd.C_drew ?_))); (case side2 => exact HC0_1.out); rintro e w17 ⟨rfl, hb⟩; replace BK268 := zp.mk (zl (zv8 BK268.out) hb); replace HB := zp.mk (zj (zv7 HB.out) hb); (try clear hb); (try clear hb2); (try clear hk); (try clear hi); have y18_0 := zt0 BK268.out; have y18_1 := zt1 BK268.out; have u18_0 := zd BK268.out 0; have u18_1 := zd BK268.out 1) | (go_at_call 74; (with_reducible refine (impl_Lat_le.calls a0_0 _ _ l0_1 x18_2 x8_1 t271 _ ?side1 ?side2 A15.out).mono ?_); (case side1 => repeat (first | exact (Kd.zt HR0_1.out HB.out) | (with_reducible refine Kd.zr ?_ _) | (with_reducible refine Kd.zq ?_ _) | (with_reducible refine Kd.C_drew ?_))); (case side2 => exact HC0_1.out); rintro e w19 ⟨rfl, hb⟩; replace BK268 := zp.mk (zl (zv8 BK268.out) hb); replace HB := zp.mk (zj (zv7 HB.out) hb); (try clear hb); (try clear hb2); (try clear hk); (try clear hi)))
           go_meet
           case rel => exact ⟨_, (t271), (by first | rfl | (simp; done) | (simp [*]; done)), H', ⟨by have := HK1.out; have := HK2.out; first | omega | exact Nat.le_refl _⟩, ⟨zv8 BK268.out⟩, ⟨zv7 HB.out⟩⟩
          ·replace c14 := Bool.eq_false_iff.mpr c14
           subst c14
           have H1 : (impl_Lat_isOrder.j2 k2 x8_1 x18_2 a0_0 x8_1 a0_0 x18_2 false a0_0 l0_1) = some r := by rw [if_neg (show ¬ (false = true) by decide)] at H; exact H
           clear H
           have H := H1
           clear H1
           have H' := zp.mk H
           clear H
           have y20_0 := zt0 BK268.out
           have y20_1 := zt1 BK268.out
           have u20_0 := zd BK268.out 0
           have u20_1 := zd BK268.out 1
           go_wp2_with (first | (go_at_call 74; (with_reducible refine (impl_Lat_le.calls a0_0 _ _ l0_1 x8_1 x18_2 false _ ?side1 ?side2 A13.out).mono ?_); (case side1 => repeat (first | exact (Kd.zt HR0_1.out HB.out) | (with_reducible refine Kd.zr ?_ _) | (with_reducible refine Kd.zq ?_ _) | (with_reducible refine Kd.C_drew ?_))); (case side2 => exact HC0_1.out); rintro e w21 ⟨rfl, hb⟩; replace BK268 := zp.mk (zl (zv8 BK268.out) hb); replace HB := zp.mk (zj (zv7 HB.out) hb); (try clear hb); (try clear hb2); (try clear hk); (try clear hi)))
           go_meet
           case rel => exact ⟨_, (false), (by first | rfl | (simp; done) | (simp [*]; done)), H', ⟨by have := HK1.out; have := HK2.out; first | omega | exact Nat.le_refl _⟩, ⟨zv8 BK268.out⟩, ⟨zv7 HB.out⟩⟩
        case rest =>
         clear HC11
         try clear c1
         try clear p2
         try clear c4
         try clear c4b0
         try clear c6
         try clear c7
         try clear c10
         try clear c10b0
         try clear c12
         try clear c12b0
         try clear c12b1
         try clear c14
         try clear y16_0
         try clear y16_1
         try clear y18_0
         try clear y18_1
         try clear y20_0
         try clear y20_1
         try clear y3_0
         try clear y3_1
         try clear y7_0
         try clear y7_1
         try clear y9_0
         try clear y9_1
         try clear u16_0
         try clear u16_1
         try clear u18_0
         try clear u18_1
         try clear u20_0
         try clear u20_1
         try clear u3_0
         try clear u3_1
         try clear u7_0
         try clear u7_1
         try clear u9_0
         try clear u9_1
         try clear p2
         obtain ⟨kq, x35_10, rfl, HA, HJ10, BK268, HB⟩ := hcut
         cases kq with
         | zero => exact absurd HA.out (by simp [impl_Lat_isOrder.j2])
         | succ kj10 =>
          have H := HA.out
          clear HA
          simp only [impl_Lat_isOrder.j2] at H
          by_cases c22 : x35_10 = true
          ·subst c22
           have H1 : (some false) = some r := by rw [if_pos rfl] at H; exact H
           clear H
           have H := H1
           clear H1
           obtain rfl := Option.some.inj H
           go_wp2
           go_ret
           exact ⟨by first | rfl | (simp [errW_none, errW_some] <;> rfl) | (simp [*, errW_none, errW_some] <;> rfl), zv7 HB.out⟩
          ·replace c22 := Bool.eq_false_iff.mpr c22
           subst c22
           have H1 : (impl_Lat_isOrder.l2 kj10 x8_1 x18_2 a0_0 x8_1 a0_0 x18_2 a0_0 0 a0_0 l0_1) = some r := by rw [if_neg (show ¬ (false = true) by decide)] at H; exact H
           clear H
           have H := H1
           clear H1
           have H' := zp.mk H
           clear H
           have y23_0 := zt0 BK268.out
           have y23_1 := zt1 BK268.out
           have u23_0 := zd BK268.out 0
           have u23_1 := zd BK268.out 1
           go_wp2
           go_loopg [38] kj10 (fun kq v38 w' => ∃ (x38_4 : Int), v38 = .int .i64 x38_4 ∧ zp (impl_Lat_isOrder.l2 kq x8_1 x18_2 a0_0 x8_1 a0_0 x18_2 a0_0 x38_4 a0_0 l0_1 = some r) ∧ zp (kq ≤ kj10) ∧ zp (w'.heap[gb268]? = some (.cells #[.int .i64 a0_0, (.slice A0_1 l0_1.length c0_1)] 27 (0, 0))) ∧ zp (Below w.heap.size w w'))
           case atStart => exact ⟨(0), (by first | rfl | (simp; done) | (simp [*]; done)), H', ⟨Nat.le_refl _⟩, ⟨zv8 BK268.out⟩, ⟨zv7 HB.out⟩⟩
           case round =>
            clear H'
            try clear c1
            try clear c2
            try clear p2
            try clear c4
            try clear c4b0
            try clear c6
            try clear c7
            try clear c10
            try clear c10b0
            try clear c12
            try clear c12b0
            try clear c12b1
            try clear c14
            try clear c22
            try clear y16_0
            try clear y16_1
            try clear y18_0
            try clear y18_1
            try clear y20_0
            try clear y20_1
            try clear y23_0
            try clear y23_1
            try clear y3_0
            try clear y3_1
            try clear y7_0
            try clear y7_1
            try clear y9_0
            try clear y9_1
            try clear u16_0
            try clear u16_1
            try clear u18_0
            try clear u18_1
            try clear u20_0
            try clear u20_1
            try clear u23_0
            try clear u23_1
            try clear u3_0
            try clear u3_1
            try clear u7_0
            try clear u7_1
            try clear u9_0
            try clear u9_1
            try clear p2
            obtain ⟨x38_4, rfl, HA, HK4, BK268, HB⟩ := hrel
            cases gk with
            | zero => exact absurd HA.out (by simp [impl_Lat_isOrder.l2])
            | succ k4 =>
             have H := HA.out
             clear HA
             simp only [impl_Lat_isOrder.l2] at H
             by_cases c24 : x38_4 < a0_0
             ·rw [if_pos c24] at H
              have c24b0 : decide (x38_4 < a0_0) = true := decide_eq_true c24
              clear c24
              replace H := zs4 H
              obtain ⟨t272, A250, H⟩ := H
              replace H : (if t272 = true then ((impl_Lat_le.f a0_0 l0_1 x18_2 x38_4).bind fun t273 => (if t273 = true then ((impl_Lat_le.f a0_0 l0_1 x8_1 x38_4).bind fun t274 => (if t274 = true then (impl_Lat_isOrder.l2 k4 x8_1 x18_2 a0_0 x8_1 a0_0 x18_2 a0_0 (wrap64 (x38_4 + 1)) a0_0 l0_1) else (some false))) else (impl_Lat_isOrder.l2 k4 x8_1 x18_2 a0_0 x8_1 a0_0 x18_2 a0_0 (wrap64 (x38_4 + 1)) a0_0 l0_1))) else (impl_Lat_isOrder.l2 k4 x8_1 x18_2 a0_0 x8_1 a0_0 x18_2 a0_0 (wrap64 (x38_4 + 1)) a0_0 l0_1)) = some r := H
              have A25 := zp.mk A250
              clear A250
              by_cases c26 : t272 = true
              ·subst c26
               have H1 : ((impl_Lat_le.f a0_0 l0_1 x18_2 x38_4).bind fun t273 => (if t273 = true then ((impl_Lat_le.f a0_0 l0_1 x8_1 x38_4).bind fun t274 => (if t274 = true then (impl_Lat_isOrder.l2 k4 x8_1 x18_2 a0_0 x8_1 a0_0 x18_2 a0_0 (wrap64 (x38_4 + 1)) a0_0 l0_1) else (some false))) else (impl_Lat_isOrder.l2 k4 x8_1 x18_2 a0_0 x8_1 a0_0 x18_2 a0_0 (wrap64 (x38_4 + 1)) a0_0 l0_1))) = some r := by rw [if_pos rfl] at H; exact H
               clear H
               have H := H1
               clear H1
               replace H := zs4 H
               obtain ⟨t273, A270, H⟩ := H
               replace H : (if t273 = true then ((impl_Lat_le.f a0_0 l0_1 x8_1 x38_4).bind fun t274 => (if t274 = true then (impl_Lat_isOrder.l2 k4 x8_1 x18_2 a0_0 x8_1 a0_0 x18_2 a0_0 (wrap64 (x38_4 + 1)) a0_0 l0_1) else (some false))) else (impl_Lat_isOrder.l2 k4 x8_1 x18_2 a0_0 x8_1 a0_0 x18_2 a0_0 (wrap64 (x38_4 + 1)) a0_0 l0_1)) = some r := H
               have A27 := zp.mk A270
               clear A270
               by_cases c28 : t273 = true
               ·subst c28
                have H1 : ((impl_Lat_le.f a0_0 l0_1 x8_1 x38_4).bind fun t274 => (if t274 = true then (impl_Lat_isOrder.l2 k4 x8_1 x18_2 a0_0 x8_1 a0_0 x18_2 a0_0 (wrap64 (x38_4 + 1)) a0_0 l0_1) else (some false))) = some r := by rw [if_pos rfl] at H; exact H
                clear H
                have H := H1
                clear H1
                replace H := zs4 H
                obtain ⟨t274, A290, H⟩ := H
                replace H : (if t274 = true then (impl_Lat_isOrder.l2 k4 x8_1 x18_2 a0_0 x8_1 a0_0 x18_2 a0_0 (wrap64 (x38_4 + 1)) a0_0 l0_1) else (some false)) = some r := H
                have A29 := zp.mk A290
                clear A290
                by_cases c30 : t274 = true
                ·subst c30
                 have H1 : (impl_Lat_isOrder.l2 k4 x8_1 x18_2 a0_0 x8_1 a0_0 x18_2 a0_0 (wrap64 (x38_4 + 1)) a0_0 l0_1) = some r := by rw [if_pos rfl] at H; exact H
                 clear H
                 have H := H1
                 clear H1
                 have H' := zp.mk H
                 clear H
                 have y31_0 := zt0 BK268.out
                 have y31_1 := zt1 BK268.out
                 have u31_0 := zd BK268.out 0
                 have u31_1 := zd BK268.out 1
                 go_wp2_with (first | ((with_reducible refine zn (f := 74) rfl ?_); refine goesL_ (some 44) rfl rfl Try.func74 (by kernel_rfl) rfl #[.agg #[.int .i64 a0_0, .slice A0_1 l0_1.length c0_1], .int .i64 x8_1, .int .i64 x18_2] rfl (by (try simp only [List.map_toArray, List.map_cons, List.map_nil]); first | done | rfl | (simp only [List.length_drop, List.length_take]; rfl)) ?_; (with_reducible refine (impl_Lat_le.calls a0_0 _ _ l0_1 x8_1 x18_2 true _ ?side1 ?side2 A25.out).mono ?_); (case side1 => repeat (first | exact (Kd.zt HR0_1.out HB.out) | (with_reducible refine Kd.zr ?_ _) | (with_reducible refine Kd.zq ?_ _) | (with_reducible refine Kd.C_drew ?_))); (case side2 => exact HC0_1.out); rintro e w32 ⟨rfl, hb⟩; refine ⟨_, rfl, ?_⟩; replace BK268 := zp.mk (zl (zv8 BK268.out) hb); replace HB := zp.mk (zj (zv7 HB.out) hb); (try clear hb); (try clear hb2); (try clear hk); (try clear hi); have y33_0 := zt0 BK268.out; have y33_1 := zt1 BK268.out; have u33_0 := zd BK268.out 0; have u33_1 := zd BK268.out 1) | (go_at_call 74; (with_reducible refine (impl_Lat_le.calls a0_0 _ _ l0_1 x18_2 x38_4 true _ ?side1 ?side2 A27.out).mono ?_); (case side1 => repeat (first | exact (Kd.zt HR0_1.out HB.out) | (with_reducible refine Kd.zr ?_ _) | (with_reducible refine Kd.zq ?_ _) | (with_reducible refine Kd.C_drew ?_))); (case side2 => exact HC0_1.out); rintro e w34 ⟨rfl, hb⟩; replace BK268 := zp.mk (zl (zv8 BK268.out) hb); replace HB := zp.mk (zj (zv7 HB.out) hb); (try clear hb); (try clear hb2); (try clear hk); (try clear hi); have y35_0 := zt0 BK268.out; have y35_1 := zt1 BK268.out; have u35_0 := zd BK268.out 0; have u35_1 := zd BK268.out 1) | (go_at_call 74; (with_reducible refine (impl_Lat_le.calls a0_0 _ _ l0_1 x8_1 x38_4 true _ ?side1 ?side2 A29.out).mono ?_); (case side1 => repeat (first | exact (Kd.zt HR0_1.out HB.out) | (with_reducible refine Kd.zr ?_ _) | (with_reducible refine Kd.zq ?_ _) | (with_reducible refine Kd.C_drew ?_))); (case side2 => exact HC0_1.out); rintro e w36 ⟨rfl, hb⟩; replace BK268 := zp.mk (zl (zv8 BK268.out) hb); replace HB := zp.mk (zj (zv7 HB.out) hb); (try clear hb); (try clear hb2); (try clear hk); (try clear hi)))
                 go_roundg k4
                 case measure => have := HK1.out; have := HK2.out; have := HJ10.out; have := HK4.out; omega
                 case rel => exact ⟨(wrap64 (x38_4 + 1)), (by first | rfl | (simp; done) | (simp [*]; done)), H', ⟨by have := HK1.out; have := HK2.out; have := HJ10.out; have := HK4.out; omega⟩, ⟨zv8 BK268.out⟩, ⟨zv7 HB.out⟩⟩
                ·replace c30 := Bool.eq_false_iff.mpr c30
                 subst c30
                 have H1 : (some false) = some r := by rw [if_neg (show ¬ (false = true) by decide)] at H; exact H
                 clear H
                 have H := H1
                 clear H1
                 obtain rfl := Option.some.inj H
                 have y37_0 := zt0 BK268.out
                 have y37_1 := zt1 BK268.out
                 have u37_0 := zd BK268.out 0
                 have u37_1 := zd BK268.out 1
                 go_wp2_with (first | ((with_reducible refine zn (f := 74) rfl ?_); refine goesL_ (some 44) rfl rfl Try.func74 (by kernel_rfl) rfl #[.agg #[.int .i64 a0_0, .slice A0_1 l0_1.length c0_1], .int .i64 x8_1, .int .i64 x18_2] rfl (by (try simp only [List.map_toArray, List.map_cons, List.map_nil]); first | done | rfl | (simp only [List.length_drop, List.length_take]; rfl)) ?_; (with_reducible refine (impl_Lat_le.calls a0_0 _ _ l0_1 x8_1 x18_2 true _ ?side1 ?side2 A25.out).mono ?_); (case side1 => repeat (first | exact (Kd.zt HR0_1.out HB.out) | (with_reducible refine Kd.zr ?_ _) | (with_reducible refine Kd.zq ?_ _) | (with_reducible refine Kd.C_drew ?_))); (case side2 => exact HC0_1.out); rintro e w38 ⟨rfl, hb⟩; refine ⟨_, rfl, ?_⟩; replace BK268 := zp.mk (zl (zv8 BK268.out) hb); replace HB := zp.mk (zj (zv7 HB.out) hb); (try clear hb); (try clear hb2); (try clear hk); (try clear hi); have y39_0 := zt0 BK268.out; have y39_1 := zt1 BK268.out; have u39_0 := zd BK268.out 0; have u39_1 := zd BK268.out 1) | (go_at_call 74; (with_reducible refine (impl_Lat_le.calls a0_0 _ _ l0_1 x18_2 x38_4 true _ ?side1 ?side2 A27.out).mono ?_); (case side1 => repeat (first | exact (Kd.zt HR0_1.out HB.out) | (with_reducible refine Kd.zr ?_ _) | (with_reducible refine Kd.zq ?_ _) | (with_reducible refine Kd.C_drew ?_))); (case side2 => exact HC0_1.out); rintro e w40 ⟨rfl, hb⟩; replace BK268 := zp.mk (zl (zv8 BK268.out) hb); replace HB := zp.mk (zj (zv7 HB.out) hb); (try clear hb); (try clear hb2); (try clear hk); (try clear hi); have y41_0 := zt0 BK268.out; have y41_1 := zt1 BK268.out; have u41_0 := zd BK268.out 0; have u41_1 := zd BK268.out 1) | (go_at_call 74; (with_reducible refine (impl_Lat_le.calls a0_0 _ _ l0_1 x8_1 x38_4 false _ ?side1 ?side2 A29.out).mono ?_); (case side1 => repeat (first | exact (Kd.zt HR0_1.out HB.out) | (with_reducible refine Kd.zr ?_ _) | (with_reducible refine Kd.zq ?_ _) | (with_reducible refine Kd.C_drew ?_))); (case side2 => exact HC0_1.out); rintro e w42 ⟨rfl, hb⟩; replace BK268 := zp.mk (zl (zv8 BK268.out) hb); replace HB := zp.mk (zj (zv7 HB.out) hb); (try clear hb); (try clear hb2); (try clear hk); (try clear hi)))
                 go_ret
                 exact ⟨by first | rfl | (simp [errW_none, errW_some] <;> rfl) | (simp [*, errW_none, errW_some] <;> rfl), zv7 HB.out⟩
               ·replace c28 := Bool.eq_false_iff.mpr c28
                subst c28
                have H1 : (impl_Lat_isOrder.l2 k4 x8_1 x18_2 a0_0 x8_1 a0_0 x18_2 a0_0 (wrap64 (x38_4 + 1)) a0_0 l0_1) = some r := by rw [if_neg (show ¬ (false = true) by decide)] at H; exact H
                clear H
                have H := H1
                clear H1
                have H' := zp.mk H
                clear H
                have y43_0 := zt0 BK268.out
                have y43_1 := zt1 BK268.out
                have u43_0 := zd BK268.out 0
                have u43_1 := zd BK268.out 1
                go_wp2_with (first | ((with_reducible refine zn (f := 74) rfl ?_); refine goesL_ (some 44) rfl rfl Try.func74 (by kernel_rfl) rfl #[.agg #[.int .i64 a0_0, .slice A0_1 l0_1.length c0_1], .int .i64 x8_1, .int .i64 x18_2] rfl (by (try simp only [List.map_toArray, List.map_cons, List.map_nil]); first | done | rfl | (simp only [List.length_drop, List.length_take]; rfl)) ?_; (with_reducible refine (impl_Lat_le.calls a0_0 _ _ l0_1 x8_1 x18_2 true _ ?side1 ?side2 A25.out).mono ?_); (case side1 => repeat (first | exact (Kd.zt HR0_1.out HB.out) | (with_reducible refine Kd.zr ?_ _) | (with_reducible refine Kd.zq ?_ _) | (with_reducible refine Kd.C_drew ?_))); (case side2 => exact HC0_1.out); rintro e w44 ⟨rfl, hb⟩; refine ⟨_, rfl, ?_⟩; replace BK268 := zp.mk (zl (zv8 BK268.out) hb); replace HB := zp.mk (zj (zv7 HB.out) hb); (try clear hb); (try clear hb2); (try clear hk); (try clear hi); have y45_0 := zt0 BK268.out; have y45_1 := zt1 BK268.out; have u45_0 := zd BK268.out 0; have u45_1 := zd BK268.out 1) | (go_at_call 74; (with_reducible refine (impl_Lat_le.calls a0_0 _ _ l0_1 x18_2 x38_4 false _ ?side1 ?side2 A27.out).mono ?_); (case side1 => repeat (first | exact (Kd.zt HR0_1.out HB.out) | (with_reducible refine Kd.zr ?_ _) | (with_reducible refine Kd.zq ?_ _) | (with_reducible refine Kd.C_drew ?_))); (case side2 => exact HC0_1.out); rintro e w46 ⟨rfl, hb⟩; replace BK268 := zp.mk (zl (zv8 BK268.out) hb); replace HB := zp.mk (zj (zv7 HB.out) hb); (try clear hb); (try clear hb2); (try clear hk); (try clear hi)))
                go_roundg k4
                case measure => have := HK1.out; have := HK2.out; have := HJ10.out; have := HK4.out; omega
                case rel => exact ⟨(wrap64 (x38_4 + 1)), (by first | rfl | (simp; done) | (simp [*]; done)), H', ⟨by have := HK1.out; have := HK2.out; have := HJ10.out; have := HK4.out; omega⟩, ⟨zv8 BK268.out⟩, ⟨zv7 HB.out⟩⟩
              ·replace c26 := Bool.eq_false_iff.mpr c26
               subst c26
               have H1 : (impl_Lat_isOrder.l2 k4 x8_1 x18_2 a0_0 x8_1 a0_0 x18_2 a0_0 (wrap64 (x38_4 + 1)) a0_0 l0_1) = some r := by rw [if_neg (show ¬ (false = true) by decide)] at H; exact H
               clear H
               have H := H1
               clear H1
               have H' := zp.mk H
               clear H
               have y47_0 := zt0 BK268.out
               have y47_1 := zt1 BK268.out
               have u47_0 := zd BK268.out 0
               have u47_1 := zd BK268.out 1
               go_wp2_with (first | ((with_reducible refine zn (f := 74) rfl ?_); refine goesL_ (some 44) rfl rfl Try.func74 (by kernel_rfl) rfl #[.agg #[.int .i64 a0_0, .slice A0_1 l0_1.length c0_1], .int .i64 x8_1, .int .i64 x18_2] rfl (by (try simp only [List.map_toArray, List.map_cons, List.map_nil]); first | done | rfl | (simp only [List.length_drop, List.length_take]; rfl)) ?_; (with_reducible refine (impl_Lat_le.calls a0_0 _ _ l0_1 x8_1 x18_2 false _ ?side1 ?side2 A25.out).mono ?_); (case side1 => repeat (first | exact (Kd.zt HR0_1.out HB.out) | (with_reducible refine Kd.zr ?_ _) | (with_reducible refine Kd.zq ?_ _) | (with_reducible refine Kd.C_drew ?_))); (case side2 => exact HC0_1.out); rintro e w48 ⟨rfl, hb⟩; refine ⟨_, rfl, ?_⟩; replace BK268 := zp.mk (zl (zv8 BK268.out) hb); replace HB := zp.mk (zj (zv7 HB.out) hb); (try clear hb); (try clear hb2); (try clear hk); (try clear hi)))
               go_roundg k4
               case measure => have := HK1.out; have := HK2.out; have := HJ10.out; have := HK4.out; omega
               case rel => exact ⟨(wrap64 (x38_4 + 1)), (by first | rfl | (simp; done) | (simp [*]; done)), H', ⟨by have := HK1.out; have := HK2.out; have := HJ10.out; have := HK4.out; omega⟩, ⟨zv8 BK268.out⟩, ⟨zv7 HB.out⟩⟩
             ·rw [if_neg c24] at H
              have c24b0 : decide (x38_4 < a0_0) = false := decide_eq_false c24
              clear c24
              have H' := zp.mk H
              clear H
              go_wp2
              go_roundg k4
              case measure => have := HK1.out; have := HK2.out; have := HJ10.out; have := HK4.out; omega
              case rel => exact ⟨(wrap64 (x18_2 + 1)), (by first | rfl | (simp; done) | (simp [*]; done)), H', ⟨by have := HK1.out; have := HK2.out; have := HJ10.out; have := HK4.out; omega⟩, ⟨zv8 BK268.out⟩, ⟨zv7 HB.out⟩⟩
       ·rw [if_neg c10] at H
        have c10b0 : decide (x18_2 < a0_0) = false := decide_eq_false c10
        clear c10
        have H' := zp.mk H
        clear H
        go_wp2
        go_roundg k2
        case measure => have := HK1.out; have := HK2.out; omega
        case rel => exact ⟨(wrap64 (x8_1 + 1)), (by first | rfl | (simp; done) | (simp [*]; done)), H', ⟨by have := HK1.out; have := HK2.out; omega⟩, ⟨zv8 BK268.out⟩, ⟨zv7 HB.out⟩⟩
    ·replace c6 := Bool.eq_false_iff.mpr c6
     subst c6
     have H1 : (some false) = some r := by rw [if_neg (show ¬ (false = true) by decide)] at H; exact H
     clear H
     have H := H1
     clear H1
     obtain rfl := Option.some.inj H
     have y49_0 := zt0 BK268.out
     have y49_1 := zt1 BK268.out
     have u49_0 := zd BK268.out 0
     have u49_1 := zd BK268.out 1
     go_wp2_with (first | ((with_reducible refine zn (f := 74) rfl ?_); refine goesL_ (some 14) rfl rfl Try.func74 (by kernel_rfl) rfl #[.agg #[.int .i64 a0_0, .slice A0_1 l0_1.length c0_1], .int .i64 x8_1, .int .i64 x8_1] rfl (by (try simp only [List.map_toArray, List.map_cons, List.map_nil]); first | done | rfl | (simp only [List.length_drop, List.length_take]; rfl)) ?_; (with_reducible refine (impl_Lat_le.calls a0_0 _ _ l0_1 x8_1 x8_1 false _ ?side1 ?side2 A5.out).mono ?_); (case side1 => repeat (first | exact (Kd.zt HR0_1.out HB.out) | (with_reducible refine Kd.zr ?_ _) | (with_reducible refine Kd.zq ?_ _) | (with_reducible refine Kd.C_drew ?_))); (case side2 => exact HC0_1.out); rintro e w50 ⟨rfl, hb⟩; refine ⟨_, rfl, ?_⟩; replace BK268 := zp.mk (zl (zv8 BK268.out) hb); replace HB := zp.mk (zj (zv7 HB.out) hb); (try clear hb); (try clear hb2); (try clear hk); (try clear hi)))
     go_ret
     exact ⟨by first | rfl | (simp [errW_none, errW_some] <;> rfl) | (simp [*, errW_none, errW_some] <;> rfl), zv7 HB.out⟩
   ·rw [if_neg c4] at H
    have c4b0 : decide (x8_1 < a0_0) = false := decide_eq_false c4
    clear c4
    obtain rfl := Option.some.inj H
    go_wp2
    go_ret
    exact ⟨by first | rfl | (simp [errW_none, errW_some] <;> rfl) | (simp [*, errW_none, errW_some] <;> rfl), zv7 HB.out⟩

end Go.Proofs.Ytdpoliolinghfaa.QFnExactPolicySet
