/- Proved: calls of the program come to the answers of the plain Lean functions that stand beside them. Each contract names its conditions. (Written by a program of this session, over the printer of the kit.) -/
import Derived.Test.YtdpoliolinghfaaZPolicySetQFnExactPolicySetx0
namespace Go.Proofs.Ytdpoliolinghfaa.QFnExactPolicySet
open Go.RowKit Go.Proofs.YtdpoliolinghfaaW.PrintWords Go.Proofs.YtdpoliolinghfaaW.PrintLast Go.Proofs.YtdpoliolinghfaaW.PrintMore
attribute [local go_sem] max2_int min2_int max_two min_two max_three min_three max_four min_four   -- for this text's walks alone
set_option linter.unusedVariables false
set_option linter.unusedSimpArgs false

/-! ### impl_Lat_le: function 74 -/
def impl_Lat_le.f (a0_0 : Int) (l0_1 : List Int) (a1 : Int) (a2 : Int) : Option (Bool) := if 0 ≤ a1 then (if a1 < (l0_1.length : Int) then (if 0 ≤ a2 then (some ((Go.bits .and .u64 (shr .u64 (rd l0_1 a1) a2) 1) == 1)) else (none)) else (none)) else (none)
set_option maxHeartbeats 8000000 in
set_option maxRecDepth 100000 in
theorem impl_Lat_le.calls (a0_0 : Int) (A0_1 : Option Addr) (c0_1 : Nat) (l0_1 : List Int) (a1 : Int) (a2 : Int) (r : Bool) (w : World) (hr0_1 : Kd.C (Kd.int .u64) w A0_1 l0_1.length l0_1) (hc0_1 : l0_1.length ≤ c0_1) (h : impl_Lat_le.f a0_0 l0_1 a1 a2 = some r) :
  Calls Try.prog 74 #[.agg #[.int .i64 a0_0, .slice A0_1 l0_1.length c0_1], .int .i64 a1, .int .i64 a2] w fun e w' => e = .returned (.bool r) ∧ Below w.heap.size w w' := by
 have hu27 := Try.underlying27
 have HR0_1 := zp.mk hr0_1
 have HC0_1 := zp.mk hc0_1
 clear hr0_1 hc0_1
 have HB := zp.mk (Below.refl w.heap.size w)
 have H : (if 0 ≤ a1 then (if a1 < (l0_1.length : Int) then (if 0 ≤ a2 then (some ((Go.bits .and .u64 (shr .u64 (rd l0_1 a1) a2) 1) == 1)) else (none)) else (none)) else (none)) = some r := h
 clear h
 by_cases c4 : 0 ≤ a1
 ·rw [if_pos c4] at H
  have c4b0 : decide (0 ≤ a1) = true := decide_eq_true c4
  clear c4
  by_cases c5 : a1 < (l0_1.length : Int)
  ·rw [if_pos c5] at H
   have c5b0 : decide (a1 < (l0_1.length : Int)) = true := decide_eq_true c5
   clear c5
   by_cases c6 : 0 ≤ a2
   ·rw [if_pos c6] at H
    have c6b0 := eq_true c6
    have c6b1 : decide (0 ≤ a2) = true := decide_eq_true c6
    clear c6
    obtain ⟨ji7, hji7⟩ : ∃ j_ : Int, (shr .u64 (rd l0_1 a1) a2) = j_ := ⟨_, rfl⟩
    replace H : (some ((Go.bits .and .u64 (ji7) 1) == 1)) = some r := by first | (rw [hji7] at H; exact H) | (simp only [hji7] at H ⊢; exact H)
    have hji7_ : ((rd l0_1 a1) / 2 ^ min a2.toNat 64) = ji7 := hji7
    have hji7z : a2 ≤ 64 → ((rd l0_1 a1) / 2 ^ a2.toNat) = ji7 := shr_small hji7
    obtain rfl := Option.some.inj H
    go_enter Try.func74, Try.ntmps74
    go_wp2_with (first | ((with_reducible refine zo (N := 3) rfl ?_); refine zm ?hg (N := 3) ?hd (cs := #[.int .i64 a0_0, .slice A0_1 l0_1.length c0_1]) (t := 27) ?hr ?_; (case hd => rfl); (case hg => rfl); (case hr => first | (go_simp; done) | (go_simp; rfl)); intro gb260 hg w8 hbox hb; have BK260 := zp.mk (hbox); have GW260 := zp.mk ((zv3 (zv6 HB.out) hg)); have GE260 := zp.mk ((zv3 (zv6 HB.out) hg)); replace HB := zp.mk (zj (zv6 HB.out) hb); clear hb hbox hg; have y9_0 := zt0 BK260.out; have y9_1 := zt1 BK260.out; have u9_0 := zd BK260.out 0; have u9_1 := zd BK260.out 1; have p261 : 0 ≤ (a1 : Int) := of_decide_eq_true (by first | (with_reducible assumption) | assumption); have q261 : a1 < (l0_1.length : Int) := of_decide_eq_true (by first | (with_reducible assumption) | assumption); obtain ⟨ad261, e261, hx261_0⟩ := Kd.at_int HR0_1.out a1 p261 q261; cases e261; replace hx261_0 := (HB.out.cell (World.block_lt_of_cell? w _ hx261_0)).trans hx261_0; replace p261 := eq_true p261; replace q261 := eq_true q261))
    go_ret
    exact ⟨by first | rfl | (simp [errW_none, errW_some] <;> rfl) | (simp only [← hji7]; first | rfl | (simp [errW_none, errW_some] <;> rfl)) | (simp [*, errW_none, errW_some] <;> rfl), zv7 HB.out⟩
   ·rw [if_neg c6] at H
    exact absurd H (by simp)
  ·rw [if_neg c5] at H
   exact absurd H (by simp)
 ·rw [if_neg c4] at H
  exact absurd H (by simp)

/-! ### impl_Lat_bound_1: function 102 -/
@[go_sem] theorem run_makeFuncQ (P : Program) (fn : Fn) (first cap : Array Value) (w : World) : (Instr.makeFunc fn first cap).run P w = .ok (.func fn first cap) w := rfl
@[go_sem] theorem events_makeFuncQ (P : Program) (fn : Fn) (first cap : Array Value) (w : World) (es : Array Event) : (Instr.makeFunc fn first cap).events P w es = es := rfl
def impl_Lat_bound_1.f (a0 : Bool) (a1_0 : Int) (l1_1 : List Int) (a2 : Int) (a3 : Int) : Option (Bool) := if a0 = true then impl_Lat_le.f a1_0 l1_1 a2 a3 else impl_Lat_le.f a1_0 l1_1 a3 a2
set_option maxHeartbeats 2000000 in
set_option maxRecDepth 100000 in
theorem impl_Lat_bound_1.calls {gu gl : Nat} (a0 : Bool) (a1_0 : Int) (A1_1 : Option Addr) (c1_1 : Nat) (l1_1 : List Int) (a2 : Int) (a3 : Int) (r : Bool) (w : World) (hr1_1 : Kd.C (Kd.int .u64) w A1_1 l1_1.length l1_1) (hc1_1 : l1_1.length ≤ c1_1) (h : impl_Lat_bound_1.f a0 a1_0 l1_1 a2 a3 = some r)
  (hu : w.heap[gu]? = some (.cells #[.bool a0] 4 (0, 0))) (hl : w.heap[gl]? = some (.cells #[.int .i64 a1_0, .slice A1_1 l1_1.length c1_1] 27 (0, 0))) :
  Calls Try.prog 102 #[.int .i64 a2, .int .i64 a3, .pointer (some ⟨gu, 0, none⟩), .pointer (some ⟨gl, 0, none⟩)] w fun e w' => e = .returned (.bool r) ∧ Below w.heap.size w w' := by
 have huL := Try.underlying27
 have HR1_1 := zp.mk hr1_1
 have HC1_1 := zp.mk hc1_1
 have HB := zp.mk (Below.refl w.heap.size w)
 have hcu := (ze hu 0).trans rfl
 have hcl0 := (ze hl 0).trans rfl
 have hcl1 := (ze hl 1).trans rfl
 have hfu := zd hu 0
 have hfl0 := zd hl 0
 have hfl1 := zd hl 1
 clear hr1_1 hc1_1
 unfold impl_Lat_bound_1.f at h
 cases a0 with
 | true =>
  rw [if_pos rfl] at h
  have H := zp.mk h
  clear h
  go_enter Try.func102, Try.ntmps102
  go_wp2_with (go_at_call 74; (with_reducible refine (impl_Lat_le.calls a1_0 _ _ l1_1 a2 a3 r _ ?side1 ?side2 H.out).mono ?_); (case side1 => repeat (first | exact (Kd.zt HR1_1.out HB.out) | (with_reducible refine Kd.zr ?_ _) | (with_reducible refine Kd.zq ?_ _) | (with_reducible refine Kd.C_drew ?_))); (case side2 => exact HC1_1.out); rintro e w13 ⟨rfl, hb⟩; have n1_ := zp.mk (zj (zv6 HB.out) hb); clear HB; have HB := n1_; clear n1_; clear hb)
  go_ret
  exact ⟨rfl, zv6 HB.out⟩
 | false =>
  rw [if_neg (by decide)] at h
  have H := zp.mk h
  clear h
  go_enter Try.func102, Try.ntmps102
  go_wp2_with (go_at_call 74; (with_reducible refine (impl_Lat_le.calls a1_0 _ _ l1_1 a3 a2 r _ ?side1 ?side2 H.out).mono ?_); (case side1 => repeat (first | exact (Kd.zt HR1_1.out HB.out) | (with_reducible refine Kd.zr ?_ _) | (with_reducible refine Kd.zq ?_ _) | (with_reducible refine Kd.C_drew ?_))); (case side2 => exact HC1_1.out); rintro e w13 ⟨rfl, hb⟩; have n1_ := zp.mk (zj (zv6 HB.out) hb); clear HB; have HB := n1_; clear n1_; clear hb)
  go_ret
  exact ⟨rfl, zv6 HB.out⟩

/-! ### impl_Lat_bound: function 75 -/
mutual
def impl_Lat_bound.l0 : Nat → Int → Int → Bool → Int → Int → Int → List Int → Option (Int)
 | 0, _, _, _, _, _, _, _ => none
 | k + 1, x1, x2, x3, x15, x16, x263000, x263001 => if x16 < x15 then ((impl_Lat_bound_1.f x3 x263000 x263001 x1 x16).bind fun t263 => (if t263 = true then ((impl_Lat_bound_1.f x3 x263000 x263001 x2 x16).bind fun t264 => (impl_Lat_bound.j1 k x1 x2 x3 x16 x15 x16 (!t264) x263000 x263001)) else (impl_Lat_bound.j1 k x1 x2 x3 x16 x15 x16 true x263000 x263001))) else (some (-1))
def impl_Lat_bound.j1 : Nat → Int → Int → Bool → Int → Int → Int → Bool → Int → List Int → Option (Int)
 | 0, _, _, _, _, _, _, _, _, _ => none
 | k + 1, x1, x2, x3, x10, x15, x16, x30, x263000, x263001 => if x30 = true then (impl_Lat_bound.l0 k x1 x2 x3 x15 (wrap64 (x16 + 1)) x263000 x263001) else (impl_Lat_bound.l1 k x1 x2 x3 x10 true x15 x16 x263000 0 x263000 x263001)
def impl_Lat_bound.l1 : Nat → Int → Int → Bool → Int → Bool → Int → Int → Int → Int → Int → List Int → Option (Int)
 | 0, _, _, _, _, _, _, _, _, _, _, _ => none
 | k + 1, x1, x2, x3, x10, x11, x15, x16, x32, x33, x263000, x263001 => if x33 < x32 then ((impl_Lat_bound_1.f x3 x263000 x263001 x1 x33).bind fun t265 => (if t265 = true then ((impl_Lat_bound_1.f x3 x263000 x263001 x2 x33).bind fun t266 => (if t266 = true then ((impl_Lat_bound_1.f x3 x263000 x263001 x10 x33).bind fun t267 => (if t267 = true then (impl_Lat_bound.l1 k x1 x2 x3 x10 x11 x15 x16 x32 (wrap64 (x33 + 1)) x263000 x263001) else (impl_Lat_bound.l1 k x1 x2 x3 x10 false x15 x16 x32 (wrap64 (x33 + 1)) x263000 x263001))) else (impl_Lat_bound.l1 k x1 x2 x3 x10 x11 x15 x16 x32 (wrap64 (x33 + 1)) x263000 x263001))) else (impl_Lat_bound.l1 k x1 x2 x3 x10 x11 x15 x16 x32 (wrap64 (x33 + 1)) x263000 x263001))) else (if x11 = true then (some x10) else (impl_Lat_bound.l0 k x1 x2 x3 x15 (wrap64 (x16 + 1)) x263000 x263001))
end
def impl_Lat_bound.f (k : Nat) (a0_0 : Int) (l0_1 : List Int) (a1 : Int) (a2 : Int) (a3 : Bool) : Option (Int) := impl_Lat_bound.l0 k a1 a2 a3 a0_0 0 a0_0 l0_1
set_option maxHeartbeats 8000000 in
set_option maxRecDepth 100000 in
theorem impl_Lat_bound.calls (k : Nat) (a0_0 : Int) (A0_1 : Option Addr) (c0_1 : Nat) (l0_1 : List Int) (a1 : Int) (a2 : Int) (a3 : Bool) (r : Int) (w : World) (hr0_1 : Kd.C (Kd.int .u64) w A0_1 l0_1.length l0_1) (hc0_1 : l0_1.length ≤ c0_1) (h : impl_Lat_bound.f k a0_0 l0_1 a1 a2 a3 = some r) :
  Calls Try.prog 75 #[.agg #[.int .i64 a0_0, .slice A0_1 l0_1.length c0_1], .int .i64 a1, .int .i64 a2, .bool a3] w fun e w' => e = .returned (.int .i64 r) ∧ Below w.heap.size w w' := by
 have hu27 := Try.underlying27
 have HR0_1 := zp.mk hr0_1
 have HC0_1 := zp.mk hc0_1
 clear hr0_1 hc0_1
 have HB := zp.mk (Below.refl w.heap.size w)
 have H : (impl_Lat_bound.l0 k a1 a2 a3 a0_0 0 a0_0 l0_1) = some r := h
 clear h
 have H' := zp.mk H
 clear H
 go_enter Try.func75, Try.ntmps75
 go_wp2_with (first | ((with_reducible refine zo (N := 4) rfl ?_); refine zm ?hg (N := 4) ?hd (cs := #[.int .i64 a0_0, .slice A0_1 l0_1.length c0_1]) (t := 27) ?hr ?_; (case hd => rfl); (case hg => rfl); (case hr => first | (go_simp; done) | (go_simp; rfl)); intro gb262 hg w5 hbox hb; have BK262 := zp.mk (hbox); have GW262 := zp.mk ((zv3 (zv6 HB.out) hg)); have GE262 := zp.mk ((zv3 (zv6 HB.out) hg)); replace HB := zp.mk (zj (zv6 HB.out) hb); clear hb hbox hg; have y6_0 := zt0 BK262.out; have y6_1 := zt1 BK262.out; have u6_0 := zd BK262.out 0; have u6_1 := zd BK262.out 1) | ((with_reducible refine zo (N := 7) rfl ?_); refine zm ?hg (N := 7) ?hd (cs := #[.bool a3]) (t := 4) ?hr ?_; (case hd => rfl); (case hg => rfl); (case hr => first | (go_simp; done) | (go_simp; rfl)); intro gbu hg wbu hbox hb; have n0_ := zp.mk (zj (zv6 HB.out) hb); have n1_ := zp.mk (hbox); have n4_ := zp.mk (zl (zv8 BK262.out) hb); clear HB; clear BK262; have HB := n0_; have BKU := n1_; have BK262 := n4_; clear n0_ n1_ n4_; clear hb hbox hg; have yu_0 := zt0 BK262.out; have yu_1 := zt1 BK262.out; have uu_0 := zd BK262.out 0; have uu_1 := zd BK262.out 1))
 go_loopg [16] k (fun kq v16 w' => ∃ (x16_1 : Int), v16 = .int .i64 x16_1 ∧ zp (impl_Lat_bound.l0 kq a1 a2 a3 a0_0 x16_1 a0_0 l0_1 = some r) ∧ zp (kq ≤ k) ∧ zp (w'.heap[gb262]? = some (.cells #[.int .i64 a0_0, (.slice A0_1 l0_1.length c0_1)] 27 (0, 0))) ∧ zp (w'.heap[gbu]? = some (.cells #[.bool a3] 4 (0, 0))) ∧ zp (Below w.heap.size w w'))
 case atStart => exact ⟨(0), (by first | rfl | (simp; done) | (simp [*]; done)), H', ⟨Nat.le_refl _⟩, ⟨zv8 BK262.out⟩, ⟨by (with_reducible repeat (first | refine zf ?_ _ | refine zi ?_ | refine zg ?_ _)); exact BKU.out⟩, ⟨zv7 HB.out⟩⟩
 case round =>
  clear H'
  try clear p2
  try clear y6_0
  try clear y6_1
  try clear u6_0
  try clear u6_1
  obtain ⟨x16_1, rfl, HA, HK1, BK262, BKU, HB⟩ := hrel
  cases gk with
  | zero => exact absurd HA.out (by simp [impl_Lat_bound.l0])
  | succ k1 =>
   have H := HA.out
   clear HA
   simp only [impl_Lat_bound.l0] at H
   by_cases c7 : x16_1 < a0_0
   ·rw [if_pos c7] at H
    have c7b0 : decide (x16_1 < a0_0) = true := decide_eq_true c7
    clear c7
    have HC8 := zp.mk H
    clear H
    go_upto_region 5 with (fail)
    go_cut [30] (fun v30 wc => ∃ (kq : Nat) (x30_7 : Bool), v30 = .bool x30_7 ∧ zp (impl_Lat_bound.j1 kq a1 a2 a3 x16_1 a0_0 x16_1 x30_7 a0_0 l0_1 = some r) ∧ zp (kq ≤ k1) ∧ zp (wc.heap[gb262]? = some (.cells #[.int .i64 a0_0, (.slice A0_1 l0_1.length c0_1)] 27 (0, 0))) ∧ zp (wc.heap[gbu]? = some (.cells #[.bool a3] 4 (0, 0))) ∧ zp (Below w.heap.size w wc))
    case first =>
     have H := HC8.out
     clear HC8
     replace H := zs4 H
     obtain ⟨t263, A90, H⟩ := H
     replace H : (if t263 = true then ((impl_Lat_bound_1.f a3 a0_0 l0_1 a2 x16_1).bind fun t264 => (impl_Lat_bound.j1 k1 a1 a2 a3 x16_1 a0_0 x16_1 (!t264) a0_0 l0_1)) else (impl_Lat_bound.j1 k1 a1 a2 a3 x16_1 a0_0 x16_1 true a0_0 l0_1)) = some r := H
     have A9 := zp.mk A90
     clear A90
     by_cases c10 : t263 = true
     ·subst c10
      have H1 : ((impl_Lat_bound_1.f a3 a0_0 l0_1 a2 x16_1).bind fun t264 => (impl_Lat_bound.j1 k1 a1 a2 a3 x16_1 a0_0 x16_1 (!t264) a0_0 l0_1)) = some r := by rw [if_pos rfl] at H; exact H
      clear H
      have H := H1
      clear H1
      replace H := zs4 H
      obtain ⟨t264, A110, H⟩ := H
      replace H : (impl_Lat_bound.j1 k1 a1 a2 a3 x16_1 a0_0 x16_1 (!t264) a0_0 l0_1) = some r := H
      have A11 := zp.mk A110
      clear A110
      have H' := zp.mk H
      clear H
      have y12_0 := zt0 BK262.out
      have y12_1 := zt1 BK262.out
      have u12_0 := zd BK262.out 0
      have u12_1 := zd BK262.out 1
      go_wp2_with (first | (go_at_call 102; (with_reducible refine (impl_Lat_bound_1.calls a3 a0_0 A0_1 c0_1 l0_1 a1 x16_1 true _ ?side1 ?side2 A9.out ?sideu ?sidel).mono ?_); (case side1 => repeat (first | exact (Kd.zt HR0_1.out HB.out) | (with_reducible refine Kd.zr ?_ _) | (with_reducible refine Kd.zq ?_ _) | (with_reducible refine Kd.C_drew ?_))); (case side2 => exact HC0_1.out); (case sideu => (with_reducible repeat (first | refine zf ?_ _ | refine zi ?_ | refine zg ?_ _)); exact BKU.out); (case sidel => (with_reducible repeat (first | refine zf ?_ _ | refine zi ?_ | refine zg ?_ _)); exact BK262.out); rintro e w13 ⟨rfl, hb⟩; have nu_ := zp.mk (zl (g := gbu) (o := .cells #[.bool a3] 4 (0, 0)) (by (with_reducible repeat (first | refine zf ?_ _ | refine zi ?_ | refine zg ?_ _)); exact BKU.out) hb); clear BKU; have BKU := nu_; clear nu_; replace BK262 := zp.mk (zl (zv8 BK262.out) hb); replace HB := zp.mk (zj (zv7 HB.out) hb); (try clear hb); (try clear hb2); (try clear hk); (try clear hi); have y14_0 := zt0 BK262.out; have y14_1 := zt1 BK262.out; have u14_0 := zd BK262.out 0; have u14_1 := zd BK262.out 1) | (go_at_call 102; (with_reducible refine (impl_Lat_bound_1.calls a3 a0_0 A0_1 c0_1 l0_1 a2 x16_1 t264 _ ?side1 ?side2 A11.out ?sideu ?sidel).mono ?_); (case side1 => repeat (first | exact (Kd.zt HR0_1.out HB.out) | (with_reducible refine Kd.zr ?_ _) | (with_reducible refine Kd.zq ?_ _) | (with_reducible refine Kd.C_drew ?_))); (case side2 => exact HC0_1.out); (case sideu => (with_reducible repeat (first | refine zf ?_ _ | refine zi ?_ | refine zg ?_ _)); exact BKU.out); (case sidel => (with_reducible repeat (first | refine zf ?_ _ | refine zi ?_ | refine zg ?_ _)); exact BK262.out); rintro e w15 ⟨rfl, hb⟩; have nu_ := zp.mk (zl (g := gbu) (o := .cells #[.bool a3] 4 (0, 0)) (by (with_reducible repeat (first | refine zf ?_ _ | refine zi ?_ | refine zg ?_ _)); exact BKU.out) hb); clear BKU; have BKU := nu_; clear nu_; replace BK262 := zp.mk (zl (zv8 BK262.out) hb); replace HB := zp.mk (zj (zv7 HB.out) hb); (try clear hb); (try clear hb2); (try clear hk); (try clear hi)))
      go_meet
      case rel => exact ⟨_, (!t264), (by first | rfl | (simp; done) | (simp [*]; done)), H', ⟨by have := HK1.out; first | omega | exact Nat.le_refl _⟩, ⟨zv8 BK262.out⟩, ⟨by (with_reducible repeat (first | refine zf ?_ _ | refine zi ?_ | refine zg ?_ _)); exact BKU.out⟩, ⟨zv7 HB.out⟩⟩
     ·replace c10 := Bool.eq_false_iff.mpr c10
      subst c10
      have H1 : (impl_Lat_bound.j1 k1 a1 a2 a3 x16_1 a0_0 x16_1 true a0_0 l0_1) = some r := by rw [if_neg (show ¬ (false = true) by decide)] at H; exact H
      clear H
      have H := H1
      clear H1
      have H' := zp.mk H
      clear H
      have y16_0 := zt0 BK262.out
      have y16_1 := zt1 BK262.out
      have u16_0 := zd BK262.out 0
      have u16_1 := zd BK262.out 1
      go_wp2_with (first | (go_at_call 102; (with_reducible refine (impl_Lat_bound_1.calls a3 a0_0 A0_1 c0_1 l0_1 a1 x16_1 false _ ?side1 ?side2 A9.out ?sideu ?sidel).mono ?_); (case side1 => repeat (first | exact (Kd.zt HR0_1.out HB.out) | (with_reducible refine Kd.zr ?_ _) | (with_reducible refine Kd.zq ?_ _) | (with_reducible refine Kd.C_drew ?_))); (case side2 => exact HC0_1.out); (case sideu => (with_reducible repeat (first | refine zf ?_ _ | refine zi ?_ | refine zg ?_ _)); exact BKU.out); (case sidel => (with_reducible repeat (first | refine zf ?_ _ | refine zi ?_ | refine zg ?_ _)); exact BK262.out); rintro e w17 ⟨rfl, hb⟩; have nu_ := zp.mk (zl (g := gbu) (o := .cells #[.bool a3] 4 (0, 0)) (by (with_reducible repeat (first | refine zf ?_ _ | refine zi ?_ | refine zg ?_ _)); exact BKU.out) hb); clear BKU; have BKU := nu_; clear nu_; replace BK262 := zp.mk (zl (zv8 BK262.out) hb); replace HB := zp.mk (zj (zv7 HB.out) hb); (try clear hb); (try clear hb2); (try clear hk); (try clear hi)))
      go_meet
      case rel => exact ⟨_, (true), (by first | rfl | (simp; done) | (simp [*]; done)), H', ⟨by have := HK1.out; first | omega | exact Nat.le_refl _⟩, ⟨zv8 BK262.out⟩, ⟨by (with_reducible repeat (first | refine zf ?_ _ | refine zi ?_ | refine zg ?_ _)); exact BKU.out⟩, ⟨zv7 HB.out⟩⟩
    case rest =>
     clear HC8
     try clear c1
     try clear p2
     try clear c7
     try clear c7b0
     try clear c10
     try clear y12_0
     try clear y12_1
     try clear y14_0
     try clear y14_1
     try clear y16_0
     try clear y16_1
     try clear y6_0
     try clear y6_1
     try clear u12_0
     try clear u12_1
     try clear u14_0
     try clear u14_1
     try clear u16_0
     try clear u16_1
     try clear u6_0
     try clear u6_1
     try clear p2
     obtain ⟨kq, x30_7, rfl, HA, HJ7, BK262, BKU, HB⟩ := hcut
     cases kq with
     | zero => exact absurd HA.out (by simp [impl_Lat_bound.j1])
     | succ kj7 =>
      have H := HA.out
      clear HA
      simp only [impl_Lat_bound.j1] at H
      by_cases c18 : x30_7 = true
      ·subst c18
       have H1 : (impl_Lat_bound.l0 kj7 a1 a2 a3 a0_0 (wrap64 (x16_1 + 1)) a0_0 l0_1) = some r := by rw [if_pos rfl] at H; exact H
       clear H
       have H := H1
       clear H1
       have H' := zp.mk H
       clear H
       go_wp2
       go_roundg kj7
       case measure => have := HK1.out; have := HJ7.out; omega
       case rel => exact ⟨(wrap64 (x16_1 + 1)), (by first | rfl | (simp; done) | (simp [*]; done)), H', ⟨by have := HK1.out; have := HJ7.out; omega⟩, ⟨zv8 BK262.out⟩, ⟨by (with_reducible repeat (first | refine zf ?_ _ | refine zi ?_ | refine zg ?_ _)); exact BKU.out⟩, ⟨zv7 HB.out⟩⟩
      ·replace c18 := Bool.eq_false_iff.mpr c18
       subst c18
       have H1 : (impl_Lat_bound.l1 kj7 a1 a2 a3 x16_1 true a0_0 x16_1 a0_0 0 a0_0 l0_1) = some r := by rw [if_neg (show ¬ (false = true) by decide)] at H; exact H
       clear H
       have H := H1
       clear H1
       have H' := zp.mk H
       clear H
       have y19_0 := zt0 BK262.out
       have y19_1 := zt1 BK262.out
       have u19_0 := zd BK262.out 0
       have u19_1 := zd BK262.out 1
       go_wp2
       go_loopg [11, 33] kj7 (fun kq v11 v33 w' => ∃ (x11_3 : Bool) (x33_3 : Int), v11 = .bool x11_3 ∧ v33 = .int .i64 x33_3 ∧ zp (impl_Lat_bound.l1 kq a1 a2 a3 x16_1 x11_3 a0_0 x16_1 a0_0 x33_3 a0_0 l0_1 = some r) ∧ zp (kq ≤ kj7) ∧ zp (w'.heap[gb262]? = some (.cells #[.int .i64 a0_0, (.slice A0_1 l0_1.length c0_1)] 27 (0, 0))) ∧ zp (w'.heap[gbu]? = some (.cells #[.bool a3] 4 (0, 0))) ∧ zp (Below w.heap.size w w'))
       case atStart => exact ⟨(true), (0), (by first | rfl | (simp; done) | (simp [*]; done)), (by first | rfl | (simp; done) | (simp [*]; done)), H', ⟨Nat.le_refl _⟩, ⟨zv8 BK262.out⟩, ⟨by (with_reducible repeat (first | refine zf ?_ _ | refine zi ?_ | refine zg ?_ _)); exact BKU.out⟩, ⟨zv7 HB.out⟩⟩
       case round =>
        clear H'
        try clear c1
        try clear p2
        try clear p6
        try clear c7
        try clear c7b0
        try clear c10
        try clear c18
        try clear y12_0
        try clear y12_1
        try clear y14_0
        try clear y14_1
        try clear y16_0
        try clear y16_1
        try clear y19_0
        try clear y19_1
        try clear y6_0
        try clear y6_1
        try clear u12_0
        try clear u12_1
        try clear u14_0
        try clear u14_1
        try clear u16_0
        try clear u16_1
        try clear u19_0
        try clear u19_1
        try clear u6_0
        try clear u6_1
        try clear p2
        obtain ⟨x11_3, x33_3, rfl, rfl, HA, HK3, BK262, BKU, HB⟩ := hrel
        cases gk with
        | zero => exact absurd HA.out (by simp [impl_Lat_bound.l1])
        | succ k3 =>
         have H := HA.out
         clear HA
         simp only [impl_Lat_bound.l1] at H
         by_cases c20 : x33_3 < a0_0
         ·rw [if_pos c20] at H
          have c20b0 : decide (x33_3 < a0_0) = true := decide_eq_true c20
          clear c20
          replace H := zs4 H
          obtain ⟨t265, A210, H⟩ := H
          replace H : (if t265 = true then ((impl_Lat_bound_1.f a3 a0_0 l0_1 a2 x33_3).bind fun t266 => (if t266 = true then ((impl_Lat_bound_1.f a3 a0_0 l0_1 x16_1 x33_3).bind fun t267 => (if t267 = true then (impl_Lat_bound.l1 k3 a1 a2 a3 x16_1 x11_3 a0_0 x16_1 a0_0 (wrap64 (x33_3 + 1)) a0_0 l0_1) else (impl_Lat_bound.l1 k3 a1 a2 a3 x16_1 false a0_0 x16_1 a0_0 (wrap64 (x33_3 + 1)) a0_0 l0_1))) else (impl_Lat_bound.l1 k3 a1 a2 a3 x16_1 x11_3 a0_0 x16_1 a0_0 (wrap64 (x33_3 + 1)) a0_0 l0_1))) else (impl_Lat_bound.l1 k3 a1 a2 a3 x16_1 x11_3 a0_0 x16_1 a0_0 (wrap64 (x33_3 + 1)) a0_0 l0_1)) = some r := H
          have A21 := zp.mk A210
          clear A210
          by_cases c22 : t265 = true
          ·subst c22
           have H1 : ((impl_Lat_bound_1.f a3 a0_0 l0_1 a2 x33_3).bind fun t266 => (if t266 = true then ((impl_Lat_bound_1.f a3 a0_0 l0_1 x16_1 x33_3).bind fun t267 => (if t267 = true then (impl_Lat_bound.l1 k3 a1 a2 a3 x16_1 x11_3 a0_0 x16_1 a0_0 (wrap64 (x33_3 + 1)) a0_0 l0_1) else (impl_Lat_bound.l1 k3 a1 a2 a3 x16_1 false a0_0 x16_1 a0_0 (wrap64 (x33_3 + 1)) a0_0 l0_1))) else (impl_Lat_bound.l1 k3 a1 a2 a3 x16_1 x11_3 a0_0 x16_1 a0_0 (wrap64 (x33_3 + 1)) a0_0 l0_1))) = some r := by rw [if_pos rfl] at H; exact H
           clear H
           have H := H1
           clear H1
           replace H := zs4 H
           obtain ⟨t266, A230, H⟩ := H
           replace H : (if t266 = true then ((impl_Lat_bound_1.f a3 a0_0 l0_1 x16_1 x33_3).bind fun t267 => (if t267 = true then (impl_Lat_bound.l1 k3 a1 a2 a3 x16_1 x11_3 a0_0 x16_1 a0_0 (wrap64 (x33_3 + 1)) a0_0 l0_1) else (impl_Lat_bound.l1 k3 a1 a2 a3 x16_1 false a0_0 x16_1 a0_0 (wrap64 (x33_3 + 1)) a0_0 l0_1))) else (impl_Lat_bound.l1 k3 a1 a2 a3 x16_1 x11_3 a0_0 x16_1 a0_0 (wrap64 (x33_3 + 1)) a0_0 l0_1)) = some r := H
           have A23 := zp.mk A230
           clear A230
           by_cases c24 : t266 = true
           ·subst c24
            have H1 : ((impl_Lat_bound_1.f a3 a0_0 l0_1 x16_1 x33_3).bind fun t267 => (if t267 = true then (impl_Lat_bound.l1 k3 a1 a2 a3 x16_1 x11_3 a0_0 x16_1 a0_0 (wrap64 (x33_3 + 1)) a0_0 l0_1) else (impl_Lat_bound.l1 k3 a1 a2 a3 x16_1 false a0_0 x16_1 a0_0 (wrap64 (x33_3 + 1)) a0_0 l0_1))) = some r := by rw [if_pos rfl] at H; exact H
            clear H
            have H := H1
            clear H1
            replace H := zs4 H
            obtain ⟨t267, A250, H⟩ := H
            replace H : (if t267 = true then (impl_Lat_bound.l1 k3 a1 a2 a3 x16_1 x11_3 a0_0 x16_1 a0_0 (wrap64 (x33_3 + 1)) a0_0 l0_1) else (impl_Lat_bound.l1 k3 a1 a2 a3 x16_1 false a0_0 x16_1 a0_0 (wrap64 (x33_3 + 1)) a0_0 l0_1)) = some r := H
            have A25 := zp.mk A250
            clear A250
            by_cases c26 : t267 = true
            ·subst c26
             have H1 : (impl_Lat_bound.l1 k3 a1 a2 a3 x16_1 x11_3 a0_0 x16_1 a0_0 (wrap64 (x33_3 + 1)) a0_0 l0_1) = some r := by rw [if_pos rfl] at H; exact H
             clear H
             have H := H1
             clear H1
             have H' := zp.mk H
             clear H
             have y27_0 := zt0 BK262.out
             have y27_1 := zt1 BK262.out
             have u27_0 := zd BK262.out 0
             have u27_1 := zd BK262.out 1
             go_wp2_with (first | (go_at_call 102; (with_reducible refine (impl_Lat_bound_1.calls a3 a0_0 A0_1 c0_1 l0_1 a1 x33_3 true _ ?side1 ?side2 A21.out ?sideu ?sidel).mono ?_); (case side1 => repeat (first | exact (Kd.zt HR0_1.out HB.out) | (with_reducible refine Kd.zr ?_ _) | (with_reducible refine Kd.zq ?_ _) | (with_reducible refine Kd.C_drew ?_))); (case side2 => exact HC0_1.out); (case sideu => (with_reducible repeat (first | refine zf ?_ _ | refine zi ?_ | refine zg ?_ _)); exact BKU.out); (case sidel => (with_reducible repeat (first | refine zf ?_ _ | refine zi ?_ | refine zg ?_ _)); exact BK262.out); rintro e w28 ⟨rfl, hb⟩; have nu_ := zp.mk (zl (g := gbu) (o := .cells #[.bool a3] 4 (0, 0)) (by (with_reducible repeat (first | refine zf ?_ _ | refine zi ?_ | refine zg ?_ _)); exact BKU.out) hb); clear BKU; have BKU := nu_; clear nu_; replace BK262 := zp.mk (zl (zv8 BK262.out) hb); replace HB := zp.mk (zj (zv7 HB.out) hb); (try clear hb); (try clear hb2); (try clear hk); (try clear hi); have y29_0 := zt0 BK262.out; have y29_1 := zt1 BK262.out; have u29_0 := zd BK262.out 0; have u29_1 := zd BK262.out 1) | (go_at_call 102; (with_reducible refine (impl_Lat_bound_1.calls a3 a0_0 A0_1 c0_1 l0_1 a2 x33_3 true _ ?side1 ?side2 A23.out ?sideu ?sidel).mono ?_); (case side1 => repeat (first | exact (Kd.zt HR0_1.out HB.out) | (with_reducible refine Kd.zr ?_ _) | (with_reducible refine Kd.zq ?_ _) | (with_reducible refine Kd.C_drew ?_))); (case side2 => exact HC0_1.out); (case sideu => (with_reducible repeat (first | refine zf ?_ _ | refine zi ?_ | refine zg ?_ _)); exact BKU.out); (case sidel => (with_reducible repeat (first | refine zf ?_ _ | refine zi ?_ | refine zg ?_ _)); exact BK262.out); rintro e w30 ⟨rfl, hb⟩; have nu_ := zp.mk (zl (g := gbu) (o := .cells #[.bool a3] 4 (0, 0)) (by (with_reducible repeat (first | refine zf ?_ _ | refine zi ?_ | refine zg ?_ _)); exact BKU.out) hb); clear BKU; have BKU := nu_; clear nu_; replace BK262 := zp.mk (zl (zv8 BK262.out) hb); replace HB := zp.mk (zj (zv7 HB.out) hb); (try clear hb); (try clear hb2); (try clear hk); (try clear hi); have y31_0 := zt0 BK262.out; have y31_1 := zt1 BK262.out; have u31_0 := zd BK262.out 0; have u31_1 := zd BK262.out 1) | (go_at_call 102; (with_reducible refine (impl_Lat_bound_1.calls a3 a0_0 A0_1 c0_1 l0_1 x16_1 x33_3 true _ ?side1 ?side2 A25.out ?sideu ?sidel).mono ?_); (case side1 => repeat (first | exact (Kd.zt HR0_1.out HB.out) | (with_reducible refine Kd.zr ?_ _) | (with_reducible refine Kd.zq ?_ _) | (with_reducible refine Kd.C_drew ?_))); (case side2 => exact HC0_1.out); (case sideu => (with_reducible repeat (first | refine zf ?_ _ | refine zi ?_ | refine zg ?_ _)); exact BKU.out); (case sidel => (with_reducible repeat (first | refine zf ?_ _ | refine zi ?_ | refine zg ?_ _)); exact BK262.out); rintro e w32 ⟨rfl, hb⟩; have nu_ := zp.mk (zl (g := gbu) (o := .cells #[.bool a3] 4 (0, 0)) (by (with_reducible repeat (first | refine zf ?_ _ | refine zi ?_ | refine zg ?_ _)); exact BKU.out) hb); clear BKU; have BKU := nu_; clear nu_; replace BK262 := zp.mk (zl (zv8 BK262.out) hb); replace HB := zp.mk (zj (zv7 HB.out) hb); (try clear hb); (try clear hb2); (try clear hk); (try clear hi)))
             go_roundg k3
             case measure => have := HK1.out; have := HJ7.out; have := HK3.out; omega
             case rel => exact ⟨(x11_3), (wrap64 (x33_3 + 1)), (by first | rfl | (simp; done) | (simp [*]; done)), (by first | rfl | (simp; done) | (simp [*]; done)), H', ⟨by have := HK1.out; have := HJ7.out; have := HK3.out; omega⟩, ⟨zv8 BK262.out⟩, ⟨by (with_reducible repeat (first | refine zf ?_ _ | refine zi ?_ | refine zg ?_ _)); exact BKU.out⟩, ⟨zv7 HB.out⟩⟩
            ·replace c26 := Bool.eq_false_iff.mpr c26
             subst c26
             have H1 : (impl_Lat_bound.l1 k3 a1 a2 a3 x16_1 false a0_0 x16_1 a0_0 (wrap64 (x33_3 + 1)) a0_0 l0_1) = some r := by rw [if_neg (show ¬ (false = true) by decide)] at H; exact H
             clear H
             have H := H1
             clear H1
             have H' := zp.mk H
             clear H
             have y33_0 := zt0 BK262.out
             have y33_1 := zt1 BK262.out
             have u33_0 := zd BK262.out 0
             have u33_1 := zd BK262.out 1
             go_wp2_with (first | (go_at_call 102; (with_reducible refine (impl_Lat_bound_1.calls a3 a0_0 A0_1 c0_1 l0_1 a1 x33_3 true _ ?side1 ?side2 A21.out ?sideu ?sidel).mono ?_); (case side1 => repeat (first | exact (Kd.zt HR0_1.out HB.out) | (with_reducible refine Kd.zr ?_ _) | (with_reducible refine Kd.zq ?_ _) | (with_reducible refine Kd.C_drew ?_))); (case side2 => exact HC0_1.out); (case sideu => (with_reducible repeat (first | refine zf ?_ _ | refine zi ?_ | refine zg ?_ _)); exact BKU.out); (case sidel => (with_reducible repeat (first | refine zf ?_ _ | refine zi ?_ | refine zg ?_ _)); exact BK262.out); rintro e w34 ⟨rfl, hb⟩; have nu_ := zp.mk (zl (g := gbu) (o := .cells #[.bool a3] 4 (0, 0)) (by (with_reducible repeat (first | refine zf ?_ _ | refine zi ?_ | refine zg ?_ _)); exact BKU.out) hb); clear BKU; have BKU := nu_; clear nu_; replace BK262 := zp.mk (zl (zv8 BK262.out) hb); replace HB := zp.mk (zj (zv7 HB.out) hb); (try clear hb); (try clear hb2); (try clear hk); (try clear hi); have y35_0 := zt0 BK262.out; have y35_1 := zt1 BK262.out; have u35_0 := zd BK262.out 0; have u35_1 := zd BK262.out 1) | (go_at_call 102; (with_reducible refine (impl_Lat_bound_1.calls a3 a0_0 A0_1 c0_1 l0_1 a2 x33_3 true _ ?side1 ?side2 A23.out ?sideu ?sidel).mono ?_); (case side1 => repeat (first | exact (Kd.zt HR0_1.out HB.out) | (with_reducible refine Kd.zr ?_ _) | (with_reducible refine Kd.zq ?_ _) | (with_reducible refine Kd.C_drew ?_))); (case side2 => exact HC0_1.out); (case sideu => (with_reducible repeat (first | refine zf ?_ _ | refine zi ?_ | refine zg ?_ _)); exact BKU.out); (case sidel => (with_reducible repeat (first | refine zf ?_ _ | refine zi ?_ | refine zg ?_ _)); exact BK262.out); rintro e w36 ⟨rfl, hb⟩; have nu_ := zp.mk (zl (g := gbu) (o := .cells #[.bool a3] 4 (0, 0)) (by (with_reducible repeat (first | refine zf ?_ _ | refine zi ?_ | refine zg ?_ _)); exact BKU.out) hb); clear BKU; have BKU := nu_; clear nu_; replace BK262 := zp.mk (zl (zv8 BK262.out) hb); replace HB := zp.mk (zj (zv7 HB.out) hb); (try clear hb); (try clear hb2); (try clear hk); (try clear hi); have y37_0 := zt0 BK262.out; have y37_1 := zt1 BK262.out; have u37_0 := zd BK262.out 0; have u37_1 := zd BK262.out 1) | (go_at_call 102; (with_reducible refine (impl_Lat_bound_1.calls a3 a0_0 A0_1 c0_1 l0_1 x16_1 x33_3 false _ ?side1 ?side2 A25.out ?sideu ?sidel).mono ?_); (case side1 => repeat (first | exact (Kd.zt HR0_1.out HB.out) | (with_reducible refine Kd.zr ?_ _) | (with_reducible refine Kd.zq ?_ _) | (with_reducible refine Kd.C_drew ?_))); (case side2 => exact HC0_1.out); (case sideu => (with_reducible repeat (first | refine zf ?_ _ | refine zi ?_ | refine zg ?_ _)); exact BKU.out); (case sidel => (with_reducible repeat (first | refine zf ?_ _ | refine zi ?_ | refine zg ?_ _)); exact BK262.out); rintro e w38 ⟨rfl, hb⟩; have nu_ := zp.mk (zl (g := gbu) (o := .cells #[.bool a3] 4 (0, 0)) (by (with_reducible repeat (first | refine zf ?_ _ | refine zi ?_ | refine zg ?_ _)); exact BKU.out) hb); clear BKU; have BKU := nu_; clear nu_; replace BK262 := zp.mk (zl (zv8 BK262.out) hb); replace HB := zp.mk (zj (zv7 HB.out) hb); (try clear hb); (try clear hb2); (try clear hk); (try clear hi)))
             go_roundg k3
             case measure => have := HK1.out; have := HJ7.out; have := HK3.out; omega
             case rel => exact ⟨(false), (wrap64 (x33_3 + 1)), (by first | rfl | (simp; done) | (simp [*]; done)), (by first | rfl | (simp; done) | (simp [*]; done)), H', ⟨by have := HK1.out; have := HJ7.out; have := HK3.out; omega⟩, ⟨zv8 BK262.out⟩, ⟨by (with_reducible repeat (first | refine zf ?_ _ | refine zi ?_ | refine zg ?_ _)); exact BKU.out⟩, ⟨zv7 HB.out⟩⟩
           ·replace c24 := Bool.eq_false_iff.mpr c24
            subst c24
            have H1 : (impl_Lat_bound.l1 k3 a1 a2 a3 x16_1 x11_3 a0_0 x16_1 a0_0 (wrap64 (x33_3 + 1)) a0_0 l0_1) = some r := by rw [if_neg (show ¬ (false = true) by decide)] at H; exact H
            clear H
            have H := H1
            clear H1
            have H' := zp.mk H
            clear H
            have y39_0 := zt0 BK262.out
            have y39_1 := zt1 BK262.out
            have u39_0 := zd BK262.out 0
            have u39_1 := zd BK262.out 1
            go_wp2_with (first | (go_at_call 102; (with_reducible refine (impl_Lat_bound_1.calls a3 a0_0 A0_1 c0_1 l0_1 a1 x33_3 true _ ?side1 ?side2 A21.out ?sideu ?sidel).mono ?_); (case side1 => repeat (first | exact (Kd.zt HR0_1.out HB.out) | (with_reducible refine Kd.zr ?_ _) | (with_reducible refine Kd.zq ?_ _) | (with_reducible refine Kd.C_drew ?_))); (case side2 => exact HC0_1.out); (case sideu => (with_reducible repeat (first | refine zf ?_ _ | refine zi ?_ | refine zg ?_ _)); exact BKU.out); (case sidel => (with_reducible repeat (first | refine zf ?_ _ | refine zi ?_ | refine zg ?_ _)); exact BK262.out); rintro e w40 ⟨rfl, hb⟩; have nu_ := zp.mk (zl (g := gbu) (o := .cells #[.bool a3] 4 (0, 0)) (by (with_reducible repeat (first | refine zf ?_ _ | refine zi ?_ | refine zg ?_ _)); exact BKU.out) hb); clear BKU; have BKU := nu_; clear nu_; replace BK262 := zp.mk (zl (zv8 BK262.out) hb); replace HB := zp.mk (zj (zv7 HB.out) hb); (try clear hb); (try clear hb2); (try clear hk); (try clear hi); have y41_0 := zt0 BK262.out; have y41_1 := zt1 BK262.out; have u41_0 := zd BK262.out 0; have u41_1 := zd BK262.out 1) | (go_at_call 102; (with_reducible refine (impl_Lat_bound_1.calls a3 a0_0 A0_1 c0_1 l0_1 a2 x33_3 false _ ?side1 ?side2 A23.out ?sideu ?sidel).mono ?_); (case side1 => repeat (first | exact (Kd.zt HR0_1.out HB.out) | (with_reducible refine Kd.zr ?_ _) | (with_reducible refine Kd.zq ?_ _) | (with_reducible refine Kd.C_drew ?_))); (case side2 => exact HC0_1.out); (case sideu => (with_reducible repeat (first | refine zf ?_ _ | refine zi ?_ | refine zg ?_ _)); exact BKU.out); (case sidel => (with_reducible repeat (first | refine zf ?_ _ | refine zi ?_ | refine zg ?_ _)); exact BK262.out); rintro e w42 ⟨rfl, hb⟩; have nu_ := zp.mk (zl (g := gbu) (o := .cells #[.bool a3] 4 (0, 0)) (by (with_reducible repeat (first | refine zf ?_ _ | refine zi ?_ | refine zg ?_ _)); exact BKU.out) hb); clear BKU; have BKU := nu_; clear nu_; replace BK262 := zp.mk (zl (zv8 BK262.out) hb); replace HB := zp.mk (zj (zv7 HB.out) hb); (try clear hb); (try clear hb2); (try clear hk); (try clear hi)))
            go_roundg k3
            case measure => have := HK1.out; have := HJ7.out; have := HK3.out; omega
            case rel => exact ⟨(x11_3), (wrap64 (x33_3 + 1)), (by first | rfl | (simp; done) | (simp [*]; done)), (by first | rfl | (simp; done) | (simp [*]; done)), H', ⟨by have := HK1.out; have := HJ7.out; have := HK3.out; omega⟩, ⟨zv8 BK262.out⟩, ⟨by (with_reducible repeat (first | refine zf ?_ _ | refine zi ?_ | refine zg ?_ _)); exact BKU.out⟩, ⟨zv7 HB.out⟩⟩
          ·replace c22 := Bool.eq_false_iff.mpr c22
           subst c22
           have H1 : (impl_Lat_bound.l1 k3 a1 a2 a3 x16_1 x11_3 a0_0 x16_1 a0_0 (wrap64 (x33_3 + 1)) a0_0 l0_1) = some r := by rw [if_neg (show ¬ (false = true) by decide)] at H; exact H
           clear H
           have H := H1
           clear H1
           have H' := zp.mk H
           clear H
           have y43_0 := zt0 BK262.out
           have y43_1 := zt1 BK262.out
           have u43_0 := zd BK262.out 0
           have u43_1 := zd BK262.out 1
           go_wp2_with (first | (go_at_call 102; (with_reducible refine (impl_Lat_bound_1.calls a3 a0_0 A0_1 c0_1 l0_1 a1 x33_3 false _ ?side1 ?side2 A21.out ?sideu ?sidel).mono ?_); (case side1 => repeat (first | exact (Kd.zt HR0_1.out HB.out) | (with_reducible refine Kd.zr ?_ _) | (with_reducible refine Kd.zq ?_ _) | (with_reducible refine Kd.C_drew ?_))); (case side2 => exact HC0_1.out); (case sideu => (with_reducible repeat (first | refine zf ?_ _ | refine zi ?_ | refine zg ?_ _)); exact BKU.out); (case sidel => (with_reducible repeat (first | refine zf ?_ _ | refine zi ?_ | refine zg ?_ _)); exact BK262.out); rintro e w44 ⟨rfl, hb⟩; have nu_ := zp.mk (zl (g := gbu) (o := .cells #[.bool a3] 4 (0, 0)) (by (with_reducible repeat (first | refine zf ?_ _ | refine zi ?_ | refine zg ?_ _)); exact BKU.out) hb); clear BKU; have BKU := nu_; clear nu_; replace BK262 := zp.mk (zl (zv8 BK262.out) hb); replace HB := zp.mk (zj (zv7 HB.out) hb); (try clear hb); (try clear hb2); (try clear hk); (try clear hi)))
           go_roundg k3
           case measure => have := HK1.out; have := HJ7.out; have := HK3.out; omega
           case rel => exact ⟨(x11_3), (wrap64 (x33_3 + 1)), (by first | rfl | (simp; done) | (simp [*]; done)), (by first | rfl | (simp; done) | (simp [*]; done)), H', ⟨by have := HK1.out; have := HJ7.out; have := HK3.out; omega⟩, ⟨zv8 BK262.out⟩, ⟨by (with_reducible repeat (first | refine zf ?_ _ | refine zi ?_ | refine zg ?_ _)); exact BKU.out⟩, ⟨zv7 HB.out⟩⟩
         ·rw [if_neg c20] at H
          have c20b0 : decide (x33_3 < a0_0) = false := decide_eq_false c20
          clear c20
          by_cases c45 : x11_3 = true
          ·subst c45
           have H1 : (some x16_1) = some r := by rw [if_pos rfl] at H; exact H
           clear H
           have H := H1
           clear H1
           obtain rfl := Option.some.inj H
           go_wp2
           go_ret
           exact ⟨by first | rfl | (simp [errW_none, errW_some] <;> rfl) | (simp [*, errW_none, errW_some] <;> rfl), zv7 HB.out⟩
          ·replace c45 := Bool.eq_false_iff.mpr c45
           subst c45
           have H1 : (impl_Lat_bound.l0 k3 a1 a2 a3 a0_0 (wrap64 (x16_1 + 1)) a0_0 l0_1) = some r := by rw [if_neg (show ¬ (false = true) by decide)] at H; exact H
           clear H
           have H := H1
           clear H1
           have H' := zp.mk H
           clear H
           go_wp2
           go_roundg k3
           case measure => have := HK1.out; have := HJ7.out; have := HK3.out; omega
           case rel => exact ⟨(wrap64 (x16_1 + 1)), (by first | rfl | (simp; done) | (simp [*]; done)), H', ⟨by have := HK1.out; have := HJ7.out; have := HK3.out; omega⟩, ⟨zv8 BK262.out⟩, ⟨by (with_reducible repeat (first | refine zf ?_ _ | refine zi ?_ | refine zg ?_ _)); exact BKU.out⟩, ⟨zv7 HB.out⟩⟩
   ·rw [if_neg c7] at H
    have c7b0 : decide (x16_1 < a0_0) = false := decide_eq_false c7
    clear c7
    obtain rfl := Option.some.inj H
    go_wp2
    go_ret
    exact ⟨by first | rfl | (simp [errW_none, errW_some] <;> rfl) | (simp [*, errW_none, errW_some] <;> rfl), zv7 HB.out⟩

/-! ### impl_in: function 82 -/
def impl_in.f (a0 : Int) (a1 : Int) (a2 : Int) : Option (Bool) := if a1 ≤ a0 then (some (decide (a0 ≤ a2))) else (some false)
set_option maxHeartbeats 8000000 in
set_option maxRecDepth 100000 in
theorem impl_in.calls (a0 : Int) (a1 : Int) (a2 : Int) (r : Bool) (w : World) (h : impl_in.f a0 a1 a2 = some r) :
  Calls Try.prog 82 #[.int .i64 a0, .int .i64 a1, .int .i64 a2] w fun e w' => e = .returned (.bool r) ∧ Drawn0 w w' := by
 have H : (if a1 ≤ a0 then (some (decide (a0 ≤ a2))) else (some false)) = some r := h
 clear h
 by_cases c4 : a1 ≤ a0
 ·rw [if_pos c4] at H
  have c4b0 : decide (a1 ≤ a0) = true := decide_eq_true c4
  clear c4
  obtain rfl := Option.some.inj H
  go_enter Try.func82, Try.ntmps82
  go_wp2
  go_ret
  exact ⟨by first | rfl | (simp; done) | (simp [*]; done), by repeat (first | exact Drawn0.refl _ | apply Drawn0.step)⟩
 ·rw [if_neg c4] at H
  have c4b0 : decide (a1 ≤ a0) = false := decide_eq_false c4
  clear c4
  obtain rfl := Option.some.inj H
  go_enter Try.func82, Try.ntmps82
  go_wp2
  go_ret
  exact ⟨by first | rfl | (simp; done) | (simp [*]; done), by repeat (first | exact Drawn0.refl _ | apply Drawn0.step)⟩

end Go.Proofs.Ytdpoliolinghfaa.QFnExactPolicySet
