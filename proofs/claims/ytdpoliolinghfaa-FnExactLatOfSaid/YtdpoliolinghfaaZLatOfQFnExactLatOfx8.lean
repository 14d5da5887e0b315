/- Proved: calls of the program come to the answers of the plain Lean functions that stand beside them. Each contract names its conditions. (Written by a program of this session, over the printer of the kit.) -/
import Derived.Test.YtdpoliolinghfaaZLatOfQFnExactLatOfx0
import Derived.Test.YtdpoliolinghfaaZLatOfQFnExactLatOfx5
import Derived.Test.YtdpoliolinghfaaZLatOfQFnExactLatOfx7
namespace Go.Proofs.Ytdpoliolinghfaa.QFnExactLatOf
open Go.RowKit Go.Proofs.YtdpoliolinghfaaW.PrintWords Go.Proofs.YtdpoliolinghfaaW.PrintLast Go.Proofs.YtdpoliolinghfaaW.PrintMore
attribute [local go_sem] max2_int min2_int max_two min_two max_three min_three max_four min_four   -- for this text's walks alone
set_option linter.unusedVariables false
set_option linter.unusedSimpArgs false

/-! ### impl_LatOf: function 47 -/
mutual
def impl_LatOf.j0 : Nat → Int → List (S89) → Bool → Option (Int × List Int × Bool)
 | 0, _, _, _ => none
 | k + 1, x0, x1, x19 => if x19 = true then (some (0, ([] : List Int), false)) else (if 0 ≤ x0 then (if (x0 : Int).toNat ≤ 35184372088832 then (impl_LatOf.l0 k x0 x1 x0 0 x0 (List.replicate (x0 : Int).toNat 0)) else (none)) else (none))
def impl_LatOf.l0 : Nat → Int → List (S89) → Int → Int → Int → List Int → Option (Int × List Int × Bool)
 | 0, _, _, _, _, _, _ => none
 | k + 1, x0, x1, x25, x26, x227000, x227001 => if x26 < x25 then (if 0 ≤ x26 then (if x26 < (x227001.length : Int) then (impl_LatOf.l0 k x0 x1 x25 (wrap64 (x26 + 1)) x227000 (x227001.set (x26 : Int).toNat (shl .u64 1 x26))) else (none)) else (none)) else (impl_LatOf.l1 k x0 x1 (x1.length : Int) 0 x227000 x227001)
def impl_LatOf.l1 : Nat → Int → List (S89) → Int → Int → Int → List Int → Option (Int × List Int × Bool)
 | 0, _, _, _, _, _, _ => none
 | k + 1, x0, x36, x37, x38, x227000, x227001 => if x38 < x37 then (if 0 ≤ x38 then (if x38 < (x36.length : Int) then ((impl_Lat_has.f x227000 x227001 ((rd_T89 x36 x38).f0)).bind fun t230 => (if t230 = true then ((impl_Lat_has.f x227000 x227001 ((rd_T89 x36 x38).f1)).bind fun t231 => (if t231 = true then (if 0 ≤ ((rd_T89 x36 x38).f0) then (if ((rd_T89 x36 x38).f0) < (x227001.length : Int) then (if 0 ≤ ((rd_T89 x36 x38).f1) then (impl_LatOf.l1 k x0 x36 x37 (wrap64 (x38 + 1)) x227000 (x227001.set (((rd_T89 x36 x38).f0) : Int).toNat (Go.bits .or .u64 (rd x227001 ((rd_T89 x36 x38).f0)) (shl .u64 1 ((rd_T89 x36 x38).f1))))) else (none)) else (none)) else (none)) else (some (0, ([] : List Int), false)))) else (some (0, ([] : List Int), false)))) else (none)) else (none)) else (impl_LatOf.l2 k x0 x0 0 x227000 x227001)
def impl_LatOf.l2 : Nat → Int → Int → Int → Int → List Int → Option (Int × List Int × Bool)
 | 0, _, _, _, _, _ => none
 | k + 1, x0, x67, x68, x227000, x227001 => if x68 < x67 then (impl_LatOf.l3 k x0 x68 x67 x68 x0 0 x227000 x227001) else ((impl_isLat.f k x227000 x227001).bind fun t234 => (if t234 = true then (some (x227000, x227001, true)) else (some (0, ([] : List Int), false))))
def impl_LatOf.l3 : Nat → Int → Int → Int → Int → Int → Int → Int → List Int → Option (Int × List Int × Bool)
 | 0, _, _, _, _, _, _, _, _ => none
 | k + 1, x0, x10, x67, x68, x71, x72, x227000, x227001 => if x72 < x71 then ((impl_Lat_le.f x227000 x227001 x72 x10).bind fun t235 => (if t235 = true then (if 0 ≤ x72 then (if x72 < (x227001.length : Int) then (if 0 ≤ x10 then (if x10 < (x227001.length : Int) then (impl_LatOf.l3 k x0 x10 x67 x68 x71 (wrap64 (x72 + 1)) x227000 (x227001.set (x72 : Int).toNat (Go.bits .or .u64 (rd x227001 x72) (rd x227001 x10)))) else (none)) else (none)) else (none)) else (none)) else (impl_LatOf.l3 k x0 x10 x67 x68 x71 (wrap64 (x72 + 1)) x227000 x227001))) else (impl_LatOf.l2 k x0 x67 (wrap64 (x68 + 1)) x227000 x227001)
end
def impl_LatOf.f (k : Nat) (a0 : Int) (l1 : List (S89)) : Option (Int × List Int × Bool) := (impl_in.f a0 1 16).bind fun t222 => (if t222 = true then (impl_LatOf.j0 k a0 l1 (decide ((l1.length : Int) > 100))) else (impl_LatOf.j0 k a0 l1 true))
def impl_LatOf.T14 : Bool × List (List Nat × List Nat) := (true, [([], []), ([0], [0]), ([], []), ([2], [2]), ([1, 3], [1, 3]), ([4], [4]), ([], []), ([6], [6]), ([7], [7]), ([5, 8], [5, 8]), ([1, 3, 0, 1, 2, 3, 4, 5, 6, 7, 8, 9], [1, 3]), ([10, 9, 0, 1, 2, 3, 4, 5, 6, 7, 8, 9], [9, 10])])
def impl_LatOf.B14 : List Nat := [0, 1, 0, 4, 15, 31, 0, 64, 192, 511, 1023, 2047]
theorem impl_LatOf.tab14 : rtab .any (opsOf Try.f47 14) = impl_LatOf.T14 := by kernel_rfl
theorem impl_LatOf.bits14 : waitsOk impl_LatOf.T14.2 impl_LatOf.B14 = true := by kernel_rfl
def impl_LatOf.T23 : Bool × List (List Nat × List Nat) := (true, [([], []), ([0], [0]), ([], []), ([1, 2], [1, 2]), ([3], [3]), ([], []), ([5], [5]), ([], []), ([6, 7], [6, 7]), ([8], [8]), ([4, 9], [4, 9]), ([1, 2, 0, 1, 2, 3, 4, 5, 6, 7, 8, 9, 10], [1, 2]), ([11, 10, 0, 1, 2, 3, 4, 5, 6, 7, 8, 9, 10], [10, 11])])
def impl_LatOf.B23 : List Nat := [0, 1, 0, 7, 15, 0, 32, 0, 224, 480, 1023, 2047, 4095]
theorem impl_LatOf.tab23 : rtab .any (opsOf Try.f47 23) = impl_LatOf.T23 := by kernel_rfl
theorem impl_LatOf.bits23 : waitsOk impl_LatOf.T23.2 impl_LatOf.B23 = true := by kernel_rfl
set_option maxHeartbeats 8000000 in
set_option maxRecDepth 100000 in
theorem impl_LatOf.calls (k : Nat) (a0 : Int) (A1 : Option Addr) (c1 : Nat) (l1 : List (S89)) (r1 : Int) (r2 : List Int) (r3 : Bool) (w : World) (hr1 : Kd.C k89 w A1 l1.length l1) (hc1 : l1.length ≤ c1) (h : impl_LatOf.f k a0 l1 = some (r1, r2, r3)) :
  Calls Try.prog 47 #[.int .i64 a0, .slice A1 l1.length c1] w fun e w' => ∃ v1_ : Value, e = .returned (.tuple #[.agg #[.int .i64 r1, v1_], .bool r3]) ∧ Kd.R (Kd.int .u64) 76 w' w.heap.size (fun _ => True) v1_ r2 ∧ Below w.heap.size w w' := by
 have hu27 := Try.underlying27
 have hu89 := Try.underlying89
 have HR1 := zp.mk hr1
 have HC1 := zp.mk hc1
 clear hr1 hc1
 have HB := zp.mk (Below.refl w.heap.size w)
 have H : ((impl_in.f a0 1 16).bind fun t222 => (if t222 = true then (impl_LatOf.j0 k a0 l1 (decide ((l1.length : Int) > 100))) else (impl_LatOf.j0 k a0 l1 true))) = some (r1, r2, r3) := h
 clear h
 have HC3 := zp.mk H
 clear H
 go_enter Try.func47, Try.ntmps47
 go_upto_region 1 with (first | ((with_reducible refine zo (N := 4) rfl ?_); (try (refine gate_guard (by rfl) ?_; dsimp only)); refine zm ?hg (N := 4) ?hd (cs := #[.int .i64 0, .slice none 0 0]) (t := 27) ?hr ?_; (case hd => rfl); (case hg => rfl); (case hr => first | (go_simp; done) | (go_simp; rfl)); intro gb221 hg w4 hbox hb; have BK221 := zp.mk (hbox); have GW221 := zp.mk ((zv3 (zv6 HB.out) hg)); have GE221 := zp.mk ((zv3 (zv6 HB.out) hg)); replace HB := zp.mk (zj (zv6 HB.out) hb); clear hb hbox hg))
 (try simp only [Act.put, zs1, zs2, zs3])
 go_cut [19] (fun v19 wc => ∃ (kq : Nat) (x19_2 : Bool), v19 = .bool x19_2 ∧ zp (impl_LatOf.j0 kq a0 l1 x19_2 = some (r1, r2, r3)) ∧ zp (kq ≤ k) ∧ zp (wc.heap[gb221]? = some (.cells #[.int .i64 0, (.slice none 0 0)] 27 (0, 0))) ∧ zp (Below w.heap.size w wc))
 case first =>
  have H := HC3.out
  clear HC3
  replace H := zs4 H
  obtain ⟨t222, A50, H⟩ := H
  replace H : (if t222 = true then (impl_LatOf.j0 k a0 l1 (decide ((l1.length : Int) > 100))) else (impl_LatOf.j0 k a0 l1 true)) = some (r1, r2, r3) := H
  have A5 := zp.mk A50
  clear A50
  by_cases c6 : t222 = true
  ·subst c6
   have H1 : (impl_LatOf.j0 k a0 l1 (decide ((l1.length : Int) > 100))) = some (r1, r2, r3) := by rw [if_pos rfl] at H; exact H
   clear H
   have H := H1
   clear H1
   have H' := zp.mk H
   clear H
   go_wp2_with (first | ((with_reducible refine zn (f := 82) rfl ?_); refine goesL_ (some 13) rfl rfl Try.func82 (by kernel_rfl) rfl #[.int .i64 a0, .int .i64 1, .int .i64 16] rfl (by (try simp only [List.map_toArray, List.map_cons, List.map_nil]); first | done | rfl | (simp only [List.length_drop, List.length_take]; rfl)) ?_; (with_reducible refine (impl_in.calls a0 1 16 true _ A5.out).mono ?_); rintro e w' ⟨rfl, ⟨nd, rfl⟩⟩; refine ⟨_, rfl, ?_⟩))
   go_meet
   case rel => exact ⟨_, (decide ((l1.length : Int) > 100)), (by first | rfl | (simp; done) | (simp [*]; done)), H', ⟨by first | omega | exact Nat.le_refl _⟩, ⟨zv8 BK221.out⟩, ⟨zv7 HB.out⟩⟩
  ·replace c6 := Bool.eq_false_iff.mpr c6
   subst c6
   have H1 : (impl_LatOf.j0 k a0 l1 true) = some (r1, r2, r3) := by rw [if_neg (show ¬ (false = true) by decide)] at H; exact H
   clear H
   have H := H1
   clear H1
   have H' := zp.mk H
   clear H
   go_wp2_with (first | ((with_reducible refine zn (f := 82) rfl ?_); refine goesL_ (some 13) rfl rfl Try.func82 (by kernel_rfl) rfl #[.int .i64 a0, .int .i64 1, .int .i64 16] rfl (by (try simp only [List.map_toArray, List.map_cons, List.map_nil]); first | done | rfl | (simp only [List.length_drop, List.length_take]; rfl)) ?_; (with_reducible refine (impl_in.calls a0 1 16 false _ A5.out).mono ?_); rintro e w' ⟨rfl, ⟨nd, rfl⟩⟩; refine ⟨_, rfl, ?_⟩))
   go_meet
   case rel => exact ⟨_, (true), (by first | rfl | (simp; done) | (simp [*]; done)), H', ⟨by first | omega | exact Nat.le_refl _⟩, ⟨zv8 BK221.out⟩, ⟨zv7 HB.out⟩⟩
 case rest =>
  clear HC3
  try clear c1
  try clear p2
  try clear c4
  try clear c6
  obtain ⟨kq, x19_2, rfl, HA, HJ2, BK221, HB⟩ := hcut
  cases kq with
  | zero => exact absurd HA.out (by simp [impl_LatOf.j0])
  | succ kj2 =>
   have H := HA.out
   clear HA
   simp only [impl_LatOf.j0] at H
   by_cases c7 : x19_2 = true
   ·subst c7
    have H1 : (some (0, ([] : List Int), false)) = some (r1, r2, r3) := by rw [if_pos rfl] at H; exact H
    clear H
    have H := H1
    clear H1
    simp only [Option.some.injEq, Prod.mk.injEq] at H
    obtain ⟨rfl, rfl, rfl⟩ := H
    have y8_0 := zt0 BK221.out
    have y8_1 := zt1 BK221.out
    have u8_0 := zd BK221.out 0
    have u8_1 := zd BK221.out 1
    go_wp2
    refine bodyPost_ret (results_ct rfl _ _ gb221 27 #[.int .i64 0, .slice none 0 0] (0, 0) _ rfl (by (with_reducible repeat (first | refine zf ?_ _ | refine zi ?_ | refine zg ?_ _)); refine blk_put (cs := #[.int .i64 0, .slice none 0 0]) ?_ 1 _ rfl; (with_reducible repeat (first | refine zf ?_ _ | refine zi ?_ | refine zg ?_ _)); refine blk_put (cs := #[.int .i64 0, .slice none 0 0]) ?_ 0 _ rfl; (with_reducible repeat (first | refine zf ?_ _ | refine zi ?_ | refine zg ?_ _)); exact BK221.out) Try.underlying27 rfl (by kernel_rfl)) rfl ?_
    exact ⟨_, by first | rfl | (simp [errW_none, errW_some] <;> rfl) | (simp [*, errW_none, errW_some] <;> rfl), by first | exact Kd.R_nil _ _ _ _ _ | exact Kd.N_nil _ _ _ _ _ | exact Kd.V_nil _ _ _ _ _ | exact Kd.Q_nil _ _ _ _ _ | exact Kd.S_nil _ _ _ _ _, zv7 HB.out⟩
   ·replace c7 := Bool.eq_false_iff.mpr c7
    subst c7
    have H1 : (if 0 ≤ a0 then (if (a0 : Int).toNat ≤ 35184372088832 then (impl_LatOf.l0 kj2 a0 l1 a0 0 a0 (List.replicate (a0 : Int).toNat 0)) else (none)) else (none)) = some (r1, r2, r3) := by rw [if_neg (show ¬ (false = true) by decide)] at H; exact H
    clear H
    have H := H1
    clear H1
    by_cases c9 : 0 ≤ a0
    ·rw [if_pos c9] at H
     have c9b0 := eq_true c9
     have c9b1 : decide (0 ≤ a0) = true := decide_eq_true c9
     clear c9
     by_cases c10 : (a0 : Int).toNat ≤ 35184372088832
     ·rw [if_pos c10] at H
      have c10b0 := eq_true c10
      have c10b1 : decide ((a0 : Int).toNat ≤ 35184372088832) = true := decide_eq_true c10
      clear c10
      obtain ⟨y223, hy223⟩ : ∃ y_ : List Int, y_ = (List.replicate (a0 : Int).toNat 0) := ⟨_, rfl⟩
      replace H : (impl_LatOf.l0 kj2 a0 l1 a0 0 a0 y223) = some (r1, r2, r3) := by first | (rw [hy223]; with_reducible exact H) | (have H2_ := (Option.bind_some _ _).symm.trans H; rw [hy223]; with_reducible exact H2_) | (have H2_ := (Option.bind_some _ _).symm.trans H; with_reducible exact H2_) | with_reducible exact H | (rw [hy223]; exact H) | exact H
      have Ny223 := zp.mk hy223
      clear hy223
      have H' := zp.mk H
      clear H
      go_wp2_with (first | ((with_reducible refine zo (N := 23) rfl ?_); (try (refine gate_guard (by rfl) ?_; dsimp only)); refine Kd.R_make (Kd.int .u64) _ 76 rfl (N := 23) rfl 22 _ _ rfl a0 rfl rfl Try.underlying22 (.int .u64 0) 8 info76 rfl (by decide) (by omega) 0 (ok := fun _ => True) (okp := fun _ => True) rfl (fun _ hk => hk) trivial (of_decide_eq_true (by first | (with_reducible assumption) | assumption)) (Nat.le_trans (Nat.mul_le_mul_right _ (of_decide_eq_true (by first | (with_reducible assumption) | assumption) : a0.toNat ≤ 35184372088832)) (by omega)) (Below.refl _ _) (Nat.le_refl _) ?_; intro v224 w11 ho12 hb hg_ hnew_; clear hg_ hnew_; (first | rw [← Ny223.out] at ho12 | (simp only [Int.reduceToNat] at ho12; rw [← Ny223.out] at ho12)); have HO225 := zp.mk (Kd.R_lower ho12 (zk (zv7 HB.out))); replace BK221 := zp.mk (zl (zv8 BK221.out) hb); replace HB := zp.mk (zj (zv7 HB.out) hb); clear hb ho12; obtain ⟨Ao13, co13, eo13⟩ := Kd.R_slice HO225.out; subst eo13) | ((with_reducible refine zo (N := 6) rfl ?_); (try (refine gate_guard (by rfl) ?_; dsimp only)); refine zm ?hg (N := 6) ?hd (cs := #[.int .i64 0, .slice none 0 0]) (t := 27) ?hr ?_; (case hd => rfl); (case hg => rfl); (case hr => first | (go_simp; done) | (go_simp; rfl)); intro gb226 hg w14 hbox hb; have BK226 := zp.mk (hbox); have GW226 := zp.mk ((zv3 (zv7 HB.out) hg)); have GE226 := zp.mk ((zv3 (zv7 HB.out) hg)); have NB221_226 := zp.mk ((by rw [hg]; exact Nat.ne_of_lt (blk_lt (g := gb221) (o := .cells #[.int .i64 0, .slice none 0 0] 27 (0, 0)) (zv8 BK221.out)) : gb221 ≠ gb226)); have NB226_221 := zp.mk ((by rw [hg]; exact Nat.ne_of_gt (blk_lt (g := gb221) (o := .cells #[.int .i64 0, .slice none 0 0] 27 (0, 0)) (zv8 BK221.out)) : gb226 ≠ gb221)); replace HO225 := zp.mk (Kd.R_below (by (with_reducible repeat (first | apply Kd.R_alloc | apply Kd.R_drewN | apply Kd.R_drew)); exact HO225.out) hb); replace BK221 := zp.mk (zl (zv8 BK221.out) hb); replace HB := zp.mk (zj (zv7 HB.out) hb); clear hb hbox hg; have hnb15 := NB226_221.out; have hnc15 := NB221_226.out; have y16_0 := zt0 BK226.out; have y16_1 := zt1 BK226.out; have u16_0 := zd BK226.out 0; have u16_1 := zd BK226.out 1))
      go_loopg [26] kj2 (fun kq v26 w' => ∃ (x26_2 : Int) (x227001_2 : List Int) (u227001 : Value), v26 = .int .i64 x26_2 ∧ zp (impl_LatOf.l0 kq a0 l1 a0 x26_2 a0 x227001_2 = some (r1, r2, r3)) ∧ zp (kq ≤ kj2) ∧ zp (Kd.R (Kd.int .u64) 76 w' w.heap.size (fun _ => True) u227001 x227001_2) ∧ zp (w'.heap[gb221]? = some (.cells #[.int .i64 0, (.slice none 0 0)] 27 (0, 0))) ∧ zp (w'.heap[gb226]? = some (.cells #[.int .i64 a0, u227001] 27 (0, 0))) ∧ zp (Below w.heap.size w w'))
      case atStart => exact ⟨(0), (y223), (.slice Ao13 y223.length co13), (by first | rfl | (simp; done) | (simp [*]; done)), H', ⟨Nat.le_refl _⟩, ⟨by (with_reducible repeat (first | apply Kd.R_alloc | apply Kd.R_drewN | apply Kd.R_drew)); exact Kd.R_mono (Kd.R_far (p := ⟨gb226, 1, none⟩) (Kd.R_far (p := ⟨gb226, 0, none⟩) (Kd.R_types HO225.out BK226.out (by decide)) (fun _ hk => hk.2) (.int .i64 a0)) (fun _ hk => hk.2) (.slice Ao13 y223.length co13)) (fun _ hk => trivial)⟩, ⟨by (with_reducible repeat (first | refine zf ?_ _ | refine zi ?_ | refine zg ?_ _)); refine blk_far ?_ NB221_226.out _; (with_reducible repeat (first | refine zf ?_ _ | refine zi ?_ | refine zg ?_ _)); refine blk_far ?_ NB221_226.out _; (with_reducible repeat (first | refine zf ?_ _ | refine zi ?_ | refine zg ?_ _)); exact BK221.out⟩, ⟨by (with_reducible repeat (first | refine zf ?_ _ | refine zi ?_ | refine zg ?_ _)); refine blk_put (cs := #[.int .i64 a0, .slice none 0 0]) ?_ 1 _ rfl; (with_reducible repeat (first | refine zf ?_ _ | refine zi ?_ | refine zg ?_ _)); refine blk_put (cs := #[.int .i64 0, .slice none 0 0]) ?_ 0 _ rfl; (with_reducible repeat (first | refine zf ?_ _ | refine zi ?_ | refine zg ?_ _)); exact BK226.out⟩, ⟨zv7 HB.out⟩⟩
      case round =>
       clear H'
       try clear c1
       try clear p2
       try clear c4
       try clear c6
       try clear c7
       try clear c8
       try clear c9
       try clear c9b0
       try clear c9b1
       try clear c10
       try clear c10b0
       try clear c10b1
       try clear c15
       try clear y16_0
       try clear y16_1
       try clear y8_0
       try clear y8_1
       try clear u16_0
       try clear u16_1
       try clear u8_0
       try clear u8_1
       try clear p2
       obtain ⟨x26_2, x227001_2, u227001, rfl, HA, HK2, HO_227001, BK221, BK226, HB⟩ := hrel
       cases gk with
       | zero => exact absurd HA.out (by simp [impl_LatOf.l0])
       | succ k2 =>
        have H := HA.out
        clear HA
        simp only [impl_LatOf.l0] at H
        by_cases c17 : x26_2 < a0
        ·rw [if_pos c17] at H
         have c17b0 : decide (x26_2 < a0) = true := decide_eq_true c17
         clear c17
         by_cases c18 : 0 ≤ x26_2
         ·rw [if_pos c18] at H
          have c18b0 := eq_true c18
          have c18b1 : decide (0 ≤ x26_2) = true := decide_eq_true c18
          clear c18
          obtain ⟨ji19, hji19⟩ : ∃ j_ : Int, (shl .u64 1 x26_2) = j_ := ⟨_, rfl⟩
          replace H : (if x26_2 < (x227001_2.length : Int) then (impl_LatOf.l0 k2 a0 l1 a0 (wrap64 (x26_2 + 1)) a0 (x227001_2.set (x26_2 : Int).toNat (ji19))) else (none)) = some (r1, r2, r3) := by first | (rw [hji19] at H; exact H) | (simp only [hji19] at H ⊢; exact H)
          have hji19_ : (IntKind.u64.wrap (1 * 2 ^ min x26_2.toNat 64)) = ji19 := hji19
          have hji19z : x26_2 ≤ 64 → (IntKind.u64.wrap (1 * 2 ^ x26_2.toNat)) = ji19 := shl_small hji19
          have hji19u : (IntKind.u64.wrap (2 ^ min x26_2.toNat 64)) = ji19 := by have h_ := hji19_; rw [Int.one_mul] at h_; exact h_
          have hji19v : x26_2 ≤ 64 → (IntKind.u64.wrap (2 ^ x26_2.toNat)) = ji19 := fun hle_ => by have h_ := hji19z hle_; rw [Int.one_mul] at h_; exact h_
          by_cases c20 : x26_2 < (x227001_2.length : Int)
          ·rw [if_pos c20] at H
           have c20b0 : decide (x26_2 < (x227001_2.length : Int)) = true := decide_eq_true c20
           clear c20
           obtain ⟨y227, hy227⟩ : ∃ y_ : List Int, y_ = (x227001_2.set (x26_2 : Int).toNat (ji19)) := ⟨_, rfl⟩
           replace H : (impl_LatOf.l0 k2 a0 l1 a0 (wrap64 (x26_2 + 1)) a0 y227) = some (r1, r2, r3) := by first | (rw [hy227]; with_reducible exact H) | (have H2_ := (Option.bind_some _ _).symm.trans H; rw [hy227]; with_reducible exact H2_) | (have H2_ := (Option.bind_some _ _).symm.trans H; with_reducible exact H2_) | with_reducible exact H | (rw [hy227]; exact H) | exact H
           have Ny227 := zp.mk hy227
           clear hy227
           have H' := zp.mk H
           clear H
           try go_wp2
           replace HO_227001 := zp.mk (Kd.R_drew HO_227001.out)
           replace BK221 := zp.mk (zi BK221.out)
           replace BK226 := zp.mk (zi BK226.out)
           replace HB := zp.mk (zb HB.out)
           have p21 : 0 ≤ (x26_2 : Int) := of_decide_eq_true (by first | (with_reducible assumption) | assumption)
           have q21 : (x26_2 : Int) < ((x227001_2.length : Int) : Int) := of_decide_eq_true (by first | (with_reducible assumption) | assumption)
           obtain ⟨go21, co21, eo21, gb21, gl21, cl21, HG21⟩ := Kd.R_form HO_227001.out (by omega)
           (first | cases eo21 | (injection eo21 with ea_ en_ ec_; (first | subst ea_ | (injection ea_ with ea_; subst ea_)); subst ec_; clear en_))
           have GB21 := zp.mk gb21
           have GG21 := zp.mk HG21
           clear gb21 gl21 HG21
           obtain ⟨hx21_0, hf21_0⟩ := Kd.R_celln 0 HO_227001.out (x26_2 : Int) p21 q21
           replace p21 := eq_true p21
           replace q21 := eq_true q21
           have HP23 := Kd.R_putn HO_227001.out (x26_2 : Int) ji19
           rw [← Ny227.out] at HP23
           have HQ23 := zp.mk HP23
           clear HP23
           refine start_ (n := 7) (S := fun w' => w'.cell? ⟨gb226, 0, none⟩ = some (.int .i64 a0) ∧ w'.cell? ⟨gb226, 1, none⟩ = some (.slice (some ⟨go21, 0, none⟩) x227001_2.length co21)) (ds := [6]) #[false, false, false, false, false, false, false] (by kernel_rfl) rfl rfl ⟨(ze BK226.out 0).trans rfl, (ze BK226.out 1).trans rfl⟩ (fun hHeld => ?_)
           generalize wr.drew = w22 at HO_227001 BK221 BK226 HB GG21 HQ23 hf21_0 hx21_0 hHeld ⊢
           refine pure_ (i := 0) (N := some 29) (v := ?_) (a' := ?_) #[true, false, false, false, false, false, false] rfl rfl (by kernel_rfl) (fun _ _ _ h => h) (Or.inl ⟨by rfl, ?_⟩) ?_ ?_
           rotate_left
           ·intro w'
            go_simp
            with_reducible rfl
           rotate_left
           ·simp only [Act.put, zs1, zs2, zs3, i64_w, i32_w]
            rfl
           refine pure_ (i := 2) (N := some 31) (v := ?_) (a' := ?_) #[true, false, true, false, false, false, false] rfl rfl (by kernel_rfl) (fun _ _ _ h => h) (Or.inl ⟨by rfl, ?_⟩) ?_ ?_
           rotate_left
           ·intro w'
            go_simp
            with_reducible rfl
           rotate_left
           ·simp only [Act.put, zs1, zs2, zs3, i64_w, i32_w]
            rfl
           refine pure_ (i := 3) (N := some 32) (v := ?_) (a' := ?_) #[true, false, true, true, false, false, false] rfl rfl (by kernel_rfl) (fun _ _ _ h => h) (Or.inl ⟨by rfl, ?_⟩) ?_ ?_
           rotate_left
           ·intro w'
            go_simp
            with_reducible rfl
           rotate_left
           ·simp only [Act.put, zs1, zs2, zs3, i64_w, i32_w]
            rfl
           refine pure_ (i := 4) (N := some 33) (v := ?_) (a' := ?_) #[true, false, true, true, true, false, false] rfl rfl (by kernel_rfl) (fun _ _ _ h => h) (Or.inl ⟨by rfl, ?_⟩) ?_ ?_
           rotate_left
           ·intro w'
            go_simp
            with_reducible rfl
           rotate_left
           ·simp only [Act.put, zs1, zs2, zs3, i64_w, i32_w]
            rfl
           refine take_ (i := 1) (N := some 30) (v := ?_) (a' := ?_) #[true, true, true, true, true, false, false] rfl rfl (by kernel_rfl) (fun _ _ _ h => h) (Or.inl ⟨by rfl, ?_⟩) hHeld ?_ ?_
           rotate_left
           ·rintro w' ⟨s0, s1⟩
            go_simp
            with_reducible rfl
           rotate_left
           ·simp only [Act.put, zs1, zs2, zs3, i64_w, i32_w]
            rfl
           refine pure_ (i := 5) (N := some 34) (v := ?_) (a' := ?_) #[true, true, true, true, true, true, false] rfl rfl (by kernel_rfl) (fun _ _ _ h => h) (Or.inl ⟨by rfl, ?_⟩) ?_ ?_
           rotate_left
           ·intro w'
            go_simp
            with_reducible rfl
           rotate_left
           ·simp only [Act.put, zs1, zs2, zs3, i64_w, i32_w]
            rfl
           refine last_ (i := 6) (N := none) #[true, true, true, true, true, true, true] rfl rfl (by kernel_rfl) (by decide) (fun K hK => ?_)
           refine skip_ (w1 := ?_) (by rfl) rfl ?_ ?_
           rotate_left
           ·go_simp
            rfl
           refine hK.out _ _ ?_
           clear hK K
           refine done_ (by kernel_rfl) ?_
           try go_wp2
           go_roundg k2
           case measure => have := HJ2.out; have := HK2.out; omega
           case rel => exact ⟨(wrap64 (x26_2 + 1)), (y227), (.slice (some ⟨go21, 0, none⟩) x227001_2.length co21), (by first | rfl | (simp; done) | (simp [*]; done)), H', ⟨by have := HJ2.out; have := HK2.out; omega⟩, ⟨by (with_reducible repeat (first | apply Kd.R_alloc | apply Kd.R_drewN | apply Kd.R_drew)); exact HQ23.out⟩, ⟨by (with_reducible repeat (first | refine zf ?_ _ | refine zi ?_ | refine zg ?_ _)); refine blk_far ?_ (by have h_ := Kd.R_ne HO_227001.out BK221.out (by decide); intro e_; exact h_ (by rw [e_]; rfl)) _; (with_reducible repeat (first | refine zf ?_ _ | refine zi ?_ | refine zg ?_ _)); exact BK221.out⟩, ⟨by (with_reducible repeat (first | refine zf ?_ _ | refine zi ?_ | refine zg ?_ _)); refine blk_far ?_ (by have h_ := Kd.R_ne HO_227001.out BK226.out (by decide); intro e_; exact h_ (by rw [e_]; rfl)) _; (with_reducible repeat (first | refine zf ?_ _ | refine zi ?_ | refine zg ?_ _)); exact BK226.out⟩, ⟨by repeat (first | (with_reducible first | exact HB.out | apply zc | apply za | apply zb | refine zh ?_ GB21.out | refine zh ?_ GE221.out | refine zh ?_ GE226.out) | exact HB.out)⟩⟩
          ·rw [if_neg c20] at H
           exact absurd H (by simp)
         ·rw [if_neg c18] at H
          exact absurd H (by simp)
        ·rw [if_neg c17] at H
         have c17b0 : decide (x26_2 < a0) = false := decide_eq_false c17
         clear c17
         have H' := zp.mk H
         clear H
         go_wp2
         go_loopg [38] k2 (fun kq v38 w' => ∃ (x38_3 : Int) (x222000_3 : Int) (x227001_3 : List Int) (u227001 : Value), v38 = .int .i64 x38_3 ∧ zp (impl_LatOf.l1 kq a0 l1 (l1.length : Int) x38_3 a0 x227001_3 = some (r1, r2, r3)) ∧ zp (kq ≤ k2) ∧ zp (Kd.R (Kd.int .u64) 76 w' w.heap.size (fun _ => True) u227001 x227001_3) ∧ zp (w'.heap[gb221]? = some (.cells #[.int .i64 x222000_3, (.slice none 0 0)] 27 (0, 0))) ∧ zp (w'.heap[gb226]? = some (.cells #[.int .i64 a0, u227001] 27 (0, 0))) ∧ zp (Below w.heap.size w w'))
         case atStart => exact ⟨(0), (0), (x227001_2), (u227001), (by first | rfl | (simp; done) | (simp [*]; done)), H', ⟨Nat.le_refl _⟩, ⟨by (with_reducible repeat (first | apply Kd.R_alloc | apply Kd.R_drewN | apply Kd.R_drew)); exact HO_227001.out⟩, ⟨zv8 BK221.out⟩, ⟨zv8 BK226.out⟩, ⟨zv7 HB.out⟩⟩
         case round =>
          clear H'
          try clear c1
          try clear c2
          try clear p2
          try clear q2
          try clear hx2
          try clear hf2
          try clear c4
          try clear c6
          try clear p6
          try clear c7
          try clear c8
          try clear c9
          try clear c9b0
          try clear c9b1
          try clear c10
          try clear c10b0
          try clear c10b1
          try clear c15
          try clear c17
          try clear c17b0
          try clear c18
          try clear c18b0
          try clear c18b1
          try clear c20
          try clear c20b0
          try clear p21
          try clear q21
          try clear hx21
          try clear hf21
          try clear y16_0
          try clear y16_1
          try clear y8_0
          try clear y8_1
          try clear u16_0
          try clear u16_1
          try clear u8_0
          try clear u8_1
          try clear hx21_0
          try clear p2
          try clear p21
          try clear q21
          obtain ⟨x38_3, x222000_3, x227001_3, u227001, rfl, HA, HK3, HO_227001, BK221, BK226, HB⟩ := hrel
          cases gk with
          | zero => exact absurd HA.out (by simp [impl_LatOf.l1])
          | succ k3 =>
           have H := HA.out
           clear HA
           simp only [impl_LatOf.l1] at H
           by_cases c24 : x38_3 < (l1.length : Int)
           ·rw [if_pos c24] at H
            have c24b0 : decide (x38_3 < (l1.length : Int)) = true := decide_eq_true c24
            clear c24
            by_cases c25 : 0 ≤ x38_3
            ·rw [if_pos c25] at H
             have c25b0 : decide (0 ≤ x38_3) = true := decide_eq_true c25
             clear c25
             by_cases c26 : x38_3 < (l1.length : Int)
             ·rw [if_pos c26] at H
              have c26b0 : decide (x38_3 < (l1.length : Int)) = true := decide_eq_true c26
              clear c26
              replace H := zs4 H
              obtain ⟨t230, A270, H⟩ := H
              replace H : (if t230 = true then ((impl_Lat_has.f a0 x227001_3 ((rd_T89 l1 x38_3).f1)).bind fun t231 => (if t231 = true then (if 0 ≤ ((rd_T89 l1 x38_3).f0) then (if ((rd_T89 l1 x38_3).f0) < (x227001_3.length : Int) then (if 0 ≤ ((rd_T89 l1 x38_3).f1) then (impl_LatOf.l1 k3 a0 l1 (l1.length : Int) (wrap64 (x38_3 + 1)) a0 (x227001_3.set (((rd_T89 l1 x38_3).f0) : Int).toNat (Go.bits .or .u64 (rd x227001_3 ((rd_T89 l1 x38_3).f0)) (shl .u64 1 ((rd_T89 l1 x38_3).f1))))) else (none)) else (none)) else (none)) else (some (0, ([] : List Int), false)))) else (some (0, ([] : List Int), false))) = some (r1, r2, r3) := H
              have A27 := zp.mk A270
              clear A270
              by_cases c28 : t230 = true
              ·subst c28
               have H1 : ((impl_Lat_has.f a0 x227001_3 ((rd_T89 l1 x38_3).f1)).bind fun t231 => (if t231 = true then (if 0 ≤ ((rd_T89 l1 x38_3).f0) then (if ((rd_T89 l1 x38_3).f0) < (x227001_3.length : Int) then (if 0 ≤ ((rd_T89 l1 x38_3).f1) then (impl_LatOf.l1 k3 a0 l1 (l1.length : Int) (wrap64 (x38_3 + 1)) a0 (x227001_3.set (((rd_T89 l1 x38_3).f0) : Int).toNat (Go.bits .or .u64 (rd x227001_3 ((rd_T89 l1 x38_3).f0)) (shl .u64 1 ((rd_T89 l1 x38_3).f1))))) else (none)) else (none)) else (none)) else (some (0, ([] : List Int), false)))) = some (r1, r2, r3) := by rw [if_pos rfl] at H; exact H
               clear H
               have H := H1
               clear H1
               replace H := zs4 H
               obtain ⟨t231, A290, H⟩ := H
               replace H : (if t231 = true then (if 0 ≤ ((rd_T89 l1 x38_3).f0) then (if ((rd_T89 l1 x38_3).f0) < (x227001_3.length : Int) then (if 0 ≤ ((rd_T89 l1 x38_3).f1) then (impl_LatOf.l1 k3 a0 l1 (l1.length : Int) (wrap64 (x38_3 + 1)) a0 (x227001_3.set (((rd_T89 l1 x38_3).f0) : Int).toNat (Go.bits .or .u64 (rd x227001_3 ((rd_T89 l1 x38_3).f0)) (shl .u64 1 ((rd_T89 l1 x38_3).f1))))) else (none)) else (none)) else (none)) else (some (0, ([] : List Int), false))) = some (r1, r2, r3) := H
               have A29 := zp.mk A290
               clear A290
               by_cases c30 : t231 = true
               ·subst c30
                have H1 : (if 0 ≤ ((rd_T89 l1 x38_3).f0) then (if ((rd_T89 l1 x38_3).f0) < (x227001_3.length : Int) then (if 0 ≤ ((rd_T89 l1 x38_3).f1) then (impl_LatOf.l1 k3 a0 l1 (l1.length : Int) (wrap64 (x38_3 + 1)) a0 (x227001_3.set (((rd_T89 l1 x38_3).f0) : Int).toNat (Go.bits .or .u64 (rd x227001_3 ((rd_T89 l1 x38_3).f0)) (shl .u64 1 ((rd_T89 l1 x38_3).f1))))) else (none)) else (none)) else (none)) = some (r1, r2, r3) := by rw [if_pos rfl] at H; exact H
                clear H
                have H := H1
                clear H1
                by_cases c31 : 0 ≤ ((rd_T89 l1 x38_3).f0)
                ·rw [if_pos c31] at H
                 have c31b0 : decide (0 ≤ ((rd_T89 l1 x38_3).f0)) = true := decide_eq_true c31
                 clear c31
                 by_cases c32 : ((rd_T89 l1 x38_3).f0) < (x227001_3.length : Int)
                 ·rw [if_pos c32] at H
                  have c32b0 : decide (((rd_T89 l1 x38_3).f0) < (x227001_3.length : Int)) = true := decide_eq_true c32
                  clear c32
                  by_cases c33 : 0 ≤ ((rd_T89 l1 x38_3).f1)
                  ·rw [if_pos c33] at H
                   have c33b0 := eq_true c33
                   have c33b1 : decide (0 ≤ ((rd_T89 l1 x38_3).f1)) = true := decide_eq_true c33
                   clear c33
                   obtain ⟨ji34, hji34⟩ : ∃ j_ : Int, (shl .u64 1 ((rd_T89 l1 x38_3).f1)) = j_ := ⟨_, rfl⟩
                   replace H : (impl_LatOf.l1 k3 a0 l1 (l1.length : Int) (wrap64 (x38_3 + 1)) a0 (x227001_3.set (((rd_T89 l1 x38_3).f0) : Int).toNat (Go.bits .or .u64 (rd x227001_3 ((rd_T89 l1 x38_3).f0)) (ji34)))) = some (r1, r2, r3) := by first | (rw [hji34] at H; exact H) | (simp only [hji34] at H ⊢; exact H)
                   (try rw [hji34] at A27)
                   (try rw [hji34] at A29)
                   have hji34_ : (IntKind.u64.wrap (1 * 2 ^ min ((rd_T89 l1 x38_3).f1).toNat 64)) = ji34 := hji34
                   have hji34z : ((rd_T89 l1 x38_3).f1) ≤ 64 → (IntKind.u64.wrap (1 * 2 ^ ((rd_T89 l1 x38_3).f1).toNat)) = ji34 := shl_small hji34
                   have hji34u : (IntKind.u64.wrap (2 ^ min ((rd_T89 l1 x38_3).f1).toNat 64)) = ji34 := by have h_ := hji34_; rw [Int.one_mul] at h_; exact h_
                   have hji34v : ((rd_T89 l1 x38_3).f1) ≤ 64 → (IntKind.u64.wrap (2 ^ ((rd_T89 l1 x38_3).f1).toNat)) = ji34 := fun hle_ => by have h_ := hji34z hle_; rw [Int.one_mul] at h_; exact h_
                   obtain ⟨y233, hy233⟩ : ∃ y_ : List Int, y_ = (x227001_3.set (((rd_T89 l1 x38_3).f0) : Int).toNat (Go.bits .or .u64 (rd x227001_3 ((rd_T89 l1 x38_3).f0)) (ji34))) := ⟨_, rfl⟩
                   replace H : (impl_LatOf.l1 k3 a0 l1 (l1.length : Int) (wrap64 (x38_3 + 1)) a0 y233) = some (r1, r2, r3) := by first | (rw [hy233]; with_reducible exact H) | (have H2_ := (Option.bind_some _ _).symm.trans H; rw [hy233]; with_reducible exact H2_) | (have H2_ := (Option.bind_some _ _).symm.trans H; with_reducible exact H2_) | with_reducible exact H | (rw [hy233]; exact H) | exact H
                   have Ny233 := zp.mk hy233
                   clear hy233
                   have H' := zp.mk H
                   clear H
                   have p228 : 0 ≤ (x38_3 : Int) := of_decide_eq_true (by first | (with_reducible assumption) | assumption)
                   have q228 : x38_3 < (l1.length : Int) := of_decide_eq_true (by first | (with_reducible assumption) | assumption)
                   obtain ⟨ad228, e228, hx228_0, hx228_1⟩ := at_T89 HR1.out x38_3 p228 q228
                   cases e228
                   replace hx228_0 := (HB.out.cell (World.block_lt_of_cell? w _ hx228_0)).trans hx228_0
                   replace hx228_1 := (HB.out.cell (World.block_lt_of_cell? w _ hx228_1)).trans hx228_1
                   replace p228 := eq_true p228
                   replace q228 := eq_true q228
                   try go_wp2_with (first | ((with_reducible refine zo (N := 9) rfl ?_); (try (refine gate_guard (by rfl) ?_; dsimp only)); refine zm ?hg (N := 9) ?hd (cs := #[.int .i64 0, .int .i64 0]) (t := 89) ?hr ?_; (case hd => rfl); (case hg => rfl); (case hr => first | (go_simp; done) | (go_simp; rfl)); intro gb229 hg w36 hbox hb; have BK229 := zp.mk (hbox); have GW229 := zp.mk ((zv3 (zv7 HB.out) hg)); have GE229 := zp.mk ((zv3 (zv7 HB.out) hg)); have NB221_229 := zp.mk ((by rw [hg]; exact Nat.ne_of_lt (blk_lt (g := gb221) (o := .cells #[.int .i64 x222000_3, .slice none 0 0] 27 (0, 0)) (zv8 BK221.out)) : gb221 ≠ gb229)); have NB229_221 := zp.mk ((by rw [hg]; exact Nat.ne_of_gt (blk_lt (g := gb221) (o := .cells #[.int .i64 x222000_3, .slice none 0 0] 27 (0, 0)) (zv8 BK221.out)) : gb229 ≠ gb221)); have NB226_229 := zp.mk ((by rw [hg]; exact Nat.ne_of_lt (blk_lt (g := gb226) (o := .cells #[.int .i64 a0, u227001] 27 (0, 0)) (zv8 BK226.out)) : gb226 ≠ gb229)); have NB229_226 := zp.mk ((by rw [hg]; exact Nat.ne_of_gt (blk_lt (g := gb226) (o := .cells #[.int .i64 a0, u227001] 27 (0, 0)) (zv8 BK226.out)) : gb229 ≠ gb226)); replace HO_227001 := zp.mk (Kd.R_below (by (with_reducible repeat (first | apply Kd.R_alloc | apply Kd.R_drewN | apply Kd.R_drew)); exact HO_227001.out) hb); replace BK221 := zp.mk (zl (zv8 BK221.out) hb); replace BK226 := zp.mk (zl (zv8 BK226.out) hb); replace HB := zp.mk (zj (zv7 HB.out) hb); clear hb hbox hg; have hnb37 := NB229_221.out; have hnc37 := NB221_229.out; have hnb38 := NB229_226.out; have hnc38 := NB226_229.out; have y39_0 := zt0 BK229.out; have y39_1 := zt1 BK229.out; have u39_0 := zd BK229.out 0; have u39_1 := zd BK229.out 1; have hnb40 := NB226_221.out; have hnc40 := NB221_226.out; have y41_0 := zt0 BK226.out; have y41_1 := zt1 BK226.out; have u41_0 := zd BK226.out 0; have u41_1 := zd BK226.out 1; obtain ⟨Ao42, co42, eo42⟩ := Kd.R_slice HO_227001.out; subst eo42) | ((with_reducible refine zn (f := 83) rfl ?_); refine goesL_ (some 45) rfl rfl Try.func83 (by kernel_rfl) rfl #[.agg #[.int .i64 a0, .slice Ao42 x227001_3.length co42], .int .i64 ((rd_T89 l1 x38_3).f0)] rfl (by (try simp only [List.map_toArray, List.map_cons, List.map_nil]); first | done | rfl | (simp only [List.length_drop, List.length_take]; rfl)) ?_; (with_reducible refine (impl_Lat_has.calls a0 _ _ x227001_3 ((rd_T89 l1 x38_3).f0) true _ ?side1 ?side2 A27.out).mono ?_); (case side1 => refine (Kd.R_reads' (e := 76) (base := w.heap.size) (ok := fun k_ => True) (n := x227001_3.length) (c := co42) ?_).2.2; exact (by (with_reducible repeat (first | apply Kd.R_alloc | apply Kd.R_drewN | apply Kd.R_drew)); exact (Kd.R_mono (Kd.R_far (p := ⟨gb229, 1, none⟩) (Kd.R_far (p := ⟨gb229, 0, none⟩) (Kd.R_types HO_227001.out BK229.out (by decide)) (fun _ hk => hk.2) (.int .i64 ((rd_T89 l1 x38_3).f0))) (fun _ hk => hk.2) (.int .i64 ((rd_T89 l1 x38_3).f1))) (fun _ h_ => h_.1)))); (case side2 => exact (Kd.R_reads' HO_227001.out).2.1); rintro e w43 ⟨rfl, hb⟩; refine ⟨_, rfl, ?_⟩; replace HO_227001 := zp.mk (Kd.R_below (by (with_reducible repeat (first | apply Kd.R_alloc | apply Kd.R_drewN | apply Kd.R_drew)); exact (Kd.R_mono (Kd.R_far (p := ⟨gb229, 1, none⟩) (Kd.R_far (p := ⟨gb229, 0, none⟩) (Kd.R_types HO_227001.out BK229.out (by decide)) (fun _ hk => hk.2) (.int .i64 ((rd_T89 l1 x38_3).f0))) (fun _ hk => hk.2) (.int .i64 ((rd_T89 l1 x38_3).f1))) (fun _ h_ => h_.1))) hb); replace BK221 := zp.mk (zl (g := gb221) (o := .cells #[.int .i64 x222000_3, .slice none 0 0] 27 (0, 0)) (by (with_reducible repeat (first | refine zf ?_ _ | refine zi ?_ | refine zg ?_ _)); refine blk_far ?_ NB221_229.out _; (with_reducible repeat (first | refine zf ?_ _ | refine zi ?_ | refine zg ?_ _)); refine blk_far ?_ NB221_229.out _; (with_reducible repeat (first | refine zf ?_ _ | refine zi ?_ | refine zg ?_ _)); exact BK221.out) hb); replace BK226 := zp.mk (zl (g := gb226) (o := .cells #[.int .i64 a0, .slice Ao42 x227001_3.length co42] 27 (0, 0)) (by (with_reducible repeat (first | refine zf ?_ _ | refine zi ?_ | refine zg ?_ _)); refine blk_far ?_ NB226_229.out _; (with_reducible repeat (first | refine zf ?_ _ | refine zi ?_ | refine zg ?_ _)); refine blk_far ?_ NB226_229.out _; (with_reducible repeat (first | refine zf ?_ _ | refine zi ?_ | refine zg ?_ _)); exact BK226.out) hb); replace BK229 := zp.mk (zl (g := gb229) (o := .cells #[.int .i64 ((rd_T89 l1 x38_3).f0), .int .i64 ((rd_T89 l1 x38_3).f1)] 89 (0, 0)) (by (with_reducible repeat (first | refine zf ?_ _ | refine zi ?_ | refine zg ?_ _)); refine blk_put (cs := #[.int .i64 ((rd_T89 l1 x38_3).f0), .int .i64 0]) ?_ 1 _ rfl; (with_reducible repeat (first | refine zf ?_ _ | refine zi ?_ | refine zg ?_ _)); refine blk_put (cs := #[.int .i64 0, .int .i64 0]) ?_ 0 _ rfl; (with_reducible repeat (first | refine zf ?_ _ | refine zi ?_ | refine zg ?_ _)); exact BK229.out) hb); replace HB := zp.mk (zj (zv7 HB.out) hb); (try clear hb); (try clear hb2); (try clear hk); (try clear hi); have y44_0 := zt0 BK226.out; have y44_1 := zt1 BK226.out; have u44_0 := zd BK226.out 0; have u44_1 := zd BK226.out 1; have y45_0 := zt0 BK229.out; have y45_1 := zt1 BK229.out; have u45_0 := zd BK229.out 0; have u45_1 := zd BK229.out 1) | (go_at_call 83; (with_reducible refine (impl_Lat_has.calls a0 _ _ x227001_3 ((rd_T89 l1 x38_3).f1) true _ ?side1 ?side2 A29.out).mono ?_); (case side1 => repeat (first | exact (Kd.R_reads' HO_227001.out).2.2 | (with_reducible refine Kd.zr ?_ _) | (with_reducible refine Kd.zq ?_ _) | (with_reducible refine Kd.C_drew ?_))); (case side2 => exact (Kd.R_reads' HO_227001.out).2.1); rintro e w46 ⟨rfl, hb⟩; replace HO_227001 := zp.mk (Kd.R_below (by (with_reducible repeat (first | apply Kd.R_alloc | apply Kd.R_drewN | apply Kd.R_drew)); exact HO_227001.out) hb); replace BK221 := zp.mk (zl (zv8 BK221.out) hb); replace BK226 := zp.mk (zl (zv8 BK226.out) hb); replace BK229 := zp.mk (zl (zv8 BK229.out) hb); replace HB := zp.mk (zj (zv7 HB.out) hb); (try clear hb); (try clear hb2); (try clear hk); (try clear hi)))
                   replace HO_227001 := zp.mk (Kd.R_drew HO_227001.out)
                   replace BK221 := zp.mk (zi BK221.out)
                   replace BK226 := zp.mk (zi BK226.out)
                   replace BK229 := zp.mk (zi BK229.out)
                   replace HB := zp.mk (zb HB.out)
                   have p232 : 0 ≤ (((rd_T89 l1 x38_3).f0) : Int) := of_decide_eq_true (by first | (with_reducible assumption) | assumption)
                   have q232 : ((rd_T89 l1 x38_3).f0) < (x227001_3.length : Int) := of_decide_eq_true (by first | (with_reducible assumption) | assumption)
                   obtain ⟨ad232, e232, hx232_0⟩ := Kd.at_int (Kd.R_reads' HO_227001.out).2.2 ((rd_T89 l1 x38_3).f0) p232 q232
                   cases e232
                   replace p232 := eq_true p232
                   replace q232 := eq_true q232
                   have p35 : 0 ≤ (((rd_T89 l1 x38_3).f0) : Int) := of_decide_eq_true (by first | (with_reducible assumption) | assumption)
                   have q35 : (((rd_T89 l1 x38_3).f0) : Int) < ((x227001_3.length : Int) : Int) := of_decide_eq_true (by first | (with_reducible assumption) | assumption)
                   obtain ⟨go35, co35, eo35, gb35, gl35, cl35, HG35⟩ := Kd.R_form HO_227001.out (by omega)
                   (first | cases eo35 | (injection eo35 with ea_ en_ ec_; (first | subst ea_ | (injection ea_ with ea_; subst ea_)); subst ec_; clear en_))
                   have GB35 := zp.mk gb35
                   have GG35 := zp.mk HG35
                   clear gb35 gl35 HG35
                   (first | simp only [add_plain] at hx232_0 | skip)
                   obtain ⟨hx35_0, hf35_0⟩ := Kd.R_celln 0 HO_227001.out (((rd_T89 l1 x38_3).f0) : Int) p35 q35
                   replace p35 := eq_true p35
                   replace q35 := eq_true q35
                   have HP48 := Kd.R_putn HO_227001.out (((rd_T89 l1 x38_3).f0) : Int) (Go.bits .or .u64 (rd x227001_3 ((rd_T89 l1 x38_3).f0)) (ji34))
                   rw [← Ny233.out] at HP48
                   have HQ48 := zp.mk HP48
                   clear HP48
                   refine start_ (n := 12) (S := fun w' => w'.cell? ⟨gb226, 0, none⟩ = some (.int .i64 a0) ∧ w'.cell? ⟨gb226, 1, none⟩ = some (.slice (some ⟨go35, 0, none⟩) x227001_3.length co42) ∧ w'.cell? ⟨gb229, 0, none⟩ = some (.int .i64 ((rd_T89 l1 x38_3).f0)) ∧ w'.cell? ⟨gb229, 1, none⟩ = some (.int .i64 ((rd_T89 l1 x38_3).f1)) ∧ w'.cell? ⟨go35, (((rd_T89 l1 x38_3).f0)).toNat, none⟩ = some (.int .u64 (rd x227001_3 ((rd_T89 l1 x38_3).f0)))) (ds := [11]) #[false, false, false, false, false, false, false, false, false, false, false, false] (by kernel_rfl) rfl rfl ⟨(ze BK226.out 0).trans rfl, (ze BK226.out 1).trans rfl, (ze BK229.out 0).trans rfl, (ze BK229.out 1).trans rfl, hx232_0⟩ (fun hHeld => ?_); refine with_tabW impl_LatOf.tab14 impl_LatOf.bits14 (fun HT_ HW_ => ?_)
                   generalize w46.drew = w47 at HO_227001 BK221 BK226 BK229 HB GG35 HQ48 hf35_0 hx232_0 hx35_0 hHeld ⊢
                   refine pure_ (i := 0) (N := some 55) (v := ?_) (a' := ?_) #[true, false, false, false, false, false, false, false, false, false, false, false] rfl rfl (any_of HT_.out (by kernel_rfl)) (fun _ _ _ h => h) (Or.inl ⟨by rfl, ?_⟩) ?_ ?_
                   rotate_left
                   ·intro w'
                    go_simp
                    with_reducible rfl
                   rotate_left
                   ·simp only [Act.put, zs1, zs2, zs3, i64_w, i32_w]
                    rfl
                   refine pure_ (i := 2) (N := some 57) (v := ?_) (a' := ?_) #[true, false, true, false, false, false, false, false, false, false, false, false] rfl rfl (any_of HT_.out (by kernel_rfl)) (fun _ _ _ h => h) (Or.inl ⟨by rfl, ?_⟩) ?_ ?_
                   rotate_left
                   ·intro w'
                    go_simp
                    with_reducible rfl
                   rotate_left
                   ·simp only [Act.put, zs1, zs2, zs3, i64_w, i32_w]
                    rfl
                   refine pure_ (i := 6) (N := some 61) (v := ?_) (a' := ?_) #[true, false, true, false, false, false, true, false, false, false, false, false] rfl rfl (any_of HT_.out (by kernel_rfl)) (fun _ _ _ h => h) (Or.inl ⟨by rfl, ?_⟩) ?_ ?_
                   rotate_left
                   ·intro w'
                    go_simp
                    with_reducible rfl
                   rotate_left
                   ·simp only [Act.put, zs1, zs2, zs3, i64_w, i32_w]
                    rfl
                   refine take_ (i := 1) (N := some 56) (v := ?_) (a' := ?_) #[true, true, true, false, false, false, true, false, false, false, false, false] rfl rfl (take_ofW HT_.out HW_.out (by kernel_rfl)) (fun _ _ _ h => h) (Or.inl ⟨by rfl, ?_⟩) hHeld ?_ ?_
                   rotate_left
                   ·rintro w' ⟨s0, s1, s2, s3, s4⟩
                    go_simp
                    with_reducible rfl
                   rotate_left
                   ·simp only [Act.put, zs1, zs2, zs3, i64_w, i32_w]
                    rfl
                   refine take_ (i := 3) (N := some 58) (v := ?_) (a' := ?_) #[true, true, true, true, false, false, true, false, false, false, false, false] rfl rfl (take_ofW HT_.out HW_.out (by kernel_rfl)) (fun _ _ _ h => h) (Or.inl ⟨by rfl, ?_⟩) hHeld ?_ ?_
                   rotate_left
                   ·rintro w' ⟨s0, s1, s2, s3, s4⟩
                    go_simp
                    with_reducible rfl
                   rotate_left
                   ·simp only [Act.put, zs1, zs2, zs3, i64_w, i32_w]
                    rfl
                   refine pure_ (i := 4) (N := some 59) (v := ?_) (a' := ?_) #[true, true, true, true, true, false, true, false, false, false, false, false] rfl rfl (any_of HT_.out (by kernel_rfl)) (fun _ _ _ h => h) (Or.inl ⟨by rfl, ?_⟩) ?_ ?_
                   rotate_left
                   ·intro w'
                    go_simp
                    with_reducible rfl
                   rotate_left
                   ·simp only [Act.put, zs1, zs2, zs3, i64_w, i32_w]
                    rfl
                   refine take_ (i := 5) (N := some 60) (v := ?_) (a' := ?_) #[true, true, true, true, true, true, true, false, false, false, false, false] rfl rfl (take_ofW HT_.out HW_.out (by kernel_rfl)) (fun _ _ _ h => h) (Or.inl ⟨by rfl, ?_⟩) hHeld ?_ ?_
                   rotate_left
                   ·rintro w' ⟨s0, s1, s2, s3, s4⟩
                    go_simp
                    with_reducible rfl
                   rotate_left
                   ·simp only [Act.put, zs1, zs2, zs3, i64_w, i32_w]
                    rfl
                   refine take_ (i := 7) (N := some 62) (v := ?_) (a' := ?_) #[true, true, true, true, true, true, true, true, false, false, false, false] rfl rfl (take_ofW HT_.out HW_.out (by kernel_rfl)) (fun _ _ _ h => h) (Or.inl ⟨by rfl, ?_⟩) hHeld ?_ ?_
                   rotate_left
                   ·rintro w' ⟨s0, s1, s2, s3, s4⟩
                    go_simp
                    with_reducible rfl
                   rotate_left
                   ·simp only [Act.put, zs1, zs2, zs3, i64_w, i32_w]
                    rfl
                   refine pure_ (i := 8) (N := some 63) (v := ?_) (a' := ?_) #[true, true, true, true, true, true, true, true, true, false, false, false] rfl rfl (any_of HT_.out (by kernel_rfl)) (fun _ _ _ h => h) (Or.inl ⟨by rfl, ?_⟩) ?_ ?_
                   rotate_left
                   ·intro w'
                    go_simp
                    with_reducible rfl
                   rotate_left
                   ·simp only [Act.put, zs1, zs2, zs3, i64_w, i32_w]
                    rfl
                   refine pure_ (i := 9) (N := some 64) (v := ?_) (a' := ?_) #[true, true, true, true, true, true, true, true, true, true, false, false] rfl rfl (any_of HT_.out (by kernel_rfl)) (fun _ _ _ h => h) (Or.inl ⟨by rfl, ?_⟩) ?_ ?_
                   rotate_left
                   ·intro w'
                    go_simp
                    with_reducible rfl
                   rotate_left
                   ·simp only [Act.put, zs1, zs2, zs3, i64_w, i32_w]
                    rfl
                   refine pure_ (i := 10) (N := some 65) (v := ?_) (a' := ?_) #[true, true, true, true, true, true, true, true, true, true, true, false] rfl rfl (any_of HT_.out (by kernel_rfl)) (fun _ _ _ h => h) (Or.inl ⟨by rfl, ?_⟩) ?_ ?_
                   rotate_left
                   ·intro w'
                    go_simp
                    with_reducible rfl
                   rotate_left
                   ·simp only [Act.put, zs1, zs2, zs3, i64_w, i32_w]
                    rfl
                   refine last_ (i := 11) (N := none) #[true, true, true, true, true, true, true, true, true, true, true, true] rfl rfl (one_of HT_.out (by kernel_rfl)) (by decide) (fun K hK => ?_)
                   refine skip_ (w1 := ?_) (by rfl) rfl ?_ ?_
                   rotate_left
                   ·go_simp
                    rfl
                   refine hK.out _ _ ?_
                   clear hK K
                   refine done_ (done_of HT_.out (by kernel_rfl)) ?_
                   try go_wp2
                   go_roundg k3
                   case measure => have := HJ2.out; have := HK2.out; have := HK3.out; omega
                   case rel => exact ⟨(wrap64 (x38_3 + 1)), (x222000_3), (y233), (.slice (some ⟨go35, 0, none⟩) x227001_3.length co42), (by first | rfl | (simp; done) | (simp [*]; done)), H', ⟨by have := HJ2.out; have := HK2.out; have := HK3.out; omega⟩, ⟨by (with_reducible repeat (first | apply Kd.R_alloc | apply Kd.R_drewN | apply Kd.R_drew)); exact HQ48.out⟩, ⟨by (with_reducible repeat (first | refine zf ?_ _ | refine zi ?_ | refine zg ?_ _)); refine blk_far ?_ (by have h_ := Kd.R_ne HO_227001.out BK221.out (by decide); intro e_; exact h_ (by rw [e_]; rfl)) _; (with_reducible repeat (first | refine zf ?_ _ | refine zi ?_ | refine zg ?_ _)); exact BK221.out⟩, ⟨by (with_reducible repeat (first | refine zf ?_ _ | refine zi ?_ | refine zg ?_ _)); refine blk_far ?_ (by have h_ := Kd.R_ne HO_227001.out BK226.out (by decide); intro e_; exact h_ (by rw [e_]; rfl)) _; (with_reducible repeat (first | refine zf ?_ _ | refine zi ?_ | refine zg ?_ _)); exact BK226.out⟩, ⟨by repeat (first | (with_reducible first | exact HB.out | apply zc | apply za | apply zb | refine zh ?_ GB35.out | refine zh ?_ GE221.out | refine zh ?_ GE226.out | refine zh ?_ GE229.out) | exact HB.out)⟩⟩
                  ·rw [if_neg c33] at H
                   exact absurd H (by simp)
                 ·rw [if_neg c32] at H
                  exact absurd H (by simp)
                ·rw [if_neg c31] at H
                 exact absurd H (by simp)
               ·replace c30 := Bool.eq_false_iff.mpr c30
                subst c30
                have H1 : (some (0, ([] : List Int), false)) = some (r1, r2, r3) := by rw [if_neg (show ¬ (false = true) by decide)] at H; exact H
                clear H
                have H := H1
                clear H1
                simp only [Option.some.injEq, Prod.mk.injEq] at H
                obtain ⟨rfl, rfl, rfl⟩ := H
                have p228 : 0 ≤ (x38_3 : Int) := of_decide_eq_true (by first | (with_reducible assumption) | assumption)
                have q228 : x38_3 < (l1.length : Int) := of_decide_eq_true (by first | (with_reducible assumption) | assumption)
                obtain ⟨ad228, e228, hx228_0, hx228_1⟩ := at_T89 HR1.out x38_3 p228 q228
                cases e228
                replace hx228_0 := (HB.out.cell (World.block_lt_of_cell? w _ hx228_0)).trans hx228_0
                replace hx228_1 := (HB.out.cell (World.block_lt_of_cell? w _ hx228_1)).trans hx228_1
                replace p228 := eq_true p228
                replace q228 := eq_true q228
                go_wp2_with (first | ((with_reducible refine zo (N := 9) rfl ?_); (try (refine gate_guard (by rfl) ?_; dsimp only)); refine zm ?hg (N := 9) ?hd (cs := #[.int .i64 0, .int .i64 0]) (t := 89) ?hr ?_; (case hd => rfl); (case hg => rfl); (case hr => first | (go_simp; done) | (go_simp; rfl)); intro gb229 hg w49 hbox hb; have BK229 := zp.mk (hbox); have GW229 := zp.mk ((zv3 (zv7 HB.out) hg)); have GE229 := zp.mk ((zv3 (zv7 HB.out) hg)); have NB221_229 := zp.mk ((by rw [hg]; exact Nat.ne_of_lt (blk_lt (g := gb221) (o := .cells #[.int .i64 x222000_3, .slice none 0 0] 27 (0, 0)) (zv8 BK221.out)) : gb221 ≠ gb229)); have NB229_221 := zp.mk ((by rw [hg]; exact Nat.ne_of_gt (blk_lt (g := gb221) (o := .cells #[.int .i64 x222000_3, .slice none 0 0] 27 (0, 0)) (zv8 BK221.out)) : gb229 ≠ gb221)); have NB226_229 := zp.mk ((by rw [hg]; exact Nat.ne_of_lt (blk_lt (g := gb226) (o := .cells #[.int .i64 a0, u227001] 27 (0, 0)) (zv8 BK226.out)) : gb226 ≠ gb229)); have NB229_226 := zp.mk ((by rw [hg]; exact Nat.ne_of_gt (blk_lt (g := gb226) (o := .cells #[.int .i64 a0, u227001] 27 (0, 0)) (zv8 BK226.out)) : gb229 ≠ gb226)); replace HO_227001 := zp.mk (Kd.R_below (by (with_reducible repeat (first | apply Kd.R_alloc | apply Kd.R_drewN | apply Kd.R_drew)); exact HO_227001.out) hb); replace BK221 := zp.mk (zl (zv8 BK221.out) hb); replace BK226 := zp.mk (zl (zv8 BK226.out) hb); replace HB := zp.mk (zj (zv7 HB.out) hb); clear hb hbox hg; have hnb50 := NB229_221.out; have hnc50 := NB221_229.out; have hnb51 := NB229_226.out; have hnc51 := NB226_229.out; have y52_0 := zt0 BK229.out; have y52_1 := zt1 BK229.out; have u52_0 := zd BK229.out 0; have u52_1 := zd BK229.out 1; have hnb53 := NB226_221.out; have hnc53 := NB221_226.out; have y54_0 := zt0 BK226.out; have y54_1 := zt1 BK226.out; have u54_0 := zd BK226.out 0; have u54_1 := zd BK226.out 1; obtain ⟨Ao55, co55, eo55⟩ := Kd.R_slice HO_227001.out; subst eo55) | ((with_reducible refine zn (f := 83) rfl ?_); refine goesL_ (some 45) rfl rfl Try.func83 (by kernel_rfl) rfl #[.agg #[.int .i64 a0, .slice Ao55 x227001_3.length co55], .int .i64 ((rd_T89 l1 x38_3).f0)] rfl (by (try simp only [List.map_toArray, List.map_cons, List.map_nil]); first | done | rfl | (simp only [List.length_drop, List.length_take]; rfl)) ?_; (with_reducible refine (impl_Lat_has.calls a0 _ _ x227001_3 ((rd_T89 l1 x38_3).f0) true _ ?side1 ?side2 A27.out).mono ?_); (case side1 => refine (Kd.R_reads' (e := 76) (base := w.heap.size) (ok := fun k_ => True) (n := x227001_3.length) (c := co55) ?_).2.2; exact (by (with_reducible repeat (first | apply Kd.R_alloc | apply Kd.R_drewN | apply Kd.R_drew)); exact (Kd.R_mono (Kd.R_far (p := ⟨gb229, 1, none⟩) (Kd.R_far (p := ⟨gb229, 0, none⟩) (Kd.R_types HO_227001.out BK229.out (by decide)) (fun _ hk => hk.2) (.int .i64 ((rd_T89 l1 x38_3).f0))) (fun _ hk => hk.2) (.int .i64 ((rd_T89 l1 x38_3).f1))) (fun _ h_ => h_.1)))); (case side2 => exact (Kd.R_reads' HO_227001.out).2.1); rintro e w56 ⟨rfl, hb⟩; refine ⟨_, rfl, ?_⟩; replace HO_227001 := zp.mk (Kd.R_below (by (with_reducible repeat (first | apply Kd.R_alloc | apply Kd.R_drewN | apply Kd.R_drew)); exact (Kd.R_mono (Kd.R_far (p := ⟨gb229, 1, none⟩) (Kd.R_far (p := ⟨gb229, 0, none⟩) (Kd.R_types HO_227001.out BK229.out (by decide)) (fun _ hk => hk.2) (.int .i64 ((rd_T89 l1 x38_3).f0))) (fun _ hk => hk.2) (.int .i64 ((rd_T89 l1 x38_3).f1))) (fun _ h_ => h_.1))) hb); replace BK221 := zp.mk (zl (g := gb221) (o := .cells #[.int .i64 x222000_3, .slice none 0 0] 27 (0, 0)) (by (with_reducible repeat (first | refine zf ?_ _ | refine zi ?_ | refine zg ?_ _)); refine blk_far ?_ NB221_229.out _; (with_reducible repeat (first | refine zf ?_ _ | refine zi ?_ | refine zg ?_ _)); refine blk_far ?_ NB221_229.out _; (with_reducible repeat (first | refine zf ?_ _ | refine zi ?_ | refine zg ?_ _)); exact BK221.out) hb); replace BK226 := zp.mk (zl (g := gb226) (o := .cells #[.int .i64 a0, .slice Ao55 x227001_3.length co55] 27 (0, 0)) (by (with_reducible repeat (first | refine zf ?_ _ | refine zi ?_ | refine zg ?_ _)); refine blk_far ?_ NB226_229.out _; (with_reducible repeat (first | refine zf ?_ _ | refine zi ?_ | refine zg ?_ _)); refine blk_far ?_ NB226_229.out _; (with_reducible repeat (first | refine zf ?_ _ | refine zi ?_ | refine zg ?_ _)); exact BK226.out) hb); replace BK229 := zp.mk (zl (g := gb229) (o := .cells #[.int .i64 ((rd_T89 l1 x38_3).f0), .int .i64 ((rd_T89 l1 x38_3).f1)] 89 (0, 0)) (by (with_reducible repeat (first | refine zf ?_ _ | refine zi ?_ | refine zg ?_ _)); refine blk_put (cs := #[.int .i64 ((rd_T89 l1 x38_3).f0), .int .i64 0]) ?_ 1 _ rfl; (with_reducible repeat (first | refine zf ?_ _ | refine zi ?_ | refine zg ?_ _)); refine blk_put (cs := #[.int .i64 0, .int .i64 0]) ?_ 0 _ rfl; (with_reducible repeat (first | refine zf ?_ _ | refine zi ?_ | refine zg ?_ _)); exact BK229.out) hb); replace HB := zp.mk (zj (zv7 HB.out) hb); (try clear hb); (try clear hb2); (try clear hk); (try clear hi); have y57_0 := zt0 BK226.out; have y57_1 := zt1 BK226.out; have u57_0 := zd BK226.out 0; have u57_1 := zd BK226.out 1; have y58_0 := zt0 BK229.out; have y58_1 := zt1 BK229.out; have u58_0 := zd BK229.out 0; have u58_1 := zd BK229.out 1) | (go_at_call 83; (with_reducible refine (impl_Lat_has.calls a0 _ _ x227001_3 ((rd_T89 l1 x38_3).f1) false _ ?side1 ?side2 A29.out).mono ?_); (case side1 => repeat (first | exact (Kd.R_reads' HO_227001.out).2.2 | (with_reducible refine Kd.zr ?_ _) | (with_reducible refine Kd.zq ?_ _) | (with_reducible refine Kd.C_drew ?_))); (case side2 => exact (Kd.R_reads' HO_227001.out).2.1); rintro e w59 ⟨rfl, hb⟩; replace HO_227001 := zp.mk (Kd.R_below (by (with_reducible repeat (first | apply Kd.R_alloc | apply Kd.R_drewN | apply Kd.R_drew)); exact HO_227001.out) hb); replace BK221 := zp.mk (zl (zv8 BK221.out) hb); replace BK226 := zp.mk (zl (zv8 BK226.out) hb); replace BK229 := zp.mk (zl (zv8 BK229.out) hb); replace HB := zp.mk (zj (zv7 HB.out) hb); (try clear hb); (try clear hb2); (try clear hk); (try clear hi); have y60_0 := zt0 BK221.out; have y60_1 := zt1 BK221.out; have u60_0 := zd BK221.out 0; have u60_1 := zd BK221.out 1))
                refine bodyPost_ret (results_ct rfl _ _ gb221 27 #[.int .i64 0, .slice none 0 0] (0, 0) _ rfl (by (with_reducible repeat (first | refine zf ?_ _ | refine zi ?_ | refine zg ?_ _)); refine blk_put (cs := #[.int .i64 0, .slice none 0 0]) ?_ 1 _ rfl; (with_reducible repeat (first | refine zf ?_ _ | refine zi ?_ | refine zg ?_ _)); refine blk_put (cs := #[.int .i64 x222000_3, .slice none 0 0]) ?_ 0 _ rfl; (with_reducible repeat (first | refine zf ?_ _ | refine zi ?_ | refine zg ?_ _)); exact BK221.out) Try.underlying27 rfl (by kernel_rfl)) rfl ?_
                exact ⟨_, by first | rfl | (simp [errW_none, errW_some] <;> rfl) | (simp [*, errW_none, errW_some] <;> rfl), by first | exact Kd.R_nil _ _ _ _ _ | exact Kd.N_nil _ _ _ _ _ | exact Kd.V_nil _ _ _ _ _ | exact Kd.Q_nil _ _ _ _ _ | exact Kd.S_nil _ _ _ _ _, zv7 HB.out⟩
              ·replace c28 := Bool.eq_false_iff.mpr c28
               subst c28
               have H1 : (some (0, ([] : List Int), false)) = some (r1, r2, r3) := by rw [if_neg (show ¬ (false = true) by decide)] at H; exact H
               clear H
               have H := H1
               clear H1
               simp only [Option.some.injEq, Prod.mk.injEq] at H
               obtain ⟨rfl, rfl, rfl⟩ := H
               have p228 : 0 ≤ (x38_3 : Int) := of_decide_eq_true (by first | (with_reducible assumption) | assumption)
               have q228 : x38_3 < (l1.length : Int) := of_decide_eq_true (by first | (with_reducible assumption) | assumption)
               obtain ⟨ad228, e228, hx228_0, hx228_1⟩ := at_T89 HR1.out x38_3 p228 q228
               cases e228
               replace hx228_0 := (HB.out.cell (World.block_lt_of_cell? w _ hx228_0)).trans hx228_0
               replace hx228_1 := (HB.out.cell (World.block_lt_of_cell? w _ hx228_1)).trans hx228_1
               replace p228 := eq_true p228
               replace q228 := eq_true q228
               go_wp2_with (first | ((with_reducible refine zo (N := 9) rfl ?_); (try (refine gate_guard (by rfl) ?_; dsimp only)); refine zm ?hg (N := 9) ?hd (cs := #[.int .i64 0, .int .i64 0]) (t := 89) ?hr ?_; (case hd => rfl); (case hg => rfl); (case hr => first | (go_simp; done) | (go_simp; rfl)); intro gb229 hg w61 hbox hb; have BK229 := zp.mk (hbox); have GW229 := zp.mk ((zv3 (zv7 HB.out) hg)); have GE229 := zp.mk ((zv3 (zv7 HB.out) hg)); have NB221_229 := zp.mk ((by rw [hg]; exact Nat.ne_of_lt (blk_lt (g := gb221) (o := .cells #[.int .i64 x222000_3, .slice none 0 0] 27 (0, 0)) (zv8 BK221.out)) : gb221 ≠ gb229)); have NB229_221 := zp.mk ((by rw [hg]; exact Nat.ne_of_gt (blk_lt (g := gb221) (o := .cells #[.int .i64 x222000_3, .slice none 0 0] 27 (0, 0)) (zv8 BK221.out)) : gb229 ≠ gb221)); have NB226_229 := zp.mk ((by rw [hg]; exact Nat.ne_of_lt (blk_lt (g := gb226) (o := .cells #[.int .i64 a0, u227001] 27 (0, 0)) (zv8 BK226.out)) : gb226 ≠ gb229)); have NB229_226 := zp.mk ((by rw [hg]; exact Nat.ne_of_gt (blk_lt (g := gb226) (o := .cells #[.int .i64 a0, u227001] 27 (0, 0)) (zv8 BK226.out)) : gb229 ≠ gb226)); replace HO_227001 := zp.mk (Kd.R_below (by (with_reducible repeat (first | apply Kd.R_alloc | apply Kd.R_drewN | apply Kd.R_drew)); exact HO_227001.out) hb); replace BK221 := zp.mk (zl (zv8 BK221.out) hb); replace BK226 := zp.mk (zl (zv8 BK226.out) hb); replace HB := zp.mk (zj (zv7 HB.out) hb); clear hb hbox hg; have hnb62 := NB229_221.out; have hnc62 := NB221_229.out; have hnb63 := NB229_226.out; have hnc63 := NB226_229.out; have y64_0 := zt0 BK229.out; have y64_1 := zt1 BK229.out; have u64_0 := zd BK229.out 0; have u64_1 := zd BK229.out 1; have hnb65 := NB226_221.out; have hnc65 := NB221_226.out; have y66_0 := zt0 BK226.out; have y66_1 := zt1 BK226.out; have u66_0 := zd BK226.out 0; have u66_1 := zd BK226.out 1; obtain ⟨Ao67, co67, eo67⟩ := Kd.R_slice HO_227001.out; subst eo67) | ((with_reducible refine zn (f := 83) rfl ?_); refine goesL_ (some 45) rfl rfl Try.func83 (by kernel_rfl) rfl #[.agg #[.int .i64 a0, .slice Ao67 x227001_3.length co67], .int .i64 ((rd_T89 l1 x38_3).f0)] rfl (by (try simp only [List.map_toArray, List.map_cons, List.map_nil]); first | done | rfl | (simp only [List.length_drop, List.length_take]; rfl)) ?_; (with_reducible refine (impl_Lat_has.calls a0 _ _ x227001_3 ((rd_T89 l1 x38_3).f0) false _ ?side1 ?side2 A27.out).mono ?_); (case side1 => refine (Kd.R_reads' (e := 76) (base := w.heap.size) (ok := fun k_ => True) (n := x227001_3.length) (c := co67) ?_).2.2; exact (by (with_reducible repeat (first | apply Kd.R_alloc | apply Kd.R_drewN | apply Kd.R_drew)); exact (Kd.R_mono (Kd.R_far (p := ⟨gb229, 1, none⟩) (Kd.R_far (p := ⟨gb229, 0, none⟩) (Kd.R_types HO_227001.out BK229.out (by decide)) (fun _ hk => hk.2) (.int .i64 ((rd_T89 l1 x38_3).f0))) (fun _ hk => hk.2) (.int .i64 ((rd_T89 l1 x38_3).f1))) (fun _ h_ => h_.1)))); (case side2 => exact (Kd.R_reads' HO_227001.out).2.1); rintro e w68 ⟨rfl, hb⟩; refine ⟨_, rfl, ?_⟩; replace HO_227001 := zp.mk (Kd.R_below (by (with_reducible repeat (first | apply Kd.R_alloc | apply Kd.R_drewN | apply Kd.R_drew)); exact (Kd.R_mono (Kd.R_far (p := ⟨gb229, 1, none⟩) (Kd.R_far (p := ⟨gb229, 0, none⟩) (Kd.R_types HO_227001.out BK229.out (by decide)) (fun _ hk => hk.2) (.int .i64 ((rd_T89 l1 x38_3).f0))) (fun _ hk => hk.2) (.int .i64 ((rd_T89 l1 x38_3).f1))) (fun _ h_ => h_.1))) hb); replace BK221 := zp.mk (zl (g := gb221) (o := .cells #[.int .i64 x222000_3, .slice none 0 0] 27 (0, 0)) (by (with_reducible repeat (first | refine zf ?_ _ | refine zi ?_ | refine zg ?_ _)); refine blk_far ?_ NB221_229.out _; (with_reducible repeat (first | refine zf ?_ _ | refine zi ?_ | refine zg ?_ _)); refine blk_far ?_ NB221_229.out _; (with_reducible repeat (first | refine zf ?_ _ | refine zi ?_ | refine zg ?_ _)); exact BK221.out) hb); replace BK226 := zp.mk (zl (g := gb226) (o := .cells #[.int .i64 a0, .slice Ao67 x227001_3.length co67] 27 (0, 0)) (by (with_reducible repeat (first | refine zf ?_ _ | refine zi ?_ | refine zg ?_ _)); refine blk_far ?_ NB226_229.out _; (with_reducible repeat (first | refine zf ?_ _ | refine zi ?_ | refine zg ?_ _)); refine blk_far ?_ NB226_229.out _; (with_reducible repeat (first | refine zf ?_ _ | refine zi ?_ | refine zg ?_ _)); exact BK226.out) hb); replace BK229 := zp.mk (zl (g := gb229) (o := .cells #[.int .i64 ((rd_T89 l1 x38_3).f0), .int .i64 ((rd_T89 l1 x38_3).f1)] 89 (0, 0)) (by (with_reducible repeat (first | refine zf ?_ _ | refine zi ?_ | refine zg ?_ _)); refine blk_put (cs := #[.int .i64 ((rd_T89 l1 x38_3).f0), .int .i64 0]) ?_ 1 _ rfl; (with_reducible repeat (first | refine zf ?_ _ | refine zi ?_ | refine zg ?_ _)); refine blk_put (cs := #[.int .i64 0, .int .i64 0]) ?_ 0 _ rfl; (with_reducible repeat (first | refine zf ?_ _ | refine zi ?_ | refine zg ?_ _)); exact BK229.out) hb); replace HB := zp.mk (zj (zv7 HB.out) hb); (try clear hb); (try clear hb2); (try clear hk); (try clear hi); have y69_0 := zt0 BK221.out; have y69_1 := zt1 BK221.out; have u69_0 := zd BK221.out 0; have u69_1 := zd BK221.out 1))
               refine bodyPost_ret (results_ct rfl _ _ gb221 27 #[.int .i64 0, .slice none 0 0] (0, 0) _ rfl (by (with_reducible repeat (first | refine zf ?_ _ | refine zi ?_ | refine zg ?_ _)); refine blk_put (cs := #[.int .i64 0, .slice none 0 0]) ?_ 1 _ rfl; (with_reducible repeat (first | refine zf ?_ _ | refine zi ?_ | refine zg ?_ _)); refine blk_put (cs := #[.int .i64 x222000_3, .slice none 0 0]) ?_ 0 _ rfl; (with_reducible repeat (first | refine zf ?_ _ | refine zi ?_ | refine zg ?_ _)); exact BK221.out) Try.underlying27 rfl (by kernel_rfl)) rfl ?_
               exact ⟨_, by first | rfl | (simp [errW_none, errW_some] <;> rfl) | (simp [*, errW_none, errW_some] <;> rfl), by first | exact Kd.R_nil _ _ _ _ _ | exact Kd.N_nil _ _ _ _ _ | exact Kd.V_nil _ _ _ _ _ | exact Kd.Q_nil _ _ _ _ _ | exact Kd.S_nil _ _ _ _ _, zv7 HB.out⟩
             ·rw [if_neg c26] at H
              exact absurd H (by simp)
            ·rw [if_neg c25] at H
             exact absurd H (by simp)
           ·rw [if_neg c24] at H
            have c24b0 : decide (x38_3 < (l1.length : Int)) = false := decide_eq_false c24
            clear c24
            have H' := zp.mk H
            clear H
            go_wp2
            go_loopg [68] k3 (fun kq v68 w' => ∃ (x68_4 : Int) (x227001_4 : List Int) (u227001 : Value), v68 = .int .i64 x68_4 ∧ zp (impl_LatOf.l2 kq a0 a0 x68_4 a0 x227001_4 = some (r1, r2, r3)) ∧ zp (kq ≤ k3) ∧ zp (Kd.R (Kd.int .u64) 76 w' w.heap.size (fun _ => True) u227001 x227001_4) ∧ zp (w'.heap[gb221]? = some (.cells #[.int .i64 x222000_3, (.slice none 0 0)] 27 (0, 0))) ∧ zp (w'.heap[gb226]? = some (.cells #[.int .i64 a0, u227001] 27 (0, 0))) ∧ zp (Below w.heap.size w w'))
            case atStart => exact ⟨(0), (x227001_3), (u227001), (by first | rfl | (simp; done) | (simp [*]; done)), H', ⟨Nat.le_refl _⟩, ⟨by (with_reducible repeat (first | apply Kd.R_alloc | apply Kd.R_drewN | apply Kd.R_drew)); exact HO_227001.out⟩, ⟨zv8 BK221.out⟩, ⟨zv8 BK226.out⟩, ⟨zv7 HB.out⟩⟩
            case round =>
             clear H'
             try clear c1
             try clear c2
             try clear p2
             try clear q2
             try clear hx2
             try clear hf2
             try clear c3
             try clear p3
             try clear q3
             try clear hx3
             try clear hf3
             try clear c4
             try clear c5
             try clear c6
             try clear p6
             try clear c7
             try clear c8
             try clear c9
             try clear c9b0
             try clear c9b1
             try clear c10
             try clear c10b0
             try clear c10b1
             try clear c15
             try clear c17
             try clear c17b0
             try clear c18
             try clear c18b0
             try clear c18b1
             try clear c20
             try clear c20b0
             try clear p21
             try clear q21
             try clear hx21
             try clear hf21
             try clear p22
             try clear q22
             try clear hx22
             try clear p23
             try clear q23
             try clear hx23
             try clear c24
             try clear c24b0
             try clear c25
             try clear c25b0
             try clear c26
             try clear c26b0
             try clear c28
             try clear c30
             try clear c31
             try clear c31b0
             try clear c32
             try clear c32b0
             try clear c33
             try clear c33b0
             try clear c33b1
             try clear p35
             try clear q35
             try clear hx35
             try clear hf35
             try clear c37
             try clear c38
             try clear c40
             try clear c47
             try clear c50
             try clear c51
             try clear c53
             try clear c62
             try clear c63
             try clear p64
             try clear c65
             try clear y16_0
             try clear y16_1
             try clear y39_0
             try clear y39_1
             try clear y41_0
             try clear y41_1
             try clear y44_0
             try clear y44_1
             try clear y45_0
             try clear y45_1
             try clear y52_0
             try clear y52_1
             try clear y54_0
             try clear y54_1
             try clear y57_0
             try clear y57_1
             try clear y58_0
             try clear y58_1
             try clear y60_0
             try clear y60_1
             try clear y64_0
             try clear y64_1
             try clear y66_0
             try clear y66_1
             try clear y69_0
             try clear y69_1
             try clear y8_0
             try clear y8_1
             try clear u16_0
             try clear u16_1
             try clear u39_0
             try clear u39_1
             try clear u41_0
             try clear u41_1
             try clear u44_0
             try clear u44_1
             try clear u45_0
             try clear u45_1
             try clear u52_0
             try clear u52_1
             try clear u54_0
             try clear u54_1
             try clear u57_0
             try clear u57_1
             try clear u58_0
             try clear u58_1
             try clear u60_0
             try clear u60_1
             try clear u64_0
             try clear u64_1
             try clear u66_0
             try clear u66_1
             try clear u69_0
             try clear u69_1
             try clear u8_0
             try clear u8_1
             try clear hx21_0
             try clear hx228_0
             try clear hx228_1
             try clear hx232_0
             try clear hx35_0
             try clear p2
             try clear p21
             try clear p228
             try clear p232
             try clear p35
             try clear p6
             try clear q2
             try clear q21
             try clear q228
             try clear q232
             try clear q35
             obtain ⟨x68_4, x227001_4, u227001, rfl, HA, HK4, HO_227001, BK221, BK226, HB⟩ := hrel
             cases gk with
             | zero => exact absurd HA.out (by simp [impl_LatOf.l2])
             | succ k4 =>
              have H := HA.out
              clear HA
              simp only [impl_LatOf.l2] at H
              by_cases c70 : x68_4 < a0
              ·rw [if_pos c70] at H
               have c70b0 : decide (x68_4 < a0) = true := decide_eq_true c70
               clear c70
               have H' := zp.mk H
               clear H
               go_wp2
               go_loopg [72] k4 (fun kq v72 w' => ∃ (x72_5 : Int) (x227001_5 : List Int) (u227001 : Value), v72 = .int .i64 x72_5 ∧ zp (impl_LatOf.l3 kq a0 x68_4 a0 x68_4 a0 x72_5 a0 x227001_5 = some (r1, r2, r3)) ∧ zp (kq ≤ k4) ∧ zp (Kd.R (Kd.int .u64) 76 w' w.heap.size (fun _ => True) u227001 x227001_5) ∧ zp (w'.heap[gb221]? = some (.cells #[.int .i64 x222000_3, (.slice none 0 0)] 27 (0, 0))) ∧ zp (w'.heap[gb226]? = some (.cells #[.int .i64 a0, u227001] 27 (0, 0))) ∧ zp (Below w.heap.size w w'))
               case atStart => exact ⟨(0), (x227001_4), (u227001), (by first | rfl | (simp; done) | (simp [*]; done)), H', ⟨Nat.le_refl _⟩, ⟨by (with_reducible repeat (first | apply Kd.R_alloc | apply Kd.R_drewN | apply Kd.R_drew)); exact HO_227001.out⟩, ⟨zv8 BK221.out⟩, ⟨zv8 BK226.out⟩, ⟨zv7 HB.out⟩⟩
               case round =>
                clear H'
                try clear c1
                try clear c2
                try clear p2
                try clear q2
                try clear hx2
                try clear hf2
                try clear c3
                try clear p3
                try clear q3
                try clear hx3
                try clear hf3
                try clear c4
                try clear c5
                try clear c6
                try clear p6
                try clear c7
                try clear c8
                try clear c9
                try clear c9b0
                try clear c9b1
                try clear c10
                try clear c10b0
                try clear c10b1
                try clear c15
                try clear c17
                try clear c17b0
                try clear c18
                try clear c18b0
                try clear c18b1
                try clear c20
                try clear c20b0
                try clear p21
                try clear q21
                try clear hx21
                try clear hf21
                try clear p22
                try clear q22
                try clear hx22
                try clear p23
                try clear q23
                try clear hx23
                try clear c24
                try clear c24b0
                try clear c25
                try clear c25b0
                try clear c26
                try clear c26b0
                try clear c28
                try clear c30
                try clear c31
                try clear c31b0
                try clear c32
                try clear c32b0
                try clear c33
                try clear c33b0
                try clear c33b1
                try clear p35
                try clear q35
                try clear hx35
                try clear hf35
                try clear c37
                try clear c38
                try clear c40
                try clear c47
                try clear c50
                try clear c51
                try clear c53
                try clear c62
                try clear c63
                try clear p64
                try clear c65
                try clear c70
                try clear c70b0
                try clear y16_0
                try clear y16_1
                try clear y39_0
                try clear y39_1
                try clear y41_0
                try clear y41_1
                try clear y44_0
                try clear y44_1
                try clear y45_0
                try clear y45_1
                try clear y52_0
                try clear y52_1
                try clear y54_0
                try clear y54_1
                try clear y57_0
                try clear y57_1
                try clear y58_0
                try clear y58_1
                try clear y60_0
                try clear y60_1
                try clear y64_0
                try clear y64_1
                try clear y66_0
                try clear y66_1
                try clear y69_0
                try clear y69_1
                try clear y8_0
                try clear y8_1
                try clear u16_0
                try clear u16_1
                try clear u39_0
                try clear u39_1
                try clear u41_0
                try clear u41_1
                try clear u44_0
                try clear u44_1
                try clear u45_0
                try clear u45_1
                try clear u52_0
                try clear u52_1
                try clear u54_0
                try clear u54_1
                try clear u57_0
                try clear u57_1
                try clear u58_0
                try clear u58_1
                try clear u60_0
                try clear u60_1
                try clear u64_0
                try clear u64_1
                try clear u66_0
                try clear u66_1
                try clear u69_0
                try clear u69_1
                try clear u8_0
                try clear u8_1
                try clear hx21_0
                try clear hx228_0
                try clear hx228_1
                try clear hx232_0
                try clear hx35_0
                try clear p2
                try clear p21
                try clear p22
                try clear p228
                try clear p23
                try clear p232
                try clear p3
                try clear p35
                try clear p6
                try clear p64
                try clear q2
                try clear q21
                try clear q22
                try clear q228
                try clear q23
                try clear q232
                try clear q3
                try clear q35
                obtain ⟨x72_5, x227001_5, u227001, rfl, HA, HK5, HO_227001, BK221, BK226, HB⟩ := hrel
                cases gk with
                | zero => exact absurd HA.out (by simp [impl_LatOf.l3])
                | succ k5 =>
                 have H := HA.out
                 clear HA
                 simp only [impl_LatOf.l3] at H
                 by_cases c71 : x72_5 < a0
                 ·rw [if_pos c71] at H
                  have c71b0 : decide (x72_5 < a0) = true := decide_eq_true c71
                  clear c71
                  replace H := zs4 H
                  obtain ⟨t235, A720, H⟩ := H
                  replace H : (if t235 = true then (if 0 ≤ x72_5 then (if x72_5 < (x227001_5.length : Int) then (if 0 ≤ x68_4 then (if x68_4 < (x227001_5.length : Int) then (impl_LatOf.l3 k5 a0 x68_4 a0 x68_4 a0 (wrap64 (x72_5 + 1)) a0 (x227001_5.set (x72_5 : Int).toNat (Go.bits .or .u64 (rd x227001_5 x72_5) (rd x227001_5 x68_4)))) else (none)) else (none)) else (none)) else (none)) else (impl_LatOf.l3 k5 a0 x68_4 a0 x68_4 a0 (wrap64 (x72_5 + 1)) a0 x227001_5)) = some (r1, r2, r3) := H
                  have A72 := zp.mk A720
                  clear A720
                  by_cases c73 : t235 = true
                  ·subst c73
                   have H1 : (if 0 ≤ x72_5 then (if x72_5 < (x227001_5.length : Int) then (if 0 ≤ x68_4 then (if x68_4 < (x227001_5.length : Int) then (impl_LatOf.l3 k5 a0 x68_4 a0 x68_4 a0 (wrap64 (x72_5 + 1)) a0 (x227001_5.set (x72_5 : Int).toNat (Go.bits .or .u64 (rd x227001_5 x72_5) (rd x227001_5 x68_4)))) else (none)) else (none)) else (none)) else (none)) = some (r1, r2, r3) := by rw [if_pos rfl] at H; exact H
                   clear H
                   have H := H1
                   clear H1
                   by_cases c74 : 0 ≤ x72_5
                   ·rw [if_pos c74] at H
                    have c74b0 : decide (0 ≤ x72_5) = true := decide_eq_true c74
                    clear c74
                    by_cases c75 : x72_5 < (x227001_5.length : Int)
                    ·rw [if_pos c75] at H
                     have c75b0 : decide (x72_5 < (x227001_5.length : Int)) = true := decide_eq_true c75
                     clear c75
                     by_cases c76 : 0 ≤ x68_4
                     ·rw [if_pos c76] at H
                      have c76b0 : decide (0 ≤ x68_4) = true := decide_eq_true c76
                      clear c76
                      by_cases c77 : x68_4 < (x227001_5.length : Int)
                      ·rw [if_pos c77] at H
                       have c77b0 : decide (x68_4 < (x227001_5.length : Int)) = true := decide_eq_true c77
                       clear c77
                       obtain ⟨y238, hy238⟩ : ∃ y_ : List Int, y_ = (x227001_5.set (x72_5 : Int).toNat (Go.bits .or .u64 (rd x227001_5 x72_5) (rd x227001_5 x68_4))) := ⟨_, rfl⟩
                       replace H : (impl_LatOf.l3 k5 a0 x68_4 a0 x68_4 a0 (wrap64 (x72_5 + 1)) a0 y238) = some (r1, r2, r3) := by first | (rw [hy238]; with_reducible exact H) | (have H2_ := (Option.bind_some _ _).symm.trans H; rw [hy238]; with_reducible exact H2_) | (have H2_ := (Option.bind_some _ _).symm.trans H; with_reducible exact H2_) | with_reducible exact H | (rw [hy238]; exact H) | exact H
                       have Ny238 := zp.mk hy238
                       clear hy238
                       have H' := zp.mk H
                       clear H
                       have hnb79 := NB226_221.out
                       have hnc79 := NB221_226.out
                       have y80_0 := zt0 BK226.out
                       have y80_1 := zt1 BK226.out
                       have u80_0 := zd BK226.out 0
                       have u80_1 := zd BK226.out 1
                       obtain ⟨Ao81, co81, eo81⟩ := Kd.R_slice HO_227001.out
                       subst eo81
                       try go_wp2_with (first | ((with_reducible refine zn (f := 74) rfl ?_); refine goesL_ (some 78) rfl rfl Try.func74 (by kernel_rfl) rfl #[.agg #[.int .i64 a0, .slice Ao81 x227001_5.length co81], .int .i64 x72_5, .int .i64 x68_4] rfl (by (try simp only [List.map_toArray, List.map_cons, List.map_nil]); first | done | rfl | (simp only [List.length_drop, List.length_take]; rfl)) ?_; (with_reducible refine (impl_Lat_le.calls a0 _ _ x227001_5 x72_5 x68_4 true _ ?side1 ?side2 A72.out).mono ?_); (case side1 => repeat (first | exact (Kd.R_reads' HO_227001.out).2.2 | (with_reducible refine Kd.zr ?_ _) | (with_reducible refine Kd.zq ?_ _) | (with_reducible refine Kd.C_drew ?_))); (case side2 => exact (Kd.R_reads' HO_227001.out).2.1); rintro e w82 ⟨rfl, hb⟩; refine ⟨_, rfl, ?_⟩; replace HO_227001 := zp.mk (Kd.R_below (by (with_reducible repeat (first | apply Kd.R_alloc | apply Kd.R_drewN | apply Kd.R_drew)); exact HO_227001.out) hb); replace BK221 := zp.mk (zl (zv8 BK221.out) hb); replace BK226 := zp.mk (zl (zv8 BK226.out) hb); replace HB := zp.mk (zj (zv7 HB.out) hb); (try clear hb); (try clear hb2); (try clear hk); (try clear hi)))
                       replace HO_227001 := zp.mk (Kd.R_drew HO_227001.out)
                       replace BK221 := zp.mk (zi BK221.out)
                       replace BK226 := zp.mk (zi BK226.out)
                       replace HB := zp.mk (zb HB.out)
                       have p236 : 0 ≤ (x72_5 : Int) := of_decide_eq_true (by first | (with_reducible assumption) | assumption)
                       have q236 : x72_5 < (x227001_5.length : Int) := of_decide_eq_true (by first | (with_reducible assumption) | assumption)
                       obtain ⟨ad236, e236, hx236_0⟩ := Kd.at_int (Kd.R_reads' HO_227001.out).2.2 x72_5 p236 q236
                       cases e236
                       replace p236 := eq_true p236
                       replace q236 := eq_true q236
                       have p237 : 0 ≤ (x68_4 : Int) := of_decide_eq_true (by first | (with_reducible assumption) | assumption)
                       have q237 : x68_4 < (x227001_5.length : Int) := of_decide_eq_true (by first | (with_reducible assumption) | assumption)
                       obtain ⟨ad237, e237, hx237_0⟩ := Kd.at_int (Kd.R_reads' HO_227001.out).2.2 x68_4 p237 q237
                       obtain rfl : ad236 = ad237 := (by injection e237)
                       replace p237 := eq_true p237
                       replace q237 := eq_true q237
                       have p78 : 0 ≤ (x72_5 : Int) := of_decide_eq_true (by first | (with_reducible assumption) | assumption)
                       have q78 : (x72_5 : Int) < ((x227001_5.length : Int) : Int) := of_decide_eq_true (by first | (with_reducible assumption) | assumption)
                       obtain ⟨go78, co78, eo78, gb78, gl78, cl78, HG78⟩ := Kd.R_form HO_227001.out (by omega)
                       (first | cases eo78 | (injection eo78 with ea_ en_ ec_; (first | subst ea_ | (injection ea_ with ea_; subst ea_)); subst ec_; clear en_))
                       have GB78 := zp.mk gb78
                       have GG78 := zp.mk HG78
                       clear gb78 gl78 HG78
                       (first | simp only [add_plain] at hx236_0 | skip)
                       (first | simp only [add_plain] at hx237_0 | skip)
                       obtain ⟨hx78_0, hf78_0⟩ := Kd.R_celln 0 HO_227001.out (x72_5 : Int) p78 q78
                       replace p78 := eq_true p78
                       replace q78 := eq_true q78
                       have HP84 := Kd.R_putn HO_227001.out (x72_5 : Int) (Go.bits .or .u64 (rd x227001_5 x72_5) (rd x227001_5 x68_4))
                       rw [← Ny238.out] at HP84
                       have HQ84 := zp.mk HP84
                       clear HP84
                       refine start_ (n := 13) (S := fun w' => w'.cell? ⟨gb226, 0, none⟩ = some (.int .i64 a0) ∧ w'.cell? ⟨gb226, 1, none⟩ = some (.slice (some ⟨go78, 0, none⟩) x227001_5.length co81) ∧ w'.cell? ⟨go78, (x72_5).toNat, none⟩ = some (.int .u64 (rd x227001_5 x72_5)) ∧ w'.cell? ⟨go78, (x68_4).toNat, none⟩ = some (.int .u64 (rd x227001_5 x68_4))) (ds := [12]) #[false, false, false, false, false, false, false, false, false, false, false, false, false] (by kernel_rfl) rfl rfl ⟨(ze BK226.out 0).trans rfl, (ze BK226.out 1).trans rfl, hx236_0, hx237_0⟩ (fun hHeld => ?_); refine with_tabW impl_LatOf.tab23 impl_LatOf.bits23 (fun HT_ HW_ => ?_)
                       generalize w82.drew = w83 at HO_227001 BK221 BK226 HB GG78 HQ84 hf78_0 hx236_0 hx237_0 hx78_0 hHeld ⊢
                       refine pure_ (i := 0) (N := some 79) (v := ?_) (a' := ?_) #[true, false, false, false, false, false, false, false, false, false, false, false, false] rfl rfl (any_of HT_.out (by kernel_rfl)) (fun _ _ _ h => h) (Or.inl ⟨by rfl, ?_⟩) ?_ ?_
                       rotate_left
                       ·intro w'
                        go_simp
                        with_reducible rfl
                       rotate_left
                       ·simp only [Act.put, zs1, zs2, zs3, i64_w, i32_w]
                        rfl
                       refine pure_ (i := 2) (N := some 81) (v := ?_) (a' := ?_) #[true, false, true, false, false, false, false, false, false, false, false, false, false] rfl rfl (any_of HT_.out (by kernel_rfl)) (fun _ _ _ h => h) (Or.inl ⟨by rfl, ?_⟩) ?_ ?_
                       rotate_left
                       ·intro w'
                        go_simp
                        with_reducible rfl
                       rotate_left
                       ·simp only [Act.put, zs1, zs2, zs3, i64_w, i32_w]
                        rfl
                       refine pure_ (i := 5) (N := some 84) (v := ?_) (a' := ?_) #[true, false, true, false, false, true, false, false, false, false, false, false, false] rfl rfl (any_of HT_.out (by kernel_rfl)) (fun _ _ _ h => h) (Or.inl ⟨by rfl, ?_⟩) ?_ ?_
                       rotate_left
                       ·intro w'
                        go_simp
                        with_reducible rfl
                       rotate_left
                       ·simp only [Act.put, zs1, zs2, zs3, i64_w, i32_w]
                        rfl
                       refine pure_ (i := 7) (N := some 86) (v := ?_) (a' := ?_) #[true, false, true, false, false, true, false, true, false, false, false, false, false] rfl rfl (any_of HT_.out (by kernel_rfl)) (fun _ _ _ h => h) (Or.inl ⟨by rfl, ?_⟩) ?_ ?_
                       rotate_left
                       ·intro w'
                        go_simp
                        with_reducible rfl
                       rotate_left
                       ·simp only [Act.put, zs1, zs2, zs3, i64_w, i32_w]
                        rfl
                       refine take_ (i := 1) (N := some 80) (v := ?_) (a' := ?_) #[true, true, true, false, false, true, false, true, false, false, false, false, false] rfl rfl (take_ofW HT_.out HW_.out (by kernel_rfl)) (fun _ _ _ h => h) (Or.inl ⟨by rfl, ?_⟩) hHeld ?_ ?_
                       rotate_left
                       ·rintro w' ⟨s0, s1, s2, s3⟩
                        go_simp
                        with_reducible rfl
                       rotate_left
                       ·simp only [Act.put, zs1, zs2, zs3, i64_w, i32_w]
                        rfl
                       refine pure_ (i := 3) (N := some 82) (v := ?_) (a' := ?_) #[true, true, true, true, false, true, false, true, false, false, false, false, false] rfl rfl (any_of HT_.out (by kernel_rfl)) (fun _ _ _ h => h) (Or.inl ⟨by rfl, ?_⟩) ?_ ?_
                       rotate_left
                       ·intro w'
                        go_simp
                        with_reducible rfl
                       rotate_left
                       ·simp only [Act.put, zs1, zs2, zs3, i64_w, i32_w]
                        rfl
                       refine take_ (i := 4) (N := some 83) (v := ?_) (a' := ?_) #[true, true, true, true, true, true, false, true, false, false, false, false, false] rfl rfl (take_ofW HT_.out HW_.out (by kernel_rfl)) (fun _ _ _ h => h) (Or.inl ⟨by rfl, ?_⟩) hHeld ?_ ?_
                       rotate_left
                       ·rintro w' ⟨s0, s1, s2, s3⟩
                        go_simp
                        with_reducible rfl
                       rotate_left
                       ·simp only [Act.put, zs1, zs2, zs3, i64_w, i32_w]
                        rfl
                       refine take_ (i := 6) (N := some 85) (v := ?_) (a' := ?_) #[true, true, true, true, true, true, true, true, false, false, false, false, false] rfl rfl (take_ofW HT_.out HW_.out (by kernel_rfl)) (fun _ _ _ h => h) (Or.inl ⟨by rfl, ?_⟩) hHeld ?_ ?_
                       rotate_left
                       ·rintro w' ⟨s0, s1, s2, s3⟩
                        go_simp
                        with_reducible rfl
                       rotate_left
                       ·simp only [Act.put, zs1, zs2, zs3, i64_w, i32_w]
                        rfl
                       refine pure_ (i := 8) (N := some 87) (v := ?_) (a' := ?_) #[true, true, true, true, true, true, true, true, true, false, false, false, false] rfl rfl (any_of HT_.out (by kernel_rfl)) (fun _ _ _ h => h) (Or.inl ⟨by rfl, ?_⟩) ?_ ?_
                       rotate_left
                       ·intro w'
                        go_simp
                        with_reducible rfl
                       rotate_left
                       ·simp only [Act.put, zs1, zs2, zs3, i64_w, i32_w]
                        rfl
                       refine take_ (i := 9) (N := some 88) (v := ?_) (a' := ?_) #[true, true, true, true, true, true, true, true, true, true, false, false, false] rfl rfl (take_ofW HT_.out HW_.out (by kernel_rfl)) (fun _ _ _ h => h) (Or.inl ⟨by rfl, ?_⟩) hHeld ?_ ?_
                       rotate_left
                       ·rintro w' ⟨s0, s1, s2, s3⟩
                        go_simp
                        with_reducible rfl
                       rotate_left
                       ·simp only [Act.put, zs1, zs2, zs3, i64_w, i32_w]
                        rfl
                       refine pure_ (i := 10) (N := some 89) (v := ?_) (a' := ?_) #[true, true, true, true, true, true, true, true, true, true, true, false, false] rfl rfl (any_of HT_.out (by kernel_rfl)) (fun _ _ _ h => h) (Or.inl ⟨by rfl, ?_⟩) ?_ ?_
                       rotate_left
                       ·intro w'
                        go_simp
                        with_reducible rfl
                       rotate_left
                       ·simp only [Act.put, zs1, zs2, zs3, i64_w, i32_w]
                        rfl
                       refine pure_ (i := 11) (N := some 90) (v := ?_) (a' := ?_) #[true, true, true, true, true, true, true, true, true, true, true, true, false] rfl rfl (any_of HT_.out (by kernel_rfl)) (fun _ _ _ h => h) (Or.inl ⟨by rfl, ?_⟩) ?_ ?_
                       rotate_left
                       ·intro w'
                        go_simp
                        with_reducible rfl
                       rotate_left
                       ·simp only [Act.put, zs1, zs2, zs3, i64_w, i32_w]
                        rfl
                       refine last_ (i := 12) (N := none) #[true, true, true, true, true, true, true, true, true, true, true, true, true] rfl rfl (one_of HT_.out (by kernel_rfl)) (by decide) (fun K hK => ?_)
                       refine skip_ (w1 := ?_) (by rfl) rfl ?_ ?_
                       rotate_left
                       ·go_simp
                        rfl
                       refine hK.out _ _ ?_
                       clear hK K
                       refine done_ (done_of HT_.out (by kernel_rfl)) ?_
                       try go_wp2
                       go_roundg k5
                       case measure => have := HJ2.out; have := HK2.out; have := HK3.out; have := HK4.out; have := HK5.out; omega
                       case rel => exact ⟨(wrap64 (x72_5 + 1)), (y238), (.slice (some ⟨go78, 0, none⟩) x227001_5.length co81), (by first | rfl | (simp; done) | (simp [*]; done)), H', ⟨by have := HJ2.out; have := HK2.out; have := HK3.out; have := HK4.out; have := HK5.out; omega⟩, ⟨by (with_reducible repeat (first | apply Kd.R_alloc | apply Kd.R_drewN | apply Kd.R_drew)); exact HQ84.out⟩, ⟨by (with_reducible repeat (first | refine zf ?_ _ | refine zi ?_ | refine zg ?_ _)); refine blk_far ?_ (by have h_ := Kd.R_ne HO_227001.out BK221.out (by decide); intro e_; exact h_ (by rw [e_]; rfl)) _; (with_reducible repeat (first | refine zf ?_ _ | refine zi ?_ | refine zg ?_ _)); exact BK221.out⟩, ⟨by (with_reducible repeat (first | refine zf ?_ _ | refine zi ?_ | refine zg ?_ _)); refine blk_far ?_ (by have h_ := Kd.R_ne HO_227001.out BK226.out (by decide); intro e_; exact h_ (by rw [e_]; rfl)) _; (with_reducible repeat (first | refine zf ?_ _ | refine zi ?_ | refine zg ?_ _)); exact BK226.out⟩, ⟨by repeat (first | (with_reducible first | exact HB.out | apply zc | apply za | apply zb | refine zh ?_ GB78.out | refine zh ?_ GE221.out | refine zh ?_ GE226.out) | exact HB.out)⟩⟩
                      ·rw [if_neg c77] at H
                       exact absurd H (by simp)
                     ·rw [if_neg c76] at H
                      exact absurd H (by simp)
                    ·rw [if_neg c75] at H
                     exact absurd H (by simp)
                   ·rw [if_neg c74] at H
                    exact absurd H (by simp)
                  ·replace c73 := Bool.eq_false_iff.mpr c73
                   subst c73
                   have H1 : (impl_LatOf.l3 k5 a0 x68_4 a0 x68_4 a0 (wrap64 (x72_5 + 1)) a0 x227001_5) = some (r1, r2, r3) := by rw [if_neg (show ¬ (false = true) by decide)] at H; exact H
                   clear H
                   have H := H1
                   clear H1
                   have H' := zp.mk H
                   clear H
                   have hnb85 := NB226_221.out
                   have hnc85 := NB221_226.out
                   have y86_0 := zt0 BK226.out
                   have y86_1 := zt1 BK226.out
                   have u86_0 := zd BK226.out 0
                   have u86_1 := zd BK226.out 1
                   obtain ⟨Ao87, co87, eo87⟩ := Kd.R_slice HO_227001.out
                   subst eo87
                   go_wp2_with (first | ((with_reducible refine zn (f := 74) rfl ?_); refine goesL_ (some 78) rfl rfl Try.func74 (by kernel_rfl) rfl #[.agg #[.int .i64 a0, .slice Ao87 x227001_5.length co87], .int .i64 x72_5, .int .i64 x68_4] rfl (by (try simp only [List.map_toArray, List.map_cons, List.map_nil]); first | done | rfl | (simp only [List.length_drop, List.length_take]; rfl)) ?_; (with_reducible refine (impl_Lat_le.calls a0 _ _ x227001_5 x72_5 x68_4 false _ ?side1 ?side2 A72.out).mono ?_); (case side1 => repeat (first | exact (Kd.R_reads' HO_227001.out).2.2 | (with_reducible refine Kd.zr ?_ _) | (with_reducible refine Kd.zq ?_ _) | (with_reducible refine Kd.C_drew ?_))); (case side2 => exact (Kd.R_reads' HO_227001.out).2.1); rintro e w88 ⟨rfl, hb⟩; refine ⟨_, rfl, ?_⟩; replace HO_227001 := zp.mk (Kd.R_below (by (with_reducible repeat (first | apply Kd.R_alloc | apply Kd.R_drewN | apply Kd.R_drew)); exact HO_227001.out) hb); replace BK221 := zp.mk (zl (zv8 BK221.out) hb); replace BK226 := zp.mk (zl (zv8 BK226.out) hb); replace HB := zp.mk (zj (zv7 HB.out) hb); (try clear hb); (try clear hb2); (try clear hk); (try clear hi)))
                   go_roundg k5
                   case measure => have := HJ2.out; have := HK2.out; have := HK3.out; have := HK4.out; have := HK5.out; omega
                   case rel => exact ⟨(wrap64 (x72_5 + 1)), (x227001_5), (.slice Ao87 x227001_5.length co87), (by first | rfl | (simp; done) | (simp [*]; done)), H', ⟨by have := HJ2.out; have := HK2.out; have := HK3.out; have := HK4.out; have := HK5.out; omega⟩, ⟨by (with_reducible repeat (first | apply Kd.R_alloc | apply Kd.R_drewN | apply Kd.R_drew)); exact HO_227001.out⟩, ⟨zv8 BK221.out⟩, ⟨zv8 BK226.out⟩, ⟨zv7 HB.out⟩⟩
                 ·rw [if_neg c71] at H
                  have c71b0 : decide (x72_5 < a0) = false := decide_eq_false c71
                  clear c71
                  have H' := zp.mk H
                  clear H
                  go_wp2
                  go_roundg k5
                  case measure => have := HJ2.out; have := HK2.out; have := HK3.out; have := HK4.out; have := HK5.out; omega
                  case rel => exact ⟨(wrap64 (x68_4 + 1)), (x227001_5), (u227001), (by first | rfl | (simp; done) | (simp [*]; done)), H', ⟨by have := HJ2.out; have := HK2.out; have := HK3.out; have := HK4.out; have := HK5.out; omega⟩, ⟨by (with_reducible repeat (first | apply Kd.R_alloc | apply Kd.R_drewN | apply Kd.R_drew)); exact HO_227001.out⟩, ⟨zv8 BK221.out⟩, ⟨zv8 BK226.out⟩, ⟨zv7 HB.out⟩⟩
              ·rw [if_neg c70] at H
               have c70b0 : decide (x68_4 < a0) = false := decide_eq_false c70
               clear c70
               replace H := zs4 H
               obtain ⟨t234, A890, H⟩ := H
               replace H : (if t234 = true then (some (a0, x227001_4, true)) else (some (0, ([] : List Int), false))) = some (r1, r2, r3) := H
               have A89 := zp.mk A890
               clear A890
               by_cases c90 : t234 = true
               ·subst c90
                have H1 : (some (a0, x227001_4, true)) = some (r1, r2, r3) := by rw [if_pos rfl] at H; exact H
                clear H
                have H := H1
                clear H1
                simp only [Option.some.injEq, Prod.mk.injEq] at H
                obtain ⟨rfl, rfl, rfl⟩ := H
                have hnb91 := NB226_221.out
                have hnc91 := NB221_226.out
                have y92_0 := zt0 BK226.out
                have y92_1 := zt1 BK226.out
                have u92_0 := zd BK226.out 0
                have u92_1 := zd BK226.out 1
                obtain ⟨Ao93, co93, eo93⟩ := Kd.R_slice HO_227001.out
                subst eo93
                go_wp2_with (first | ((with_reducible refine zn (f := 70) rfl ?_); refine goesL_ (some 94) rfl rfl Try.func70 (by kernel_rfl) rfl #[.agg #[.int .i64 a0, .slice Ao93 x227001_4.length co93]] rfl (by (try simp only [List.map_toArray, List.map_cons, List.map_nil]); first | done | rfl | (simp only [List.length_drop, List.length_take]; rfl)) ?_; (with_reducible refine (impl_isLat.calls k4 a0 _ _ x227001_4 true _ ?side1 ?side2 A89.out).mono ?_); (case side1 => repeat (first | exact (Kd.R_reads' HO_227001.out).2.2 | (with_reducible refine Kd.zr ?_ _) | (with_reducible refine Kd.zq ?_ _) | (with_reducible refine Kd.C_drew ?_))); (case side2 => exact (Kd.R_reads' HO_227001.out).2.1); rintro e w94 ⟨rfl, hb⟩; refine ⟨_, rfl, ?_⟩; replace HO_227001 := zp.mk (Kd.R_below (by (with_reducible repeat (first | apply Kd.R_alloc | apply Kd.R_drewN | apply Kd.R_drew)); exact HO_227001.out) hb); replace BK221 := zp.mk (zl (zv8 BK221.out) hb); replace BK226 := zp.mk (zl (zv8 BK226.out) hb); replace HB := zp.mk (zj (zv7 HB.out) hb); (try clear hb); (try clear hb2); (try clear hk); (try clear hi); have y95_0 := zt0 BK226.out; have y95_1 := zt1 BK226.out; have u95_0 := zd BK226.out 0; have u95_1 := zd BK226.out 1; have y96_0 := zt0 BK221.out; have y96_1 := zt1 BK221.out; have u96_0 := zd BK221.out 0; have u96_1 := zd BK221.out 1))
                refine bodyPost_ret (results_ct rfl _ _ gb221 27 #[.int .i64 a0, .slice Ao93 x227001_4.length co93] (0, 0) _ rfl (by (with_reducible repeat (first | refine zf ?_ _ | refine zi ?_ | refine zg ?_ _)); refine blk_put (cs := #[.int .i64 a0, .slice none 0 0]) ?_ 1 _ rfl; (with_reducible repeat (first | refine zf ?_ _ | refine zi ?_ | refine zg ?_ _)); refine blk_put (cs := #[.int .i64 x222000_3, .slice none 0 0]) ?_ 0 _ rfl; (with_reducible repeat (first | refine zf ?_ _ | refine zi ?_ | refine zg ?_ _)); exact BK221.out) Try.underlying27 rfl (by kernel_rfl)) rfl ?_
                exact ⟨_, by first | rfl | (simp [errW_none, errW_some] <;> rfl) | (simp [*, errW_none, errW_some] <;> rfl), by (with_reducible repeat (first | apply Kd.R_alloc | apply Kd.R_drewN | apply Kd.R_drew)); exact Kd.R_mono (Kd.R_far (p := ⟨gb221, 1, none⟩) (Kd.R_far (p := ⟨gb221, 0, none⟩) (Kd.R_types HO_227001.out BK221.out (by decide)) (fun _ hk => hk.2) (.int .i64 a0)) (fun _ hk => hk.2) (.slice Ao93 x227001_4.length co93)) (fun _ hk => trivial), zv7 HB.out⟩
               ·replace c90 := Bool.eq_false_iff.mpr c90
                subst c90
                have H1 : (some (0, ([] : List Int), false)) = some (r1, r2, r3) := by rw [if_neg (show ¬ (false = true) by decide)] at H; exact H
                clear H
                have H := H1
                clear H1
                simp only [Option.some.injEq, Prod.mk.injEq] at H
                obtain ⟨rfl, rfl, rfl⟩ := H
                have hnb97 := NB226_221.out
                have hnc97 := NB221_226.out
                have y98_0 := zt0 BK226.out
                have y98_1 := zt1 BK226.out
                have u98_0 := zd BK226.out 0
                have u98_1 := zd BK226.out 1
                obtain ⟨Ao99, co99, eo99⟩ := Kd.R_slice HO_227001.out
                subst eo99
                go_wp2_with (first | ((with_reducible refine zn (f := 70) rfl ?_); refine goesL_ (some 94) rfl rfl Try.func70 (by kernel_rfl) rfl #[.agg #[.int .i64 a0, .slice Ao99 x227001_4.length co99]] rfl (by (try simp only [List.map_toArray, List.map_cons, List.map_nil]); first | done | rfl | (simp only [List.length_drop, List.length_take]; rfl)) ?_; (with_reducible refine (impl_isLat.calls k4 a0 _ _ x227001_4 false _ ?side1 ?side2 A89.out).mono ?_); (case side1 => repeat (first | exact (Kd.R_reads' HO_227001.out).2.2 | (with_reducible refine Kd.zr ?_ _) | (with_reducible refine Kd.zq ?_ _) | (with_reducible refine Kd.C_drew ?_))); (case side2 => exact (Kd.R_reads' HO_227001.out).2.1); rintro e w100 ⟨rfl, hb⟩; refine ⟨_, rfl, ?_⟩; replace HO_227001 := zp.mk (Kd.R_below (by (with_reducible repeat (first | apply Kd.R_alloc | apply Kd.R_drewN | apply Kd.R_drew)); exact HO_227001.out) hb); replace BK221 := zp.mk (zl (zv8 BK221.out) hb); replace BK226 := zp.mk (zl (zv8 BK226.out) hb); replace HB := zp.mk (zj (zv7 HB.out) hb); (try clear hb); (try clear hb2); (try clear hk); (try clear hi); have y101_0 := zt0 BK221.out; have y101_1 := zt1 BK221.out; have u101_0 := zd BK221.out 0; have u101_1 := zd BK221.out 1))
                refine bodyPost_ret (results_ct rfl _ _ gb221 27 #[.int .i64 0, .slice none 0 0] (0, 0) _ rfl (by (with_reducible repeat (first | refine zf ?_ _ | refine zi ?_ | refine zg ?_ _)); refine blk_put (cs := #[.int .i64 0, .slice none 0 0]) ?_ 1 _ rfl; (with_reducible repeat (first | refine zf ?_ _ | refine zi ?_ | refine zg ?_ _)); refine blk_put (cs := #[.int .i64 x222000_3, .slice none 0 0]) ?_ 0 _ rfl; (with_reducible repeat (first | refine zf ?_ _ | refine zi ?_ | refine zg ?_ _)); exact BK221.out) Try.underlying27 rfl (by kernel_rfl)) rfl ?_
                exact ⟨_, by first | rfl | (simp [errW_none, errW_some] <;> rfl) | (simp [*, errW_none, errW_some] <;> rfl), by first | exact Kd.R_nil _ _ _ _ _ | exact Kd.N_nil _ _ _ _ _ | exact Kd.V_nil _ _ _ _ _ | exact Kd.Q_nil _ _ _ _ _ | exact Kd.S_nil _ _ _ _ _, zv7 HB.out⟩
     ·rw [if_neg c10] at H
      exact absurd H (by simp)
    ·rw [if_neg c9] at H
     exact absurd H (by simp)

end Go.Proofs.Ytdpoliolinghfaa.QFnExactLatOf
