/- Proved: calls of the program come to the answers of the plain Lean functions that stand beside them. Each contract names its conditions. (Written by a program of this session, over the printer of the kit.) -/
import Derived.Test.YtdpoliolinghfaaZLatOfQFnExactLatOfx0
import Derived.Test.YtdpoliolinghfaaZLatOfQFnExactLatOfx2
import Derived.Test.YtdpoliolinghfaaZLatOfQFnExactLatOfx3
namespace Go.Proofs.Ytdpoliolinghfaa.QFnExactLatOf
open Go.RowKit Go.Proofs.YtdpoliolinghfaaW.PrintWords Go.Proofs.YtdpoliolinghfaaW.PrintLast Go.Proofs.YtdpoliolinghfaaW.PrintMore
attribute [local go_sem] max2_int min2_int max_two min_two max_three min_three max_four min_four   -- for this text's walks alone
set_option linter.unusedVariables false
set_option linter.unusedSimpArgs false

/-! ### spec_LatOf: function 45 -/
mutual
def spec_LatOf.j0 : Nat → Int → List (S89) → Bool → Option (Int × List Int × Bool)
 | 0, _, _, _ => none
 | k + 1, x0, x1, x27 => if x27 = true then (some (0, ([] : List Int), false)) else (if 0 ≤ x0 then (if (x0 : Int).toNat ≤ 11728124029610 then (spec_LatOf.l0 k x0 x1 (List.replicate (x0 : Int).toNat []) 0) else (none)) else (none))
def spec_LatOf.l0 : Nat → Int → List (S89) → List (List Bool) → Int → Option (Int × List Int × Bool)
 | 0, _, _, _, _ => none
 | k + 1, x0, x1, x6, x7 => if x7 < x0 then (if 0 ≤ x0 then (if (x0 : Int).toNat ≤ 281474976710656 then (if 0 ≤ x7 then (if x7 < (x6.length : Int) then ((some (x6.set (x7 : Int).toNat (List.replicate (x0 : Int).toNat false) : List (List Bool))).bind fun y152 => (if x7 < ((rd_L5 y152 x7).length : Int) then (spec_LatOf.l0 k x0 x1 (y152.set (x7 : Int).toNat ((rd_L5 y152 x7).set (x7 : Int).toNat true)) (wrap64 (x7 + 1))) else (none))) else (none)) else (none)) else (none)) else (none)) else (spec_LatOf.l1 k x0 x1 x6 0)
def spec_LatOf.l1 : Nat → Int → List (S89) → List (List Bool) → Int → Option (Int × List Int × Bool)
 | 0, _, _, _, _ => none
 | k + 1, x0, x1, x6, x8 => if x8 < (x1.length : Int) then (if 0 ≤ x8 then (if ((rd_T89 x1 x8).f0) < 0 then (some (0, ([] : List Int), false)) else (if ((rd_T89 x1 x8).f0) ≥ x0 then (some (0, ([] : List Int), false)) else (if ((rd_T89 x1 x8).f1) < 0 then (some (0, ([] : List Int), false)) else (if ((rd_T89 x1 x8).f1) ≥ x0 then (some (0, ([] : List Int), false)) else (if 0 ≤ ((rd_T89 x1 x8).f0) then (if ((rd_T89 x1 x8).f0) < (x6.length : Int) then (if 0 ≤ ((rd_T89 x1 x8).f1) then (if ((rd_T89 x1 x8).f1) < ((rd_L5 x6 ((rd_T89 x1 x8).f0)).length : Int) then (spec_LatOf.l1 k x0 x1 (x6.set (((rd_T89 x1 x8).f0) : Int).toNat ((rd_L5 x6 ((rd_T89 x1 x8).f0)).set (((rd_T89 x1 x8).f1) : Int).toNat true)) (wrap64 (x8 + 1))) else (none)) else (none)) else (none)) else (none)))))) else (none)) else (spec_LatOf.l2 k x0 x6 0)
def spec_LatOf.l2 : Nat → Int → List (List Bool) → Int → Option (Int × List Int × Bool)
 | 0, _, _, _ => none
 | k + 1, x0, x6, x10 => if x10 < x0 then (spec_LatOf.l3 k x0 x6 x10 0) else (spec_LatOf.l5 k x0 x6 0 x0 ([] : List Int))
def spec_LatOf.l3 : Nat → Int → List (List Bool) → Int → Int → Option (Int × List Int × Bool)
 | 0, _, _, _, _ => none
 | k + 1, x0, x6, x10, x11 => if x11 < x0 then (spec_LatOf.l4 k x0 x6 x10 x11 0) else (spec_LatOf.l2 k x0 x6 (wrap64 (x10 + 1)))
def spec_LatOf.l4 : Nat → Int → List (List Bool) → Int → Int → Int → Option (Int × List Int × Bool)
 | 0, _, _, _, _, _ => none
 | k + 1, x0, x6, x10, x11, x12 => if x12 < x0 then (if 0 ≤ x11 then (if x11 < (x6.length : Int) then (if 0 ≤ x12 then (if x12 < ((rd_L5 x6 x11).length : Int) then (if rdOf false (rd_L5 x6 x11) x12 = true then (spec_LatOf.l4 k x0 (x6.set (x11 : Int).toNat ((rd_L5 x6 x11).set (x12 : Int).toNat true)) x10 x11 (wrap64 (x12 + 1))) else (if 0 ≤ x10 then (if x10 < ((rd_L5 x6 x11).length : Int) then (if rdOf false (rd_L5 x6 x11) x10 = true then (if x10 < (x6.length : Int) then (if x12 < ((rd_L5 x6 x10).length : Int) then (spec_LatOf.l4 k x0 (x6.set (x11 : Int).toNat ((rd_L5 x6 x11).set (x12 : Int).toNat (rdOf false (rd_L5 x6 x10) x12))) x10 x11 (wrap64 (x12 + 1))) else (none)) else (none)) else (spec_LatOf.l4 k x0 (x6.set (x11 : Int).toNat ((rd_L5 x6 x11).set (x12 : Int).toNat false)) x10 x11 (wrap64 (x12 + 1)))) else (none)) else (none))) else (none)) else (none)) else (none)) else (none)) else (spec_LatOf.l3 k x0 x6 x10 (wrap64 (x11 + 1)))
def spec_LatOf.l5 : Nat → Int → List (List Bool) → Int → Int → List Int → Option (Int × List Int × Bool)
 | 0, _, _, _, _, _ => none
 | k + 1, x0, x6, x14, x180000, x180001 => if x14 < x0 then (spec_LatOf.l6 k x0 x6 x14 0 0 x180000 x180001) else ((spec_LatOk.f k x180000 x180001).bind fun t180 => (if t180 = true then (some (x180000, x180001, true)) else (some (0, ([] : List Int), false))))
def spec_LatOf.l6 : Nat → Int → List (List Bool) → Int → Int → Int → Int → List Int → Option (Int × List Int × Bool)
 | 0, _, _, _, _, _, _, _ => none
 | k + 1, x0, x6, x14, x15, x16, x180000, x180001 => if x16 < x0 then (if 0 ≤ x14 then (if x14 < (x6.length : Int) then (if 0 ≤ x16 then (if x16 < ((rd_L5 x6 x14).length : Int) then (if rdOf false (rd_L5 x6 x14) x16 = true then ((spec_l01Power.f k x16).bind fun t183 => (spec_LatOf.l6 k x0 x6 x14 (IntKind.u64.wrap (x15 + t183)) (wrap64 (x16 + 1)) x180000 x180001)) else (spec_LatOf.l6 k x0 x6 x14 x15 (wrap64 (x16 + 1)) x180000 x180001)) else (none)) else (none)) else (none)) else (none)) else (if x180001.length < 17592186044416 then (spec_LatOf.l5 k x0 x6 (wrap64 (x14 + 1)) x180000 (x180001 ++ [x15])) else (none))
end
def spec_LatOf.f (k : Nat) (a0 : Int) (l1 : List (S89)) : Option (Int × List Int × Bool) := if a0 < 1 then (spec_LatOf.j0 k a0 l1 true) else (if a0 > 16 then (spec_LatOf.j0 k a0 l1 true) else (spec_LatOf.j0 k a0 l1 (decide ((l1.length : Int) > 100))))
def spec_LatOf.T15 : Bool × List (List Nat × List Nat) := (true, [([], []), ([], []), ([1], [1]), ([0, 2], [0, 2]), ([3], [3]), ([], []), ([5], [5]), ([4, 6, 0, 1, 2, 3, 4, 5, 6], [4, 6]), ([7, 0, 1, 2, 3, 4, 5, 6], [7])])
def spec_LatOf.B15 : List Nat := [0, 0, 2, 7, 15, 0, 32, 127, 255]
theorem spec_LatOf.tab15 : rtab .any (opsOf Try.f45 15) = spec_LatOf.T15 := by kernel_rfl
theorem spec_LatOf.bits15 : waitsOk spec_LatOf.T15.2 spec_LatOf.B15 = true := by kernel_rfl
def spec_LatOf.T25 : Bool × List (List Nat × List Nat) := (true, [([], []), ([], []), ([0, 1], [0, 1]), ([2], [2]), ([], []), ([], []), ([], []), ([5, 6], [5, 6]), ([7], [7]), ([], []), ([8, 9], [8, 9]), ([10], [10]), ([11], [11]), ([12], [12]), ([12], [12]), ([13, 14, 12], [12, 13, 14]), ([15, 12], [12, 15]), ([12], [12]), ([16, 17, 12], [12, 16, 17]), ([18, 12], [12, 18]), ([19, 12, 12], [12, 19]), ([20], [20]), ([20], [20]), ([21, 22, 20], [20, 21, 22]), ([23, 20], [20, 23]), ([20], [20]), ([24, 25, 20], [20, 24, 25]), ([26, 20], [20, 26]), ([20, 27, 12], [12, 20, 27]), ([12, 28], [12, 28]), ([3, 4, 0, 1, 2, 3, 4, 5, 6, 7, 8, 9, 10, 11, 12, 13, 14, 15, 16, 17, 18, 19, 20, 21, 22, 23, 24, 25, 26, 27, 28, 29], [3, 4]), ([30, 29, 20, 0, 1, 2, 3, 4, 5, 6, 7, 8, 9, 10, 11, 12, 13, 14, 15, 16, 17, 18, 19, 20, 21, 22, 23, 24, 25, 26, 27, 28, 29], [29, 30])])
def spec_LatOf.B25 : List Nat := [0, 0, 3, 7, 0, 0, 0, 96, 224, 0, 992, 2016, 4064, 8160, 8160, 32736, 65504, 8160, 262112, 524256, 1048544, 2097120, 2097120, 8388576, 16777184, 2097120, 67108832, 134217696, 268435424, 536870880, 1073741823, 2147483647]
theorem spec_LatOf.tab25 : rtab .any (opsOf Try.f45 25) = spec_LatOf.T25 := by kernel_rfl
theorem spec_LatOf.bits25 : waitsOk spec_LatOf.T25.2 spec_LatOf.B25 = true := by kernel_rfl
set_option maxHeartbeats 8000000 in
set_option maxRecDepth 100000 in
theorem spec_LatOf.calls (k : Nat) (a0 : Int) (A1 : Option Addr) (c1 : Nat) (l1 : List (S89)) (r1 : Int) (r2 : List Int) (r3 : Bool) (w : World) (hr1 : Kd.C k89 w A1 l1.length l1) (hc1 : l1.length ≤ c1) (h : spec_LatOf.f k a0 l1 = some (r1, r2, r3)) :
  Calls Try.prog 45 #[.int .i64 a0, .slice A1 l1.length c1] w fun e w' => ∃ v1_ : Value, e = .returned (.tuple #[.agg #[.int .i64 r1, v1_], .bool r3]) ∧ Kd.R (Kd.int .u64) 76 w' w.heap.size (fun _ => True) v1_ r2 ∧ Below w.heap.size w w' := by
 have hu27 := Try.underlying27
 have hu89 := Try.underlying89
 have HR1 := zp.mk hr1
 have HC1 := zp.mk hc1
 clear hr1 hc1
 have HB := zp.mk (Below.refl w.heap.size w)
 have H : (if a0 < 1 then (spec_LatOf.j0 k a0 l1 true) else (if a0 > 16 then (spec_LatOf.j0 k a0 l1 true) else (spec_LatOf.j0 k a0 l1 (decide ((l1.length : Int) > 100))))) = some (r1, r2, r3) := h
 clear h
 have HC3 := zp.mk H
 clear H
 go_enter Try.func45, Try.ntmps45
 go_upto_region 1 with (first | ((with_reducible refine zo (N := 4) rfl ?_); (try (refine gate_guard (by rfl) ?_; dsimp only)); refine zm ?hg (N := 4) ?hd (cs := #[.int .i64 0, .slice none 0 0]) (t := 27) ?hr ?_; (case hd => rfl); (case hg => rfl); (case hr => first | (go_simp; done) | (go_simp; rfl)); intro gb145 hg w4 hbox hb; have BK145 := zp.mk (hbox); have GW145 := zp.mk ((zv3 (zv6 HB.out) hg)); have GE145 := zp.mk ((zv3 (zv6 HB.out) hg)); replace HB := zp.mk (zj (zv6 HB.out) hb); clear hb hbox hg))
 (try simp only [Act.put, zs1, zs2, zs3])
 go_cut [27] (fun v27 wc => ∃ (kq : Nat) (x27_2 : Bool), v27 = .bool x27_2 ∧ zp (spec_LatOf.j0 kq a0 l1 x27_2 = some (r1, r2, r3)) ∧ zp (kq ≤ k) ∧ zp (wc.heap[gb145]? = some (.cells #[.int .i64 0, (.slice none 0 0)] 27 (0, 0))) ∧ zp (Below w.heap.size w wc))
 case first =>
  have H := HC3.out
  clear HC3
  by_cases c5 : a0 < 1
  ·rw [if_pos c5] at H
   have c5b0 : decide (a0 < 1) = true := decide_eq_true c5
   clear c5
   (first | rw [c5b0] | (simp only [i64_w, i32_w]; rw [c5b0]) | skip)
   have H' := zp.mk H
   clear H
   go_wp2
   go_meet
   case rel => exact ⟨_, (true), (by first | rfl | (simp; done) | (simp [*]; done)), H', ⟨by first | omega | exact Nat.le_refl _⟩, ⟨zv8 BK145.out⟩, ⟨zv7 HB.out⟩⟩
  ·rw [if_neg c5] at H
   have c5b0 : decide (a0 < 1) = false := decide_eq_false c5
   clear c5
   (first | rw [c5b0] | (simp only [i64_w, i32_w]; rw [c5b0]) | skip)
   by_cases c6 : a0 > 16
   ·rw [if_pos c6] at H
    have c6b0 : decide (16 < a0) = true := decide_eq_true c6
    clear c6
    have H' := zp.mk H
    clear H
    go_wp2
    go_meet
    case rel => exact ⟨_, (true), (by first | rfl | (simp; done) | (simp [*]; done)), H', ⟨by first | omega | exact Nat.le_refl _⟩, ⟨zv8 BK145.out⟩, ⟨zv7 HB.out⟩⟩
   ·rw [if_neg c6] at H
    have c6b0 : decide (16 < a0) = false := decide_eq_false c6
    clear c6
    have H' := zp.mk H
    clear H
    go_wp2
    go_meet
    case rel => exact ⟨_, (decide ((l1.length : Int) > 100)), (by first | rfl | (simp; done) | (simp [*]; done)), H', ⟨by first | omega | exact Nat.le_refl _⟩, ⟨zv8 BK145.out⟩, ⟨zv7 HB.out⟩⟩
 case rest =>
  clear HC3
  try clear c1
  try clear p2
  try clear c4
  try clear c5
  try clear c5b0
  try clear c6
  try clear c6b0
  obtain ⟨kq, x27_2, rfl, HA, HJ2, BK145, HB⟩ := hcut
  cases kq with
  | zero => exact absurd HA.out (by simp [spec_LatOf.j0])
  | succ kj2 =>
   have H := HA.out
   clear HA
   simp only [spec_LatOf.j0] at H
   by_cases c7 : x27_2 = true
   ·subst c7
    have H1 : (some (0, ([] : List Int), false)) = some (r1, r2, r3) := by rw [if_pos rfl] at H; exact H
    clear H
    have H := H1
    clear H1
    simp only [Option.some.injEq, Prod.mk.injEq] at H
    obtain ⟨rfl, rfl, rfl⟩ := H
    have y8_0 := zt0 BK145.out
    have y8_1 := zt1 BK145.out
    have u8_0 := zd BK145.out 0
    have u8_1 := zd BK145.out 1
    go_wp2
    refine bodyPost_ret (results_ct rfl _ _ gb145 27 #[.int .i64 0, .slice none 0 0] (0, 0) _ rfl (by (with_reducible repeat (first | refine zf ?_ _ | refine zi ?_ | refine zg ?_ _)); refine blk_put (cs := #[.int .i64 0, .slice none 0 0]) ?_ 1 _ rfl; (with_reducible repeat (first | refine zf ?_ _ | refine zi ?_ | refine zg ?_ _)); refine blk_put (cs := #[.int .i64 0, .slice none 0 0]) ?_ 0 _ rfl; (with_reducible repeat (first | refine zf ?_ _ | refine zi ?_ | refine zg ?_ _)); exact BK145.out) Try.underlying27 rfl (by kernel_rfl)) rfl ?_
    exact ⟨_, by first | rfl | (simp [errW_none, errW_some] <;> rfl) | (simp [*, errW_none, errW_some] <;> rfl), by first | exact Kd.R_nil _ _ _ _ _ | exact Kd.N_nil _ _ _ _ _ | exact Kd.V_nil _ _ _ _ _ | exact Kd.Q_nil _ _ _ _ _ | exact Kd.S_nil _ _ _ _ _, zv7 HB.out⟩
   ·replace c7 := Bool.eq_false_iff.mpr c7
    subst c7
    have H1 : (if 0 ≤ a0 then (if (a0 : Int).toNat ≤ 11728124029610 then (spec_LatOf.l0 kj2 a0 l1 (List.replicate (a0 : Int).toNat []) 0) else (none)) else (none)) = some (r1, r2, r3) := by rw [if_neg (show ¬ (false = true) by decide)] at H; exact H
    clear H
    have H := H1
    clear H1
    by_cases c9 : 0 ≤ a0
    ·rw [if_pos c9] at H
     have c9b0 := eq_true c9
     have c9b1 : decide (0 ≤ a0) = true := decide_eq_true c9
     clear c9
     by_cases c10 : (a0 : Int).toNat ≤ 11728124029610
     ·rw [if_pos c10] at H
      have c10b0 := eq_true c10
      have c10b1 : decide ((a0 : Int).toNat ≤ 11728124029610) = true := decide_eq_true c10
      clear c10
      obtain ⟨y146, hy146⟩ : ∃ y_ : List (List Bool), y_ = (List.replicate (a0 : Int).toNat []) := ⟨_, rfl⟩
      replace H : (spec_LatOf.l0 kj2 a0 l1 y146 0) = some (r1, r2, r3) := by first | (rw [hy146]; with_reducible exact H) | (have H2_ := (Option.bind_some _ _).symm.trans H; rw [hy146]; with_reducible exact H2_) | (have H2_ := (Option.bind_some _ _).symm.trans H; with_reducible exact H2_) | with_reducible exact H | (rw [hy146]; exact H) | exact H
      have Ny146 := zp.mk hy146
      clear hy146
      have H' := zp.mk H
      clear H
      go_wp2_with (first | ((with_reducible refine zo (N := 30) rfl ?_); (try (refine gate_guard (by rfl) ?_; dsimp only)); refine Kd.S_make (Kd.slice 4 Kd.bool) _ 92 rfl (N := 30) rfl 91 _ _ rfl a0 rfl rfl Try.underlying91 (.slice none 0 0) 24 info92 rfl (by decide) (by omega) [] (ok := fun _ => True) (okp := fun _ => True) ⟨_, rfl, Kd.R_nil _ _ _ _ _⟩ (fun _ hk => hk) trivial (of_decide_eq_true (by first | (with_reducible assumption) | assumption)) (Nat.le_trans (Nat.mul_le_mul_right _ (of_decide_eq_true (by first | (with_reducible assumption) | assumption) : a0.toNat ≤ 11728124029610)) (by omega)) (Below.refl _ _) (Nat.le_refl _) ?_; intro v147 w11 ho12 hb hg_ hnew_; clear hg_ hnew_; (first | rw [← Ny146.out] at ho12 | (simp only [Int.reduceToNat] at ho12; rw [← Ny146.out] at ho12)); have HO148 := zp.mk (Kd.S_lower ho12 (zk (zv7 HB.out))); replace BK145 := zp.mk (zl (zv8 BK145.out) hb); replace HB := zp.mk (zj (zv7 HB.out) hb); clear hb ho12))
      go_loopg [7] kj2 (fun kq v7 w' => ∃ (x6_2 : List (List Bool)) (x7_2 : Int), v7 = .int .i64 x7_2 ∧ zp (spec_LatOf.l0 kq a0 l1 x6_2 x7_2 = some (r1, r2, r3)) ∧ zp (kq ≤ kj2) ∧ zp (Kd.S (Kd.slice 4 Kd.bool) 92 w' w.heap.size (fun _ => True) v147 x6_2) ∧ zp (w'.heap[gb145]? = some (.cells #[.int .i64 0, (.slice none 0 0)] 27 (0, 0))) ∧ zp (Below w.heap.size w w'))
      case atStart => exact ⟨(y146), (0), (by first | rfl | (simp; done) | (simp [*]; done)), H', ⟨Nat.le_refl _⟩, ⟨by (with_reducible repeat (first | apply Kd.S_alloc | apply Kd.S_drewN | apply Kd.S_drew)); exact HO148.out⟩, ⟨zv8 BK145.out⟩, ⟨zv7 HB.out⟩⟩
      case round =>
       clear H'
       try clear c1
       try clear p2
       try clear c4
       try clear c5
       try clear c5b0
       try clear c6
       try clear c6b0
       try clear c7
       try clear c9
       try clear c9b0
       try clear c9b1
       try clear c10
       try clear c10b0
       try clear c10b1
       try clear y8_0
       try clear y8_1
       try clear u8_0
       try clear u8_1
       try clear p2
       obtain ⟨x6_2, x7_2, rfl, HA, HK2, HO_6, BK145, HB⟩ := hrel
       cases gk with
       | zero => exact absurd HA.out (by simp [spec_LatOf.l0])
       | succ k2 =>
        have H := HA.out
        clear HA
        simp only [spec_LatOf.l0] at H
        by_cases c13 : x7_2 < a0
        ·rw [if_pos c13] at H
         have c13b0 : decide (x7_2 < a0) = true := decide_eq_true c13
         clear c13
         by_cases c14 : 0 ≤ a0
         ·rw [if_pos c14] at H
          have c14b0 := eq_true c14
          have c14b1 : decide (0 ≤ a0) = true := decide_eq_true c14
          clear c14
          by_cases c15 : (a0 : Int).toNat ≤ 281474976710656
          ·rw [if_pos c15] at H
           have c15b0 := eq_true c15
           have c15b1 : decide ((a0 : Int).toNat ≤ 281474976710656) = true := decide_eq_true c15
           clear c15
           obtain ⟨y149, hy149⟩ : ∃ y_ : List Bool, y_ = (List.replicate (a0 : Int).toNat false) := ⟨_, rfl⟩
           replace H : (if 0 ≤ x7_2 then (if x7_2 < (x6_2.length : Int) then ((some (x6_2.set (x7_2 : Int).toNat y149 : List (List Bool))).bind fun y152 => (if x7_2 < ((rd_L5 y152 x7_2).length : Int) then (spec_LatOf.l0 k2 a0 l1 (y152.set (x7_2 : Int).toNat ((rd_L5 y152 x7_2).set (x7_2 : Int).toNat true)) (wrap64 (x7_2 + 1))) else (none))) else (none)) else (none)) = some (r1, r2, r3) := by first | (rw [hy149]; with_reducible exact H) | (have H2_ := (Option.bind_some _ _).symm.trans H; rw [hy149]; with_reducible exact H2_) | (have H2_ := (Option.bind_some _ _).symm.trans H; with_reducible exact H2_) | with_reducible exact H | (rw [hy149]; exact H) | exact H
           have Ny149 := zp.mk hy149
           clear hy149
           by_cases c16 : 0 ≤ x7_2
           ·rw [if_pos c16] at H
            have c16b0 : decide (0 ≤ x7_2) = true := decide_eq_true c16
            clear c16
            by_cases c17 : x7_2 < (x6_2.length : Int)
            ·rw [if_pos c17] at H
             have c17b0 : decide (x7_2 < (x6_2.length : Int)) = true := decide_eq_true c17
             clear c17
             obtain ⟨y152, hy152⟩ : ∃ y_ : List (List Bool), y_ = (x6_2.set (x7_2 : Int).toNat y149) := ⟨_, rfl⟩
             replace H : (if x7_2 < ((rd_L5 y152 x7_2).length : Int) then (spec_LatOf.l0 k2 a0 l1 (y152.set (x7_2 : Int).toNat ((rd_L5 y152 x7_2).set (x7_2 : Int).toNat true)) (wrap64 (x7_2 + 1))) else (none)) = some (r1, r2, r3) := by first | (rw [hy152]; with_reducible exact H) | (have H2_ := (Option.bind_some _ _).symm.trans H; rw [hy152]; with_reducible exact H2_) | (have H2_ := (Option.bind_some _ _).symm.trans H; with_reducible exact H2_) | with_reducible exact H | (rw [hy152]; exact H) | exact H
             have Ny152 := zp.mk hy152
             clear hy152
             by_cases c19 : x7_2 < ((rd_L5 y152 x7_2).length : Int)
             ·rw [if_pos c19] at H
              have c19b0 : decide (x7_2 < ((rd_L5 y152 x7_2).length : Int)) = true := decide_eq_true c19
              clear c19
              obtain ⟨y154, hy154⟩ : ∃ y_ : List Bool, y_ = ((rd_L5 y152 x7_2).set (x7_2 : Int).toNat true) := ⟨_, rfl⟩
              replace H : (spec_LatOf.l0 k2 a0 l1 (y152.set (x7_2 : Int).toNat y154) (wrap64 (x7_2 + 1))) = some (r1, r2, r3) := by first | (rw [hy154]; with_reducible exact H) | (have H2_ := (Option.bind_some _ _).symm.trans H; rw [hy154]; with_reducible exact H2_) | (have H2_ := (Option.bind_some _ _).symm.trans H; with_reducible exact H2_) | with_reducible exact H | (rw [hy154]; exact H) | exact H
              have Ny154 := zp.mk hy154
              clear hy154
              obtain ⟨y156, hy156⟩ : ∃ y_ : List (List Bool), y_ = (y152.set (x7_2 : Int).toNat y154) := ⟨_, rfl⟩
              replace H : (spec_LatOf.l0 k2 a0 l1 y156 (wrap64 (x7_2 + 1))) = some (r1, r2, r3) := by first | (rw [hy156]; with_reducible exact H) | (have H2_ := (Option.bind_some _ _).symm.trans H; rw [hy156]; with_reducible exact H2_) | (have H2_ := (Option.bind_some _ _).symm.trans H; with_reducible exact H2_) | with_reducible exact H | (rw [hy156]; exact H) | exact H
              have Ny156 := zp.mk hy156
              clear hy156
              have H' := zp.mk H
              clear H
              go_wp2_with (first | ((with_reducible refine zo (N := 39) rfl ?_); (try (refine gate_guard (by rfl) ?_; dsimp only)); refine Kd.R_make Kd.bool _ 4 rfl (N := 39) rfl 92 _ _ rfl a0 rfl rfl Try.underlying92 (.bool false) 1 info4 rfl (by decide) (by omega) false (ok := fun _ => True) (okp := fun _ => True) rfl (fun _ hk => hk) trivial (of_decide_eq_true (by first | (with_reducible assumption) | assumption)) (Nat.le_trans (Nat.mul_le_mul_right _ (of_decide_eq_true (by first | (with_reducible assumption) | assumption) : a0.toNat ≤ 281474976710656)) (by omega)) (Below.refl _ _) (Nat.le_refl _) ?_; intro v150 w21 ho22 hb hg_ hnew_; clear hg_ hnew_; (first | rw [← Ny149.out] at ho22 | (simp only [Int.reduceToNat] at ho22; rw [← Ny149.out] at ho22)); have HO151 := zp.mk (Kd.R_lower ho22 (zk (zv7 HB.out))); replace HO_6 := zp.mk (Kd.S_elder' (by (with_reducible repeat (first | apply Kd.S_alloc | apply Kd.S_drewN | apply Kd.S_drew)); exact HO_6.out) (Kd.R_base ho22) hb); replace BK145 := zp.mk (zl (zv8 BK145.out) hb); replace HB := zp.mk (zj (zv7 HB.out) hb); clear hb ho22; have p18 : 0 ≤ (x7_2 : Int) := of_decide_eq_true (by first | (with_reducible assumption) | assumption); have q18 : (x7_2 : Int) < ((x6_2.length : Int) : Int) := of_decide_eq_true (by first | (with_reducible assumption) | assumption); obtain ⟨go18, co18, eo18, gb18, gl18, cl18, HG18⟩ := Kd.S_form HO_6.out (by omega); (first | cases eo18 | (injection eo18 with ea_ en_ ec_; (first | subst ea_ | (injection ea_ with ea_; subst ea_)); subst ec_; clear en_)); have GB18 := zp.mk gb18; have GG18 := zp.mk HG18; clear gb18 gl18 HG18; obtain ⟨_, ce18, hcl18, hM18, hcc18, hfr18, _, _⟩ := Kd.S_elem HO_6.out [] (x7_2 : Int) p18 q18; obtain ⟨ve18_0, rfl, ge18_0⟩ := hM18; have hx18_0 := hcc18 0 _ rfl; have hf18_0 := hfr18 0; (try simp only [show ((Kd.slice 4 Kd.bool)).sz = 1 from rfl, Nat.mul_one, Nat.add_zero] at hx18_0); (try simp only [show ((Kd.slice 4 Kd.bool)).sz = 1 from rfl, Nat.mul_one, Nat.add_zero] at hf18_0); clear hcl18 hcc18 hfr18; (try clear hM18); replace p18 := eq_true p18; replace q18 := eq_true q18; have n_ := zp.mk (Kd.S_mono (ok' := (fun k_ => some k_ ≠ (v150 : Value).ownBlock)) HO_6.out (fun k_ hk => hk.2)); clear HO_6; have HO_6 := n_; clear n_; have HX23 := zp.mk (show Kd.S (Kd.slice 4 Kd.bool) 92 w21 w.heap.size (fun k_ => ((fun _ => True)) k_ ∧ ¬ ((fun k_ => some k_ = (v150 : Value).ownBlock)) k_) (.slice (some ⟨go18, 0, none⟩) x6_2.length co18) x6_2 from (by (with_reducible repeat (first | apply Kd.S_alloc | apply Kd.S_drewN | apply Kd.S_drew)); exact Kd.S_mono HO_6.out (fun k_ hk => ⟨trivial, fun e_ => hk e_⟩))); obtain ⟨oki23, ce23, hcl23, hM23, hcc23, hfr23, hoki23, hH23⟩ := Kd.S_elem HX23.out [] (x7_2 : Int) (of_decide_eq_true (by first | (with_reducible assumption) | assumption)) (by have h_ : (x7_2 : Int) < ((x6_2.length : Int) : Int) := of_decide_eq_true (by first | (with_reducible assumption) | assumption); first | exact h_ | (have e_ := (Kd.S_reads' HO_6.out).1; omega) | simpa using h_); obtain ⟨ve23_0, rfl, ge23_0⟩ := hM23; have HP23 := Kd.S_seg hH23 (of_decide_eq_true (by first | (with_reducible assumption) | assumption)) (by have h_ : (x7_2 : Int) < ((x6_2.length : Int) : Int) := of_decide_eq_true (by first | (with_reducible assumption) | assumption); first | exact h_ | (have e_ := (Kd.S_reads' HO_6.out).1; omega) | simpa using h_) (seg := [v150]) (j := 0) (show 1 ≤ 1 from by decide) (x' := y149) (Kd.M_row (Kd.R_mono (Kd.R_tight rfl (Kd.R_mono (ok' := fun k_ => ((fun _ => True)) k_ ∧ k_ ≠ go18) (Kd.R_apart' (HO151.out) (Kd.S_typed HO_6.out) (by decide)) (fun k_ hk => ⟨trivial, fun e_ => (hk.2) (by rw [e_]; rfl)⟩))) (fun _ h_ => Or.inr (h_)))) (fun _ hk => hk) (fun k_ hk_ => ((Kd.R_mono (ok' := fun k_ => ((fun _ => True)) k_ ∧ k_ ≠ go18) (Kd.R_apart' (HO151.out) (Kd.S_typed HO_6.out) (by decide)) (fun k_ hk => ⟨trivial, fun e_ => (hk.2) (by rw [e_]; rfl)⟩))).1 k_ hk_.symm); have hx23_0 := hcc23 0 _ rfl; (try simp only [show ((Kd.slice 4 Kd.bool)).sz = 1 from rfl, Nat.mul_one, Nat.add_zero] at hx23_0); have hf23_0 := hfr23 0; (try simp only [show ((Kd.slice 4 Kd.bool)).sz = 1 from rfl, Nat.mul_one, Nat.add_zero] at hf23_0); clear hcl23 hcc23 hfr23 hoki23 hH23; (try clear hM23); (try simp only [show ((Kd.slice 4 Kd.bool)).sz = 1 from rfl, Nat.mul_one, Nat.add_zero] at HP23)) | ((with_reducible refine gate_store (t := 92) (p := 40) rfl ?_); refine store_event (t := 92) (p := 40) (v := ?vo_w24) (w1 := (w21.setCell ⟨go18, (x7_2 : Int).toNat, none⟩ (v150))) ?hg ?ho ?hn ?hr ?_; (case ho => rfl); (case hg => rfl); (case hn => rfl); (case hr => (obtain ⟨_, _, ho_, _⟩ := HO151.out; rcases ho_.2 with ⟨e_, _⟩ | ⟨_, _, _, e_, _⟩ <;> subst e_ <;> first | (go_simp; done) | (go_simp; rfl))); intro w24 hw; have hg : w21.grownBy w24 (some go18) := (by rw [hw]; exact HP23.2); have hp_ : Kd.S (Kd.slice 4 Kd.bool) 92 w24 w.heap.size (fun _ => True) (.slice (some ⟨go18, 0, none⟩) x6_2.length co18) y152 := (by rw [hw, Ny152.out]; exact HP23.1); clear HP23; have n0_ := zp.mk (hp_); have n1_ := zp.mk (blk_grown (g := gb145) (o := .cells #[.int .i64 0, .slice none 0 0] 27 (0, 0)) (zv8 BK145.out) hg (Kd.S_ne HO_6.out BK145.out (by decide))); have n2_ := zp.mk ((by rw [hw]; exact zh (HB.out) GB18.out : Below w.heap.size w w24)); clear HO_6; clear BK145; clear HB; clear HO151; have HO_6 := n0_; have BK145 := n1_; have HB := n2_; clear n0_ n1_ n2_; clear hg hw hp_; have p153 : 0 ≤ (x7_2 : Int) := of_decide_eq_true (by first | (with_reducible assumption) | assumption); have q153 : x7_2 < (y152.length : Int) := (by have h_ : (x7_2 : Int) < ((x6_2.length : Int) : Int) := of_decide_eq_true (by first | (with_reducible assumption) | assumption); first | (have e_ := (Kd.S_reads' HO_6.out).1; omega) | simpa only [Ny152.out, List.length_set] using h_); have ql153 : ((x7_2 : Int) < ((x6_2.length : Int) : Int)) = True := eq_true (of_decide_eq_true (by first | (with_reducible assumption) | assumption)); obtain ⟨ad153, A153_0, c153_0, e153, hx153_0, hl153_0, hi153_0⟩ := at_L5 (Kd.S_reads' HO_6.out).2.2 x7_2 p153 q153; obtain rfl : (⟨go18, 0, none⟩ : Addr) = ad153 := (by injection e153); obtain ⟨ce153, hce153, hMe153, hcc153⟩ := Kd.S_get HO_6.out [] x7_2 p153 (by first | exact q153 | exact of_decide_eq_true (by first | (with_reducible assumption) | assumption) | (have e_ := (Kd.S_reads' HO_6.out).1; omega)); obtain ⟨ve153_0, rfl, ge153_0⟩ := hMe153; have hv153_0 := hcc153 0 _ rfl; rw [Nat.add_zero, show ((Kd.slice 4 Kd.bool)).sz = 1 from rfl, Nat.mul_one] at hv153_0; replace hv153_0 := Option.some.inj (hv153_0.symm.trans hx153_0); rw [hv153_0] at ge153_0; have HL153_0 := zp.mk (show Kd.R Kd.bool 4 _ _ _ _ (rd_L5 y152 x7_2) from ge153_0); clear hv153_0 ge153_0; have HX153_0 := zp.mk hx153_0; clear hcc153 hce153; (first | simp only [add_plain] at hx153_0 | simp only [add_at] at hx153_0 | simp only [Addr.add, Nat.zero_add] at hx153_0 | skip); have HR153_0 := zp.mk hi153_0; have HC153_0 := zp.mk hl153_0; clear hi153_0 hl153_0; replace p153 := eq_true p153; replace q153 := eq_true q153; have p20 : 0 ≤ (x7_2 : Int) := of_decide_eq_true (by first | (with_reducible assumption) | assumption); have q20 : (x7_2 : Int) < (((rd_L5 y152 x7_2).length : Int) : Int) := of_decide_eq_true (by first | (with_reducible assumption) | assumption); obtain ⟨go20, co20, eo20, gb20, gl20, cl20, HG20⟩ := Kd.R_form HL153_0.out (by omega); (first | cases eo20 | (injection eo20 with ea_ en_ ec_; (first | subst ea_ | (injection ea_ with ea_; subst ea_)); subst ec_; clear en_)); have GB20 := zp.mk gb20; have GG20 := zp.mk HG20; clear gb20 gl20 HG20; obtain ⟨hx20_0, hf20_0⟩ := Kd.R_celln false HL153_0.out (x7_2 : Int) p20 q20; replace p20 := eq_true p20; replace q20 := eq_true q20; have hq25 : (x7_2 : Int) < (y152.length : Int) := (by have h_ : (x7_2 : Int) < ((x6_2.length : Int) : Int) := of_decide_eq_true (by first | (with_reducible assumption) | assumption); first | exact h_ | (have e_ := (Kd.S_reads' HO_6.out).1; omega) | simpa only [Ny152.out, List.length_set] using h_); obtain ⟨oki25, ce25, hcl25, hM25, hcc25, hok25, hbk25⟩ := Kd.S_borrow HO_6.out [] (x7_2 : Int) (of_decide_eq_true (by first | (with_reducible assumption) | assumption)) (by first | exact hq25 | (have e_ := (Kd.S_reads' HO_6.out).1; omega)); obtain ⟨ve25_0, rfl, ge25_0⟩ := hM25; have hv25 := hcc25 0 _ rfl; rw [Nat.add_zero, show ((Kd.slice 4 Kd.bool)).sz = 1 from rfl, Nat.mul_one] at hv25; replace hv25 := Option.some.inj (hv25.symm.trans HX153_0.out); subst hv25; clear hcc25 hcl25; replace ge25_0 := (show Kd.R Kd.bool 4 _ _ _ _ (rd_L5 y152 x7_2) from ge25_0); have HP25 := Kd.R_putg ge25_0 (x7_2 : Int) true) | ((with_reducible refine gate_store (t := 4) (p := 46) rfl ?_); refine store_event (t := 4) (p := 46) (v := ?vo_w26) (w1 := (w24.setCell ⟨go20, (x7_2 : Int).toNat, none⟩ (.bool true))) ?hg ?ho ?hn ?hr ?_; (case ho => rfl); (case hg => rfl); (case hn => rfl); (case hr => first | (go_simp; done) | (go_simp; rfl)); intro w26 hw; have hg : w24.grownBy w26 (some go20) := (by rw [hw]; exact HP25.2); have hz_ : Kd.R Kd.bool 4 w26 w.heap.size oki25 (.slice (some ⟨go20, 0, none⟩) (rd_L5 y152 x7_2).length c153_0) y154 := (by rw [hw, Ny154.out]; exact HP25.1); have hp_ : Kd.S (Kd.slice 4 Kd.bool) 92 w26 w.heap.size (fun _ => True) (.slice (some ⟨go18, 0, none⟩) x6_2.length co18) y156 := (by rw [Ny156.out]; exact hbk25 hg (fun k_ e_ => by injection e_ with e_; subst e_; exact ge25_0.1 _ rfl) (Kd.M_row hz_)); have hm_ := Kd.R_mono hz_ hok25; clear HP25 hbk25; have n0_ := zp.mk (hp_); have n1_ := zp.mk (blk_grown (g := gb145) (o := .cells #[.int .i64 0, .slice none 0 0] 27 (0, 0)) (zv8 BK145.out) hg (Kd.R_ne HL153_0.out BK145.out (by decide))); have n2_ := zp.mk ((by rw [hw]; exact zh (HB.out) GB20.out : Below w.heap.size w w26)); have n3_ := zp.mk (hm_); have n4_ := zp.mk ((Kd.R_reads' hm_).2.1); clear HO_6; clear BK145; clear HB; clear HL153_0; have HO_6 := n0_; have BK145 := n1_; have HB := n2_; have HL187 := n3_; have HC155 := n4_; clear n0_ n1_ n2_ n3_ n4_; clear hg hw hp_ hz_ hm_ hok25))
              go_roundg k2
              case measure => have := HJ2.out; have := HK2.out; omega
              case rel => exact ⟨(y156), (wrap64 (x7_2 + 1)), (by first | rfl | (simp; done) | (simp [*]; done)), H', ⟨by have := HJ2.out; have := HK2.out; omega⟩, ⟨by (with_reducible repeat (first | apply Kd.S_alloc | apply Kd.S_drewN | apply Kd.S_drew)); exact HO_6.out⟩, ⟨zv8 BK145.out⟩, ⟨zv7 HB.out⟩⟩
             ·rw [if_neg c19] at H
              exact absurd H (by simp)
            ·rw [if_neg c17] at H
             exact absurd H (by simp)
           ·rw [if_neg c16] at H
            exact absurd H (by simp)
          ·rw [if_neg c15] at H
           exact absurd H (by simp)
         ·rw [if_neg c14] at H
          exact absurd H (by simp)
        ·rw [if_neg c13] at H
         have c13b0 : decide (x7_2 < a0) = false := decide_eq_false c13
         clear c13
         have H' := zp.mk H
         clear H
         go_wp2
         go_loopg [8] k2 (fun kq v8 w' => ∃ (x6_3 : List (List Bool)) (x8_3 : Int) (x146000_3 : Int), v8 = .int .i64 x8_3 ∧ zp (spec_LatOf.l1 kq a0 l1 x6_3 x8_3 = some (r1, r2, r3)) ∧ zp (kq ≤ k2) ∧ zp (Kd.S (Kd.slice 4 Kd.bool) 92 w' w.heap.size (fun _ => True) v147 x6_3) ∧ zp (w'.heap[gb145]? = some (.cells #[.int .i64 x146000_3, (.slice none 0 0)] 27 (0, 0))) ∧ zp (Below w.heap.size w w'))
         case atStart => exact ⟨(x6_2), (0), (0), (by first | rfl | (simp; done) | (simp [*]; done)), H', ⟨Nat.le_refl _⟩, ⟨by (with_reducible repeat (first | apply Kd.S_alloc | apply Kd.S_drewN | apply Kd.S_drew)); exact HO_6.out⟩, ⟨zv8 BK145.out⟩, ⟨zv7 HB.out⟩⟩
         case round =>
          clear H'
          try clear c1
          try clear p1
          try clear q1
          try clear hx1
          try clear c2
          try clear p2
          try clear q2
          try clear hx2
          try clear hf2
          try clear c4
          try clear c5
          try clear c5b0
          try clear c6
          try clear c6b0
          try clear p6
          try clear c7
          try clear c9
          try clear c9b0
          try clear c9b1
          try clear c10
          try clear c10b0
          try clear c10b1
          try clear c13
          try clear c13b0
          try clear c14
          try clear c14b0
          try clear c14b1
          try clear c15
          try clear c15b0
          try clear c15b1
          try clear p15
          try clear q15
          try clear hx15
          try clear c16
          try clear c16b0
          try clear c17
          try clear c17b0
          try clear c18
          try clear p18
          try clear q18
          try clear hx18
          try clear hf18
          try clear c19
          try clear c19b0
          try clear p20
          try clear q20
          try clear hx20
          try clear hf20
          try clear c23
          try clear hx23
          try clear hf23
          try clear c25
          try clear q25
          try clear y8_0
          try clear y8_1
          try clear u8_0
          try clear u8_1
          try clear hx153_0
          try clear hx18_0
          try clear hx20_0
          try clear hx23_0
          try clear p153
          try clear p18
          try clear p2
          try clear p20
          try clear q153
          try clear q18
          try clear q20
          obtain ⟨x6_3, x8_3, x146000_3, rfl, HA, HK3, HO_6, BK145, HB⟩ := hrel
          cases gk with
          | zero => exact absurd HA.out (by simp [spec_LatOf.l1])
          | succ k3 =>
           have H := HA.out
           clear HA
           simp only [spec_LatOf.l1] at H
           by_cases c27 : x8_3 < (l1.length : Int)
           ·rw [if_pos c27] at H
            have c27b0 : decide (x8_3 < (l1.length : Int)) = true := decide_eq_true c27
            clear c27
            by_cases c28 : 0 ≤ x8_3
            ·rw [if_pos c28] at H
             have c28b0 : decide (0 ≤ x8_3) = true := decide_eq_true c28
             clear c28
             by_cases c29 : ((rd_T89 l1 x8_3).f0) < 0
             ·rw [if_pos c29] at H
              have c29b0 : decide (((rd_T89 l1 x8_3).f0) < 0) = true := decide_eq_true c29
              clear c29
              simp only [Option.some.injEq, Prod.mk.injEq] at H
              obtain ⟨rfl, rfl, rfl⟩ := H
              have p157 : 0 ≤ (x8_3 : Int) := of_decide_eq_true (by first | (with_reducible assumption) | assumption)
              have q157 : x8_3 < (l1.length : Int) := of_decide_eq_true (by first | (with_reducible assumption) | assumption)
              obtain ⟨ad157, e157, hx157_0, hx157_1⟩ := at_T89 HR1.out x8_3 p157 q157
              cases e157
              replace hx157_0 := (HB.out.cell (World.block_lt_of_cell? w _ hx157_0)).trans hx157_0
              replace hx157_1 := (HB.out.cell (World.block_lt_of_cell? w _ hx157_1)).trans hx157_1
              replace p157 := eq_true p157
              replace q157 := eq_true q157
              go_wp2_with (first | ((with_reducible refine zo (N := 9) rfl ?_); (try (refine gate_guard (by rfl) ?_; dsimp only)); refine zm ?hg (N := 9) ?hd (cs := #[.int .i64 0, .int .i64 0]) (t := 89) ?hr ?_; (case hd => rfl); (case hg => rfl); (case hr => first | (go_simp; done) | (go_simp; rfl)); intro gb158 hg w30 hbox hb; have BK158 := zp.mk (hbox); have GW158 := zp.mk ((zv3 (zv7 HB.out) hg)); have GE158 := zp.mk ((zv3 (zv7 HB.out) hg)); have NB145_158 := zp.mk ((by rw [hg]; exact Nat.ne_of_lt (blk_lt (g := gb145) (o := .cells #[.int .i64 x146000_3, .slice none 0 0] 27 (0, 0)) (zv8 BK145.out)) : gb145 ≠ gb158)); have NB158_145 := zp.mk ((by rw [hg]; exact Nat.ne_of_gt (blk_lt (g := gb145) (o := .cells #[.int .i64 x146000_3, .slice none 0 0] 27 (0, 0)) (zv8 BK145.out)) : gb158 ≠ gb145)); replace HO_6 := zp.mk (Kd.S_below (by (with_reducible repeat (first | apply Kd.S_alloc | apply Kd.S_drewN | apply Kd.S_drew)); exact HO_6.out) hb); replace BK145 := zp.mk (zl (zv8 BK145.out) hb); replace HB := zp.mk (zj (zv7 HB.out) hb); clear hb hbox hg; have hnb31 := NB158_145.out; have hnc31 := NB145_158.out; have y32_0 := zt0 BK158.out; have y32_1 := zt1 BK158.out; have u32_0 := zd BK158.out 0; have u32_1 := zd BK158.out 1; have y33_0 := zt0 BK145.out; have y33_1 := zt1 BK145.out; have u33_0 := zd BK145.out 0; have u33_1 := zd BK145.out 1))
              refine bodyPost_ret (results_ct rfl _ _ gb145 27 #[.int .i64 0, .slice none 0 0] (0, 0) _ rfl (by (with_reducible repeat (first | refine zf ?_ _ | refine zi ?_ | refine zg ?_ _)); refine blk_put (cs := #[.int .i64 0, .slice none 0 0]) ?_ 1 _ rfl; (with_reducible repeat (first | refine zf ?_ _ | refine zi ?_ | refine zg ?_ _)); refine blk_put (cs := #[.int .i64 x146000_3, .slice none 0 0]) ?_ 0 _ rfl; (with_reducible repeat (first | refine zf ?_ _ | refine zi ?_ | refine zg ?_ _)); refine blk_far ?_ NB145_158.out _; (with_reducible repeat (first | refine zf ?_ _ | refine zi ?_ | refine zg ?_ _)); refine blk_far ?_ NB145_158.out _; (with_reducible repeat (first | refine zf ?_ _ | refine zi ?_ | refine zg ?_ _)); exact BK145.out) Try.underlying27 rfl (by kernel_rfl)) rfl ?_
              exact ⟨_, by first | rfl | (simp [errW_none, errW_some] <;> rfl) | (simp [*, errW_none, errW_some] <;> rfl), by first | exact Kd.R_nil _ _ _ _ _ | exact Kd.N_nil _ _ _ _ _ | exact Kd.V_nil _ _ _ _ _ | exact Kd.Q_nil _ _ _ _ _ | exact Kd.S_nil _ _ _ _ _, zv7 HB.out⟩
             ·rw [if_neg c29] at H
              have c29b0 : decide (((rd_T89 l1 x8_3).f0) < 0) = false := decide_eq_false c29
              clear c29
              by_cases c34 : ((rd_T89 l1 x8_3).f0) ≥ a0
              ·rw [if_pos c34] at H
               have c34b0 : decide (a0 ≤ ((rd_T89 l1 x8_3).f0)) = true := decide_eq_true c34
               clear c34
               simp only [Option.some.injEq, Prod.mk.injEq] at H
               obtain ⟨rfl, rfl, rfl⟩ := H
               have p157 : 0 ≤ (x8_3 : Int) := of_decide_eq_true (by first | (with_reducible assumption) | assumption)
               have q157 : x8_3 < (l1.length : Int) := of_decide_eq_true (by first | (with_reducible assumption) | assumption)
               obtain ⟨ad157, e157, hx157_0, hx157_1⟩ := at_T89 HR1.out x8_3 p157 q157
               cases e157
               replace hx157_0 := (HB.out.cell (World.block_lt_of_cell? w _ hx157_0)).trans hx157_0
               replace hx157_1 := (HB.out.cell (World.block_lt_of_cell? w _ hx157_1)).trans hx157_1
               replace p157 := eq_true p157
               replace q157 := eq_true q157
               go_wp2_with (first | ((with_reducible refine zo (N := 9) rfl ?_); (try (refine gate_guard (by rfl) ?_; dsimp only)); refine zm ?hg (N := 9) ?hd (cs := #[.int .i64 0, .int .i64 0]) (t := 89) ?hr ?_; (case hd => rfl); (case hg => rfl); (case hr => first | (go_simp; done) | (go_simp; rfl)); intro gb158 hg w35 hbox hb; have BK158 := zp.mk (hbox); have GW158 := zp.mk ((zv3 (zv7 HB.out) hg)); have GE158 := zp.mk ((zv3 (zv7 HB.out) hg)); have NB145_158 := zp.mk ((by rw [hg]; exact Nat.ne_of_lt (blk_lt (g := gb145) (o := .cells #[.int .i64 x146000_3, .slice none 0 0] 27 (0, 0)) (zv8 BK145.out)) : gb145 ≠ gb158)); have NB158_145 := zp.mk ((by rw [hg]; exact Nat.ne_of_gt (blk_lt (g := gb145) (o := .cells #[.int .i64 x146000_3, .slice none 0 0] 27 (0, 0)) (zv8 BK145.out)) : gb158 ≠ gb145)); replace HO_6 := zp.mk (Kd.S_below (by (with_reducible repeat (first | apply Kd.S_alloc | apply Kd.S_drewN | apply Kd.S_drew)); exact HO_6.out) hb); replace BK145 := zp.mk (zl (zv8 BK145.out) hb); replace HB := zp.mk (zj (zv7 HB.out) hb); clear hb hbox hg; have hnb36 := NB158_145.out; have hnc36 := NB145_158.out; have y37_0 := zt0 BK158.out; have y37_1 := zt1 BK158.out; have u37_0 := zd BK158.out 0; have u37_1 := zd BK158.out 1; have y38_0 := zt0 BK145.out; have y38_1 := zt1 BK145.out; have u38_0 := zd BK145.out 0; have u38_1 := zd BK145.out 1))
               refine bodyPost_ret (results_ct rfl _ _ gb145 27 #[.int .i64 0, .slice none 0 0] (0, 0) _ rfl (by (with_reducible repeat (first | refine zf ?_ _ | refine zi ?_ | refine zg ?_ _)); refine blk_put (cs := #[.int .i64 0, .slice none 0 0]) ?_ 1 _ rfl; (with_reducible repeat (first | refine zf ?_ _ | refine zi ?_ | refine zg ?_ _)); refine blk_put (cs := #[.int .i64 x146000_3, .slice none 0 0]) ?_ 0 _ rfl; (with_reducible repeat (first | refine zf ?_ _ | refine zi ?_ | refine zg ?_ _)); refine blk_far ?_ NB145_158.out _; (with_reducible repeat (first | refine zf ?_ _ | refine zi ?_ | refine zg ?_ _)); refine blk_far ?_ NB145_158.out _; (with_reducible repeat (first | refine zf ?_ _ | refine zi ?_ | refine zg ?_ _)); exact BK145.out) Try.underlying27 rfl (by kernel_rfl)) rfl ?_
               exact ⟨_, by first | rfl | (simp [errW_none, errW_some] <;> rfl) | (simp [*, errW_none, errW_some] <;> rfl), by first | exact Kd.R_nil _ _ _ _ _ | exact Kd.N_nil _ _ _ _ _ | exact Kd.V_nil _ _ _ _ _ | exact Kd.Q_nil _ _ _ _ _ | exact Kd.S_nil _ _ _ _ _, zv7 HB.out⟩
              ·rw [if_neg c34] at H
               have c34b0 : decide (a0 ≤ ((rd_T89 l1 x8_3).f0)) = false := decide_eq_false c34
               clear c34
               by_cases c39 : ((rd_T89 l1 x8_3).f1) < 0
               ·rw [if_pos c39] at H
                have c39b0 : decide (((rd_T89 l1 x8_3).f1) < 0) = true := decide_eq_true c39
                clear c39
                simp only [Option.some.injEq, Prod.mk.injEq] at H
                obtain ⟨rfl, rfl, rfl⟩ := H
                have p157 : 0 ≤ (x8_3 : Int) := of_decide_eq_true (by first | (with_reducible assumption) | assumption)
                have q157 : x8_3 < (l1.length : Int) := of_decide_eq_true (by first | (with_reducible assumption) | assumption)
                obtain ⟨ad157, e157, hx157_0, hx157_1⟩ := at_T89 HR1.out x8_3 p157 q157
                cases e157
                replace hx157_0 := (HB.out.cell (World.block_lt_of_cell? w _ hx157_0)).trans hx157_0
                replace hx157_1 := (HB.out.cell (World.block_lt_of_cell? w _ hx157_1)).trans hx157_1
                replace p157 := eq_true p157
                replace q157 := eq_true q157
                go_wp2_with (first | ((with_reducible refine zo (N := 9) rfl ?_); (try (refine gate_guard (by rfl) ?_; dsimp only)); refine zm ?hg (N := 9) ?hd (cs := #[.int .i64 0, .int .i64 0]) (t := 89) ?hr ?_; (case hd => rfl); (case hg => rfl); (case hr => first | (go_simp; done) | (go_simp; rfl)); intro gb158 hg w40 hbox hb; have BK158 := zp.mk (hbox); have GW158 := zp.mk ((zv3 (zv7 HB.out) hg)); have GE158 := zp.mk ((zv3 (zv7 HB.out) hg)); have NB145_158 := zp.mk ((by rw [hg]; exact Nat.ne_of_lt (blk_lt (g := gb145) (o := .cells #[.int .i64 x146000_3, .slice none 0 0] 27 (0, 0)) (zv8 BK145.out)) : gb145 ≠ gb158)); have NB158_145 := zp.mk ((by rw [hg]; exact Nat.ne_of_gt (blk_lt (g := gb145) (o := .cells #[.int .i64 x146000_3, .slice none 0 0] 27 (0, 0)) (zv8 BK145.out)) : gb158 ≠ gb145)); replace HO_6 := zp.mk (Kd.S_below (by (with_reducible repeat (first | apply Kd.S_alloc | apply Kd.S_drewN | apply Kd.S_drew)); exact HO_6.out) hb); replace BK145 := zp.mk (zl (zv8 BK145.out) hb); replace HB := zp.mk (zj (zv7 HB.out) hb); clear hb hbox hg; have hnb41 := NB158_145.out; have hnc41 := NB145_158.out; have y42_0 := zt0 BK158.out; have y42_1 := zt1 BK158.out; have u42_0 := zd BK158.out 0; have u42_1 := zd BK158.out 1; have y43_0 := zt0 BK145.out; have y43_1 := zt1 BK145.out; have u43_0 := zd BK145.out 0; have u43_1 := zd BK145.out 1))
                refine bodyPost_ret (results_ct rfl _ _ gb145 27 #[.int .i64 0, .slice none 0 0] (0, 0) _ rfl (by (with_reducible repeat (first | refine zf ?_ _ | refine zi ?_ | refine zg ?_ _)); refine blk_put (cs := #[.int .i64 0, .slice none 0 0]) ?_ 1 _ rfl; (with_reducible repeat (first | refine zf ?_ _ | refine zi ?_ | refine zg ?_ _)); refine blk_put (cs := #[.int .i64 x146000_3, .slice none 0 0]) ?_ 0 _ rfl; (with_reducible repeat (first | refine zf ?_ _ | refine zi ?_ | refine zg ?_ _)); refine blk_far ?_ NB145_158.out _; (with_reducible repeat (first | refine zf ?_ _ | refine zi ?_ | refine zg ?_ _)); refine blk_far ?_ NB145_158.out _; (with_reducible repeat (first | refine zf ?_ _ | refine zi ?_ | refine zg ?_ _)); exact BK145.out) Try.underlying27 rfl (by kernel_rfl)) rfl ?_
                exact ⟨_, by first | rfl | (simp [errW_none, errW_some] <;> rfl) | (simp [*, errW_none, errW_some] <;> rfl), by first | exact Kd.R_nil _ _ _ _ _ | exact Kd.N_nil _ _ _ _ _ | exact Kd.V_nil _ _ _ _ _ | exact Kd.Q_nil _ _ _ _ _ | exact Kd.S_nil _ _ _ _ _, zv7 HB.out⟩
               ·rw [if_neg c39] at H
                have c39b0 : decide (((rd_T89 l1 x8_3).f1) < 0) = false := decide_eq_false c39
                clear c39
                by_cases c44 : ((rd_T89 l1 x8_3).f1) ≥ a0
                ·rw [if_pos c44] at H
                 have c44b0 : decide (a0 ≤ ((rd_T89 l1 x8_3).f1)) = true := decide_eq_true c44
                 clear c44
                 simp only [Option.some.injEq, Prod.mk.injEq] at H
                 obtain ⟨rfl, rfl, rfl⟩ := H
                 have p157 : 0 ≤ (x8_3 : Int) := of_decide_eq_true (by first | (with_reducible assumption) | assumption)
                 have q157 : x8_3 < (l1.length : Int) := of_decide_eq_true (by first | (with_reducible assumption) | assumption)
                 obtain ⟨ad157, e157, hx157_0, hx157_1⟩ := at_T89 HR1.out x8_3 p157 q157
                 cases e157
                 replace hx157_0 := (HB.out.cell (World.block_lt_of_cell? w _ hx157_0)).trans hx157_0
                 replace hx157_1 := (HB.out.cell (World.block_lt_of_cell? w _ hx157_1)).trans hx157_1
                 replace p157 := eq_true p157
                 replace q157 := eq_true q157
                 go_wp2_with (first | ((with_reducible refine zo (N := 9) rfl ?_); (try (refine gate_guard (by rfl) ?_; dsimp only)); refine zm ?hg (N := 9) ?hd (cs := #[.int .i64 0, .int .i64 0]) (t := 89) ?hr ?_; (case hd => rfl); (case hg => rfl); (case hr => first | (go_simp; done) | (go_simp; rfl)); intro gb158 hg w45 hbox hb; have BK158 := zp.mk (hbox); have GW158 := zp.mk ((zv3 (zv7 HB.out) hg)); have GE158 := zp.mk ((zv3 (zv7 HB.out) hg)); have NB145_158 := zp.mk ((by rw [hg]; exact Nat.ne_of_lt (blk_lt (g := gb145) (o := .cells #[.int .i64 x146000_3, .slice none 0 0] 27 (0, 0)) (zv8 BK145.out)) : gb145 ≠ gb158)); have NB158_145 := zp.mk ((by rw [hg]; exact Nat.ne_of_gt (blk_lt (g := gb145) (o := .cells #[.int .i64 x146000_3, .slice none 0 0] 27 (0, 0)) (zv8 BK145.out)) : gb158 ≠ gb145)); replace HO_6 := zp.mk (Kd.S_below (by (with_reducible repeat (first | apply Kd.S_alloc | apply Kd.S_drewN | apply Kd.S_drew)); exact HO_6.out) hb); replace BK145 := zp.mk (zl (zv8 BK145.out) hb); replace HB := zp.mk (zj (zv7 HB.out) hb); clear hb hbox hg; have hnb46 := NB158_145.out; have hnc46 := NB145_158.out; have y47_0 := zt0 BK158.out; have y47_1 := zt1 BK158.out; have u47_0 := zd BK158.out 0; have u47_1 := zd BK158.out 1; have y48_0 := zt0 BK145.out; have y48_1 := zt1 BK145.out; have u48_0 := zd BK145.out 0; have u48_1 := zd BK145.out 1))
                 refine bodyPost_ret (results_ct rfl _ _ gb145 27 #[.int .i64 0, .slice none 0 0] (0, 0) _ rfl (by (with_reducible repeat (first | refine zf ?_ _ | refine zi ?_ | refine zg ?_ _)); refine blk_put (cs := #[.int .i64 0, .slice none 0 0]) ?_ 1 _ rfl; (with_reducible repeat (first | refine zf ?_ _ | refine zi ?_ | refine zg ?_ _)); refine blk_put (cs := #[.int .i64 x146000_3, .slice none 0 0]) ?_ 0 _ rfl; (with_reducible repeat (first | refine zf ?_ _ | refine zi ?_ | refine zg ?_ _)); refine blk_far ?_ NB145_158.out _; (with_reducible repeat (first | refine zf ?_ _ | refine zi ?_ | refine zg ?_ _)); refine blk_far ?_ NB145_158.out _; (with_reducible repeat (first | refine zf ?_ _ | refine zi ?_ | refine zg ?_ _)); exact BK145.out) Try.underlying27 rfl (by kernel_rfl)) rfl ?_
                 exact ⟨_, by first | rfl | (simp [errW_none, errW_some] <;> rfl) | (simp [*, errW_none, errW_some] <;> rfl), by first | exact Kd.R_nil _ _ _ _ _ | exact Kd.N_nil _ _ _ _ _ | exact Kd.V_nil _ _ _ _ _ | exact Kd.Q_nil _ _ _ _ _ | exact Kd.S_nil _ _ _ _ _, zv7 HB.out⟩
                ·rw [if_neg c44] at H
                 have c44b0 : decide (a0 ≤ ((rd_T89 l1 x8_3).f1)) = false := decide_eq_false c44
                 clear c44
                 by_cases c49 : 0 ≤ ((rd_T89 l1 x8_3).f0)
                 ·rw [if_pos c49] at H
                  have c49b0 : decide (0 ≤ ((rd_T89 l1 x8_3).f0)) = true := decide_eq_true c49
                  clear c49
                  by_cases c50 : ((rd_T89 l1 x8_3).f0) < (x6_3.length : Int)
                  ·rw [if_pos c50] at H
                   have c50b0 : decide (((rd_T89 l1 x8_3).f0) < (x6_3.length : Int)) = true := decide_eq_true c50
                   clear c50
                   by_cases c51 : 0 ≤ ((rd_T89 l1 x8_3).f1)
                   ·rw [if_pos c51] at H
                    have c51b0 : decide (0 ≤ ((rd_T89 l1 x8_3).f1)) = true := decide_eq_true c51
                    clear c51
                    by_cases c52 : ((rd_T89 l1 x8_3).f1) < ((rd_L5 x6_3 ((rd_T89 l1 x8_3).f0)).length : Int)
                    ·rw [if_pos c52] at H
                     have c52b0 : decide (((rd_T89 l1 x8_3).f1) < ((rd_L5 x6_3 ((rd_T89 l1 x8_3).f0)).length : Int)) = true := decide_eq_true c52
                     clear c52
                     obtain ⟨y160, hy160⟩ : ∃ y_ : List Bool, y_ = ((rd_L5 x6_3 ((rd_T89 l1 x8_3).f0)).set (((rd_T89 l1 x8_3).f1) : Int).toNat true) := ⟨_, rfl⟩
                     replace H : (spec_LatOf.l1 k3 a0 l1 (x6_3.set (((rd_T89 l1 x8_3).f0) : Int).toNat y160) (wrap64 (x8_3 + 1))) = some (r1, r2, r3) := by first | (rw [hy160]; with_reducible exact H) | (have H2_ := (Option.bind_some _ _).symm.trans H; rw [hy160]; with_reducible exact H2_) | (have H2_ := (Option.bind_some _ _).symm.trans H; with_reducible exact H2_) | with_reducible exact H | (rw [hy160]; exact H) | exact H
                     have Ny160 := zp.mk hy160
                     clear hy160
                     obtain ⟨y162, hy162⟩ : ∃ y_ : List (List Bool), y_ = (x6_3.set (((rd_T89 l1 x8_3).f0) : Int).toNat y160) := ⟨_, rfl⟩
                     replace H : (spec_LatOf.l1 k3 a0 l1 y162 (wrap64 (x8_3 + 1))) = some (r1, r2, r3) := by first | (rw [hy162]; with_reducible exact H) | (have H2_ := (Option.bind_some _ _).symm.trans H; rw [hy162]; with_reducible exact H2_) | (have H2_ := (Option.bind_some _ _).symm.trans H; with_reducible exact H2_) | with_reducible exact H | (rw [hy162]; exact H) | exact H
                     have Ny162 := zp.mk hy162
                     clear hy162
                     have H' := zp.mk H
                     clear H
                     have p157 : 0 ≤ (x8_3 : Int) := of_decide_eq_true (by first | (with_reducible assumption) | assumption)
                     have q157 : x8_3 < (l1.length : Int) := of_decide_eq_true (by first | (with_reducible assumption) | assumption)
                     obtain ⟨ad157, e157, hx157_0, hx157_1⟩ := at_T89 HR1.out x8_3 p157 q157
                     cases e157
                     replace hx157_0 := (HB.out.cell (World.block_lt_of_cell? w _ hx157_0)).trans hx157_0
                     replace hx157_1 := (HB.out.cell (World.block_lt_of_cell? w _ hx157_1)).trans hx157_1
                     replace p157 := eq_true p157
                     replace q157 := eq_true q157
                     try go_wp2_with (first | ((with_reducible refine zo (N := 9) rfl ?_); (try (refine gate_guard (by rfl) ?_; dsimp only)); refine zm ?hg (N := 9) ?hd (cs := #[.int .i64 0, .int .i64 0]) (t := 89) ?hr ?_; (case hd => rfl); (case hg => rfl); (case hr => first | (go_simp; done) | (go_simp; rfl)); intro gb158 hg w54 hbox hb; have BK158 := zp.mk (hbox); have GW158 := zp.mk ((zv3 (zv7 HB.out) hg)); have GE158 := zp.mk ((zv3 (zv7 HB.out) hg)); have NB145_158 := zp.mk ((by rw [hg]; exact Nat.ne_of_lt (blk_lt (g := gb145) (o := .cells #[.int .i64 x146000_3, .slice none 0 0] 27 (0, 0)) (zv8 BK145.out)) : gb145 ≠ gb158)); have NB158_145 := zp.mk ((by rw [hg]; exact Nat.ne_of_gt (blk_lt (g := gb145) (o := .cells #[.int .i64 x146000_3, .slice none 0 0] 27 (0, 0)) (zv8 BK145.out)) : gb158 ≠ gb145)); replace HO_6 := zp.mk (Kd.S_below (by (with_reducible repeat (first | apply Kd.S_alloc | apply Kd.S_drewN | apply Kd.S_drew)); exact HO_6.out) hb); replace BK145 := zp.mk (zl (zv8 BK145.out) hb); replace HB := zp.mk (zj (zv7 HB.out) hb); clear hb hbox hg; have hnb55 := NB158_145.out; have hnc55 := NB145_158.out; have y56_0 := zt0 BK158.out; have y56_1 := zt1 BK158.out; have u56_0 := zd BK158.out 0; have u56_1 := zd BK158.out 1))
                     have n0_ : zp (Kd.S (Kd.slice 4 Kd.bool) 92 ((w54.setCell ⟨gb158, 0, none⟩ (.int .i64 ((rd_T89 l1 x8_3).f0))).setCell ⟨gb158, 1, none⟩ (.int .i64 ((rd_T89 l1 x8_3).f1))) w.heap.size (fun _ => True) v147 x6_3) := ⟨by (with_reducible repeat (first | apply Kd.S_alloc | apply Kd.S_drewN | apply Kd.S_drew)); exact Kd.S_mono (Kd.S_far (p := ⟨gb158, 1, none⟩) (Kd.S_far (p := ⟨gb158, 0, none⟩) (Kd.S_types HO_6.out BK158.out (by decide)) (fun _ hk => hk.2) (.int .i64 ((rd_T89 l1 x8_3).f0))) (fun _ hk => hk.2) (.int .i64 ((rd_T89 l1 x8_3).f1))) (fun _ hk => trivial)⟩
                     have n1_ : zp (((w54.setCell ⟨gb158, 0, none⟩ (.int .i64 ((rd_T89 l1 x8_3).f0))).setCell ⟨gb158, 1, none⟩ (.int .i64 ((rd_T89 l1 x8_3).f1))).heap[gb145]? = some (.cells #[.int .i64 x146000_3, .slice none 0 0] 27 (0, 0))) := ⟨by (with_reducible repeat (first | refine zf ?_ _ | refine zi ?_ | refine zg ?_ _)); refine blk_far ?_ NB145_158.out _; (with_reducible repeat (first | refine zf ?_ _ | refine zi ?_ | refine zg ?_ _)); refine blk_far ?_ NB145_158.out _; (with_reducible repeat (first | refine zf ?_ _ | refine zi ?_ | refine zg ?_ _)); exact BK145.out⟩
                     have n2_ : zp (((w54.setCell ⟨gb158, 0, none⟩ (.int .i64 ((rd_T89 l1 x8_3).f0))).setCell ⟨gb158, 1, none⟩ (.int .i64 ((rd_T89 l1 x8_3).f1))).heap[gb158]? = some (.cells #[.int .i64 ((rd_T89 l1 x8_3).f0), .int .i64 ((rd_T89 l1 x8_3).f1)] 89 (0, 0))) := ⟨by (with_reducible repeat (first | refine zf ?_ _ | refine zi ?_ | refine zg ?_ _)); refine blk_put (cs := #[.int .i64 ((rd_T89 l1 x8_3).f0), .int .i64 0]) ?_ 1 _ rfl; (with_reducible repeat (first | refine zf ?_ _ | refine zi ?_ | refine zg ?_ _)); refine blk_put (cs := #[.int .i64 0, .int .i64 0]) ?_ 0 _ rfl; (with_reducible repeat (first | refine zf ?_ _ | refine zi ?_ | refine zg ?_ _)); exact BK158.out⟩
                     have n3_ : zp (Below w.heap.size w ((w54.setCell ⟨gb158, 0, none⟩ (.int .i64 ((rd_T89 l1 x8_3).f0))).setCell ⟨gb158, 1, none⟩ (.int .i64 ((rd_T89 l1 x8_3).f1)))) := ⟨zv7 HB.out⟩
                     (try clear HO_6)
                     (try clear BK145)
                     (try clear BK158)
                     (try clear HB)
                     generalize ((w54.setCell ⟨gb158, 0, none⟩ (.int .i64 ((rd_T89 l1 x8_3).f0))).setCell ⟨gb158, 1, none⟩ (.int .i64 ((rd_T89 l1 x8_3).f1))) = w57 at n0_ n1_ n2_ n3_ ⊢
                     have HO_6 := n0_
                     have BK145 := n1_
                     have BK158 := n2_
                     have HB := n3_
                     clear n0_ n1_ n2_ n3_
                     replace HO_6 := zp.mk (Kd.S_drew HO_6.out)
                     replace BK145 := zp.mk (zi BK145.out)
                     replace BK158 := zp.mk (zi BK158.out)
                     replace HB := zp.mk (zb HB.out)
                     obtain ⟨Ao59, co59, eo59⟩ := Kd.S_slice HO_6.out
                     (first | subst eo59 | (injection eo59 with f1_ f2_ f3_; have f4_ := f1_.symm; have f5_ := f3_.symm; clear f1_ f2_ f3_; subst f4_; subst f5_))
                     have p159 : 0 ≤ (((rd_T89 l1 x8_3).f0) : Int) := of_decide_eq_true (by first | (with_reducible assumption) | assumption)
                     have q159 : ((rd_T89 l1 x8_3).f0) < (x6_3.length : Int) := of_decide_eq_true (by first | (with_reducible assumption) | assumption)
                     obtain ⟨ad159, A159_0, c159_0, e159, hx159_0, hl159_0, hi159_0⟩ := at_L5 (Kd.S_reads' HO_6.out).2.2 ((rd_T89 l1 x8_3).f0) p159 q159
                     cases e159
                     obtain ⟨ce159, hce159, hMe159, hcc159⟩ := Kd.S_get HO_6.out [] ((rd_T89 l1 x8_3).f0) p159 (by first | exact q159 | exact of_decide_eq_true (by first | (with_reducible assumption) | assumption) | (have e_ := (Kd.S_reads' HO_6.out).1; omega))
                     obtain ⟨ve159_0, rfl, ge159_0⟩ := hMe159
                     have hv159_0 := hcc159 0 _ rfl
                     rw [Nat.add_zero, show ((Kd.slice 4 Kd.bool)).sz = 1 from rfl, Nat.mul_one] at hv159_0
                     replace hv159_0 := Option.some.inj (hv159_0.symm.trans hx159_0)
                     rw [hv159_0] at ge159_0
                     have HL159_0 := zp.mk (show Kd.R Kd.bool 4 _ _ _ _ (rd_L5 x6_3 ((rd_T89 l1 x8_3).f0)) from ge159_0)
                     clear hv159_0 ge159_0
                     have HX159_0 := zp.mk hx159_0
                     clear hcc159 hce159
                     have HR159_0 := zp.mk hi159_0
                     have HC159_0 := zp.mk hl159_0
                     clear hi159_0 hl159_0
                     replace p159 := eq_true p159
                     replace q159 := eq_true q159
                     have p53 : 0 ≤ (((rd_T89 l1 x8_3).f1) : Int) := of_decide_eq_true (by first | (with_reducible assumption) | assumption)
                     have q53 : (((rd_T89 l1 x8_3).f1) : Int) < (((rd_L5 x6_3 ((rd_T89 l1 x8_3).f0)).length : Int) : Int) := of_decide_eq_true (by first | (with_reducible assumption) | assumption)
                     obtain ⟨go53, co53, eo53, gb53, gl53, cl53, HG53⟩ := Kd.R_form HL159_0.out (by omega)
                     (first | cases eo53 | (injection eo53 with ea_ en_ ec_; (first | subst ea_ | (injection ea_ with ea_; subst ea_)); subst ec_; clear en_))
                     have GB53 := zp.mk gb53
                     have GG53 := zp.mk HG53
                     clear gb53 gl53 HG53
                     obtain ⟨hx53_0, hf53_0⟩ := Kd.R_celln false HL159_0.out (((rd_T89 l1 x8_3).f1) : Int) p53 q53
                     replace p53 := eq_true p53
                     replace q53 := eq_true q53
                     have hq60 : (((rd_T89 l1 x8_3).f0) : Int) < (x6_3.length : Int) := (by have h_ : (((rd_T89 l1 x8_3).f0) : Int) < ((x6_3.length : Int) : Int) := of_decide_eq_true (by first | (with_reducible assumption) | assumption); first | exact h_ | (have e_ := (Kd.S_reads' HO_6.out).1; omega) | simpa only [List.length_set, List.length_set] using h_)
                     obtain ⟨oki60, ce60, hcl60, hM60, hcc60, hok60, hbk60⟩ := Kd.S_borrow HO_6.out [] (((rd_T89 l1 x8_3).f0) : Int) (of_decide_eq_true (by first | (with_reducible assumption) | assumption)) (by first | exact hq60 | (have e_ := (Kd.S_reads' HO_6.out).1; omega))
                     obtain ⟨ve60_0, rfl, ge60_0⟩ := hM60
                     have hv60 := hcc60 0 _ rfl
                     rw [Nat.add_zero, show ((Kd.slice 4 Kd.bool)).sz = 1 from rfl, Nat.mul_one] at hv60
                     replace hv60 := Option.some.inj (hv60.symm.trans HX159_0.out)
                     subst hv60
                     clear hcc60 hcl60
                     replace ge60_0 := (show Kd.R Kd.bool 4 _ _ _ _ (rd_L5 x6_3 ((rd_T89 l1 x8_3).f0)) from ge60_0)
                     have HP60 := Kd.R_putg ge60_0 (((rd_T89 l1 x8_3).f1) : Int) true
                     rw [← Ny160.out] at HP60
                     have HS60 := hbk60 HP60.2 (fun k_ e_ => by injection e_ with e_; subst e_; exact ge60_0.1 _ rfl) (x' := y160) (Kd.M_row HP60.1)
                     rw [← Ny162.out] at HS60
                     have HQ60 := zp.mk HS60
                     clear HP60 HS60 hbk60 hok60
                     refine start_ (n := 9) (S := fun w' => w'.cell? ⟨gb158, 0, none⟩ = some (.int .i64 ((rd_T89 l1 x8_3).f0)) ∧ w'.cell? ⟨gb158, 1, none⟩ = some (.int .i64 ((rd_T89 l1 x8_3).f1)) ∧ w'.cell? (ad159.add (((rd_T89 l1 x8_3).f0)).toNat) = some (.slice (some ⟨go53, 0, none⟩) (rd_L5 x6_3 ((rd_T89 l1 x8_3).f0)).length c159_0)) (ds := [8]) #[false, false, false, false, false, false, false, false, false] (by kernel_rfl) rfl rfl ⟨(ze BK158.out 0).trans rfl, (ze BK158.out 1).trans rfl, hx159_0⟩ (fun hHeld => ?_); refine with_tabW spec_LatOf.tab15 spec_LatOf.bits15 (fun HT_ HW_ => ?_)
                     generalize w57.drew = w58 at HO_6 BK145 BK158 HB GG53 HL159_0 HQ60 HR159_0 HX159_0 hf53_0 hx159_0 hx53_0 hHeld ⊢
                     refine pure_ (i := 0) (N := some 78) (v := ?_) (a' := ?_) #[true, false, false, false, false, false, false, false, false] rfl rfl (any_of HT_.out (by kernel_rfl)) (fun _ _ _ h => h) (Or.inl ⟨by rfl, ?_⟩) ?_ ?_
                     rotate_left
                     ·intro w'
                      go_simp
                      with_reducible rfl
                     rotate_left
                     ·simp only [Act.put, zs1, zs2, zs3, i64_w, i32_w]
                      rfl
                     refine pure_ (i := 1) (N := some 79) (v := ?_) (a' := ?_) #[true, true, false, false, false, false, false, false, false] rfl rfl (any_of HT_.out (by kernel_rfl)) (fun _ _ _ h => h) (Or.inl ⟨by rfl, ?_⟩) ?_ ?_
                     rotate_left
                     ·intro w'
                      go_simp
                      with_reducible rfl
                     rotate_left
                     ·simp only [Act.put, zs1, zs2, zs3, i64_w, i32_w]
                      rfl
                     refine pure_ (i := 5) (N := some 83) (v := ?_) (a' := ?_) #[true, true, false, false, false, true, false, false, false] rfl rfl (any_of HT_.out (by kernel_rfl)) (fun _ _ _ h => h) (Or.inl ⟨by rfl, ?_⟩) ?_ ?_
                     rotate_left
                     ·intro w'
                      go_simp
                      with_reducible rfl
                     rotate_left
                     ·simp only [Act.put, zs1, zs2, zs3, i64_w, i32_w]
                      rfl
                     refine take_ (i := 2) (N := some 80) (v := ?_) (a' := ?_) #[true, true, true, false, false, true, false, false, false] rfl rfl (take_ofW HT_.out HW_.out (by kernel_rfl)) (fun _ _ _ h => h) (Or.inl ⟨by rfl, ?_⟩) hHeld ?_ ?_
                     rotate_left
                     ·rintro w' ⟨s0, s1, s2⟩
                      go_simp
                      with_reducible rfl
                     rotate_left
                     ·simp only [Act.put, zs1, zs2, zs3, i64_w, i32_w]
                      rfl
                     refine pure_ (i := 3) (N := some 81) (v := ?_) (a' := ?_) #[true, true, true, true, false, true, false, false, false] rfl rfl (any_of HT_.out (by kernel_rfl)) (fun _ _ _ h => h) (Or.inl ⟨by rfl, ?_⟩) ?_ ?_
                     rotate_left
                     ·intro w'
                      go_simp
                      with_reducible rfl
                     rotate_left
                     ·simp only [Act.put, zs1, zs2, zs3, i64_w, i32_w]
                      rfl
                     refine take_ (i := 4) (N := some 82) (v := ?_) (a' := ?_) #[true, true, true, true, true, true, false, false, false] rfl rfl (take_ofW HT_.out HW_.out (by kernel_rfl)) (fun _ _ _ h => h) (Or.inl ⟨by rfl, ?_⟩) hHeld ?_ ?_
                     rotate_left
                     ·rintro w' ⟨s0, s1, s2⟩
                      go_simp
                      with_reducible rfl
                     rotate_left
                     ·simp only [Act.put, zs1, zs2, zs3, i64_w, i32_w]
                      rfl
                     refine take_ (i := 6) (N := some 84) (v := ?_) (a' := ?_) #[true, true, true, true, true, true, true, false, false] rfl rfl (take_ofW HT_.out HW_.out (by kernel_rfl)) (fun _ _ _ h => h) (Or.inl ⟨by rfl, ?_⟩) hHeld ?_ ?_
                     rotate_left
                     ·rintro w' ⟨s0, s1, s2⟩
                      go_simp
                      with_reducible rfl
                     rotate_left
                     ·simp only [Act.put, zs1, zs2, zs3, i64_w, i32_w]
                      rfl
                     refine pure_ (i := 7) (N := some 85) (v := ?_) (a' := ?_) #[true, true, true, true, true, true, true, true, false] rfl rfl (any_of HT_.out (by kernel_rfl)) (fun _ _ _ h => h) (Or.inl ⟨by rfl, ?_⟩) ?_ ?_
                     rotate_left
                     ·intro w'
                      go_simp
                      with_reducible rfl
                     rotate_left
                     ·simp only [Act.put, zs1, zs2, zs3, i64_w, i32_w]
                      rfl
                     refine last_ (i := 8) (N := none) #[true, true, true, true, true, true, true, true, true] rfl rfl (one_of HT_.out (by kernel_rfl)) (by decide) (fun K hK => ?_)
                     refine skip_ (w1 := ?_) (by rfl) rfl ?_ ?_
                     rotate_left
                     ·go_simp
                      rfl
                     refine hK.out _ _ ?_
                     clear hK K
                     refine done_ (done_of HT_.out (by kernel_rfl)) ?_
                     try go_wp2
                     go_roundg k3
                     case measure => have := HJ2.out; have := HK2.out; have := HK3.out; omega
                     case rel => exact ⟨(y162), (wrap64 (x8_3 + 1)), (x146000_3), (by first | rfl | (simp; done) | (simp [*]; done)), H', ⟨by have := HJ2.out; have := HK2.out; have := HK3.out; omega⟩, ⟨by (with_reducible repeat (first | apply Kd.S_alloc | apply Kd.S_drewN | apply Kd.S_drew)); exact HQ60.out⟩, ⟨by (with_reducible repeat (first | refine zf ?_ _ | refine zi ?_ | refine zg ?_ _)); refine blk_far ?_ (by have h_ := Kd.R_ne HL159_0.out BK145.out (by decide); intro e_; exact h_ (by rw [e_]; rfl)) _; (with_reducible repeat (first | refine zf ?_ _ | refine zi ?_ | refine zg ?_ _)); exact BK145.out⟩, ⟨by repeat (first | (with_reducible first | exact HB.out | apply zc | apply za | apply zb | refine zh ?_ GB53.out | refine zh ?_ GE145.out | refine zh ?_ GE158.out) | exact HB.out)⟩⟩
                    ·rw [if_neg c52] at H
                     exact absurd H (by simp)
                   ·rw [if_neg c51] at H
                    exact absurd H (by simp)
                  ·rw [if_neg c50] at H
                   exact absurd H (by simp)
                 ·rw [if_neg c49] at H
                  exact absurd H (by simp)
            ·rw [if_neg c28] at H
             exact absurd H (by simp)
           ·rw [if_neg c27] at H
            have c27b0 : decide (x8_3 < (l1.length : Int)) = false := decide_eq_false c27
            clear c27
            have H' := zp.mk H
            clear H
            go_wp2
            go_loopg [10] k3 (fun kq v10 w' => ∃ (x6_4 : List (List Bool)) (x10_4 : Int), v10 = .int .i64 x10_4 ∧ zp (spec_LatOf.l2 kq a0 x6_4 x10_4 = some (r1, r2, r3)) ∧ zp (kq ≤ k3) ∧ zp (Kd.S (Kd.slice 4 Kd.bool) 92 w' w.heap.size (fun _ => True) v147 x6_4) ∧ zp (w'.heap[gb145]? = some (.cells #[.int .i64 x146000_3, (.slice none 0 0)] 27 (0, 0))) ∧ zp (Below w.heap.size w w'))
            case atStart => exact ⟨(x6_3), (0), (by first | rfl | (simp; done) | (simp [*]; done)), H', ⟨Nat.le_refl _⟩, ⟨by (with_reducible repeat (first | apply Kd.S_alloc | apply Kd.S_drewN | apply Kd.S_drew)); exact HO_6.out⟩, ⟨zv8 BK145.out⟩, ⟨zv7 HB.out⟩⟩
            case round =>
             clear H'
             try clear c1
             try clear p1
             try clear q1
             try clear hx1
             try clear c2
             try clear p2
             try clear q2
             try clear hx2
             try clear hf2
             try clear c3
             try clear c4
             try clear c5
             try clear c5b0
             try clear p5
             try clear q5
             try clear hx5
             try clear hf5
             try clear c6
             try clear c6b0
             try clear p6
             try clear q6
             try clear c7
             try clear c9
             try clear c9b0
             try clear c9b1
             try clear c10
             try clear c10b0
             try clear c10b1
             try clear c13
             try clear c13b0
             try clear c14
             try clear c14b0
             try clear c14b1
             try clear c15
             try clear c15b0
             try clear c15b1
             try clear p15
             try clear q15
             try clear hx15
             try clear c16
             try clear c16b0
             try clear c17
             try clear c17b0
             try clear c18
             try clear p18
             try clear q18
             try clear hx18
             try clear hf18
             try clear c19
             try clear c19b0
             try clear p20
             try clear q20
             try clear hx20
             try clear hf20
             try clear c23
             try clear hx23
             try clear hf23
             try clear c25
             try clear q25
             try clear c27
             try clear c27b0
             try clear c28
             try clear c28b0
             try clear c29
             try clear c29b0
             try clear c31
             try clear c34
             try clear c34b0
             try clear c36
             try clear c39
             try clear c39b0
             try clear c41
             try clear c44
             try clear c44b0
             try clear c45
             try clear c46
             try clear c49
             try clear c49b0
             try clear c50
             try clear c50b0
             try clear c51
             try clear c51b0
             try clear c52
             try clear c52b0
             try clear p53
             try clear q53
             try clear hx53
             try clear hf53
             try clear c55
             try clear c60
             try clear q60
             try clear y32_0
             try clear y32_1
             try clear y33_0
             try clear y33_1
             try clear y37_0
             try clear y37_1
             try clear y38_0
             try clear y38_1
             try clear y42_0
             try clear y42_1
             try clear y43_0
             try clear y43_1
             try clear y47_0
             try clear y47_1
             try clear y48_0
             try clear y48_1
             try clear y56_0
             try clear y56_1
             try clear y8_0
             try clear y8_1
             try clear u32_0
             try clear u32_1
             try clear u33_0
             try clear u33_1
             try clear u37_0
             try clear u37_1
             try clear u38_0
             try clear u38_1
             try clear u42_0
             try clear u42_1
             try clear u43_0
             try clear u43_1
             try clear u47_0
             try clear u47_1
             try clear u48_0
             try clear u48_1
             try clear u56_0
             try clear u56_1
             try clear u8_0
             try clear u8_1
             try clear hx153_0
             try clear hx157_0
             try clear hx157_1
             try clear hx159_0
             try clear hx18_0
             try clear hx20_0
             try clear hx23_0
             try clear hx53_0
             try clear p1
             try clear p15
             try clear p153
             try clear p157
             try clear p159
             try clear p18
             try clear p2
             try clear p20
             try clear p53
             try clear p6
             try clear q1
             try clear q15
             try clear q153
             try clear q157
             try clear q159
             try clear q18
             try clear q2
             try clear q20
             try clear q25
             try clear q53
             obtain ⟨x6_4, x10_4, rfl, HA, HK4, HO_6, BK145, HB⟩ := hrel
             cases gk with
             | zero => exact absurd HA.out (by simp [spec_LatOf.l2])
             | succ k4 =>
              have H := HA.out
              clear HA
              simp only [spec_LatOf.l2] at H
              by_cases c62 : x10_4 < a0
              ·rw [if_pos c62] at H
               have c62b0 : decide (x10_4 < a0) = true := decide_eq_true c62
               clear c62
               have H' := zp.mk H
               clear H
               go_wp2
               go_loopg [11] k4 (fun kq v11 w' => ∃ (x6_5 : List (List Bool)) (x11_5 : Int), v11 = .int .i64 x11_5 ∧ zp (spec_LatOf.l3 kq a0 x6_5 x10_4 x11_5 = some (r1, r2, r3)) ∧ zp (kq ≤ k4) ∧ zp (Kd.S (Kd.slice 4 Kd.bool) 92 w' w.heap.size (fun _ => True) v147 x6_5) ∧ zp (w'.heap[gb145]? = some (.cells #[.int .i64 x146000_3, (.slice none 0 0)] 27 (0, 0))) ∧ zp (Below w.heap.size w w'))
               case atStart => exact ⟨(x6_4), (0), (by first | rfl | (simp; done) | (simp [*]; done)), H', ⟨Nat.le_refl _⟩, ⟨by (with_reducible repeat (first | apply Kd.S_alloc | apply Kd.S_drewN | apply Kd.S_drew)); exact HO_6.out⟩, ⟨zv8 BK145.out⟩, ⟨zv7 HB.out⟩⟩
               case round =>
                clear H'
                try clear c1
                try clear p1
                try clear q1
                try clear hx1
                try clear c2
                try clear p2
                try clear q2
                try clear hx2
                try clear hf2
                try clear c3
                try clear c4
                try clear c5
                try clear c5b0
                try clear p5
                try clear q5
                try clear hx5
                try clear hf5
                try clear c6
                try clear c6b0
                try clear p6
                try clear q6
                try clear c7
                try clear c9
                try clear c9b0
                try clear c9b1
                try clear c10
                try clear c10b0
                try clear c10b1
                try clear c13
                try clear c13b0
                try clear c14
                try clear c14b0
                try clear c14b1
                try clear c15
                try clear c15b0
                try clear c15b1
                try clear p15
                try clear q15
                try clear hx15
                try clear c16
                try clear c16b0
                try clear c17
                try clear c17b0
                try clear c18
                try clear p18
                try clear q18
                try clear hx18
                try clear hf18
                try clear c19
                try clear c19b0
                try clear p20
                try clear q20
                try clear hx20
                try clear hf20
                try clear c23
                try clear hx23
                try clear hf23
                try clear c25
                try clear q25
                try clear c27
                try clear c27b0
                try clear c28
                try clear c28b0
                try clear c29
                try clear c29b0
                try clear c31
                try clear c34
                try clear c34b0
                try clear c36
                try clear c39
                try clear c39b0
                try clear c41
                try clear c44
                try clear c44b0
                try clear c45
                try clear c46
                try clear c49
                try clear c49b0
                try clear c50
                try clear c50b0
                try clear c51
                try clear c51b0
                try clear c52
                try clear c52b0
                try clear p53
                try clear q53
                try clear hx53
                try clear hf53
                try clear c55
                try clear c60
                try clear q60
                try clear c62
                try clear c62b0
                try clear y32_0
                try clear y32_1
                try clear y33_0
                try clear y33_1
                try clear y37_0
                try clear y37_1
                try clear y38_0
                try clear y38_1
                try clear y42_0
                try clear y42_1
                try clear y43_0
                try clear y43_1
                try clear y47_0
                try clear y47_1
                try clear y48_0
                try clear y48_1
                try clear y56_0
                try clear y56_1
                try clear y8_0
                try clear y8_1
                try clear u32_0
                try clear u32_1
                try clear u33_0
                try clear u33_1
                try clear u37_0
                try clear u37_1
                try clear u38_0
                try clear u38_1
                try clear u42_0
                try clear u42_1
                try clear u43_0
                try clear u43_1
                try clear u47_0
                try clear u47_1
                try clear u48_0
                try clear u48_1
                try clear u56_0
                try clear u56_1
                try clear u8_0
                try clear u8_1
                try clear hx153_0
                try clear hx157_0
                try clear hx157_1
                try clear hx159_0
                try clear hx18_0
                try clear hx20_0
                try clear hx23_0
                try clear hx53_0
                try clear p1
                try clear p15
                try clear p153
                try clear p157
                try clear p159
                try clear p18
                try clear p2
                try clear p20
                try clear p5
                try clear p53
                try clear p6
                try clear q1
                try clear q15
                try clear q153
                try clear q157
                try clear q159
                try clear q18
                try clear q2
                try clear q20
                try clear q25
                try clear q5
                try clear q53
                try clear q6
                try clear q60
                obtain ⟨x6_5, x11_5, rfl, HA, HK5, HO_6, BK145, HB⟩ := hrel
                cases gk with
                | zero => exact absurd HA.out (by simp [spec_LatOf.l3])
                | succ k5 =>
                 have H := HA.out
                 clear HA
                 simp only [spec_LatOf.l3] at H
                 by_cases c63 : x11_5 < a0
                 ·rw [if_pos c63] at H
                  have c63b0 : decide (x11_5 < a0) = true := decide_eq_true c63
                  clear c63
                  have H' := zp.mk H
                  clear H
                  go_wp2
                  go_loopg [12] k5 (fun kq v12 w' => ∃ (x6_6 : List (List Bool)) (x12_6 : Int), v12 = .int .i64 x12_6 ∧ zp (spec_LatOf.l4 kq a0 x6_6 x10_4 x11_5 x12_6 = some (r1, r2, r3)) ∧ zp (kq ≤ k5) ∧ zp (Kd.S (Kd.slice 4 Kd.bool) 92 w' w.heap.size (fun _ => True) v147 x6_6) ∧ zp (w'.heap[gb145]? = some (.cells #[.int .i64 x146000_3, (.slice none 0 0)] 27 (0, 0))) ∧ zp (Below w.heap.size w w'))
                  case atStart => exact ⟨(x6_5), (0), (by first | rfl | (simp; done) | (simp [*]; done)), H', ⟨Nat.le_refl _⟩, ⟨by (with_reducible repeat (first | apply Kd.S_alloc | apply Kd.S_drewN | apply Kd.S_drew)); exact HO_6.out⟩, ⟨zv8 BK145.out⟩, ⟨zv7 HB.out⟩⟩
                  case round =>
                   clear H'
                   try clear c1
                   try clear p1
                   try clear q1
                   try clear hx1
                   try clear c2
                   try clear p2
                   try clear q2
                   try clear hx2
                   try clear hf2
                   try clear c3
                   try clear c4
                   try clear c5
                   try clear c5b0
                   try clear p5
                   try clear q5
                   try clear hx5
                   try clear hf5
                   try clear c6
                   try clear c6b0
                   try clear p6
                   try clear q6
                   try clear c7
                   try clear c9
                   try clear c9b0
                   try clear c9b1
                   try clear c10
                   try clear c10b0
                   try clear c10b1
                   try clear c13
                   try clear c13b0
                   try clear c14
                   try clear c14b0
                   try clear c14b1
                   try clear c15
                   try clear c15b0
                   try clear c15b1
                   try clear p15
                   try clear q15
                   try clear hx15
                   try clear c16
                   try clear c16b0
                   try clear c17
                   try clear c17b0
                   try clear c18
                   try clear p18
                   try clear q18
                   try clear hx18
                   try clear hf18
                   try clear c19
                   try clear c19b0
                   try clear p20
                   try clear q20
                   try clear hx20
                   try clear hf20
                   try clear c23
                   try clear hx23
                   try clear hf23
                   try clear c25
                   try clear q25
                   try clear c27
                   try clear c27b0
                   try clear c28
                   try clear c28b0
                   try clear c29
                   try clear c29b0
                   try clear c31
                   try clear c34
                   try clear c34b0
                   try clear c36
                   try clear c39
                   try clear c39b0
                   try clear c41
                   try clear c44
                   try clear c44b0
                   try clear c45
                   try clear c46
                   try clear c49
                   try clear c49b0
                   try clear c50
                   try clear c50b0
                   try clear c51
                   try clear c51b0
                   try clear c52
                   try clear c52b0
                   try clear p53
                   try clear q53
                   try clear hx53
                   try clear hf53
                   try clear c55
                   try clear c60
                   try clear q60
                   try clear c62
                   try clear c62b0
                   try clear c63
                   try clear c63b0
                   try clear y32_0
                   try clear y32_1
                   try clear y33_0
                   try clear y33_1
                   try clear y37_0
                   try clear y37_1
                   try clear y38_0
                   try clear y38_1
                   try clear y42_0
                   try clear y42_1
                   try clear y43_0
                   try clear y43_1
                   try clear y47_0
                   try clear y47_1
                   try clear y48_0
                   try clear y48_1
                   try clear y56_0
                   try clear y56_1
                   try clear y8_0
                   try clear y8_1
                   try clear u32_0
                   try clear u32_1
                   try clear u33_0
                   try clear u33_1
                   try clear u37_0
                   try clear u37_1
                   try clear u38_0
                   try clear u38_1
                   try clear u42_0
                   try clear u42_1
                   try clear u43_0
                   try clear u43_1
                   try clear u47_0
                   try clear u47_1
                   try clear u48_0
                   try clear u48_1
                   try clear u56_0
                   try clear u56_1
                   try clear u8_0
                   try clear u8_1
                   try clear hx153_0
                   try clear hx157_0
                   try clear hx157_1
                   try clear hx159_0
                   try clear hx18_0
                   try clear hx20_0
                   try clear hx23_0
                   try clear hx53_0
                   try clear p1
                   try clear p15
                   try clear p153
                   try clear p157
                   try clear p159
                   try clear p18
                   try clear p2
                   try clear p20
                   try clear p5
                   try clear p53
                   try clear p6
                   try clear q1
                   try clear q15
                   try clear q153
                   try clear q157
                   try clear q159
                   try clear q18
                   try clear q2
                   try clear q20
                   try clear q25
                   try clear q5
                   try clear q53
                   try clear q6
                   try clear q60
                   obtain ⟨x6_6, x12_6, rfl, HA, HK6, HO_6, BK145, HB⟩ := hrel
                   cases gk with
                   | zero => exact absurd HA.out (by simp [spec_LatOf.l4])
                   | succ k6 =>
                    have H := HA.out
                    clear HA
                    simp only [spec_LatOf.l4] at H
                    by_cases c64 : x12_6 < a0
                    ·rw [if_pos c64] at H
                     have c64b0 : decide (x12_6 < a0) = true := decide_eq_true c64
                     clear c64
                     by_cases c65 : 0 ≤ x11_5
                     ·rw [if_pos c65] at H
                      have c65b0 : decide (0 ≤ x11_5) = true := decide_eq_true c65
                      clear c65
                      by_cases c66 : x11_5 < (x6_6.length : Int)
                      ·rw [if_pos c66] at H
                       have c66b0 : decide (x11_5 < (x6_6.length : Int)) = true := decide_eq_true c66
                       clear c66
                       by_cases c67 : 0 ≤ x12_6
                       ·rw [if_pos c67] at H
                        have c67b0 : decide (0 ≤ x12_6) = true := decide_eq_true c67
                        clear c67
                        by_cases c68 : x12_6 < ((rd_L5 x6_6 x11_5).length : Int)
                        ·rw [if_pos c68] at H
                         have c68b0 : decide (x12_6 < ((rd_L5 x6_6 x11_5).length : Int)) = true := decide_eq_true c68
                         clear c68
                         obtain ⟨bq69, hbq69⟩ : ∃ b_ : Bool, b_ = (rdOf false (rd_L5 x6_6 x11_5) x12_6) := ⟨_, rfl⟩
                         replace H : (if bq69 = true then (spec_LatOf.l4 k6 a0 (x6_6.set (x11_5 : Int).toNat ((rd_L5 x6_6 x11_5).set (x12_6 : Int).toNat true)) x10_4 x11_5 (wrap64 (x12_6 + 1))) else (if 0 ≤ x10_4 then (if x10_4 < ((rd_L5 x6_6 x11_5).length : Int) then (if rdOf false (rd_L5 x6_6 x11_5) x10_4 = true then (if x10_4 < (x6_6.length : Int) then (if x12_6 < ((rd_L5 x6_6 x10_4).length : Int) then (spec_LatOf.l4 k6 a0 (x6_6.set (x11_5 : Int).toNat ((rd_L5 x6_6 x11_5).set (x12_6 : Int).toNat (rdOf false (rd_L5 x6_6 x10_4) x12_6))) x10_4 x11_5 (wrap64 (x12_6 + 1))) else (none)) else (none)) else (spec_LatOf.l4 k6 a0 (x6_6.set (x11_5 : Int).toNat ((rd_L5 x6_6 x11_5).set (x12_6 : Int).toNat false)) x10_4 x11_5 (wrap64 (x12_6 + 1)))) else (none)) else (none))) = some (r1, r2, r3) := by rw [← hbq69] at H; exact H
                         have Nbq69 := zp.mk hbq69
                         clear hbq69
                         by_cases c70 : bq69 = true
                         ·subst c70
                          have H1 : (spec_LatOf.l4 k6 a0 (x6_6.set (x11_5 : Int).toNat ((rd_L5 x6_6 x11_5).set (x12_6 : Int).toNat true)) x10_4 x11_5 (wrap64 (x12_6 + 1))) = some (r1, r2, r3) := by rw [if_pos rfl] at H; exact H
                          clear H
                          have H := H1
                          clear H1
                          obtain ⟨y166, hy166⟩ : ∃ y_ : List Bool, y_ = ((rd_L5 x6_6 x11_5).set (x12_6 : Int).toNat true) := ⟨_, rfl⟩
                          replace H : (spec_LatOf.l4 k6 a0 (x6_6.set (x11_5 : Int).toNat y166) x10_4 x11_5 (wrap64 (x12_6 + 1))) = some (r1, r2, r3) := by first | (rw [hy166]; with_reducible exact H) | (have H2_ := (Option.bind_some _ _).symm.trans H; rw [hy166]; with_reducible exact H2_) | (have H2_ := (Option.bind_some _ _).symm.trans H; with_reducible exact H2_) | with_reducible exact H | (rw [hy166]; exact H) | exact H
                          have Ny166 := zp.mk hy166
                          clear hy166
                          obtain ⟨y168, hy168⟩ : ∃ y_ : List (List Bool), y_ = (x6_6.set (x11_5 : Int).toNat y166) := ⟨_, rfl⟩
                          replace H : (spec_LatOf.l4 k6 a0 y168 x10_4 x11_5 (wrap64 (x12_6 + 1))) = some (r1, r2, r3) := by first | (rw [hy168]; with_reducible exact H) | (have H2_ := (Option.bind_some _ _).symm.trans H; rw [hy168]; with_reducible exact H2_) | (have H2_ := (Option.bind_some _ _).symm.trans H; with_reducible exact H2_) | with_reducible exact H | (rw [hy168]; exact H) | exact H
                          have Ny168 := zp.mk hy168
                          clear hy168
                          have H' := zp.mk H
                          clear H
                          try go_wp2
                          replace HO_6 := zp.mk (Kd.S_drew HO_6.out)
                          replace BK145 := zp.mk (zi BK145.out)
                          replace HB := zp.mk (zb HB.out)
                          obtain ⟨Ao73, co73, eo73⟩ := Kd.S_slice HO_6.out
                          (first | subst eo73 | (injection eo73 with f1_ f2_ f3_; have f4_ := f1_.symm; have f5_ := f3_.symm; clear f1_ f2_ f3_; subst f4_; subst f5_))
                          have p163 : 0 ≤ (x11_5 : Int) := of_decide_eq_true (by first | (with_reducible assumption) | assumption)
                          have q163 : x11_5 < (x6_6.length : Int) := of_decide_eq_true (by first | (with_reducible assumption) | assumption)
                          obtain ⟨ad163, A163_0, c163_0, e163, hx163_0, hl163_0, hi163_0⟩ := at_L5 (Kd.S_reads' HO_6.out).2.2 x11_5 p163 q163
                          cases e163
                          obtain ⟨ce163, hce163, hMe163, hcc163⟩ := Kd.S_get HO_6.out [] x11_5 p163 (by first | exact q163 | exact of_decide_eq_true (by first | (with_reducible assumption) | assumption) | (have e_ := (Kd.S_reads' HO_6.out).1; omega))
                          obtain ⟨ve163_0, rfl, ge163_0⟩ := hMe163
                          have hv163_0 := hcc163 0 _ rfl
                          rw [Nat.add_zero, show ((Kd.slice 4 Kd.bool)).sz = 1 from rfl, Nat.mul_one] at hv163_0
                          replace hv163_0 := Option.some.inj (hv163_0.symm.trans hx163_0)
                          rw [hv163_0] at ge163_0
                          have HL163_0 := zp.mk (show Kd.R Kd.bool 4 _ _ _ _ (rd_L5 x6_6 x11_5) from ge163_0)
                          clear hv163_0 ge163_0
                          have HX163_0 := zp.mk hx163_0
                          clear hcc163 hce163
                          have HR163_0 := zp.mk hi163_0
                          have HC163_0 := zp.mk hl163_0
                          clear hi163_0 hl163_0
                          replace p163 := eq_true p163
                          replace q163 := eq_true q163
                          have p164 : 0 ≤ (x11_5 : Int) := of_decide_eq_true (by first | (with_reducible assumption) | assumption)
                          have q164 : x11_5 < (x6_6.length : Int) := of_decide_eq_true (by first | (with_reducible assumption) | assumption)
                          obtain ⟨ad164, A164_0, c164_0, e164, hx164_0, hl164_0, hi164_0⟩ := at_L5 (Kd.S_reads' HO_6.out).2.2 x11_5 p164 q164
                          obtain rfl : ad163 = ad164 := (by injection e164)
                          obtain ⟨ce164, hce164, hMe164, hcc164⟩ := Kd.S_get HO_6.out [] x11_5 p164 (by first | exact q164 | exact of_decide_eq_true (by first | (with_reducible assumption) | assumption) | (have e_ := (Kd.S_reads' HO_6.out).1; omega))
                          obtain ⟨ve164_0, rfl, ge164_0⟩ := hMe164
                          have hv164_0 := hcc164 0 _ rfl
                          rw [Nat.add_zero, show ((Kd.slice 4 Kd.bool)).sz = 1 from rfl, Nat.mul_one] at hv164_0
                          replace hv164_0 := Option.some.inj (hv164_0.symm.trans hx164_0)
                          rw [hv164_0] at ge164_0
                          have HL164_0 := zp.mk (show Kd.R Kd.bool 4 _ _ _ _ (rd_L5 x6_6 x11_5) from ge164_0)
                          clear hv164_0 ge164_0
                          have HX164_0 := zp.mk hx164_0
                          clear hcc164 hce164
                          have HR164_0 := zp.mk hi164_0
                          have HC164_0 := zp.mk hl164_0
                          clear hi164_0 hl164_0
                          replace p164 := eq_true p164
                          replace q164 := eq_true q164
                          have ea_ := Option.some.inj (hx163_0.symm.trans hx164_0)
                          injection ea_ with ea_ en_ ec_
                          subst ea_
                          subst ec_
                          clear en_
                          have p165 : 0 ≤ (x12_6 : Int) := of_decide_eq_true (by first | (with_reducible assumption) | assumption)
                          have q165 : x12_6 < ((rd_L5 x6_6 x11_5).length : Int) := of_decide_eq_true (by first | (with_reducible assumption) | assumption)
                          obtain ⟨ad165, e165, hx165_0⟩ := Kd.at_bool (by repeat (first | (with_reducible exact HR164_0.out) | (with_reducible refine Kd.zr ?_ _) | (with_reducible refine Kd.zq ?_ _) | (with_reducible refine Kd.C_drew ?_) | exact HR164_0.out)) x12_6 p165 q165
                          (try rw [← Nbq69.out] at hx165_0)
                          cases e165
                          replace p165 := eq_true p165
                          replace q165 := eq_true q165
                          have p71 : 0 ≤ (x12_6 : Int) := of_decide_eq_true (by first | (with_reducible assumption) | assumption)
                          have q71 : (x12_6 : Int) < (((rd_L5 x6_6 x11_5).length : Int) : Int) := of_decide_eq_true (by first | (with_reducible assumption) | assumption)
                          obtain ⟨go71, co71, eo71, gb71, gl71, cl71, HG71⟩ := Kd.R_form HL163_0.out (by omega)
                          (first | cases eo71 | (injection eo71 with ea_ en_ ec_; (first | subst ea_ | (injection ea_ with ea_; subst ea_)); subst ec_; clear en_))
                          (try simp only [add_plain] at hx165_0)
                          have GB71 := zp.mk gb71
                          have GG71 := zp.mk HG71
                          clear gb71 gl71 HG71
                          (first | simp only [add_plain] at hx165_0 | skip)
                          obtain ⟨hx71_0, hf71_0⟩ := Kd.R_celln false HL163_0.out (x12_6 : Int) p71 q71
                          replace p71 := eq_true p71
                          replace q71 := eq_true q71
                          have hq74 : (x11_5 : Int) < (x6_6.length : Int) := (by have h_ : (x11_5 : Int) < ((x6_6.length : Int) : Int) := of_decide_eq_true (by first | (with_reducible assumption) | assumption); first | exact h_ | (have e_ := (Kd.S_reads' HO_6.out).1; omega) | simpa only [List.length_set, List.length_set] using h_)
                          obtain ⟨oki74, ce74, hcl74, hM74, hcc74, hok74, hbk74⟩ := Kd.S_borrow HO_6.out [] (x11_5 : Int) (of_decide_eq_true (by first | (with_reducible assumption) | assumption)) (by first | exact hq74 | (have e_ := (Kd.S_reads' HO_6.out).1; omega))
                          obtain ⟨ve74_0, rfl, ge74_0⟩ := hM74
                          have hv74 := hcc74 0 _ rfl
                          rw [Nat.add_zero, show ((Kd.slice 4 Kd.bool)).sz = 1 from rfl, Nat.mul_one] at hv74
                          replace hv74 := Option.some.inj (hv74.symm.trans HX163_0.out)
                          subst hv74
                          clear hcc74 hcl74
                          replace ge74_0 := (show Kd.R Kd.bool 4 _ _ _ _ (rd_L5 x6_6 x11_5) from ge74_0)
                          have HP74 := Kd.R_putg ge74_0 (x12_6 : Int) true
                          rw [← Ny166.out] at HP74
                          have HS74 := hbk74 HP74.2 (fun k_ e_ => by injection e_ with e_; subst e_; exact ge74_0.1 _ rfl) (x' := y166) (Kd.M_row HP74.1)
                          rw [← Ny168.out] at HS74
                          have HQ74 := zp.mk HS74
                          clear HP74 HS74 hbk74 hok74
                          refine start_ (n := 32) (S := fun w' => w'.cell? (ad163.add (x11_5).toNat) = some (.slice (some ⟨go71, 0, none⟩) (rd_L5 x6_6 x11_5).length c163_0) ∧ w'.cell? (ad163.add (x11_5).toNat) = some (.slice (some ⟨go71, 0, none⟩) (rd_L5 x6_6 x11_5).length c163_0) ∧ w'.cell? ⟨go71, (x12_6).toNat, none⟩ = some (.bool true)) (ds := [31]) #[false, false, false, false, false, false, false, false, false, false, false, false, false, false, false, false, false, false, false, false, false, false, false, false, false, false, false, false, false, false, false, false] (by kernel_rfl) rfl rfl ⟨hx163_0, hx164_0, hx165_0⟩ (fun hHeld => ?_); refine with_tabW spec_LatOf.tab25 spec_LatOf.bits25 (fun HT_ HW_ => ?_)
                          generalize wr.drew = w72 at HO_6 BK145 HB GG71 HL163_0 HL164_0 HQ74 HR163_0 HR164_0 HX163_0 HX164_0 hf71_0 hx163_0 hx164_0 hx165_0 hx71_0 hHeld ⊢
                          refine pure_ (i := 0) (N := some 101) (v := ?_) (a' := ?_) #[true, false, false, false, false, false, false, false, false, false, false, false, false, false, false, false, false, false, false, false, false, false, false, false, false, false, false, false, false, false, false, false] rfl rfl (any_of HT_.out (by kernel_rfl)) (fun _ _ _ h => h) (Or.inl ⟨by rfl, ?_⟩) ?_ ?_
                          rotate_left
                          ·intro w'
                           go_simp
                           with_reducible rfl
                          rotate_left
                          ·simp only [Act.put, zs1, zs2, zs3, i64_w, i32_w]
                           rfl
                          refine pure_ (i := 1) (N := some 102) (v := ?_) (a' := ?_) #[true, true, false, false, false, false, false, false, false, false, false, false, false, false, false, false, false, false, false, false, false, false, false, false, false, false, false, false, false, false, false, false] rfl rfl (any_of HT_.out (by kernel_rfl)) (fun _ _ _ h => h) (Or.inl ⟨by rfl, ?_⟩) ?_ ?_
                          rotate_left
                          ·intro w'
                           go_simp
                           with_reducible rfl
                          rotate_left
                          ·simp only [Act.put, zs1, zs2, zs3, i64_w, i32_w]
                           rfl
                          refine pure_ (i := 2) (N := some 103) (v := ?_) (a' := ?_) #[true, true, true, false, false, false, false, false, false, false, false, false, false, false, false, false, false, false, false, false, false, false, false, false, false, false, false, false, false, false, false, false] rfl rfl (any_of HT_.out (by kernel_rfl)) (fun _ _ _ h => h) (Or.inl ⟨by rfl, ?_⟩) ?_ ?_
                          rotate_left
                          ·intro w'
                           go_simp
                           with_reducible rfl
                          rotate_left
                          ·simp only [Act.put, zs1, zs2, zs3, i64_w, i32_w]
                           rfl
                          refine pure_ (i := 4) (N := some 105) (v := ?_) (a' := ?_) #[true, true, true, false, true, false, false, false, false, false, false, false, false, false, false, false, false, false, false, false, false, false, false, false, false, false, false, false, false, false, false, false] rfl rfl (any_of HT_.out (by kernel_rfl)) (fun _ _ _ h => h) (Or.inl ⟨by rfl, ?_⟩) ?_ ?_
                          rotate_left
                          ·intro w'
                           go_simp
                           with_reducible rfl
                          rotate_left
                          ·simp only [Act.put, zs1, zs2, zs3, i64_w, i32_w]
                           rfl
                          refine pure_ (i := 5) (N := some 106) (v := ?_) (a' := ?_) #[true, true, true, false, true, true, false, false, false, false, false, false, false, false, false, false, false, false, false, false, false, false, false, false, false, false, false, false, false, false, false, false] rfl rfl (any_of HT_.out (by kernel_rfl)) (fun _ _ _ h => h) (Or.inl ⟨by rfl, ?_⟩) ?_ ?_
                          rotate_left
                          ·intro w'
                           go_simp
                           with_reducible rfl
                          rotate_left
                          ·simp only [Act.put, zs1, zs2, zs3, i64_w, i32_w]
                           rfl
                          refine pure_ (i := 6) (N := some 107) (v := ?_) (a' := ?_) #[true, true, true, false, true, true, true, false, false, false, false, false, false, false, false, false, false, false, false, false, false, false, false, false, false, false, false, false, false, false, false, false] rfl rfl (any_of HT_.out (by kernel_rfl)) (fun _ _ _ h => h) (Or.inl ⟨by rfl, ?_⟩) ?_ ?_
                          rotate_left
                          ·intro w'
                           go_simp
                           with_reducible rfl
                          rotate_left
                          ·simp only [Act.put, zs1, zs2, zs3, i64_w, i32_w]
                           rfl
                          refine pure_ (i := 7) (N := some 108) (v := ?_) (a' := ?_) #[true, true, true, false, true, true, true, true, false, false, false, false, false, false, false, false, false, false, false, false, false, false, false, false, false, false, false, false, false, false, false, false] rfl rfl (any_of HT_.out (by kernel_rfl)) (fun _ _ _ h => h) (Or.inl ⟨by rfl, ?_⟩) ?_ ?_
                          rotate_left
                          ·intro w'
                           go_simp
                           with_reducible rfl
                          rotate_left
                          ·simp only [Act.put, zs1, zs2, zs3, i64_w, i32_w]
                           rfl
                          refine pure_ (i := 9) (N := some 110) (v := ?_) (a' := ?_) #[true, true, true, false, true, true, true, true, false, true, false, false, false, false, false, false, false, false, false, false, false, false, false, false, false, false, false, false, false, false, false, false] rfl rfl (any_of HT_.out (by kernel_rfl)) (fun _ _ _ h => h) (Or.inl ⟨by rfl, ?_⟩) ?_ ?_
                          rotate_left
                          ·intro w'
                           go_simp
                           with_reducible rfl
                          rotate_left
                          ·simp only [Act.put, zs1, zs2, zs3, i64_w, i32_w]
                           rfl
                          refine take_ (i := 3) (N := some 104) (v := ?_) (a' := ?_) #[true, true, true, true, true, true, true, true, false, true, false, false, false, false, false, false, false, false, false, false, false, false, false, false, false, false, false, false, false, false, false, false] rfl rfl (take_ofW HT_.out HW_.out (by kernel_rfl)) (fun _ _ _ h => h) (Or.inl ⟨by rfl, ?_⟩) hHeld ?_ ?_
                          rotate_left
                          ·rintro w' ⟨s0, s1, s2⟩
                           go_simp
                           with_reducible rfl
                          rotate_left
                          ·simp only [Act.put, zs1, zs2, zs3, i64_w, i32_w]
                           rfl
                          refine take_ (i := 8) (N := some 109) (v := ?_) (a' := ?_) #[true, true, true, true, true, true, true, true, true, true, false, false, false, false, false, false, false, false, false, false, false, false, false, false, false, false, false, false, false, false, false, false] rfl rfl (take_ofW HT_.out HW_.out (by kernel_rfl)) (fun _ _ _ h => h) (Or.inl ⟨by rfl, ?_⟩) hHeld ?_ ?_
                          rotate_left
                          ·rintro w' ⟨s0, s1, s2⟩
                           go_simp
                           with_reducible rfl
                          rotate_left
                          ·simp only [Act.put, zs1, zs2, zs3, i64_w, i32_w]
                           rfl
                          refine pure_ (i := 10) (N := some 111) (v := ?_) (a' := ?_) #[true, true, true, true, true, true, true, true, true, true, true, false, false, false, false, false, false, false, false, false, false, false, false, false, false, false, false, false, false, false, false, false] rfl rfl (any_of HT_.out (by kernel_rfl)) (fun _ _ _ h => h) (Or.inl ⟨by rfl, ?_⟩) ?_ ?_
                          rotate_left
                          ·intro w'
                           go_simp
                           with_reducible rfl
                          rotate_left
                          ·simp only [Act.put, zs1, zs2, zs3, i64_w, i32_w]
                           rfl
                          refine take_ (i := 11) (N := some 112) (v := ?_) (a' := ?_) #[true, true, true, true, true, true, true, true, true, true, true, true, false, false, false, false, false, false, false, false, false, false, false, false, false, false, false, false, false, false, false, false] rfl rfl (take_ofW HT_.out HW_.out (by kernel_rfl)) (fun _ _ _ h => h) (Or.inl ⟨by rfl, ?_⟩) hHeld ?_ ?_
                          rotate_left
                          ·rintro w' ⟨s0, s1, s2⟩
                           go_simp
                           with_reducible rfl
                          rotate_left
                          ·simp only [Act.put, zs1, zs2, zs3, i64_w, i32_w]
                           rfl
                          refine pure_ (i := 12) (N := some 113) (v := ?_) (a' := ?_) #[true, true, true, true, true, true, true, true, true, true, true, true, true, false, false, false, false, false, false, false, false, false, false, false, false, false, false, false, false, false, false, false] rfl rfl (any_of HT_.out (by kernel_rfl)) (fun _ _ _ h => h) (Or.inl ⟨by rfl, ?_⟩) ?_ ?_
                          rotate_left
                          ·intro w'
                           go_simp
                           with_reducible rfl
                          rotate_left
                          ·simp only [Act.put, zs1, zs2, zs3, i64_w, i32_w]
                           rfl
                          refine pure_ (i := 13) (N := some 114) (v := undef) (a' := ?_) #[true, true, true, true, true, true, true, true, true, true, true, true, true, true, false, false, false, false, false, false, false, false, false, false, false, false, false, false, false, false, false, false] rfl rfl (any_of HT_.out (by kernel_rfl)) (fun _ _ _ h => h) (Or.inr ⟨by rfl, rfl⟩) ?_ ?_
                          rotate_left
                          ·simp only [Act.put, zs1, zs2, zs3, i64_w, i32_w]
                           rfl
                          refine pure_ (i := 14) (N := some 115) (v := undef) (a' := ?_) #[true, true, true, true, true, true, true, true, true, true, true, true, true, true, true, false, false, false, false, false, false, false, false, false, false, false, false, false, false, false, false, false] rfl rfl (any_of HT_.out (by kernel_rfl)) (fun _ _ _ h => h) (Or.inr ⟨by rfl, rfl⟩) ?_ ?_
                          rotate_left
                          ·simp only [Act.put, zs1, zs2, zs3, i64_w, i32_w]
                           rfl
                          refine pure_ (i := 15) (N := some 116) (v := undef) (a' := ?_) #[true, true, true, true, true, true, true, true, true, true, true, true, true, true, true, true, false, false, false, false, false, false, false, false, false, false, false, false, false, false, false, false] rfl rfl (any_of HT_.out (by kernel_rfl)) (fun _ _ _ h => h) (Or.inr ⟨by rfl, rfl⟩) ?_ ?_
                          rotate_left
                          ·simp only [Act.put, zs1, zs2, zs3, i64_w, i32_w]
                           rfl
                          refine pure_ (i := 16) (N := some 117) (v := undef) (a' := ?_) #[true, true, true, true, true, true, true, true, true, true, true, true, true, true, true, true, true, false, false, false, false, false, false, false, false, false, false, false, false, false, false, false] rfl rfl (any_of HT_.out (by kernel_rfl)) (fun _ _ _ h => h) (Or.inr ⟨by rfl, rfl⟩) ?_ ?_
                          rotate_left
                          ·simp only [Act.put, zs1, zs2, zs3, i64_w, i32_w]
                           rfl
                          refine pure_ (i := 17) (N := some 118) (v := undef) (a' := ?_) #[true, true, true, true, true, true, true, true, true, true, true, true, true, true, true, true, true, true, false, false, false, false, false, false, false, false, false, false, false, false, false, false] rfl rfl (any_of HT_.out (by kernel_rfl)) (fun _ _ _ h => h) (Or.inr ⟨by rfl, rfl⟩) ?_ ?_
                          rotate_left
                          ·simp only [Act.put, zs1, zs2, zs3, i64_w, i32_w]
                           rfl
                          refine pure_ (i := 18) (N := some 119) (v := undef) (a' := ?_) #[true, true, true, true, true, true, true, true, true, true, true, true, true, true, true, true, true, true, true, false, false, false, false, false, false, false, false, false, false, false, false, false] rfl rfl (any_of HT_.out (by kernel_rfl)) (fun _ _ _ h => h) (Or.inr ⟨by rfl, rfl⟩) ?_ ?_
                          rotate_left
                          ·simp only [Act.put, zs1, zs2, zs3, i64_w, i32_w]
                           rfl
                          refine pure_ (i := 19) (N := some 120) (v := undef) (a' := ?_) #[true, true, true, true, true, true, true, true, true, true, true, true, true, true, true, true, true, true, true, true, false, false, false, false, false, false, false, false, false, false, false, false] rfl rfl (any_of HT_.out (by kernel_rfl)) (fun _ _ _ h => h) (Or.inr ⟨by rfl, rfl⟩) ?_ ?_
                          rotate_left
                          ·simp only [Act.put, zs1, zs2, zs3, i64_w, i32_w]
                           rfl
                          refine pure_ (i := 20) (N := some 121) (v := undef) (a' := ?_) #[true, true, true, true, true, true, true, true, true, true, true, true, true, true, true, true, true, true, true, true, true, false, false, false, false, false, false, false, false, false, false, false] rfl rfl (any_of HT_.out (by kernel_rfl)) (fun _ _ _ h => h) (Or.inr ⟨by rfl, rfl⟩) ?_ ?_
                          rotate_left
                          ·simp only [Act.put, zs1, zs2, zs3, i64_w, i32_w]
                           rfl
                          refine pure_ (i := 21) (N := some 122) (v := undef) (a' := ?_) #[true, true, true, true, true, true, true, true, true, true, true, true, true, true, true, true, true, true, true, true, true, true, false, false, false, false, false, false, false, false, false, false] rfl rfl (any_of HT_.out (by kernel_rfl)) (fun _ _ _ h => h) (Or.inr ⟨by rfl, rfl⟩) ?_ ?_
                          rotate_left
                          ·simp only [Act.put, zs1, zs2, zs3, i64_w, i32_w]
                           rfl
                          refine pure_ (i := 22) (N := some 123) (v := undef) (a' := ?_) #[true, true, true, true, true, true, true, true, true, true, true, true, true, true, true, true, true, true, true, true, true, true, true, false, false, false, false, false, false, false, false, false] rfl rfl (any_of HT_.out (by kernel_rfl)) (fun _ _ _ h => h) (Or.inr ⟨by rfl, rfl⟩) ?_ ?_
                          rotate_left
                          ·simp only [Act.put, zs1, zs2, zs3, i64_w, i32_w]
                           rfl
                          refine pure_ (i := 23) (N := some 124) (v := undef) (a' := ?_) #[true, true, true, true, true, true, true, true, true, true, true, true, true, true, true, true, true, true, true, true, true, true, true, true, false, false, false, false, false, false, false, false] rfl rfl (any_of HT_.out (by kernel_rfl)) (fun _ _ _ h => h) (Or.inr ⟨by rfl, rfl⟩) ?_ ?_
                          rotate_left
                          ·simp only [Act.put, zs1, zs2, zs3, i64_w, i32_w]
                           rfl
                          refine pure_ (i := 24) (N := some 125) (v := undef) (a' := ?_) #[true, true, true, true, true, true, true, true, true, true, true, true, true, true, true, true, true, true, true, true, true, true, true, true, true, false, false, false, false, false, false, false] rfl rfl (any_of HT_.out (by kernel_rfl)) (fun _ _ _ h => h) (Or.inr ⟨by rfl, rfl⟩) ?_ ?_
                          rotate_left
                          ·simp only [Act.put, zs1, zs2, zs3, i64_w, i32_w]
                           rfl
                          refine pure_ (i := 25) (N := some 126) (v := undef) (a' := ?_) #[true, true, true, true, true, true, true, true, true, true, true, true, true, true, true, true, true, true, true, true, true, true, true, true, true, true, false, false, false, false, false, false] rfl rfl (any_of HT_.out (by kernel_rfl)) (fun _ _ _ h => h) (Or.inr ⟨by rfl, rfl⟩) ?_ ?_
                          rotate_left
                          ·simp only [Act.put, zs1, zs2, zs3, i64_w, i32_w]
                           rfl
                          refine pure_ (i := 26) (N := some 127) (v := undef) (a' := ?_) #[true, true, true, true, true, true, true, true, true, true, true, true, true, true, true, true, true, true, true, true, true, true, true, true, true, true, true, false, false, false, false, false] rfl rfl (any_of HT_.out (by kernel_rfl)) (fun _ _ _ h => h) (Or.inr ⟨by rfl, rfl⟩) ?_ ?_
                          rotate_left
                          ·simp only [Act.put, zs1, zs2, zs3, i64_w, i32_w]
                           rfl
                          refine pure_ (i := 27) (N := some 128) (v := undef) (a' := ?_) #[true, true, true, true, true, true, true, true, true, true, true, true, true, true, true, true, true, true, true, true, true, true, true, true, true, true, true, true, false, false, false, false] rfl rfl (any_of HT_.out (by kernel_rfl)) (fun _ _ _ h => h) (Or.inr ⟨by rfl, rfl⟩) ?_ ?_
                          rotate_left
                          ·simp only [Act.put, zs1, zs2, zs3, i64_w, i32_w]
                           rfl
                          refine pure_ (i := 28) (N := some 129) (v := undef) (a' := ?_) #[true, true, true, true, true, true, true, true, true, true, true, true, true, true, true, true, true, true, true, true, true, true, true, true, true, true, true, true, true, false, false, false] rfl rfl (any_of HT_.out (by kernel_rfl)) (fun _ _ _ h => h) (Or.inr ⟨by rfl, rfl⟩) ?_ ?_
                          rotate_left
                          ·simp only [Act.put, zs1, zs2, zs3, i64_w, i32_w]
                           rfl
                          refine pure_ (i := 29) (N := some 130) (v := ?_) (a' := ?_) #[true, true, true, true, true, true, true, true, true, true, true, true, true, true, true, true, true, true, true, true, true, true, true, true, true, true, true, true, true, true, false, false] rfl rfl (any_of HT_.out (by kernel_rfl)) (fun _ _ _ h => h) (Or.inl ⟨by rfl, ?_⟩) ?_ ?_
                          rotate_left
                          ·intro w'
                           go_simp
                           with_reducible rfl
                          rotate_left
                          ·simp only [Act.put, zs1, zs2, zs3, i64_w, i32_w]
                           rfl
                          refine pure_ (i := 30) (N := some 131) (v := ?_) (a' := ?_) #[true, true, true, true, true, true, true, true, true, true, true, true, true, true, true, true, true, true, true, true, true, true, true, true, true, true, true, true, true, true, true, false] rfl rfl (any_of HT_.out (by kernel_rfl)) (fun _ _ _ h => h) (Or.inl ⟨by rfl, ?_⟩) ?_ ?_
                          rotate_left
                          ·intro w'
                           go_simp
                           with_reducible rfl
                          rotate_left
                          ·simp only [Act.put, zs1, zs2, zs3, i64_w, i32_w]
                           rfl
                          refine last_ (i := 31) (N := none) #[true, true, true, true, true, true, true, true, true, true, true, true, true, true, true, true, true, true, true, true, true, true, true, true, true, true, true, true, true, true, true, true] rfl rfl (one_of HT_.out (by kernel_rfl)) (by decide) (fun K hK => ?_)
                          refine skip_ (w1 := ?_) (by rfl) rfl ?_ ?_
                          rotate_left
                          ·go_simp
                           rfl
                          refine hK.out _ _ ?_
                          clear hK K
                          refine done_ (done_of HT_.out (by kernel_rfl)) ?_
                          try go_wp2
                          go_roundg k6
                          case measure => have := HJ2.out; have := HK2.out; have := HK3.out; have := HK4.out; have := HK5.out; have := HK6.out; omega
                          case rel => exact ⟨(y168), (wrap64 (x12_6 + 1)), (by first | rfl | (simp; done) | (simp [*]; done)), H', ⟨by have := HJ2.out; have := HK2.out; have := HK3.out; have := HK4.out; have := HK5.out; have := HK6.out; omega⟩, ⟨by (with_reducible repeat (first | apply Kd.S_alloc | apply Kd.S_drewN | apply Kd.S_drew)); exact HQ74.out⟩, ⟨by (with_reducible repeat (first | refine zf ?_ _ | refine zi ?_ | refine zg ?_ _)); refine blk_far ?_ (by have h_ := Kd.R_ne HL163_0.out BK145.out (by decide); intro e_; exact h_ (by rw [e_]; rfl)) _; (with_reducible repeat (first | refine zf ?_ _ | refine zi ?_ | refine zg ?_ _)); exact BK145.out⟩, ⟨by repeat (first | (with_reducible first | exact HB.out | apply zc | apply za | apply zb | refine zh ?_ GB71.out | refine zh ?_ GE145.out) | exact HB.out)⟩⟩
                         ·replace c70 := Bool.eq_false_iff.mpr c70
                          subst c70
                          have H1 : (if 0 ≤ x10_4 then (if x10_4 < ((rd_L5 x6_6 x11_5).length : Int) then (if rdOf false (rd_L5 x6_6 x11_5) x10_4 = true then (if x10_4 < (x6_6.length : Int) then (if x12_6 < ((rd_L5 x6_6 x10_4).length : Int) then (spec_LatOf.l4 k6 a0 (x6_6.set (x11_5 : Int).toNat ((rd_L5 x6_6 x11_5).set (x12_6 : Int).toNat (rdOf false (rd_L5 x6_6 x10_4) x12_6))) x10_4 x11_5 (wrap64 (x12_6 + 1))) else (none)) else (none)) else (spec_LatOf.l4 k6 a0 (x6_6.set (x11_5 : Int).toNat ((rd_L5 x6_6 x11_5).set (x12_6 : Int).toNat false)) x10_4 x11_5 (wrap64 (x12_6 + 1)))) else (none)) else (none)) = some (r1, r2, r3) := by rw [if_neg (show ¬ (false = true) by decide)] at H; exact H
                          clear H
                          have H := H1
                          clear H1
                          by_cases c76 : 0 ≤ x10_4
                          ·rw [if_pos c76] at H
                           have c76b0 : decide (0 ≤ x10_4) = true := decide_eq_true c76
                           clear c76
                           by_cases c77 : x10_4 < ((rd_L5 x6_6 x11_5).length : Int)
                           ·rw [if_pos c77] at H
                            have c77b0 : decide (x10_4 < ((rd_L5 x6_6 x11_5).length : Int)) = true := decide_eq_true c77
                            clear c77
                            obtain ⟨bq78, hbq78⟩ : ∃ b_ : Bool, b_ = (rdOf false (rd_L5 x6_6 x11_5) x10_4) := ⟨_, rfl⟩
                            replace H : (if bq78 = true then (if x10_4 < (x6_6.length : Int) then (if x12_6 < ((rd_L5 x6_6 x10_4).length : Int) then (spec_LatOf.l4 k6 a0 (x6_6.set (x11_5 : Int).toNat ((rd_L5 x6_6 x11_5).set (x12_6 : Int).toNat (rdOf false (rd_L5 x6_6 x10_4) x12_6))) x10_4 x11_5 (wrap64 (x12_6 + 1))) else (none)) else (none)) else (spec_LatOf.l4 k6 a0 (x6_6.set (x11_5 : Int).toNat ((rd_L5 x6_6 x11_5).set (x12_6 : Int).toNat false)) x10_4 x11_5 (wrap64 (x12_6 + 1)))) = some (r1, r2, r3) := by rw [← hbq78] at H; exact H
                            have Nbq78 := zp.mk hbq78
                            clear hbq78
                            by_cases c79 : bq78 = true
                            ·subst c79
                             have H1 : (if x10_4 < (x6_6.length : Int) then (if x12_6 < ((rd_L5 x6_6 x10_4).length : Int) then (spec_LatOf.l4 k6 a0 (x6_6.set (x11_5 : Int).toNat ((rd_L5 x6_6 x11_5).set (x12_6 : Int).toNat (rdOf false (rd_L5 x6_6 x10_4) x12_6))) x10_4 x11_5 (wrap64 (x12_6 + 1))) else (none)) else (none)) = some (r1, r2, r3) := by rw [if_pos rfl] at H; exact H
                             clear H
                             have H := H1
                             clear H1
                             by_cases c80 : x10_4 < (x6_6.length : Int)
                             ·rw [if_pos c80] at H
                              have c80b0 : decide (x10_4 < (x6_6.length : Int)) = true := decide_eq_true c80
                              clear c80
                              by_cases c81 : x12_6 < ((rd_L5 x6_6 x10_4).length : Int)
                              ·rw [if_pos c81] at H
                               have c81b0 : decide (x12_6 < ((rd_L5 x6_6 x10_4).length : Int)) = true := decide_eq_true c81
                               clear c81
                               obtain ⟨y173, hy173⟩ : ∃ y_ : List Bool, y_ = ((rd_L5 x6_6 x11_5).set (x12_6 : Int).toNat (rdOf false (rd_L5 x6_6 x10_4) x12_6)) := ⟨_, rfl⟩
                               replace H : (spec_LatOf.l4 k6 a0 (x6_6.set (x11_5 : Int).toNat y173) x10_4 x11_5 (wrap64 (x12_6 + 1))) = some (r1, r2, r3) := by first | (rw [hy173]; with_reducible exact H) | (have H2_ := (Option.bind_some _ _).symm.trans H; rw [hy173]; with_reducible exact H2_) | (have H2_ := (Option.bind_some _ _).symm.trans H; with_reducible exact H2_) | with_reducible exact H | (rw [hy173]; exact H) | exact H
                               have Ny173 := zp.mk hy173
                               clear hy173
                               obtain ⟨y175, hy175⟩ : ∃ y_ : List (List Bool), y_ = (x6_6.set (x11_5 : Int).toNat y173) := ⟨_, rfl⟩
                               replace H : (spec_LatOf.l4 k6 a0 y175 x10_4 x11_5 (wrap64 (x12_6 + 1))) = some (r1, r2, r3) := by first | (rw [hy175]; with_reducible exact H) | (have H2_ := (Option.bind_some _ _).symm.trans H; rw [hy175]; with_reducible exact H2_) | (have H2_ := (Option.bind_some _ _).symm.trans H; with_reducible exact H2_) | with_reducible exact H | (rw [hy175]; exact H) | exact H
                               have Ny175 := zp.mk hy175
                               clear hy175
                               have H' := zp.mk H
                               clear H
                               try go_wp2
                               replace HO_6 := zp.mk (Kd.S_drew HO_6.out)
                               replace BK145 := zp.mk (zi BK145.out)
                               replace HB := zp.mk (zb HB.out)
                               obtain ⟨Ao84, co84, eo84⟩ := Kd.S_slice HO_6.out
                               (first | subst eo84 | (injection eo84 with f1_ f2_ f3_; have f4_ := f1_.symm; have f5_ := f3_.symm; clear f1_ f2_ f3_; subst f4_; subst f5_))
                               have p163 : 0 ≤ (x11_5 : Int) := of_decide_eq_true (by first | (with_reducible assumption) | assumption)
                               have q163 : x11_5 < (x6_6.length : Int) := of_decide_eq_true (by first | (with_reducible assumption) | assumption)
                               obtain ⟨ad163, A163_0, c163_0, e163, hx163_0, hl163_0, hi163_0⟩ := at_L5 (Kd.S_reads' HO_6.out).2.2 x11_5 p163 q163
                               cases e163
                               obtain ⟨ce163, hce163, hMe163, hcc163⟩ := Kd.S_get HO_6.out [] x11_5 p163 (by first | exact q163 | exact of_decide_eq_true (by first | (with_reducible assumption) | assumption) | (have e_ := (Kd.S_reads' HO_6.out).1; omega))
                               obtain ⟨ve163_0, rfl, ge163_0⟩ := hMe163
                               have hv163_0 := hcc163 0 _ rfl
                               rw [Nat.add_zero, show ((Kd.slice 4 Kd.bool)).sz = 1 from rfl, Nat.mul_one] at hv163_0
                               replace hv163_0 := Option.some.inj (hv163_0.symm.trans hx163_0)
                               rw [hv163_0] at ge163_0
                               have HL163_0 := zp.mk (show Kd.R Kd.bool 4 _ _ _ _ (rd_L5 x6_6 x11_5) from ge163_0)
                               clear hv163_0 ge163_0
                               have HX163_0 := zp.mk hx163_0
                               clear hcc163 hce163
                               have HR163_0 := zp.mk hi163_0
                               have HC163_0 := zp.mk hl163_0
                               clear hi163_0 hl163_0
                               replace p163 := eq_true p163
                               replace q163 := eq_true q163
                               have p164 : 0 ≤ (x11_5 : Int) := of_decide_eq_true (by first | (with_reducible assumption) | assumption)
                               have q164 : x11_5 < (x6_6.length : Int) := of_decide_eq_true (by first | (with_reducible assumption) | assumption)
                               obtain ⟨ad164, A164_0, c164_0, e164, hx164_0, hl164_0, hi164_0⟩ := at_L5 (Kd.S_reads' HO_6.out).2.2 x11_5 p164 q164
                               obtain rfl : ad163 = ad164 := (by injection e164)
                               obtain ⟨ce164, hce164, hMe164, hcc164⟩ := Kd.S_get HO_6.out [] x11_5 p164 (by first | exact q164 | exact of_decide_eq_true (by first | (with_reducible assumption) | assumption) | (have e_ := (Kd.S_reads' HO_6.out).1; omega))
                               obtain ⟨ve164_0, rfl, ge164_0⟩ := hMe164
                               have hv164_0 := hcc164 0 _ rfl
                               rw [Nat.add_zero, show ((Kd.slice 4 Kd.bool)).sz = 1 from rfl, Nat.mul_one] at hv164_0
                               replace hv164_0 := Option.some.inj (hv164_0.symm.trans hx164_0)
                               rw [hv164_0] at ge164_0
                               have HL164_0 := zp.mk (show Kd.R Kd.bool 4 _ _ _ _ (rd_L5 x6_6 x11_5) from ge164_0)
                               clear hv164_0 ge164_0
                               have HX164_0 := zp.mk hx164_0
                               clear hcc164 hce164
                               have HR164_0 := zp.mk hi164_0
                               have HC164_0 := zp.mk hl164_0
                               clear hi164_0 hl164_0
                               replace p164 := eq_true p164
                               replace q164 := eq_true q164
                               have ea_ := Option.some.inj (hx163_0.symm.trans hx164_0)
                               injection ea_ with ea_ en_ ec_
                               subst ea_
                               subst ec_
                               clear en_
                               have p165 : 0 ≤ (x12_6 : Int) := of_decide_eq_true (by first | (with_reducible assumption) | assumption)
                               have q165 : x12_6 < ((rd_L5 x6_6 x11_5).length : Int) := of_decide_eq_true (by first | (with_reducible assumption) | assumption)
                               obtain ⟨ad165, e165, hx165_0⟩ := Kd.at_bool (by repeat (first | (with_reducible exact HR164_0.out) | (with_reducible refine Kd.zr ?_ _) | (with_reducible refine Kd.zq ?_ _) | (with_reducible refine Kd.C_drew ?_) | exact HR164_0.out)) x12_6 p165 q165
                               (try rw [← Nbq69.out] at hx165_0)
                               (try rw [← Nbq78.out] at hx165_0)
                               cases e165
                               replace p165 := eq_true p165
                               replace q165 := eq_true q165
                               have p169 : 0 ≤ (x11_5 : Int) := of_decide_eq_true (by first | (with_reducible assumption) | assumption)
                               have q169 : x11_5 < (x6_6.length : Int) := of_decide_eq_true (by first | (with_reducible assumption) | assumption)
                               obtain ⟨ad169, A169_0, c169_0, e169, hx169_0, hl169_0, hi169_0⟩ := at_L5 (Kd.S_reads' HO_6.out).2.2 x11_5 p169 q169
                               obtain rfl : ad163 = ad169 := (by injection e169)
                               obtain ⟨ce169, hce169, hMe169, hcc169⟩ := Kd.S_get HO_6.out [] x11_5 p169 (by first | exact q169 | exact of_decide_eq_true (by first | (with_reducible assumption) | assumption) | (have e_ := (Kd.S_reads' HO_6.out).1; omega))
                               obtain ⟨ve169_0, rfl, ge169_0⟩ := hMe169
                               have hv169_0 := hcc169 0 _ rfl
                               rw [Nat.add_zero, show ((Kd.slice 4 Kd.bool)).sz = 1 from rfl, Nat.mul_one] at hv169_0
                               replace hv169_0 := Option.some.inj (hv169_0.symm.trans hx169_0)
                               rw [hv169_0] at ge169_0
                               have HL169_0 := zp.mk (show Kd.R Kd.bool 4 _ _ _ _ (rd_L5 x6_6 x11_5) from ge169_0)
                               clear hv169_0 ge169_0
                               have HX169_0 := zp.mk hx169_0
                               clear hcc169 hce169
                               have HR169_0 := zp.mk hi169_0
                               have HC169_0 := zp.mk hl169_0
                               clear hi169_0 hl169_0
                               replace p169 := eq_true p169
                               replace q169 := eq_true q169
                               have ea_ := Option.some.inj (hx163_0.symm.trans hx169_0)
                               injection ea_ with ea_ en_ ec_
                               subst ea_
                               subst ec_
                               clear en_
                               have p170 : 0 ≤ (x10_4 : Int) := of_decide_eq_true (by first | (with_reducible assumption) | assumption)
                               have q170 : x10_4 < ((rd_L5 x6_6 x11_5).length : Int) := of_decide_eq_true (by first | (with_reducible assumption) | assumption)
                               obtain ⟨ad170, e170, hx170_0⟩ := Kd.at_bool (by repeat (first | (with_reducible exact HR169_0.out) | (with_reducible refine Kd.zr ?_ _) | (with_reducible refine Kd.zq ?_ _) | (with_reducible refine Kd.C_drew ?_) | exact HR169_0.out)) x10_4 p170 q170
                               (try rw [← Nbq69.out] at hx170_0)
                               (try rw [← Nbq78.out] at hx170_0)
                               cases e170
                               replace p170 := eq_true p170
                               replace q170 := eq_true q170
                               have p171 : 0 ≤ (x10_4 : Int) := of_decide_eq_true (by first | (with_reducible assumption) | assumption)
                               have q171 : x10_4 < (x6_6.length : Int) := of_decide_eq_true (by first | (with_reducible assumption) | assumption)
                               obtain ⟨ad171, A171_0, c171_0, e171, hx171_0, hl171_0, hi171_0⟩ := at_L5 (Kd.S_reads' HO_6.out).2.2 x10_4 p171 q171
                               obtain rfl : ad163 = ad171 := (by injection e171)
                               obtain ⟨ce171, hce171, hMe171, hcc171⟩ := Kd.S_get HO_6.out [] x10_4 p171 (by first | exact q171 | exact of_decide_eq_true (by first | (with_reducible assumption) | assumption) | (have e_ := (Kd.S_reads' HO_6.out).1; omega))
                               obtain ⟨ve171_0, rfl, ge171_0⟩ := hMe171
                               have hv171_0 := hcc171 0 _ rfl
                               rw [Nat.add_zero, show ((Kd.slice 4 Kd.bool)).sz = 1 from rfl, Nat.mul_one] at hv171_0
                               replace hv171_0 := Option.some.inj (hv171_0.symm.trans hx171_0)
                               rw [hv171_0] at ge171_0
                               have HL171_0 := zp.mk (show Kd.R Kd.bool 4 _ _ _ _ (rd_L5 x6_6 x10_4) from ge171_0)
                               clear hv171_0 ge171_0
                               have HX171_0 := zp.mk hx171_0
                               clear hcc171 hce171
                               have HR171_0 := zp.mk hi171_0
                               have HC171_0 := zp.mk hl171_0
                               clear hi171_0 hl171_0
                               replace p171 := eq_true p171
                               replace q171 := eq_true q171
                               have p172 : 0 ≤ (x12_6 : Int) := of_decide_eq_true (by first | (with_reducible assumption) | assumption)
                               have q172 : x12_6 < ((rd_L5 x6_6 x10_4).length : Int) := of_decide_eq_true (by first | (with_reducible assumption) | assumption)
                               obtain ⟨ad172, e172, hx172_0⟩ := Kd.at_bool (by repeat (first | (with_reducible exact HR171_0.out) | (with_reducible refine Kd.zr ?_ _) | (with_reducible refine Kd.zq ?_ _) | (with_reducible refine Kd.C_drew ?_) | exact HR171_0.out)) x12_6 p172 q172
                               (try rw [← Nbq69.out] at hx172_0)
                               (try rw [← Nbq78.out] at hx172_0)
                               cases e172
                               replace p172 := eq_true p172
                               replace q172 := eq_true q172
                               have p82 : 0 ≤ (x12_6 : Int) := of_decide_eq_true (by first | (with_reducible assumption) | assumption)
                               have q82 : (x12_6 : Int) < (((rd_L5 x6_6 x11_5).length : Int) : Int) := of_decide_eq_true (by first | (with_reducible assumption) | assumption)
                               obtain ⟨go82, co82, eo82, gb82, gl82, cl82, HG82⟩ := Kd.R_form HL163_0.out (by omega)
                               (first | cases eo82 | (injection eo82 with ea_ en_ ec_; (first | subst ea_ | (injection ea_ with ea_; subst ea_)); subst ec_; clear en_))
                               (try simp only [add_plain] at hx170_0)
                               (try simp only [add_plain] at hx165_0)
                               have GB82 := zp.mk gb82
                               have GG82 := zp.mk HG82
                               clear gb82 gl82 HG82
                               (first | simp only [add_plain] at hx170_0 | skip)
                               obtain ⟨hx82_0, hf82_0⟩ := Kd.R_celln false HL163_0.out (x12_6 : Int) p82 q82
                               replace p82 := eq_true p82
                               replace q82 := eq_true q82
                               have hq85 : (x11_5 : Int) < (x6_6.length : Int) := (by have h_ : (x11_5 : Int) < ((x6_6.length : Int) : Int) := of_decide_eq_true (by first | (with_reducible assumption) | assumption); first | exact h_ | (have e_ := (Kd.S_reads' HO_6.out).1; omega) | simpa only [List.length_set, List.length_set] using h_)
                               obtain ⟨oki85, ce85, hcl85, hM85, hcc85, hok85, hbk85⟩ := Kd.S_borrow HO_6.out [] (x11_5 : Int) (of_decide_eq_true (by first | (with_reducible assumption) | assumption)) (by first | exact hq85 | (have e_ := (Kd.S_reads' HO_6.out).1; omega))
                               obtain ⟨ve85_0, rfl, ge85_0⟩ := hM85
                               have hv85 := hcc85 0 _ rfl
                               rw [Nat.add_zero, show ((Kd.slice 4 Kd.bool)).sz = 1 from rfl, Nat.mul_one] at hv85
                               replace hv85 := Option.some.inj (hv85.symm.trans HX163_0.out)
                               subst hv85
                               clear hcc85 hcl85
                               replace ge85_0 := (show Kd.R Kd.bool 4 _ _ _ _ (rd_L5 x6_6 x11_5) from ge85_0)
                               have HP85 := Kd.R_putg ge85_0 (x12_6 : Int) (rdOf false (rd_L5 x6_6 x10_4) x12_6)
                               rw [← Ny173.out] at HP85
                               have HS85 := hbk85 HP85.2 (fun k_ e_ => by injection e_ with e_; subst e_; exact ge85_0.1 _ rfl) (x' := y173) (Kd.M_row HP85.1)
                               rw [← Ny175.out] at HS85
                               have HQ85 := zp.mk HS85
                               clear HP85 HS85 hbk85 hok85
                               refine start_ (n := 32) (S := fun w' => w'.cell? (ad163.add (x11_5).toNat) = some (.slice (some ⟨go82, 0, none⟩) (rd_L5 x6_6 x11_5).length c163_0) ∧ w'.cell? (ad163.add (x11_5).toNat) = some (.slice (some ⟨go82, 0, none⟩) (rd_L5 x6_6 x11_5).length c163_0) ∧ w'.cell? ⟨go82, (x12_6).toNat, none⟩ = some (.bool false) ∧ w'.cell? (ad163.add (x11_5).toNat) = some (.slice (some ⟨go82, 0, none⟩) (rd_L5 x6_6 x11_5).length c163_0) ∧ w'.cell? ⟨go82, (x10_4).toNat, none⟩ = some (.bool true) ∧ w'.cell? (ad163.add (x10_4).toNat) = some (.slice (some ad172) (rd_L5 x6_6 x10_4).length c171_0) ∧ w'.cell? (ad172.add (x12_6).toNat) = some (.bool (rdOf false (rd_L5 x6_6 x10_4) x12_6))) (ds := [31]) #[false, false, false, false, false, false, false, false, false, false, false, false, false, false, false, false, false, false, false, false, false, false, false, false, false, false, false, false, false, false, false, false] (by kernel_rfl) rfl rfl ⟨hx163_0, hx164_0, hx165_0, hx169_0, hx170_0, hx171_0, hx172_0⟩ (fun hHeld => ?_); refine with_tabW spec_LatOf.tab25 spec_LatOf.bits25 (fun HT_ HW_ => ?_)
                               generalize wr.drew = w83 at HO_6 BK145 HB GG82 HL163_0 HL164_0 HL169_0 HL171_0 HQ85 HR163_0 HR164_0 HR169_0 HR171_0 HX163_0 HX164_0 HX169_0 HX171_0 hf82_0 hx163_0 hx164_0 hx165_0 hx169_0 hx170_0 hx171_0 hx172_0 hx82_0 hHeld ⊢
                               refine pure_ (i := 0) (N := some 101) (v := ?_) (a' := ?_) #[true, false, false, false, false, false, false, false, false, false, false, false, false, false, false, false, false, false, false, false, false, false, false, false, false, false, false, false, false, false, false, false] rfl rfl (any_of HT_.out (by kernel_rfl)) (fun _ _ _ h => h) (Or.inl ⟨by rfl, ?_⟩) ?_ ?_
                               rotate_left
                               ·intro w'
                                go_simp
                                with_reducible rfl
                               rotate_left
                               ·simp only [Act.put, zs1, zs2, zs3, i64_w, i32_w]
                                rfl
                               refine pure_ (i := 1) (N := some 102) (v := ?_) (a' := ?_) #[true, true, false, false, false, false, false, false, false, false, false, false, false, false, false, false, false, false, false, false, false, false, false, false, false, false, false, false, false, false, false, false] rfl rfl (any_of HT_.out (by kernel_rfl)) (fun _ _ _ h => h) (Or.inl ⟨by rfl, ?_⟩) ?_ ?_
                               rotate_left
                               ·intro w'
                                go_simp
                                with_reducible rfl
                               rotate_left
                               ·simp only [Act.put, zs1, zs2, zs3, i64_w, i32_w]
                                rfl
                               refine pure_ (i := 2) (N := some 103) (v := ?_) (a' := ?_) #[true, true, true, false, false, false, false, false, false, false, false, false, false, false, false, false, false, false, false, false, false, false, false, false, false, false, false, false, false, false, false, false] rfl rfl (any_of HT_.out (by kernel_rfl)) (fun _ _ _ h => h) (Or.inl ⟨by rfl, ?_⟩) ?_ ?_
                               rotate_left
                               ·intro w'
                                go_simp
                                with_reducible rfl
                               rotate_left
                               ·simp only [Act.put, zs1, zs2, zs3, i64_w, i32_w]
                                rfl
                               refine pure_ (i := 4) (N := some 105) (v := ?_) (a' := ?_) #[true, true, true, false, true, false, false, false, false, false, false, false, false, false, false, false, false, false, false, false, false, false, false, false, false, false, false, false, false, false, false, false] rfl rfl (any_of HT_.out (by kernel_rfl)) (fun _ _ _ h => h) (Or.inl ⟨by rfl, ?_⟩) ?_ ?_
                               rotate_left
                               ·intro w'
                                go_simp
                                with_reducible rfl
                               rotate_left
                               ·simp only [Act.put, zs1, zs2, zs3, i64_w, i32_w]
                                rfl
                               refine pure_ (i := 5) (N := some 106) (v := ?_) (a' := ?_) #[true, true, true, false, true, true, false, false, false, false, false, false, false, false, false, false, false, false, false, false, false, false, false, false, false, false, false, false, false, false, false, false] rfl rfl (any_of HT_.out (by kernel_rfl)) (fun _ _ _ h => h) (Or.inl ⟨by rfl, ?_⟩) ?_ ?_
                               rotate_left
                               ·intro w'
                                go_simp
                                with_reducible rfl
                               rotate_left
                               ·simp only [Act.put, zs1, zs2, zs3, i64_w, i32_w]
                                rfl
                               refine pure_ (i := 6) (N := some 107) (v := ?_) (a' := ?_) #[true, true, true, false, true, true, true, false, false, false, false, false, false, false, false, false, false, false, false, false, false, false, false, false, false, false, false, false, false, false, false, false] rfl rfl (any_of HT_.out (by kernel_rfl)) (fun _ _ _ h => h) (Or.inl ⟨by rfl, ?_⟩) ?_ ?_
                               rotate_left
                               ·intro w'
                                go_simp
                                with_reducible rfl
                               rotate_left
                               ·simp only [Act.put, zs1, zs2, zs3, i64_w, i32_w]
                                rfl
                               refine pure_ (i := 7) (N := some 108) (v := ?_) (a' := ?_) #[true, true, true, false, true, true, true, true, false, false, false, false, false, false, false, false, false, false, false, false, false, false, false, false, false, false, false, false, false, false, false, false] rfl rfl (any_of HT_.out (by kernel_rfl)) (fun _ _ _ h => h) (Or.inl ⟨by rfl, ?_⟩) ?_ ?_
                               rotate_left
                               ·intro w'
                                go_simp
                                with_reducible rfl
                               rotate_left
                               ·simp only [Act.put, zs1, zs2, zs3, i64_w, i32_w]
                                rfl
                               refine pure_ (i := 9) (N := some 110) (v := ?_) (a' := ?_) #[true, true, true, false, true, true, true, true, false, true, false, false, false, false, false, false, false, false, false, false, false, false, false, false, false, false, false, false, false, false, false, false] rfl rfl (any_of HT_.out (by kernel_rfl)) (fun _ _ _ h => h) (Or.inl ⟨by rfl, ?_⟩) ?_ ?_
                               rotate_left
                               ·intro w'
                                go_simp
                                with_reducible rfl
                               rotate_left
                               ·simp only [Act.put, zs1, zs2, zs3, i64_w, i32_w]
                                rfl
                               refine take_ (i := 3) (N := some 104) (v := ?_) (a' := ?_) #[true, true, true, true, true, true, true, true, false, true, false, false, false, false, false, false, false, false, false, false, false, false, false, false, false, false, false, false, false, false, false, false] rfl rfl (take_ofW HT_.out HW_.out (by kernel_rfl)) (fun _ _ _ h => h) (Or.inl ⟨by rfl, ?_⟩) hHeld ?_ ?_
                               rotate_left
                               ·rintro w' ⟨s0, s1, s2, s3, s4, s5, s6⟩
                                go_simp
                                with_reducible rfl
                               rotate_left
                               ·simp only [Act.put, zs1, zs2, zs3, i64_w, i32_w]
                                rfl
                               refine take_ (i := 8) (N := some 109) (v := ?_) (a' := ?_) #[true, true, true, true, true, true, true, true, true, true, false, false, false, false, false, false, false, false, false, false, false, false, false, false, false, false, false, false, false, false, false, false] rfl rfl (take_ofW HT_.out HW_.out (by kernel_rfl)) (fun _ _ _ h => h) (Or.inl ⟨by rfl, ?_⟩) hHeld ?_ ?_
                               rotate_left
                               ·rintro w' ⟨s0, s1, s2, s3, s4, s5, s6⟩
                                go_simp
                                with_reducible rfl
                               rotate_left
                               ·simp only [Act.put, zs1, zs2, zs3, i64_w, i32_w]
                                rfl
                               refine pure_ (i := 10) (N := some 111) (v := ?_) (a' := ?_) #[true, true, true, true, true, true, true, true, true, true, true, false, false, false, false, false, false, false, false, false, false, false, false, false, false, false, false, false, false, false, false, false] rfl rfl (any_of HT_.out (by kernel_rfl)) (fun _ _ _ h => h) (Or.inl ⟨by rfl, ?_⟩) ?_ ?_
                               rotate_left
                               ·intro w'
                                go_simp
                                with_reducible rfl
                               rotate_left
                               ·simp only [Act.put, zs1, zs2, zs3, i64_w, i32_w]
                                rfl
                               refine take_ (i := 11) (N := some 112) (v := ?_) (a' := ?_) #[true, true, true, true, true, true, true, true, true, true, true, true, false, false, false, false, false, false, false, false, false, false, false, false, false, false, false, false, false, false, false, false] rfl rfl (take_ofW HT_.out HW_.out (by kernel_rfl)) (fun _ _ _ h => h) (Or.inl ⟨by rfl, ?_⟩) hHeld ?_ ?_
                               rotate_left
                               ·rintro w' ⟨s0, s1, s2, s3, s4, s5, s6⟩
                                go_simp
                                with_reducible rfl
                               rotate_left
                               ·simp only [Act.put, zs1, zs2, zs3, i64_w, i32_w]
                                rfl
                               refine pure_ (i := 12) (N := some 113) (v := ?_) (a' := ?_) #[true, true, true, true, true, true, true, true, true, true, true, true, true, false, false, false, false, false, false, false, false, false, false, false, false, false, false, false, false, false, false, false] rfl rfl (any_of HT_.out (by kernel_rfl)) (fun _ _ _ h => h) (Or.inl ⟨by rfl, ?_⟩) ?_ ?_
                               rotate_left
                               ·intro w'
                                go_simp
                                with_reducible rfl
                               rotate_left
                               ·simp only [Act.put, zs1, zs2, zs3, i64_w, i32_w]
                                rfl
                               refine pure_ (i := 13) (N := some 114) (v := ?_) (a' := ?_) #[true, true, true, true, true, true, true, true, true, true, true, true, true, true, false, false, false, false, false, false, false, false, false, false, false, false, false, false, false, false, false, false] rfl rfl (any_of HT_.out (by kernel_rfl)) (fun _ _ _ h => h) (Or.inl ⟨by rfl, ?_⟩) ?_ ?_
                               rotate_left
                               ·intro w'
                                go_simp
                                with_reducible rfl
                               rotate_left
                               ·simp only [Act.put, zs1, zs2, zs3, i64_w, i32_w]
                                rfl
                               refine pure_ (i := 14) (N := some 115) (v := ?_) (a' := ?_) #[true, true, true, true, true, true, true, true, true, true, true, true, true, true, true, false, false, false, false, false, false, false, false, false, false, false, false, false, false, false, false, false] rfl rfl (any_of HT_.out (by kernel_rfl)) (fun _ _ _ h => h) (Or.inl ⟨by rfl, ?_⟩) ?_ ?_
                               rotate_left
                               ·intro w'
                                go_simp
                                with_reducible rfl
                               rotate_left
                               ·simp only [Act.put, zs1, zs2, zs3, i64_w, i32_w]
                                rfl
                               refine pure_ (i := 15) (N := some 116) (v := ?_) (a' := ?_) #[true, true, true, true, true, true, true, true, true, true, true, true, true, true, true, true, false, false, false, false, false, false, false, false, false, false, false, false, false, false, false, false] rfl rfl (any_of HT_.out (by kernel_rfl)) (fun _ _ _ h => h) (Or.inl ⟨by rfl, ?_⟩) ?_ ?_
                               rotate_left
                               ·intro w'
                                go_simp
                                with_reducible rfl
                               rotate_left
                               ·simp only [Act.put, zs1, zs2, zs3, i64_w, i32_w]
                                rfl
                               refine pure_ (i := 17) (N := some 118) (v := ?_) (a' := ?_) #[true, true, true, true, true, true, true, true, true, true, true, true, true, true, true, true, false, true, false, false, false, false, false, false, false, false, false, false, false, false, false, false] rfl rfl (any_of HT_.out (by kernel_rfl)) (fun _ _ _ h => h) (Or.inl ⟨by rfl, ?_⟩) ?_ ?_
                               rotate_left
                               ·intro w'
                                go_simp
                                with_reducible rfl
                               rotate_left
                               ·simp only [Act.put, zs1, zs2, zs3, i64_w, i32_w]
                                rfl
                               refine take_ (i := 16) (N := some 117) (v := ?_) (a' := ?_) #[true, true, true, true, true, true, true, true, true, true, true, true, true, true, true, true, true, true, false, false, false, false, false, false, false, false, false, false, false, false, false, false] rfl rfl (take_ofW HT_.out HW_.out (by kernel_rfl)) (fun _ _ _ h => h) (Or.inl ⟨by rfl, ?_⟩) hHeld ?_ ?_
                               rotate_left
                               ·rintro w' ⟨s0, s1, s2, s3, s4, s5, s6⟩
                                go_simp
                                with_reducible rfl
                               rotate_left
                               ·simp only [Act.put, zs1, zs2, zs3, i64_w, i32_w]
                                rfl
                               refine pure_ (i := 18) (N := some 119) (v := ?_) (a' := ?_) #[true, true, true, true, true, true, true, true, true, true, true, true, true, true, true, true, true, true, true, false, false, false, false, false, false, false, false, false, false, false, false, false] rfl rfl (any_of HT_.out (by kernel_rfl)) (fun _ _ _ h => h) (Or.inl ⟨by rfl, ?_⟩) ?_ ?_
                               rotate_left
                               ·intro w'
                                go_simp
                                with_reducible rfl
                               rotate_left
                               ·simp only [Act.put, zs1, zs2, zs3, i64_w, i32_w]
                                rfl
                               refine take_ (i := 19) (N := some 120) (v := ?_) (a' := ?_) #[true, true, true, true, true, true, true, true, true, true, true, true, true, true, true, true, true, true, true, true, false, false, false, false, false, false, false, false, false, false, false, false] rfl rfl (take_ofW HT_.out HW_.out (by kernel_rfl)) (fun _ _ _ h => h) (Or.inl ⟨by rfl, ?_⟩) hHeld ?_ ?_
                               rotate_left
                               ·rintro w' ⟨s0, s1, s2, s3, s4, s5, s6⟩
                                go_simp
                                with_reducible rfl
                               rotate_left
                               ·simp only [Act.put, zs1, zs2, zs3, i64_w, i32_w]
                                rfl
                               refine pure_ (i := 20) (N := some 121) (v := ?_) (a' := ?_) #[true, true, true, true, true, true, true, true, true, true, true, true, true, true, true, true, true, true, true, true, true, false, false, false, false, false, false, false, false, false, false, false] rfl rfl (any_of HT_.out (by kernel_rfl)) (fun _ _ _ h => h) (Or.inl ⟨by rfl, ?_⟩) ?_ ?_
                               rotate_left
                               ·intro w'
                                go_simp
                                with_reducible rfl
                               rotate_left
                               ·simp only [Act.put, zs1, zs2, zs3, i64_w, i32_w]
                                rfl
                               refine pure_ (i := 21) (N := some 122) (v := ?_) (a' := ?_) #[true, true, true, true, true, true, true, true, true, true, true, true, true, true, true, true, true, true, true, true, true, true, false, false, false, false, false, false, false, false, false, false] rfl rfl (any_of HT_.out (by kernel_rfl)) (fun _ _ _ h => h) (Or.inl ⟨by rfl, ?_⟩) ?_ ?_
                               rotate_left
                               ·intro w'
                                go_simp
                                with_reducible rfl
                               rotate_left
                               ·simp only [Act.put, zs1, zs2, zs3, i64_w, i32_w]
                                rfl
                               refine pure_ (i := 22) (N := some 123) (v := ?_) (a' := ?_) #[true, true, true, true, true, true, true, true, true, true, true, true, true, true, true, true, true, true, true, true, true, true, true, false, false, false, false, false, false, false, false, false] rfl rfl (any_of HT_.out (by kernel_rfl)) (fun _ _ _ h => h) (Or.inl ⟨by rfl, ?_⟩) ?_ ?_
                               rotate_left
                               ·intro w'
                                go_simp
                                with_reducible rfl
                               rotate_left
                               ·simp only [Act.put, zs1, zs2, zs3, i64_w, i32_w]
                                rfl
                               refine pure_ (i := 23) (N := some 124) (v := ?_) (a' := ?_) #[true, true, true, true, true, true, true, true, true, true, true, true, true, true, true, true, true, true, true, true, true, true, true, true, false, false, false, false, false, false, false, false] rfl rfl (any_of HT_.out (by kernel_rfl)) (fun _ _ _ h => h) (Or.inl ⟨by rfl, ?_⟩) ?_ ?_
                               rotate_left
                               ·intro w'
                                go_simp
                                with_reducible rfl
                               rotate_left
                               ·simp only [Act.put, zs1, zs2, zs3, i64_w, i32_w]
                                rfl
                               refine pure_ (i := 25) (N := some 126) (v := ?_) (a' := ?_) #[true, true, true, true, true, true, true, true, true, true, true, true, true, true, true, true, true, true, true, true, true, true, true, true, false, true, false, false, false, false, false, false] rfl rfl (any_of HT_.out (by kernel_rfl)) (fun _ _ _ h => h) (Or.inl ⟨by rfl, ?_⟩) ?_ ?_
                               rotate_left
                               ·intro w'
                                go_simp
                                with_reducible rfl
                               rotate_left
                               ·simp only [Act.put, zs1, zs2, zs3, i64_w, i32_w]
                                rfl
                               refine take_ (i := 24) (N := some 125) (v := ?_) (a' := ?_) #[true, true, true, true, true, true, true, true, true, true, true, true, true, true, true, true, true, true, true, true, true, true, true, true, true, true, false, false, false, false, false, false] rfl rfl (take_ofW HT_.out HW_.out (by kernel_rfl)) (fun _ _ _ h => h) (Or.inl ⟨by rfl, ?_⟩) hHeld ?_ ?_
                               rotate_left
                               ·rintro w' ⟨s0, s1, s2, s3, s4, s5, s6⟩
                                go_simp
                                with_reducible rfl
                               rotate_left
                               ·simp only [Act.put, zs1, zs2, zs3, i64_w, i32_w]
                                rfl
                               refine pure_ (i := 26) (N := some 127) (v := ?_) (a' := ?_) #[true, true, true, true, true, true, true, true, true, true, true, true, true, true, true, true, true, true, true, true, true, true, true, true, true, true, true, false, false, false, false, false] rfl rfl (any_of HT_.out (by kernel_rfl)) (fun _ _ _ h => h) (Or.inl ⟨by rfl, ?_⟩) ?_ ?_
                               rotate_left
                               ·intro w'
                                go_simp
                                with_reducible rfl
                               rotate_left
                               ·simp only [Act.put, zs1, zs2, zs3, i64_w, i32_w]
                                rfl
                               refine take_ (i := 27) (N := some 128) (v := ?_) (a' := ?_) #[true, true, true, true, true, true, true, true, true, true, true, true, true, true, true, true, true, true, true, true, true, true, true, true, true, true, true, true, false, false, false, false] rfl rfl (take_ofW HT_.out HW_.out (by kernel_rfl)) (fun _ _ _ h => h) (Or.inl ⟨by rfl, ?_⟩) hHeld ?_ ?_
                               rotate_left
                               ·rintro w' ⟨s0, s1, s2, s3, s4, s5, s6⟩
                                go_simp
                                with_reducible rfl
                               rotate_left
                               ·simp only [Act.put, zs1, zs2, zs3, i64_w, i32_w]
                                rfl
                               refine pure_ (i := 28) (N := some 129) (v := ?_) (a' := ?_) #[true, true, true, true, true, true, true, true, true, true, true, true, true, true, true, true, true, true, true, true, true, true, true, true, true, true, true, true, true, false, false, false] rfl rfl (any_of HT_.out (by kernel_rfl)) (fun _ _ _ h => h) (Or.inl ⟨by rfl, ?_⟩) ?_ ?_
                               rotate_left
                               ·intro w'
                                go_simp
                                with_reducible rfl
                               rotate_left
                               ·simp only [Act.put, zs1, zs2, zs3, i64_w, i32_w]
                                rfl
                               refine pure_ (i := 29) (N := some 130) (v := ?_) (a' := ?_) #[true, true, true, true, true, true, true, true, true, true, true, true, true, true, true, true, true, true, true, true, true, true, true, true, true, true, true, true, true, true, false, false] rfl rfl (any_of HT_.out (by kernel_rfl)) (fun _ _ _ h => h) (Or.inl ⟨by rfl, ?_⟩) ?_ ?_
                               rotate_left
                               ·intro w'
                                go_simp
                                with_reducible rfl
                               rotate_left
                               ·simp only [Act.put, zs1, zs2, zs3, i64_w, i32_w]
                                rfl
                               refine pure_ (i := 30) (N := some 131) (v := ?_) (a' := ?_) #[true, true, true, true, true, true, true, true, true, true, true, true, true, true, true, true, true, true, true, true, true, true, true, true, true, true, true, true, true, true, true, false] rfl rfl (any_of HT_.out (by kernel_rfl)) (fun _ _ _ h => h) (Or.inl ⟨by rfl, ?_⟩) ?_ ?_
                               rotate_left
                               ·intro w'
                                go_simp
                                with_reducible rfl
                               rotate_left
                               ·simp only [Act.put, zs1, zs2, zs3, i64_w, i32_w]
                                rfl
                               refine last_ (i := 31) (N := none) #[true, true, true, true, true, true, true, true, true, true, true, true, true, true, true, true, true, true, true, true, true, true, true, true, true, true, true, true, true, true, true, true] rfl rfl (one_of HT_.out (by kernel_rfl)) (by decide) (fun K hK => ?_)
                               refine skip_ (w1 := ?_) (by rfl) rfl ?_ ?_
                               rotate_left
                               ·go_simp
                                rfl
                               refine hK.out _ _ ?_
                               clear hK K
                               refine done_ (done_of HT_.out (by kernel_rfl)) ?_
                               try go_wp2
                               go_roundg k6
                               case measure => have := HJ2.out; have := HK2.out; have := HK3.out; have := HK4.out; have := HK5.out; have := HK6.out; omega
                               case rel => exact ⟨(y175), (wrap64 (x12_6 + 1)), (by first | rfl | (simp; done) | (simp [*]; done)), H', ⟨by have := HJ2.out; have := HK2.out; have := HK3.out; have := HK4.out; have := HK5.out; have := HK6.out; omega⟩, ⟨by (with_reducible repeat (first | apply Kd.S_alloc | apply Kd.S_drewN | apply Kd.S_drew)); exact HQ85.out⟩, ⟨by (with_reducible repeat (first | refine zf ?_ _ | refine zi ?_ | refine zg ?_ _)); refine blk_far ?_ (by have h_ := Kd.R_ne HL163_0.out BK145.out (by decide); intro e_; exact h_ (by rw [e_]; rfl)) _; (with_reducible repeat (first | refine zf ?_ _ | refine zi ?_ | refine zg ?_ _)); exact BK145.out⟩, ⟨by repeat (first | (with_reducible first | exact HB.out | apply zc | apply za | apply zb | refine zh ?_ GB82.out | refine zh ?_ GE145.out) | exact HB.out)⟩⟩
                              ·rw [if_neg c81] at H
                               exact absurd H (by simp)
                             ·rw [if_neg c80] at H
                              exact absurd H (by simp)
                            ·replace c79 := Bool.eq_false_iff.mpr c79
                             subst c79
                             have H1 : (spec_LatOf.l4 k6 a0 (x6_6.set (x11_5 : Int).toNat ((rd_L5 x6_6 x11_5).set (x12_6 : Int).toNat false)) x10_4 x11_5 (wrap64 (x12_6 + 1))) = some (r1, r2, r3) := by rw [if_neg (show ¬ (false = true) by decide)] at H; exact H
                             clear H
                             have H := H1
                             clear H1
                             obtain ⟨y176, hy176⟩ : ∃ y_ : List Bool, y_ = ((rd_L5 x6_6 x11_5).set (x12_6 : Int).toNat false) := ⟨_, rfl⟩
                             replace H : (spec_LatOf.l4 k6 a0 (x6_6.set (x11_5 : Int).toNat y176) x10_4 x11_5 (wrap64 (x12_6 + 1))) = some (r1, r2, r3) := by first | (rw [hy176]; with_reducible exact H) | (have H2_ := (Option.bind_some _ _).symm.trans H; rw [hy176]; with_reducible exact H2_) | (have H2_ := (Option.bind_some _ _).symm.trans H; with_reducible exact H2_) | with_reducible exact H | (rw [hy176]; exact H) | exact H
                             have Ny176 := zp.mk hy176
                             clear hy176
                             obtain ⟨y178, hy178⟩ : ∃ y_ : List (List Bool), y_ = (x6_6.set (x11_5 : Int).toNat y176) := ⟨_, rfl⟩
                             replace H : (spec_LatOf.l4 k6 a0 y178 x10_4 x11_5 (wrap64 (x12_6 + 1))) = some (r1, r2, r3) := by first | (rw [hy178]; with_reducible exact H) | (have H2_ := (Option.bind_some _ _).symm.trans H; rw [hy178]; with_reducible exact H2_) | (have H2_ := (Option.bind_some _ _).symm.trans H; with_reducible exact H2_) | with_reducible exact H | (rw [hy178]; exact H) | exact H
                             have Ny178 := zp.mk hy178
                             clear hy178
                             have H' := zp.mk H
                             clear H
                             try go_wp2
                             replace HO_6 := zp.mk (Kd.S_drew HO_6.out)
                             replace BK145 := zp.mk (zi BK145.out)
                             replace HB := zp.mk (zb HB.out)
                             obtain ⟨Ao89, co89, eo89⟩ := Kd.S_slice HO_6.out
                             (first | subst eo89 | (injection eo89 with f1_ f2_ f3_; have f4_ := f1_.symm; have f5_ := f3_.symm; clear f1_ f2_ f3_; subst f4_; subst f5_))
                             have p163 : 0 ≤ (x11_5 : Int) := of_decide_eq_true (by first | (with_reducible assumption) | assumption)
                             have q163 : x11_5 < (x6_6.length : Int) := of_decide_eq_true (by first | (with_reducible assumption) | assumption)
                             obtain ⟨ad163, A163_0, c163_0, e163, hx163_0, hl163_0, hi163_0⟩ := at_L5 (Kd.S_reads' HO_6.out).2.2 x11_5 p163 q163
                             cases e163
                             obtain ⟨ce163, hce163, hMe163, hcc163⟩ := Kd.S_get HO_6.out [] x11_5 p163 (by first | exact q163 | exact of_decide_eq_true (by first | (with_reducible assumption) | assumption) | (have e_ := (Kd.S_reads' HO_6.out).1; omega))
                             obtain ⟨ve163_0, rfl, ge163_0⟩ := hMe163
                             have hv163_0 := hcc163 0 _ rfl
                             rw [Nat.add_zero, show ((Kd.slice 4 Kd.bool)).sz = 1 from rfl, Nat.mul_one] at hv163_0
                             replace hv163_0 := Option.some.inj (hv163_0.symm.trans hx163_0)
                             rw [hv163_0] at ge163_0
                             have HL163_0 := zp.mk (show Kd.R Kd.bool 4 _ _ _ _ (rd_L5 x6_6 x11_5) from ge163_0)
                             clear hv163_0 ge163_0
                             have HX163_0 := zp.mk hx163_0
                             clear hcc163 hce163
                             have HR163_0 := zp.mk hi163_0
                             have HC163_0 := zp.mk hl163_0
                             clear hi163_0 hl163_0
                             replace p163 := eq_true p163
                             replace q163 := eq_true q163
                             have p164 : 0 ≤ (x11_5 : Int) := of_decide_eq_true (by first | (with_reducible assumption) | assumption)
                             have q164 : x11_5 < (x6_6.length : Int) := of_decide_eq_true (by first | (with_reducible assumption) | assumption)
                             obtain ⟨ad164, A164_0, c164_0, e164, hx164_0, hl164_0, hi164_0⟩ := at_L5 (Kd.S_reads' HO_6.out).2.2 x11_5 p164 q164
                             obtain rfl : ad163 = ad164 := (by injection e164)
                             obtain ⟨ce164, hce164, hMe164, hcc164⟩ := Kd.S_get HO_6.out [] x11_5 p164 (by first | exact q164 | exact of_decide_eq_true (by first | (with_reducible assumption) | assumption) | (have e_ := (Kd.S_reads' HO_6.out).1; omega))
                             obtain ⟨ve164_0, rfl, ge164_0⟩ := hMe164
                             have hv164_0 := hcc164 0 _ rfl
                             rw [Nat.add_zero, show ((Kd.slice 4 Kd.bool)).sz = 1 from rfl, Nat.mul_one] at hv164_0
                             replace hv164_0 := Option.some.inj (hv164_0.symm.trans hx164_0)
                             rw [hv164_0] at ge164_0
                             have HL164_0 := zp.mk (show Kd.R Kd.bool 4 _ _ _ _ (rd_L5 x6_6 x11_5) from ge164_0)
                             clear hv164_0 ge164_0
                             have HX164_0 := zp.mk hx164_0
                             clear hcc164 hce164
                             have HR164_0 := zp.mk hi164_0
                             have HC164_0 := zp.mk hl164_0
                             clear hi164_0 hl164_0
                             replace p164 := eq_true p164
                             replace q164 := eq_true q164
                             have ea_ := Option.some.inj (hx163_0.symm.trans hx164_0)
                             injection ea_ with ea_ en_ ec_
                             subst ea_
                             subst ec_
                             clear en_
                             have p165 : 0 ≤ (x12_6 : Int) := of_decide_eq_true (by first | (with_reducible assumption) | assumption)
                             have q165 : x12_6 < ((rd_L5 x6_6 x11_5).length : Int) := of_decide_eq_true (by first | (with_reducible assumption) | assumption)
                             obtain ⟨ad165, e165, hx165_0⟩ := Kd.at_bool (by repeat (first | (with_reducible exact HR164_0.out) | (with_reducible refine Kd.zr ?_ _) | (with_reducible refine Kd.zq ?_ _) | (with_reducible refine Kd.C_drew ?_) | exact HR164_0.out)) x12_6 p165 q165
                             (try rw [← Nbq69.out] at hx165_0)
                             (try rw [← Nbq78.out] at hx165_0)
                             cases e165
                             replace p165 := eq_true p165
                             replace q165 := eq_true q165
                             have p169 : 0 ≤ (x11_5 : Int) := of_decide_eq_true (by first | (with_reducible assumption) | assumption)
                             have q169 : x11_5 < (x6_6.length : Int) := of_decide_eq_true (by first | (with_reducible assumption) | assumption)
                             obtain ⟨ad169, A169_0, c169_0, e169, hx169_0, hl169_0, hi169_0⟩ := at_L5 (Kd.S_reads' HO_6.out).2.2 x11_5 p169 q169
                             obtain rfl : ad163 = ad169 := (by injection e169)
                             obtain ⟨ce169, hce169, hMe169, hcc169⟩ := Kd.S_get HO_6.out [] x11_5 p169 (by first | exact q169 | exact of_decide_eq_true (by first | (with_reducible assumption) | assumption) | (have e_ := (Kd.S_reads' HO_6.out).1; omega))
                             obtain ⟨ve169_0, rfl, ge169_0⟩ := hMe169
                             have hv169_0 := hcc169 0 _ rfl
                             rw [Nat.add_zero, show ((Kd.slice 4 Kd.bool)).sz = 1 from rfl, Nat.mul_one] at hv169_0
                             replace hv169_0 := Option.some.inj (hv169_0.symm.trans hx169_0)
                             rw [hv169_0] at ge169_0
                             have HL169_0 := zp.mk (show Kd.R Kd.bool 4 _ _ _ _ (rd_L5 x6_6 x11_5) from ge169_0)
                             clear hv169_0 ge169_0
                             have HX169_0 := zp.mk hx169_0
                             clear hcc169 hce169
                             have HR169_0 := zp.mk hi169_0
                             have HC169_0 := zp.mk hl169_0
                             clear hi169_0 hl169_0
                             replace p169 := eq_true p169
                             replace q169 := eq_true q169
                             have ea_ := Option.some.inj (hx163_0.symm.trans hx169_0)
                             injection ea_ with ea_ en_ ec_
                             subst ea_
                             subst ec_
                             clear en_
                             have p170 : 0 ≤ (x10_4 : Int) := of_decide_eq_true (by first | (with_reducible assumption) | assumption)
                             have q170 : x10_4 < ((rd_L5 x6_6 x11_5).length : Int) := of_decide_eq_true (by first | (with_reducible assumption) | assumption)
                             obtain ⟨ad170, e170, hx170_0⟩ := Kd.at_bool (by repeat (first | (with_reducible exact HR169_0.out) | (with_reducible refine Kd.zr ?_ _) | (with_reducible refine Kd.zq ?_ _) | (with_reducible refine Kd.C_drew ?_) | exact HR169_0.out)) x10_4 p170 q170
                             (try rw [← Nbq69.out] at hx170_0)
                             (try rw [← Nbq78.out] at hx170_0)
                             cases e170
                             replace p170 := eq_true p170
                             replace q170 := eq_true q170
                             have p87 : 0 ≤ (x12_6 : Int) := of_decide_eq_true (by first | (with_reducible assumption) | assumption)
                             have q87 : (x12_6 : Int) < (((rd_L5 x6_6 x11_5).length : Int) : Int) := of_decide_eq_true (by first | (with_reducible assumption) | assumption)
                             obtain ⟨go87, co87, eo87, gb87, gl87, cl87, HG87⟩ := Kd.R_form HL163_0.out (by omega)
                             (first | cases eo87 | (injection eo87 with ea_ en_ ec_; (first | subst ea_ | (injection ea_ with ea_; subst ea_)); subst ec_; clear en_))
                             (try simp only [add_plain] at hx170_0)
                             (try simp only [add_plain] at hx165_0)
                             have GB87 := zp.mk gb87
                             have GG87 := zp.mk HG87
                             clear gb87 gl87 HG87
                             (first | simp only [add_plain] at hx170_0 | skip)
                             obtain ⟨hx87_0, hf87_0⟩ := Kd.R_celln false HL163_0.out (x12_6 : Int) p87 q87
                             replace p87 := eq_true p87
                             replace q87 := eq_true q87
                             have hq90 : (x11_5 : Int) < (x6_6.length : Int) := (by have h_ : (x11_5 : Int) < ((x6_6.length : Int) : Int) := of_decide_eq_true (by first | (with_reducible assumption) | assumption); first | exact h_ | (have e_ := (Kd.S_reads' HO_6.out).1; omega) | simpa only [List.length_set, List.length_set] using h_)
                             obtain ⟨oki90, ce90, hcl90, hM90, hcc90, hok90, hbk90⟩ := Kd.S_borrow HO_6.out [] (x11_5 : Int) (of_decide_eq_true (by first | (with_reducible assumption) | assumption)) (by first | exact hq90 | (have e_ := (Kd.S_reads' HO_6.out).1; omega))
                             obtain ⟨ve90_0, rfl, ge90_0⟩ := hM90
                             have hv90 := hcc90 0 _ rfl
                             rw [Nat.add_zero, show ((Kd.slice 4 Kd.bool)).sz = 1 from rfl, Nat.mul_one] at hv90
                             replace hv90 := Option.some.inj (hv90.symm.trans HX163_0.out)
                             subst hv90
                             clear hcc90 hcl90
                             replace ge90_0 := (show Kd.R Kd.bool 4 _ _ _ _ (rd_L5 x6_6 x11_5) from ge90_0)
                             have HP90 := Kd.R_putg ge90_0 (x12_6 : Int) false
                             rw [← Ny176.out] at HP90
                             have HS90 := hbk90 HP90.2 (fun k_ e_ => by injection e_ with e_; subst e_; exact ge90_0.1 _ rfl) (x' := y176) (Kd.M_row HP90.1)
                             rw [← Ny178.out] at HS90
                             have HQ90 := zp.mk HS90
                             clear HP90 HS90 hbk90 hok90
                             refine start_ (n := 32) (S := fun w' => w'.cell? (ad163.add (x11_5).toNat) = some (.slice (some ⟨go87, 0, none⟩) (rd_L5 x6_6 x11_5).length c163_0) ∧ w'.cell? (ad163.add (x11_5).toNat) = some (.slice (some ⟨go87, 0, none⟩) (rd_L5 x6_6 x11_5).length c163_0) ∧ w'.cell? ⟨go87, (x12_6).toNat, none⟩ = some (.bool false) ∧ w'.cell? (ad163.add (x11_5).toNat) = some (.slice (some ⟨go87, 0, none⟩) (rd_L5 x6_6 x11_5).length c163_0) ∧ w'.cell? ⟨go87, (x10_4).toNat, none⟩ = some (.bool false)) (ds := [31]) #[false, false, false, false, false, false, false, false, false, false, false, false, false, false, false, false, false, false, false, false, false, false, false, false, false, false, false, false, false, false, false, false] (by kernel_rfl) rfl rfl ⟨hx163_0, hx164_0, hx165_0, hx169_0, hx170_0⟩ (fun hHeld => ?_); refine with_tabW spec_LatOf.tab25 spec_LatOf.bits25 (fun HT_ HW_ => ?_)
                             generalize wr.drew = w88 at HO_6 BK145 HB GG87 HL163_0 HL164_0 HL169_0 HQ90 HR163_0 HR164_0 HR169_0 HX163_0 HX164_0 HX169_0 hf87_0 hx163_0 hx164_0 hx165_0 hx169_0 hx170_0 hx87_0 hHeld ⊢
                             refine pure_ (i := 0) (N := some 101) (v := ?_) (a' := ?_) #[true, false, false, false, false, false, false, false, false, false, false, false, false, false, false, false, false, false, false, false, false, false, false, false, false, false, false, false, false, false, false, false] rfl rfl (any_of HT_.out (by kernel_rfl)) (fun _ _ _ h => h) (Or.inl ⟨by rfl, ?_⟩) ?_ ?_
                             rotate_left
                             ·intro w'
                              go_simp
                              with_reducible rfl
                             rotate_left
                             ·simp only [Act.put, zs1, zs2, zs3, i64_w, i32_w]
                              rfl
                             refine pure_ (i := 1) (N := some 102) (v := ?_) (a' := ?_) #[true, true, false, false, false, false, false, false, false, false, false, false, false, false, false, false, false, false, false, false, false, false, false, false, false, false, false, false, false, false, false, false] rfl rfl (any_of HT_.out (by kernel_rfl)) (fun _ _ _ h => h) (Or.inl ⟨by rfl, ?_⟩) ?_ ?_
                             rotate_left
                             ·intro w'
                              go_simp
                              with_reducible rfl
                             rotate_left
                             ·simp only [Act.put, zs1, zs2, zs3, i64_w, i32_w]
                              rfl
                             refine pure_ (i := 2) (N := some 103) (v := ?_) (a' := ?_) #[true, true, true, false, false, false, false, false, false, false, false, false, false, false, false, false, false, false, false, false, false, false, false, false, false, false, false, false, false, false, false, false] rfl rfl (any_of HT_.out (by kernel_rfl)) (fun _ _ _ h => h) (Or.inl ⟨by rfl, ?_⟩) ?_ ?_
                             rotate_left
                             ·intro w'
                              go_simp
                              with_reducible rfl
                             rotate_left
                             ·simp only [Act.put, zs1, zs2, zs3, i64_w, i32_w]
                              rfl
                             refine pure_ (i := 4) (N := some 105) (v := ?_) (a' := ?_) #[true, true, true, false, true, false, false, false, false, false, false, false, false, false, false, false, false, false, false, false, false, false, false, false, false, false, false, false, false, false, false, false] rfl rfl (any_of HT_.out (by kernel_rfl)) (fun _ _ _ h => h) (Or.inl ⟨by rfl, ?_⟩) ?_ ?_
                             rotate_left
                             ·intro w'
                              go_simp
                              with_reducible rfl
                             rotate_left
                             ·simp only [Act.put, zs1, zs2, zs3, i64_w, i32_w]
                              rfl
                             refine pure_ (i := 5) (N := some 106) (v := ?_) (a' := ?_) #[true, true, true, false, true, true, false, false, false, false, false, false, false, false, false, false, false, false, false, false, false, false, false, false, false, false, false, false, false, false, false, false] rfl rfl (any_of HT_.out (by kernel_rfl)) (fun _ _ _ h => h) (Or.inl ⟨by rfl, ?_⟩) ?_ ?_
                             rotate_left
                             ·intro w'
                              go_simp
                              with_reducible rfl
                             rotate_left
                             ·simp only [Act.put, zs1, zs2, zs3, i64_w, i32_w]
                              rfl
                             refine pure_ (i := 6) (N := some 107) (v := ?_) (a' := ?_) #[true, true, true, false, true, true, true, false, false, false, false, false, false, false, false, false, false, false, false, false, false, false, false, false, false, false, false, false, false, false, false, false] rfl rfl (any_of HT_.out (by kernel_rfl)) (fun _ _ _ h => h) (Or.inl ⟨by rfl, ?_⟩) ?_ ?_
                             rotate_left
                             ·intro w'
                              go_simp
                              with_reducible rfl
                             rotate_left
                             ·simp only [Act.put, zs1, zs2, zs3, i64_w, i32_w]
                              rfl
                             refine pure_ (i := 7) (N := some 108) (v := ?_) (a' := ?_) #[true, true, true, false, true, true, true, true, false, false, false, false, false, false, false, false, false, false, false, false, false, false, false, false, false, false, false, false, false, false, false, false] rfl rfl (any_of HT_.out (by kernel_rfl)) (fun _ _ _ h => h) (Or.inl ⟨by rfl, ?_⟩) ?_ ?_
                             rotate_left
                             ·intro w'
                              go_simp
                              with_reducible rfl
                             rotate_left
                             ·simp only [Act.put, zs1, zs2, zs3, i64_w, i32_w]
                              rfl
                             refine pure_ (i := 9) (N := some 110) (v := ?_) (a' := ?_) #[true, true, true, false, true, true, true, true, false, true, false, false, false, false, false, false, false, false, false, false, false, false, false, false, false, false, false, false, false, false, false, false] rfl rfl (any_of HT_.out (by kernel_rfl)) (fun _ _ _ h => h) (Or.inl ⟨by rfl, ?_⟩) ?_ ?_
                             rotate_left
                             ·intro w'
                              go_simp
                              with_reducible rfl
                             rotate_left
                             ·simp only [Act.put, zs1, zs2, zs3, i64_w, i32_w]
                              rfl
                             refine take_ (i := 3) (N := some 104) (v := ?_) (a' := ?_) #[true, true, true, true, true, true, true, true, false, true, false, false, false, false, false, false, false, false, false, false, false, false, false, false, false, false, false, false, false, false, false, false] rfl rfl (take_ofW HT_.out HW_.out (by kernel_rfl)) (fun _ _ _ h => h) (Or.inl ⟨by rfl, ?_⟩) hHeld ?_ ?_
                             rotate_left
                             ·rintro w' ⟨s0, s1, s2, s3, s4⟩
                              go_simp
                              with_reducible rfl
                             rotate_left
                             ·simp only [Act.put, zs1, zs2, zs3, i64_w, i32_w]
                              rfl
                             refine take_ (i := 8) (N := some 109) (v := ?_) (a' := ?_) #[true, true, true, true, true, true, true, true, true, true, false, false, false, false, false, false, false, false, false, false, false, false, false, false, false, false, false, false, false, false, false, false] rfl rfl (take_ofW HT_.out HW_.out (by kernel_rfl)) (fun _ _ _ h => h) (Or.inl ⟨by rfl, ?_⟩) hHeld ?_ ?_
                             rotate_left
                             ·rintro w' ⟨s0, s1, s2, s3, s4⟩
                              go_simp
                              with_reducible rfl
                             rotate_left
                             ·simp only [Act.put, zs1, zs2, zs3, i64_w, i32_w]
                              rfl
                             refine pure_ (i := 10) (N := some 111) (v := ?_) (a' := ?_) #[true, true, true, true, true, true, true, true, true, true, true, false, false, false, false, false, false, false, false, false, false, false, false, false, false, false, false, false, false, false, false, false] rfl rfl (any_of HT_.out (by kernel_rfl)) (fun _ _ _ h => h) (Or.inl ⟨by rfl, ?_⟩) ?_ ?_
                             rotate_left
                             ·intro w'
                              go_simp
                              with_reducible rfl
                             rotate_left
                             ·simp only [Act.put, zs1, zs2, zs3, i64_w, i32_w]
                              rfl
                             refine take_ (i := 11) (N := some 112) (v := ?_) (a' := ?_) #[true, true, true, true, true, true, true, true, true, true, true, true, false, false, false, false, false, false, false, false, false, false, false, false, false, false, false, false, false, false, false, false] rfl rfl (take_ofW HT_.out HW_.out (by kernel_rfl)) (fun _ _ _ h => h) (Or.inl ⟨by rfl, ?_⟩) hHeld ?_ ?_
                             rotate_left
                             ·rintro w' ⟨s0, s1, s2, s3, s4⟩
                              go_simp
                              with_reducible rfl
                             rotate_left
                             ·simp only [Act.put, zs1, zs2, zs3, i64_w, i32_w]
                              rfl
                             refine pure_ (i := 12) (N := some 113) (v := ?_) (a' := ?_) #[true, true, true, true, true, true, true, true, true, true, true, true, true, false, false, false, false, false, false, false, false, false, false, false, false, false, false, false, false, false, false, false] rfl rfl (any_of HT_.out (by kernel_rfl)) (fun _ _ _ h => h) (Or.inl ⟨by rfl, ?_⟩) ?_ ?_
                             rotate_left
                             ·intro w'
                              go_simp
                              with_reducible rfl
                             rotate_left
                             ·simp only [Act.put, zs1, zs2, zs3, i64_w, i32_w]
                              rfl
                             refine pure_ (i := 13) (N := some 114) (v := ?_) (a' := ?_) #[true, true, true, true, true, true, true, true, true, true, true, true, true, true, false, false, false, false, false, false, false, false, false, false, false, false, false, false, false, false, false, false] rfl rfl (any_of HT_.out (by kernel_rfl)) (fun _ _ _ h => h) (Or.inl ⟨by rfl, ?_⟩) ?_ ?_
                             rotate_left
                             ·intro w'
                              go_simp
                              with_reducible rfl
                             rotate_left
                             ·simp only [Act.put, zs1, zs2, zs3, i64_w, i32_w]
                              rfl
                             refine pure_ (i := 14) (N := some 115) (v := ?_) (a' := ?_) #[true, true, true, true, true, true, true, true, true, true, true, true, true, true, true, false, false, false, false, false, false, false, false, false, false, false, false, false, false, false, false, false] rfl rfl (any_of HT_.out (by kernel_rfl)) (fun _ _ _ h => h) (Or.inl ⟨by rfl, ?_⟩) ?_ ?_
                             rotate_left
                             ·intro w'
                              go_simp
                              with_reducible rfl
                             rotate_left
                             ·simp only [Act.put, zs1, zs2, zs3, i64_w, i32_w]
                              rfl
                             refine pure_ (i := 15) (N := some 116) (v := ?_) (a' := ?_) #[true, true, true, true, true, true, true, true, true, true, true, true, true, true, true, true, false, false, false, false, false, false, false, false, false, false, false, false, false, false, false, false] rfl rfl (any_of HT_.out (by kernel_rfl)) (fun _ _ _ h => h) (Or.inl ⟨by rfl, ?_⟩) ?_ ?_
                             rotate_left
                             ·intro w'
                              go_simp
                              with_reducible rfl
                             rotate_left
                             ·simp only [Act.put, zs1, zs2, zs3, i64_w, i32_w]
                              rfl
                             refine pure_ (i := 17) (N := some 118) (v := ?_) (a' := ?_) #[true, true, true, true, true, true, true, true, true, true, true, true, true, true, true, true, false, true, false, false, false, false, false, false, false, false, false, false, false, false, false, false] rfl rfl (any_of HT_.out (by kernel_rfl)) (fun _ _ _ h => h) (Or.inl ⟨by rfl, ?_⟩) ?_ ?_
                             rotate_left
                             ·intro w'
                              go_simp
                              with_reducible rfl
                             rotate_left
                             ·simp only [Act.put, zs1, zs2, zs3, i64_w, i32_w]
                              rfl
                             refine take_ (i := 16) (N := some 117) (v := ?_) (a' := ?_) #[true, true, true, true, true, true, true, true, true, true, true, true, true, true, true, true, true, true, false, false, false, false, false, false, false, false, false, false, false, false, false, false] rfl rfl (take_ofW HT_.out HW_.out (by kernel_rfl)) (fun _ _ _ h => h) (Or.inl ⟨by rfl, ?_⟩) hHeld ?_ ?_
                             rotate_left
                             ·rintro w' ⟨s0, s1, s2, s3, s4⟩
                              go_simp
                              with_reducible rfl
                             rotate_left
                             ·simp only [Act.put, zs1, zs2, zs3, i64_w, i32_w]
                              rfl
                             refine pure_ (i := 18) (N := some 119) (v := ?_) (a' := ?_) #[true, true, true, true, true, true, true, true, true, true, true, true, true, true, true, true, true, true, true, false, false, false, false, false, false, false, false, false, false, false, false, false] rfl rfl (any_of HT_.out (by kernel_rfl)) (fun _ _ _ h => h) (Or.inl ⟨by rfl, ?_⟩) ?_ ?_
                             rotate_left
                             ·intro w'
                              go_simp
                              with_reducible rfl
                             rotate_left
                             ·simp only [Act.put, zs1, zs2, zs3, i64_w, i32_w]
                              rfl
                             refine take_ (i := 19) (N := some 120) (v := ?_) (a' := ?_) #[true, true, true, true, true, true, true, true, true, true, true, true, true, true, true, true, true, true, true, true, false, false, false, false, false, false, false, false, false, false, false, false] rfl rfl (take_ofW HT_.out HW_.out (by kernel_rfl)) (fun _ _ _ h => h) (Or.inl ⟨by rfl, ?_⟩) hHeld ?_ ?_
                             rotate_left
                             ·rintro w' ⟨s0, s1, s2, s3, s4⟩
                              go_simp
                              with_reducible rfl
                             rotate_left
                             ·simp only [Act.put, zs1, zs2, zs3, i64_w, i32_w]
                              rfl
                             refine pure_ (i := 20) (N := some 121) (v := ?_) (a' := ?_) #[true, true, true, true, true, true, true, true, true, true, true, true, true, true, true, true, true, true, true, true, true, false, false, false, false, false, false, false, false, false, false, false] rfl rfl (any_of HT_.out (by kernel_rfl)) (fun _ _ _ h => h) (Or.inl ⟨by rfl, ?_⟩) ?_ ?_
                             rotate_left
                             ·intro w'
                              go_simp
                              with_reducible rfl
                             rotate_left
                             ·simp only [Act.put, zs1, zs2, zs3, i64_w, i32_w]
                              rfl
                             refine pure_ (i := 21) (N := some 122) (v := undef) (a' := ?_) #[true, true, true, true, true, true, true, true, true, true, true, true, true, true, true, true, true, true, true, true, true, true, false, false, false, false, false, false, false, false, false, false] rfl rfl (any_of HT_.out (by kernel_rfl)) (fun _ _ _ h => h) (Or.inr ⟨by rfl, rfl⟩) ?_ ?_
                             rotate_left
                             ·simp only [Act.put, zs1, zs2, zs3, i64_w, i32_w]
                              rfl
                             refine pure_ (i := 22) (N := some 123) (v := undef) (a' := ?_) #[true, true, true, true, true, true, true, true, true, true, true, true, true, true, true, true, true, true, true, true, true, true, true, false, false, false, false, false, false, false, false, false] rfl rfl (any_of HT_.out (by kernel_rfl)) (fun _ _ _ h => h) (Or.inr ⟨by rfl, rfl⟩) ?_ ?_
                             rotate_left
                             ·simp only [Act.put, zs1, zs2, zs3, i64_w, i32_w]
                              rfl
                             refine pure_ (i := 23) (N := some 124) (v := undef) (a' := ?_) #[true, true, true, true, true, true, true, true, true, true, true, true, true, true, true, true, true, true, true, true, true, true, true, true, false, false, false, false, false, false, false, false] rfl rfl (any_of HT_.out (by kernel_rfl)) (fun _ _ _ h => h) (Or.inr ⟨by rfl, rfl⟩) ?_ ?_
                             rotate_left
                             ·simp only [Act.put, zs1, zs2, zs3, i64_w, i32_w]
                              rfl
                             refine pure_ (i := 24) (N := some 125) (v := undef) (a' := ?_) #[true, true, true, true, true, true, true, true, true, true, true, true, true, true, true, true, true, true, true, true, true, true, true, true, true, false, false, false, false, false, false, false] rfl rfl (any_of HT_.out (by kernel_rfl)) (fun _ _ _ h => h) (Or.inr ⟨by rfl, rfl⟩) ?_ ?_
                             rotate_left
                             ·simp only [Act.put, zs1, zs2, zs3, i64_w, i32_w]
                              rfl
                             refine pure_ (i := 25) (N := some 126) (v := undef) (a' := ?_) #[true, true, true, true, true, true, true, true, true, true, true, true, true, true, true, true, true, true, true, true, true, true, true, true, true, true, false, false, false, false, false, false] rfl rfl (any_of HT_.out (by kernel_rfl)) (fun _ _ _ h => h) (Or.inr ⟨by rfl, rfl⟩) ?_ ?_
                             rotate_left
                             ·simp only [Act.put, zs1, zs2, zs3, i64_w, i32_w]
                              rfl
                             refine pure_ (i := 26) (N := some 127) (v := undef) (a' := ?_) #[true, true, true, true, true, true, true, true, true, true, true, true, true, true, true, true, true, true, true, true, true, true, true, true, true, true, true, false, false, false, false, false] rfl rfl (any_of HT_.out (by kernel_rfl)) (fun _ _ _ h => h) (Or.inr ⟨by rfl, rfl⟩) ?_ ?_
                             rotate_left
                             ·simp only [Act.put, zs1, zs2, zs3, i64_w, i32_w]
                              rfl
                             refine pure_ (i := 27) (N := some 128) (v := undef) (a' := ?_) #[true, true, true, true, true, true, true, true, true, true, true, true, true, true, true, true, true, true, true, true, true, true, true, true, true, true, true, true, false, false, false, false] rfl rfl (any_of HT_.out (by kernel_rfl)) (fun _ _ _ h => h) (Or.inr ⟨by rfl, rfl⟩) ?_ ?_
                             rotate_left
                             ·simp only [Act.put, zs1, zs2, zs3, i64_w, i32_w]
                              rfl
                             refine pure_ (i := 28) (N := some 129) (v := ?_) (a' := ?_) #[true, true, true, true, true, true, true, true, true, true, true, true, true, true, true, true, true, true, true, true, true, true, true, true, true, true, true, true, true, false, false, false] rfl rfl (any_of HT_.out (by kernel_rfl)) (fun _ _ _ h => h) (Or.inl ⟨by rfl, ?_⟩) ?_ ?_
                             rotate_left
                             ·intro w'
                              go_simp
                              with_reducible rfl
                             rotate_left
                             ·simp only [Act.put, zs1, zs2, zs3, i64_w, i32_w]
                              rfl
                             refine pure_ (i := 29) (N := some 130) (v := ?_) (a' := ?_) #[true, true, true, true, true, true, true, true, true, true, true, true, true, true, true, true, true, true, true, true, true, true, true, true, true, true, true, true, true, true, false, false] rfl rfl (any_of HT_.out (by kernel_rfl)) (fun _ _ _ h => h) (Or.inl ⟨by rfl, ?_⟩) ?_ ?_
                             rotate_left
                             ·intro w'
                              go_simp
                              with_reducible rfl
                             rotate_left
                             ·simp only [Act.put, zs1, zs2, zs3, i64_w, i32_w]
                              rfl
                             refine pure_ (i := 30) (N := some 131) (v := ?_) (a' := ?_) #[true, true, true, true, true, true, true, true, true, true, true, true, true, true, true, true, true, true, true, true, true, true, true, true, true, true, true, true, true, true, true, false] rfl rfl (any_of HT_.out (by kernel_rfl)) (fun _ _ _ h => h) (Or.inl ⟨by rfl, ?_⟩) ?_ ?_
                             rotate_left
                             ·intro w'
                              go_simp
                              with_reducible rfl
                             rotate_left
                             ·simp only [Act.put, zs1, zs2, zs3, i64_w, i32_w]
                              rfl
                             refine last_ (i := 31) (N := none) #[true, true, true, true, true, true, true, true, true, true, true, true, true, true, true, true, true, true, true, true, true, true, true, true, true, true, true, true, true, true, true, true] rfl rfl (one_of HT_.out (by kernel_rfl)) (by decide) (fun K hK => ?_)
                             refine skip_ (w1 := ?_) (by rfl) rfl ?_ ?_
                             rotate_left
                             ·go_simp
                              rfl
                             refine hK.out _ _ ?_
                             clear hK K
                             refine done_ (done_of HT_.out (by kernel_rfl)) ?_
                             try go_wp2
                             go_roundg k6
                             case measure => have := HJ2.out; have := HK2.out; have := HK3.out; have := HK4.out; have := HK5.out; have := HK6.out; omega
                             case rel => exact ⟨(y178), (wrap64 (x12_6 + 1)), (by first | rfl | (simp; done) | (simp [*]; done)), H', ⟨by have := HJ2.out; have := HK2.out; have := HK3.out; have := HK4.out; have := HK5.out; have := HK6.out; omega⟩, ⟨by (with_reducible repeat (first | apply Kd.S_alloc | apply Kd.S_drewN | apply Kd.S_drew)); exact HQ90.out⟩, ⟨by (with_reducible repeat (first | refine zf ?_ _ | refine zi ?_ | refine zg ?_ _)); refine blk_far ?_ (by have h_ := Kd.R_ne HL163_0.out BK145.out (by decide); intro e_; exact h_ (by rw [e_]; rfl)) _; (with_reducible repeat (first | refine zf ?_ _ | refine zi ?_ | refine zg ?_ _)); exact BK145.out⟩, ⟨by repeat (first | (with_reducible first | exact HB.out | apply zc | apply za | apply zb | refine zh ?_ GB87.out | refine zh ?_ GE145.out) | exact HB.out)⟩⟩
                           ·rw [if_neg c77] at H
                            exact absurd H (by simp)
                          ·rw [if_neg c76] at H
                           exact absurd H (by simp)
                        ·rw [if_neg c68] at H
                         exact absurd H (by simp)
                       ·rw [if_neg c67] at H
                        exact absurd H (by simp)
                      ·rw [if_neg c66] at H
                       exact absurd H (by simp)
                     ·rw [if_neg c65] at H
                      exact absurd H (by simp)
                    ·rw [if_neg c64] at H
                     have c64b0 : decide (x12_6 < a0) = false := decide_eq_false c64
                     clear c64
                     have H' := zp.mk H
                     clear H
                     go_wp2
                     go_roundg k6
                     case measure => have := HJ2.out; have := HK2.out; have := HK3.out; have := HK4.out; have := HK5.out; have := HK6.out; omega
                     case rel => exact ⟨(x6_6), (wrap64 (x11_5 + 1)), (by first | rfl | (simp; done) | (simp [*]; done)), H', ⟨by have := HJ2.out; have := HK2.out; have := HK3.out; have := HK4.out; have := HK5.out; have := HK6.out; omega⟩, ⟨by (with_reducible repeat (first | apply Kd.S_alloc | apply Kd.S_drewN | apply Kd.S_drew)); exact HO_6.out⟩, ⟨zv8 BK145.out⟩, ⟨zv7 HB.out⟩⟩
                 ·rw [if_neg c63] at H
                  have c63b0 : decide (x11_5 < a0) = false := decide_eq_false c63
                  clear c63
                  have H' := zp.mk H
                  clear H
                  go_wp2
                  go_roundg k5
                  case measure => have := HJ2.out; have := HK2.out; have := HK3.out; have := HK4.out; have := HK5.out; omega
                  case rel => exact ⟨(x6_5), (wrap64 (x10_4 + 1)), (by first | rfl | (simp; done) | (simp [*]; done)), H', ⟨by have := HJ2.out; have := HK2.out; have := HK3.out; have := HK4.out; have := HK5.out; omega⟩, ⟨by (with_reducible repeat (first | apply Kd.S_alloc | apply Kd.S_drewN | apply Kd.S_drew)); exact HO_6.out⟩, ⟨zv8 BK145.out⟩, ⟨zv7 HB.out⟩⟩
              ·rw [if_neg c62] at H
               have c62b0 : decide (x10_4 < a0) = false := decide_eq_false c62
               clear c62
               have H' := zp.mk H
               clear H
               go_wp2_with (first | ((with_reducible refine zo (N := 13) rfl ?_); (try (refine gate_guard (by rfl) ?_; dsimp only)); refine zm ?hg (N := 13) ?hd (cs := #[.int .i64 0, .slice none 0 0]) (t := 27) ?hr ?_; (case hd => rfl); (case hg => rfl); (case hr => first | (go_simp; done) | (go_simp; rfl)); intro gb179 hg w92 hbox hb; have BK179 := zp.mk (hbox); have GW179 := zp.mk ((zv3 (zv7 HB.out) hg)); have GE179 := zp.mk ((zv3 (zv7 HB.out) hg)); have NB145_179 := zp.mk ((by rw [hg]; exact Nat.ne_of_lt (blk_lt (g := gb145) (o := .cells #[.int .i64 x146000_3, .slice none 0 0] 27 (0, 0)) (zv8 BK145.out)) : gb145 ≠ gb179)); have NB179_145 := zp.mk ((by rw [hg]; exact Nat.ne_of_gt (blk_lt (g := gb145) (o := .cells #[.int .i64 x146000_3, .slice none 0 0] 27 (0, 0)) (zv8 BK145.out)) : gb179 ≠ gb145)); replace HO_6 := zp.mk (Kd.S_below (by (with_reducible repeat (first | apply Kd.S_alloc | apply Kd.S_drewN | apply Kd.S_drew)); exact HO_6.out) hb); replace BK145 := zp.mk (zl (zv8 BK145.out) hb); replace HB := zp.mk (zj (zv7 HB.out) hb); clear hb hbox hg; have hnb93 := NB179_145.out; have hnc93 := NB145_179.out; have y94_0 := zt0 BK179.out; have y94_1 := zt1 BK179.out; have u94_0 := zd BK179.out 0; have u94_1 := zd BK179.out 1))
               go_loopg [14] k4 (fun kq v14 w' => ∃ (x14_5 : Int) (x180001_5 : List Int) (u180001 : Value), v14 = .int .i64 x14_5 ∧ zp (spec_LatOf.l5 kq a0 x6_4 x14_5 a0 x180001_5 = some (r1, r2, r3)) ∧ zp (kq ≤ k4) ∧ zp (Kd.S (Kd.slice 4 Kd.bool) 92 w' w.heap.size (fun _ => True) v147 x6_4) ∧ zp (Kd.R (Kd.int .u64) 76 w' w.heap.size (fun _ => True) u180001 x180001_5) ∧ zp (w'.heap[gb145]? = some (.cells #[.int .i64 x146000_3, (.slice none 0 0)] 27 (0, 0))) ∧ zp (w'.heap[gb179]? = some (.cells #[.int .i64 a0, u180001] 27 (0, 0))) ∧ zp (Below w.heap.size w w'))
               case atStart => exact ⟨(0), (([] : List Int)), (.slice none 0 0), (by first | rfl | (simp; done) | (simp [*]; done)), H', ⟨Nat.le_refl _⟩, ⟨by (with_reducible repeat (first | apply Kd.S_alloc | apply Kd.S_drewN | apply Kd.S_drew)); exact Kd.S_mono (Kd.S_far (p := ⟨gb179, 1, none⟩) (Kd.S_far (p := ⟨gb179, 0, none⟩) (Kd.S_types HO_6.out BK179.out (by decide)) (fun _ hk => hk.2) (.int .i64 a0)) (fun _ hk => hk.2) (.slice none 0 0)) (fun _ hk => trivial)⟩, ⟨by first | exact Kd.R_nil _ _ _ _ _ | exact Kd.N_nil _ _ _ _ _ | exact Kd.V_nil _ _ _ _ _ | exact Kd.Q_nil _ _ _ _ _ | exact Kd.S_nil _ _ _ _ _⟩, ⟨by (with_reducible repeat (first | refine zf ?_ _ | refine zi ?_ | refine zg ?_ _)); refine blk_far ?_ NB145_179.out _; (with_reducible repeat (first | refine zf ?_ _ | refine zi ?_ | refine zg ?_ _)); refine blk_far ?_ NB145_179.out _; (with_reducible repeat (first | refine zf ?_ _ | refine zi ?_ | refine zg ?_ _)); exact BK145.out⟩, ⟨by (with_reducible repeat (first | refine zf ?_ _ | refine zi ?_ | refine zg ?_ _)); refine blk_put (cs := #[.int .i64 a0, .slice none 0 0]) ?_ 1 _ rfl; (with_reducible repeat (first | refine zf ?_ _ | refine zi ?_ | refine zg ?_ _)); refine blk_put (cs := #[.int .i64 0, .slice none 0 0]) ?_ 0 _ rfl; (with_reducible repeat (first | refine zf ?_ _ | refine zi ?_ | refine zg ?_ _)); exact BK179.out⟩, ⟨zv7 HB.out⟩⟩
               case round =>
                clear H'
                try clear c1
                try clear p1
                try clear q1
                try clear hx1
                try clear p2
                try clear c6
                try clear p6
                try clear q6
                try clear c7
                try clear q7
                try clear c8
                try clear p8
                try clear q8
                try clear hx8
                try clear hf8
                try clear c9
                try clear q9
                try clear c16
                try clear p16
                try clear q16
                try clear hx16
                try clear p17
                try clear q17
                try clear hx17
                try clear c62
                try clear c62b0
                try clear c63
                try clear c63b0
                try clear c64
                try clear c64b0
                try clear p64
                try clear c65
                try clear c66
                try clear c67
                try clear c68
                try clear q69
                try clear c76
                try clear c77
                try clear q78
                try clear c79
                try clear c80
                try clear c81
                try clear p87
                try clear q87
                try clear hx87
                try clear hf87
                try clear c90
                try clear q90
                try clear c93
                try clear y94_0
                try clear y94_1
                try clear u94_0
                try clear u94_1
                try clear hx163_0
                try clear hx164_0
                try clear hx165_0
                try clear hx169_0
                try clear hx170_0
                try clear hx87_0
                try clear p163
                try clear p164
                try clear p165
                try clear p169
                try clear p170
                try clear p87
                try clear q163
                try clear q164
                try clear q165
                try clear q169
                try clear q170
                try clear q87
                obtain ⟨x14_5, x180001_5, u180001, rfl, HA, HK5, HO_6, HO_180001, BK145, BK179, HB⟩ := hrel
                cases gk with
                | zero => exact absurd HA.out (by simp [spec_LatOf.l5])
                | succ k5 =>
                 have H := HA.out
                 clear HA
                 simp only [spec_LatOf.l5] at H
                 by_cases c95 : x14_5 < a0
                 ·rw [if_pos c95] at H
                  have c95b0 : decide (x14_5 < a0) = true := decide_eq_true c95
                  clear c95
                  have H' := zp.mk H
                  clear H
                  go_wp2
                  go_loopg [15, 16] k5 (fun kq v15 v16 w' => ∃ (x15_6 : Int) (x16_6 : Int), v15 = .int .u64 x15_6 ∧ v16 = .int .i64 x16_6 ∧ zp (spec_LatOf.l6 kq a0 x6_4 x14_5 x15_6 x16_6 a0 x180001_5 = some (r1, r2, r3)) ∧ zp (kq ≤ k5) ∧ zp (Kd.S (Kd.slice 4 Kd.bool) 92 w' w.heap.size (fun _ => True) v147 x6_4) ∧ zp (Kd.R (Kd.int .u64) 76 w' w.heap.size (fun _ => True) u180001 x180001_5) ∧ zp (w'.heap[gb145]? = some (.cells #[.int .i64 x146000_3, (.slice none 0 0)] 27 (0, 0))) ∧ zp (w'.heap[gb179]? = some (.cells #[.int .i64 a0, u180001] 27 (0, 0))) ∧ zp (Below w.heap.size w w'))
                  case atStart => exact ⟨(0), (0), (by first | rfl | (simp; done) | (simp [*]; done)), (by first | rfl | (simp; done) | (simp [*]; done)), H', ⟨Nat.le_refl _⟩, ⟨by (with_reducible repeat (first | apply Kd.S_alloc | apply Kd.S_drewN | apply Kd.S_drew)); exact HO_6.out⟩, ⟨by (with_reducible repeat (first | apply Kd.R_alloc | apply Kd.R_drewN | apply Kd.R_drew)); exact HO_180001.out⟩, ⟨zv8 BK145.out⟩, ⟨zv8 BK179.out⟩, ⟨zv7 HB.out⟩⟩
                  case round =>
                   clear H'
                   try clear c1
                   try clear p1
                   try clear q1
                   try clear hx1
                   try clear p2
                   try clear c6
                   try clear p6
                   try clear q6
                   try clear c7
                   try clear q7
                   try clear c8
                   try clear p8
                   try clear q8
                   try clear hx8
                   try clear hf8
                   try clear c9
                   try clear q9
                   try clear c16
                   try clear p16
                   try clear q16
                   try clear hx16
                   try clear p17
                   try clear q17
                   try clear hx17
                   try clear c62
                   try clear c62b0
                   try clear c63
                   try clear c63b0
                   try clear c64
                   try clear c64b0
                   try clear p64
                   try clear c65
                   try clear c66
                   try clear c67
                   try clear c68
                   try clear q69
                   try clear c76
                   try clear c77
                   try clear q78
                   try clear c79
                   try clear c80
                   try clear c81
                   try clear p87
                   try clear q87
                   try clear hx87
                   try clear hf87
                   try clear c90
                   try clear q90
                   try clear c93
                   try clear c95
                   try clear c95b0
                   try clear y94_0
                   try clear y94_1
                   try clear u94_0
                   try clear u94_1
                   try clear hx163_0
                   try clear hx164_0
                   try clear hx165_0
                   try clear hx169_0
                   try clear hx170_0
                   try clear hx87_0
                   try clear p1
                   try clear p16
                   try clear p163
                   try clear p164
                   try clear p165
                   try clear p169
                   try clear p17
                   try clear p170
                   try clear p2
                   try clear p6
                   try clear p64
                   try clear p8
                   try clear p87
                   try clear q1
                   try clear q16
                   try clear q163
                   try clear q164
                   try clear q165
                   try clear q169
                   try clear q17
                   try clear q170
                   try clear q6
                   try clear q69
                   try clear q7
                   try clear q78
                   try clear q8
                   try clear q87
                   try clear q9
                   try clear q90
                   obtain ⟨x15_6, x16_6, rfl, rfl, HA, HK6, HO_6, HO_180001, BK145, BK179, HB⟩ := hrel
                   cases gk with
                   | zero => exact absurd HA.out (by simp [spec_LatOf.l6])
                   | succ k6 =>
                    have H := HA.out
                    clear HA
                    simp only [spec_LatOf.l6] at H
                    by_cases c96 : x16_6 < a0
                    ·rw [if_pos c96] at H
                     have c96b0 : decide (x16_6 < a0) = true := decide_eq_true c96
                     clear c96
                     by_cases c97 : 0 ≤ x14_5
                     ·rw [if_pos c97] at H
                      have c97b0 : decide (0 ≤ x14_5) = true := decide_eq_true c97
                      clear c97
                      by_cases c98 : x14_5 < (x6_4.length : Int)
                      ·rw [if_pos c98] at H
                       have c98b0 : decide (x14_5 < (x6_4.length : Int)) = true := decide_eq_true c98
                       clear c98
                       by_cases c99 : 0 ≤ x16_6
                       ·rw [if_pos c99] at H
                        have c99b0 : decide (0 ≤ x16_6) = true := decide_eq_true c99
                        clear c99
                        by_cases c100 : x16_6 < ((rd_L5 x6_4 x14_5).length : Int)
                        ·rw [if_pos c100] at H
                         have c100b0 : decide (x16_6 < ((rd_L5 x6_4 x14_5).length : Int)) = true := decide_eq_true c100
                         clear c100
                         obtain ⟨bq101, hbq101⟩ : ∃ b_ : Bool, b_ = (rdOf false (rd_L5 x6_4 x14_5) x16_6) := ⟨_, rfl⟩
                         replace H : (if bq101 = true then ((spec_l01Power.f k6 x16_6).bind fun t183 => (spec_LatOf.l6 k6 a0 x6_4 x14_5 (IntKind.u64.wrap (x15_6 + t183)) (wrap64 (x16_6 + 1)) a0 x180001_5)) else (spec_LatOf.l6 k6 a0 x6_4 x14_5 x15_6 (wrap64 (x16_6 + 1)) a0 x180001_5)) = some (r1, r2, r3) := by rw [← hbq101] at H; exact H
                         have Nbq101 := zp.mk hbq101
                         clear hbq101
                         by_cases c102 : bq101 = true
                         ·subst c102
                          have H1 : ((spec_l01Power.f k6 x16_6).bind fun t183 => (spec_LatOf.l6 k6 a0 x6_4 x14_5 (IntKind.u64.wrap (x15_6 + t183)) (wrap64 (x16_6 + 1)) a0 x180001_5)) = some (r1, r2, r3) := by rw [if_pos rfl] at H; exact H
                          clear H
                          have H := H1
                          clear H1
                          replace H := zs4 H
                          obtain ⟨t183, A1030, H⟩ := H
                          replace H : (spec_LatOf.l6 k6 a0 x6_4 x14_5 (IntKind.u64.wrap (x15_6 + t183)) (wrap64 (x16_6 + 1)) a0 x180001_5) = some (r1, r2, r3) := H
                          have A103 := zp.mk A1030
                          clear A1030
                          have H' := zp.mk H
                          clear H
                          obtain ⟨Ao104, co104, eo104⟩ := Kd.S_slice HO_6.out
                          subst eo104
                          have p181 : 0 ≤ (x14_5 : Int) := of_decide_eq_true (by first | (with_reducible assumption) | assumption)
                          have q181 : x14_5 < (x6_4.length : Int) := of_decide_eq_true (by first | (with_reducible assumption) | assumption)
                          obtain ⟨ad181, A181_0, c181_0, e181, hx181_0, hl181_0, hi181_0⟩ := at_L5 (Kd.S_reads' HO_6.out).2.2 x14_5 p181 q181
                          cases e181
                          obtain ⟨ce181, hce181, hMe181, hcc181⟩ := Kd.S_get HO_6.out [] x14_5 p181 (by first | exact q181 | exact of_decide_eq_true (by first | (with_reducible assumption) | assumption) | (have e_ := (Kd.S_reads' HO_6.out).1; omega))
                          obtain ⟨ve181_0, rfl, ge181_0⟩ := hMe181
                          have hv181_0 := hcc181 0 _ rfl
                          rw [Nat.add_zero, show ((Kd.slice 4 Kd.bool)).sz = 1 from rfl, Nat.mul_one] at hv181_0
                          replace hv181_0 := Option.some.inj (hv181_0.symm.trans hx181_0)
                          rw [hv181_0] at ge181_0
                          have HL181_0 := zp.mk (show Kd.R Kd.bool 4 _ _ _ _ (rd_L5 x6_4 x14_5) from ge181_0)
                          clear hv181_0 ge181_0
                          have HX181_0 := zp.mk hx181_0
                          clear hcc181 hce181
                          have HR181_0 := zp.mk hi181_0
                          have HC181_0 := zp.mk hl181_0
                          clear hi181_0 hl181_0
                          replace p181 := eq_true p181
                          replace q181 := eq_true q181
                          have p182 : 0 ≤ (x16_6 : Int) := of_decide_eq_true (by first | (with_reducible assumption) | assumption)
                          have q182 : x16_6 < ((rd_L5 x6_4 x14_5).length : Int) := of_decide_eq_true (by first | (with_reducible assumption) | assumption)
                          obtain ⟨ad182, e182, hx182_0⟩ := Kd.at_bool (by repeat (first | (with_reducible exact HR181_0.out) | (with_reducible refine Kd.zr ?_ _) | (with_reducible refine Kd.zq ?_ _) | (with_reducible refine Kd.C_drew ?_) | exact HR181_0.out)) x16_6 p182 q182
                          (try rw [← Nbq101.out] at hx182_0)
                          cases e182
                          replace p182 := eq_true p182
                          replace q182 := eq_true q182
                          go_wp2_with (first | ((with_reducible refine zn (f := 67) rfl ?_); refine goesL_ (some 153) rfl rfl Try.func67 (by kernel_rfl) rfl #[.int .i64 x16_6] rfl (by (try simp only [List.map_toArray, List.map_cons, List.map_nil]); first | done | rfl | (simp only [List.length_drop, List.length_take]; rfl)) ?_; (with_reducible refine (spec_l01Power.calls k6 x16_6 t183 _ A103.out).mono ?_); rintro e w' ⟨rfl, ⟨nd, rfl⟩⟩; refine ⟨_, rfl, ?_⟩))
                          go_roundg k6
                          case measure => have := HJ2.out; have := HK2.out; have := HK3.out; have := HK4.out; have := HK5.out; have := HK6.out; omega
                          case rel => exact ⟨(IntKind.u64.wrap (x15_6 + t183)), (wrap64 (x16_6 + 1)), (by first | rfl | (simp; done) | (simp [*]; done)), (by first | rfl | (simp; done) | (simp [*]; done)), H', ⟨by have := HJ2.out; have := HK2.out; have := HK3.out; have := HK4.out; have := HK5.out; have := HK6.out; omega⟩, ⟨by (with_reducible repeat (first | apply Kd.S_alloc | apply Kd.S_drewN | apply Kd.S_drew)); exact HO_6.out⟩, ⟨by (with_reducible repeat (first | apply Kd.R_alloc | apply Kd.R_drewN | apply Kd.R_drew)); exact HO_180001.out⟩, ⟨zv8 BK145.out⟩, ⟨zv8 BK179.out⟩, ⟨zv7 HB.out⟩⟩
                         ·replace c102 := Bool.eq_false_iff.mpr c102
                          subst c102
                          have H1 : (spec_LatOf.l6 k6 a0 x6_4 x14_5 x15_6 (wrap64 (x16_6 + 1)) a0 x180001_5) = some (r1, r2, r3) := by rw [if_neg (show ¬ (false = true) by decide)] at H; exact H
                          clear H
                          have H := H1
                          clear H1
                          have H' := zp.mk H
                          clear H
                          obtain ⟨Ao105, co105, eo105⟩ := Kd.S_slice HO_6.out
                          subst eo105
                          have p181 : 0 ≤ (x14_5 : Int) := of_decide_eq_true (by first | (with_reducible assumption) | assumption)
                          have q181 : x14_5 < (x6_4.length : Int) := of_decide_eq_true (by first | (with_reducible assumption) | assumption)
                          obtain ⟨ad181, A181_0, c181_0, e181, hx181_0, hl181_0, hi181_0⟩ := at_L5 (Kd.S_reads' HO_6.out).2.2 x14_5 p181 q181
                          cases e181
                          obtain ⟨ce181, hce181, hMe181, hcc181⟩ := Kd.S_get HO_6.out [] x14_5 p181 (by first | exact q181 | exact of_decide_eq_true (by first | (with_reducible assumption) | assumption) | (have e_ := (Kd.S_reads' HO_6.out).1; omega))
                          obtain ⟨ve181_0, rfl, ge181_0⟩ := hMe181
                          have hv181_0 := hcc181 0 _ rfl
                          rw [Nat.add_zero, show ((Kd.slice 4 Kd.bool)).sz = 1 from rfl, Nat.mul_one] at hv181_0
                          replace hv181_0 := Option.some.inj (hv181_0.symm.trans hx181_0)
                          rw [hv181_0] at ge181_0
                          have HL181_0 := zp.mk (show Kd.R Kd.bool 4 _ _ _ _ (rd_L5 x6_4 x14_5) from ge181_0)
                          clear hv181_0 ge181_0
                          have HX181_0 := zp.mk hx181_0
                          clear hcc181 hce181
                          have HR181_0 := zp.mk hi181_0
                          have HC181_0 := zp.mk hl181_0
                          clear hi181_0 hl181_0
                          replace p181 := eq_true p181
                          replace q181 := eq_true q181
                          have p182 : 0 ≤ (x16_6 : Int) := of_decide_eq_true (by first | (with_reducible assumption) | assumption)
                          have q182 : x16_6 < ((rd_L5 x6_4 x14_5).length : Int) := of_decide_eq_true (by first | (with_reducible assumption) | assumption)
                          obtain ⟨ad182, e182, hx182_0⟩ := Kd.at_bool (by repeat (first | (with_reducible exact HR181_0.out) | (with_reducible refine Kd.zr ?_ _) | (with_reducible refine Kd.zq ?_ _) | (with_reducible refine Kd.C_drew ?_) | exact HR181_0.out)) x16_6 p182 q182
                          (try rw [← Nbq101.out] at hx182_0)
                          cases e182
                          replace p182 := eq_true p182
                          replace q182 := eq_true q182
                          go_wp2
                          go_roundg k6
                          case measure => have := HJ2.out; have := HK2.out; have := HK3.out; have := HK4.out; have := HK5.out; have := HK6.out; omega
                          case rel => exact ⟨(x15_6), (wrap64 (x16_6 + 1)), (by first | rfl | (simp; done) | (simp [*]; done)), (by first | rfl | (simp; done) | (simp [*]; done)), H', ⟨by have := HJ2.out; have := HK2.out; have := HK3.out; have := HK4.out; have := HK5.out; have := HK6.out; omega⟩, ⟨by (with_reducible repeat (first | apply Kd.S_alloc | apply Kd.S_drewN | apply Kd.S_drew)); exact HO_6.out⟩, ⟨by (with_reducible repeat (first | apply Kd.R_alloc | apply Kd.R_drewN | apply Kd.R_drew)); exact HO_180001.out⟩, ⟨zv8 BK145.out⟩, ⟨zv8 BK179.out⟩, ⟨zv7 HB.out⟩⟩
                        ·rw [if_neg c100] at H
                         exact absurd H (by simp)
                       ·rw [if_neg c99] at H
                        exact absurd H (by simp)
                      ·rw [if_neg c98] at H
                       exact absurd H (by simp)
                     ·rw [if_neg c97] at H
                      exact absurd H (by simp)
                    ·rw [if_neg c96] at H
                     have c96b0 : decide (x16_6 < a0) = false := decide_eq_false c96
                     clear c96
                     by_cases c106 : x180001_5.length < 17592186044416
                     ·rw [if_pos c106] at H
                      have LMc106 := zp.mk c106
                      clear c106
                      obtain ⟨y184, hy184⟩ : ∃ y_ : List Int, y_ = (x180001_5 ++ [x15_6]) := ⟨_, rfl⟩
                      replace H : (spec_LatOf.l5 k6 a0 x6_4 (wrap64 (x14_5 + 1)) a0 y184) = some (r1, r2, r3) := by first | (rw [hy184]; with_reducible exact H) | (have H2_ := (Option.bind_some _ _).symm.trans H; rw [hy184]; with_reducible exact H2_) | (have H2_ := (Option.bind_some _ _).symm.trans H; with_reducible exact H2_) | with_reducible exact H | (rw [hy184]; exact H) | exact H
                      have Ny184 := zp.mk hy184
                      clear hy184
                      have H' := zp.mk H
                      clear H
                      have hnb107 := NB179_145.out
                      have hnc107 := NB145_179.out
                      have y108_0 := zt0 BK179.out
                      have y108_1 := zt1 BK179.out
                      have u108_0 := zd BK179.out 0
                      have u108_1 := zd BK179.out 1
                      go_wp2_with (first | ((with_reducible refine gate_builtin (b := .append) (xs := #[.tmp 156, .tmp 158]) rfl ?_); (try (refine gate_guard (by rfl) ?_; dsimp only)); at_builtin; refine Kd.R_append (Kd.int .u64) (w0 := w) w.heap.size rfl (.tmp 156) (.tmp 158) 22 76 (.int .u64 0) 8 rfl Try.underlying22 info76 rfl (by decide) (by omega) u180001 x180001_5 x15_6 [.int .u64 x15_6] (fun _ => True) (fun _ => False) rfl rfl ?aP (fun _ hk => hk.elim) ?aF ?aO ?aB ?aS ?aL ?_; (case aP => exact rfl); (case aB => exact (zv7 HB.out)); (case aF => exact (fun _ _ => trivial)); (case aO => exact (by (with_reducible repeat (first | apply Kd.R_alloc | apply Kd.R_drewN | apply Kd.R_drew)); exact HO_180001.out)); (case aS => exact (zk (zv7 HB.out))); (case aL => have := LMc106.out; omega); intro v185 w109 ho hb hg hat; rw [← Ny184.out] at ho; have n0_ := zp.mk (Kd.S_over' (by (with_reducible repeat (first | apply Kd.S_alloc | apply Kd.S_drewN | apply Kd.S_drew)); exact HO_6.out) (Kd.R_typed (by (with_reducible repeat (first | apply Kd.R_alloc | apply Kd.R_drewN | apply Kd.R_drew)); exact HO_180001.out)) (by decide) hg); have n1_ := zp.mk (blk_grown (g := gb145) (o := .cells #[.int .i64 x146000_3, .slice none 0 0] 27 (0, 0)) (zv8 BK145.out) hg (Kd.R_ne HO_180001.out BK145.out (by decide))); have n2_ := zp.mk (blk_grown (g := gb179) (o := .cells #[.int .i64 a0, u180001] 27 (0, 0)) (zv8 BK179.out) hg (Kd.R_ne HO_180001.out BK179.out (by decide))); have n3_ := zp.mk (hb); have n4_ := zp.mk (ho); clear HO_6; clear BK145; clear BK179; clear HB; clear HO_180001; have HO_6 := n0_; have BK145 := n1_; have BK179 := n2_; have HB := n3_; have HO186 := n4_; clear n0_ n1_ n2_ n3_ n4_; clear ho hb hg hat; obtain ⟨Ao110, co110, eo110⟩ := Kd.R_slice HO186.out; subst eo110; have y111_0 := zt0 BK179.out; have y111_1 := zt1 BK179.out; have u111_0 := zd BK179.out 0; have u111_1 := zd BK179.out 1))
                      go_roundg k6
                      case measure => have := HJ2.out; have := HK2.out; have := HK3.out; have := HK4.out; have := HK5.out; have := HK6.out; omega
                      case rel => exact ⟨(wrap64 (x14_5 + 1)), (y184), (.slice Ao110 y184.length co110), (by first | rfl | (simp; done) | (simp [*]; done)), H', ⟨by have := HJ2.out; have := HK2.out; have := HK3.out; have := HK4.out; have := HK5.out; have := HK6.out; omega⟩, ⟨by (with_reducible repeat (first | apply Kd.S_alloc | apply Kd.S_drewN | apply Kd.S_drew)); exact Kd.S_mono (Kd.S_far (p := ⟨gb179, 1, none⟩) (Kd.S_types HO_6.out BK179.out (by decide)) (fun _ hk => hk.2) (.slice Ao110 y184.length co110)) (fun _ hk => trivial)⟩, ⟨by (with_reducible repeat (first | apply Kd.R_alloc | apply Kd.R_drewN | apply Kd.R_drew)); exact Kd.R_mono (Kd.R_far (p := ⟨gb179, 1, none⟩) (Kd.R_types HO186.out BK179.out (by decide)) (fun _ hk => hk.2) (.slice Ao110 y184.length co110)) (fun _ hk => trivial)⟩, ⟨by (with_reducible repeat (first | refine zf ?_ _ | refine zi ?_ | refine zg ?_ _)); refine blk_far ?_ NB145_179.out _; (with_reducible repeat (first | refine zf ?_ _ | refine zi ?_ | refine zg ?_ _)); exact BK145.out⟩, ⟨by (with_reducible repeat (first | refine zf ?_ _ | refine zi ?_ | refine zg ?_ _)); refine blk_put (cs := #[.int .i64 a0, u180001]) ?_ 1 _ rfl; (with_reducible repeat (first | refine zf ?_ _ | refine zi ?_ | refine zg ?_ _)); exact BK179.out⟩, ⟨zv7 HB.out⟩⟩
                     ·rw [if_neg c106] at H
                      exact absurd H (by simp)
                 ·rw [if_neg c95] at H
                  have c95b0 : decide (x14_5 < a0) = false := decide_eq_false c95
                  clear c95
                  replace H := zs4 H
                  obtain ⟨t180, A1120, H⟩ := H
                  replace H : (if t180 = true then (some (a0, x180001_5, true)) else (some (0, ([] : List Int), false))) = some (r1, r2, r3) := H
                  have A112 := zp.mk A1120
                  clear A1120
                  by_cases c113 : t180 = true
                  ·subst c113
                   have H1 : (some (a0, x180001_5, true)) = some (r1, r2, r3) := by rw [if_pos rfl] at H; exact H
                   clear H
                   have H := H1
                   clear H1
                   simp only [Option.some.injEq, Prod.mk.injEq] at H
                   obtain ⟨rfl, rfl, rfl⟩ := H
                   have hnb114 := NB179_145.out
                   have hnc114 := NB145_179.out
                   have y115_0 := zt0 BK179.out
                   have y115_1 := zt1 BK179.out
                   have u115_0 := zd BK179.out 0
                   have u115_1 := zd BK179.out 1
                   obtain ⟨Ao116, co116, eo116⟩ := Kd.R_slice HO_180001.out
                   subst eo116
                   go_wp2_with (first | ((with_reducible refine zn (f := 18) rfl ?_); refine goesL_ (some 162) rfl rfl Try.func18 (by kernel_rfl) rfl #[.agg #[.int .i64 a0, .slice Ao116 x180001_5.length co116]] rfl (by (try simp only [List.map_toArray, List.map_cons, List.map_nil]); first | done | rfl | (simp only [List.length_drop, List.length_take]; rfl)) ?_; (with_reducible refine (spec_LatOk.calls k5 a0 _ _ x180001_5 true _ ?side1 ?side2 A112.out).mono ?_); (case side1 => repeat (first | exact (Kd.R_reads' HO_180001.out).2.2 | (with_reducible refine Kd.zr ?_ _) | (with_reducible refine Kd.zq ?_ _) | (with_reducible refine Kd.C_drew ?_))); (case side2 => exact (Kd.R_reads' HO_180001.out).2.1); rintro e w117 ⟨rfl, hb⟩; refine ⟨_, rfl, ?_⟩; replace HO_6 := zp.mk (Kd.S_below (by (with_reducible repeat (first | apply Kd.S_alloc | apply Kd.S_drewN | apply Kd.S_drew)); exact HO_6.out) hb); replace HO_180001 := zp.mk (Kd.R_below (by (with_reducible repeat (first | apply Kd.R_alloc | apply Kd.R_drewN | apply Kd.R_drew)); exact HO_180001.out) hb); replace BK145 := zp.mk (zl (zv8 BK145.out) hb); replace BK179 := zp.mk (zl (zv8 BK179.out) hb); replace HB := zp.mk (zj (zv7 HB.out) hb); (try clear hb); (try clear hb2); (try clear hk); (try clear hi); have y118_0 := zt0 BK179.out; have y118_1 := zt1 BK179.out; have u118_0 := zd BK179.out 0; have u118_1 := zd BK179.out 1; have y119_0 := zt0 BK145.out; have y119_1 := zt1 BK145.out; have u119_0 := zd BK145.out 0; have u119_1 := zd BK145.out 1))
                   refine bodyPost_ret (results_ct rfl _ _ gb145 27 #[.int .i64 a0, .slice Ao116 x180001_5.length co116] (0, 0) _ rfl (by (with_reducible repeat (first | refine zf ?_ _ | refine zi ?_ | refine zg ?_ _)); refine blk_put (cs := #[.int .i64 a0, .slice none 0 0]) ?_ 1 _ rfl; (with_reducible repeat (first | refine zf ?_ _ | refine zi ?_ | refine zg ?_ _)); refine blk_put (cs := #[.int .i64 x146000_3, .slice none 0 0]) ?_ 0 _ rfl; (with_reducible repeat (first | refine zf ?_ _ | refine zi ?_ | refine zg ?_ _)); exact BK145.out) Try.underlying27 rfl (by kernel_rfl)) rfl ?_
                   exact ⟨_, by first | rfl | (simp [errW_none, errW_some] <;> rfl) | (simp [*, errW_none, errW_some] <;> rfl), by (with_reducible repeat (first | apply Kd.R_alloc | apply Kd.R_drewN | apply Kd.R_drew)); exact Kd.R_mono (Kd.R_far (p := ⟨gb145, 1, none⟩) (Kd.R_far (p := ⟨gb145, 0, none⟩) (Kd.R_types HO_180001.out BK145.out (by decide)) (fun _ hk => hk.2) (.int .i64 a0)) (fun _ hk => hk.2) (.slice Ao116 x180001_5.length co116)) (fun _ hk => trivial), zv7 HB.out⟩
                  ·replace c113 := Bool.eq_false_iff.mpr c113
                   subst c113
                   have H1 : (some (0, ([] : List Int), false)) = some (r1, r2, r3) := by rw [if_neg (show ¬ (false = true) by decide)] at H; exact H
                   clear H
                   have H := H1
                   clear H1
                   simp only [Option.some.injEq, Prod.mk.injEq] at H
                   obtain ⟨rfl, rfl, rfl⟩ := H
                   have hnb120 := NB179_145.out
                   have hnc120 := NB145_179.out
                   have y121_0 := zt0 BK179.out
                   have y121_1 := zt1 BK179.out
                   have u121_0 := zd BK179.out 0
                   have u121_1 := zd BK179.out 1
                   obtain ⟨Ao122, co122, eo122⟩ := Kd.R_slice HO_180001.out
                   subst eo122
                   go_wp2_with (first | ((with_reducible refine zn (f := 18) rfl ?_); refine goesL_ (some 162) rfl rfl Try.func18 (by kernel_rfl) rfl #[.agg #[.int .i64 a0, .slice Ao122 x180001_5.length co122]] rfl (by (try simp only [List.map_toArray, List.map_cons, List.map_nil]); first | done | rfl | (simp only [List.length_drop, List.length_take]; rfl)) ?_; (with_reducible refine (spec_LatOk.calls k5 a0 _ _ x180001_5 false _ ?side1 ?side2 A112.out).mono ?_); (case side1 => repeat (first | exact (Kd.R_reads' HO_180001.out).2.2 | (with_reducible refine Kd.zr ?_ _) | (with_reducible refine Kd.zq ?_ _) | (with_reducible refine Kd.C_drew ?_))); (case side2 => exact (Kd.R_reads' HO_180001.out).2.1); rintro e w123 ⟨rfl, hb⟩; refine ⟨_, rfl, ?_⟩; replace HO_6 := zp.mk (Kd.S_below (by (with_reducible repeat (first | apply Kd.S_alloc | apply Kd.S_drewN | apply Kd.S_drew)); exact HO_6.out) hb); replace HO_180001 := zp.mk (Kd.R_below (by (with_reducible repeat (first | apply Kd.R_alloc | apply Kd.R_drewN | apply Kd.R_drew)); exact HO_180001.out) hb); replace BK145 := zp.mk (zl (zv8 BK145.out) hb); replace BK179 := zp.mk (zl (zv8 BK179.out) hb); replace HB := zp.mk (zj (zv7 HB.out) hb); (try clear hb); (try clear hb2); (try clear hk); (try clear hi); have y124_0 := zt0 BK145.out; have y124_1 := zt1 BK145.out; have u124_0 := zd BK145.out 0; have u124_1 := zd BK145.out 1))
                   refine bodyPost_ret (results_ct rfl _ _ gb145 27 #[.int .i64 0, .slice none 0 0] (0, 0) _ rfl (by (with_reducible repeat (first | refine zf ?_ _ | refine zi ?_ | refine zg ?_ _)); refine blk_put (cs := #[.int .i64 0, .slice none 0 0]) ?_ 1 _ rfl; (with_reducible repeat (first | refine zf ?_ _ | refine zi ?_ | refine zg ?_ _)); refine blk_put (cs := #[.int .i64 x146000_3, .slice none 0 0]) ?_ 0 _ rfl; (with_reducible repeat (first | refine zf ?_ _ | refine zi ?_ | refine zg ?_ _)); exact BK145.out) Try.underlying27 rfl (by kernel_rfl)) rfl ?_
                   exact ⟨_, by first | rfl | (simp [errW_none, errW_some] <;> rfl) | (simp [*, errW_none, errW_some] <;> rfl), by first | exact Kd.R_nil _ _ _ _ _ | exact Kd.N_nil _ _ _ _ _ | exact Kd.V_nil _ _ _ _ _ | exact Kd.Q_nil _ _ _ _ _ | exact Kd.S_nil _ _ _ _ _, zv7 HB.out⟩
     ·rw [if_neg c10] at H
      exact absurd H (by simp)
    ·rw [if_neg c9] at H
     exact absurd H (by simp)

end Go.Proofs.Ytdpoliolinghfaa.QFnExactLatOf
