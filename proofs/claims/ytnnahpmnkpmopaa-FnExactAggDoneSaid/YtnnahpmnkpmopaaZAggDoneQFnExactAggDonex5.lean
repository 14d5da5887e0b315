/- Proved: calls of the program come to the answers of the plain Lean functions that stand beside them. Each contract names its conditions. (Written by a program of this session, over the printer of the kit.) -/
import Derived.Test.YtnnahpmnkpmopaaZAggDoneQFnExactAggDonex0
import Derived.Test.YtnnahpmnkpmopaaZAggDoneQFnExactAggDonex1
import Derived.Test.YtnnahpmnkpmopaaZAggDoneQFnExactAggDonex3
import Derived.Test.YtnnahpmnkpmopaaZAggDoneQFnExactAggDonex4
namespace Go.Proofs.Ytnnahpmnkpmopaa.QFnExactAggDone
open Go.RowKit Go.Proofs.YtnnahpmnkpmopaaW.PrintWords Go.Proofs.YtnnahpmnkpmopaaW.PrintLast Go.Proofs.YtnnahpmnkpmopaaW.PrintMore
attribute [local go_sem] max2_int min2_int max_two min_two max_three min_three max_four min_four   -- for this text's walks alone
set_option linter.unusedVariables false
set_option linter.unusedSimpArgs false

attribute [local go_sem high] eqA30
/-! ### spec_AggOk: function 9 -/
mutual
def spec_AggOk.j0 : Nat → Bool → Int → Int → Int → Int → Int → List Int → Option (Bool)
 | 0, _, _, _, _, _, _, _ => none
 | k + 1, x24, x191000, x191001, x191002, x191003, x191004, x191005 => if x24 = true then (some false) else (if x191000 = 0 then (if (x191001 == 0 && (x191002 == 0)) = true then (if x191003 = 0 then (some (x191004 == 0)) else (some false)) else (some false)) else ((spec_TopOf.f k x191005 ([] : List Int)).bind fun t191 => ((spec_l07Same.f k t191 x191005).bind fun t194 => (if t194 = true then (if 0 < (x191005.length : Int) then (if (rd x191005 0) = x191004 then (if 0 ≤ (wrap64 ((x191005.length : Int) - 1)) then (if (wrap64 ((x191005.length : Int) - 1)) < (x191005.length : Int) then (spec_AggOk.j1 k (decide (x191003 > (rd x191005 (wrap64 ((x191005.length : Int) - 1))))) x191000 x191001 x191002 x191003 x191004 x191005) else (none)) else (none)) else (spec_AggOk.j1 k true x191000 x191001 x191002 x191003 x191004 x191005)) else (none)) else (spec_AggOk.j1 k true x191000 x191001 x191002 x191003 x191004 x191005)))))
def spec_AggOk.j1 : Nat → Bool → Int → Int → Int → Int → Int → List Int → Option (Bool)
 | 0, _, _, _, _, _, _, _ => none
 | k + 1, x70, x191000, x191001, x191002, x191003, x191004, x191005 => if x70 = true then (some false) else (spec_AggOk.l0 k 0 x191000 x191001 x191002 x191003 x191004 x191005 0 0)
def spec_AggOk.l0 : Nat → Int → Int → Int → Int → Int → Int → List Int → Int → Int → Option (Bool)
 | 0, _, _, _, _, _, _, _, _, _ => none
 | k + 1, x4, x191000, x191001, x191002, x191003, x191004, x191005, x198000, x198001 => if x4 < (x191005.length : Int) then (if 0 ≤ x4 then ((spec_WideOf.f (rd x191005 x4)).bind fun bt199 => ((spec_WideAdd.f x198000 x198001 bt199.1 bt199.2).bind fun bt201 => (spec_AggOk.l0 k (wrap64 (x4 + 1)) x191000 x191001 x191002 x191003 x191004 x191005 bt201.1 bt201.2))) else (none)) else (if (wrap64 (x191000 - (x191005.length : Int))) = 0 then (if 0 ≤ (wrap64 ((x191005.length : Int) - 1)) then (if (wrap64 ((x191005.length : Int) - 1)) < (x191005.length : Int) then (if x191003 = (rd x191005 (wrap64 ((x191005.length : Int) - 1))) then (some (x191001 == x198000 && (x191002 == x198001))) else (some false)) else (none)) else (none)) else ((spec_l07Times.f k (wrap64 (x191000 - (x191005.length : Int))) x191003).bind fun bt204 => ((spec_WideAdd.f x198000 x198001 bt204.1 bt204.2).bind fun bt206 => ((spec_WideOf.f x191003).bind fun bt209 => ((spec_WideAdd.f x198000 x198001 bt209.1 bt209.2).bind fun bt211 => (if 3 < (x191005.length : Int) then ((spec_l07Times.f k (wrap64 ((wrap64 (x191000 - (x191005.length : Int))) - 1)) (rd x191005 3)).bind fun bt214 => ((spec_WideAdd.f bt211.1 bt211.2 bt214.1 bt214.2).bind fun bt216 => ((spec_WideCmp.f x191001 x191002 bt206.1 bt206.2).bind fun t219 => (if t219 ≥ 0 then ((spec_WideCmp.f x191001 x191002 bt216.1 bt216.2).bind fun t220 => (some (decide (t220 ≤ 0)))) else (some false))))) else (none)))))))
end
def spec_AggOk.f (k : Nat) (a0_0 : Int) (a0_1 : Int) (a0_2 : Int) (a0_3 : Int) (a0_4 : Int) (l0_5 : List Int) : Option (Bool) := if a0_0 < 0 then (spec_AggOk.j0 k true a0_0 a0_1 a0_2 a0_3 a0_4 l0_5) else (if a0_0 > 1000000 then (spec_AggOk.j0 k true a0_0 a0_1 a0_2 a0_3 a0_4 l0_5) else (spec_AggOk.j0 k ((l0_5.length : Int) != (mn a0_0 4)) a0_0 a0_1 a0_2 a0_3 a0_4 l0_5))
def spec_AggOk.T5 : Bool × List (List Nat × List Nat) := (true, [([], []), ([0], [0]), ([1], [1]), ([], []), ([3], [3]), ([2, 4, 2], [2, 4]), ([5], [5]), ([6, 5], [6]), ([7], [7]), ([8, 7], [7, 8]), ([9, 7], [7, 9]), ([10, 7], [7, 10]), ([7], [7]), ([12, 7], [7, 12]), ([11, 13, 7], [7, 11, 13]), ([7, 14], [7, 14]), ([15, 7], [15]), ([16], [16]), ([17, 16], [16, 17]), ([16], [16]), ([19, 16], [16, 19]), ([16], [16]), ([21, 16], [16, 21]), ([22, 16], [16, 22]), ([23, 16], [16, 23]), ([20, 24, 16], [16, 20, 24]), ([25, 16], [16, 25]), ([18, 26, 16], [16, 18, 26]), ([16, 27], [16, 27])])
def spec_AggOk.B5 : List Nat := [0, 1, 3, 0, 8, 31, 63, 127, 255, 511, 1023, 2047, 255, 4351, 16383, 32767, 65535, 131071, 262143, 131071, 655359, 131071, 2228223, 6422527, 14811135, 33161215, 66715647, 134217727, 268435455]
theorem spec_AggOk.tab5 : rtab .any (opsOf Try.f9 5) = spec_AggOk.T5 := by kernel_rfl
theorem spec_AggOk.bits5 : waitsOk spec_AggOk.T5.2 spec_AggOk.B5 = true := by kernel_rfl
def spec_AggOk.T11 : Bool × List (List Nat × List Nat) := (true, [([], []), ([], []), ([1], [1]), ([], []), ([2, 3], [2, 3]), ([4], [4]), ([5], [5]), ([0, 6, 6], [0, 6]), ([7, 7, 0, 1, 2, 3, 4, 5, 6, 7], [7])])
def spec_AggOk.B11 : List Nat := [0, 0, 2, 0, 14, 30, 62, 127, 255]
theorem spec_AggOk.tab11 : rtab .any (opsOf Try.f9 11) = spec_AggOk.T11 := by kernel_rfl
theorem spec_AggOk.bits11 : waitsOk spec_AggOk.T11.2 spec_AggOk.B11 = true := by kernel_rfl
def spec_AggOk.T14 : Bool × List (List Nat × List Nat) := (true, [([], []), ([0], [0]), ([], []), ([2], [2]), ([], []), ([4], [4]), ([5], [5]), ([6], [6]), ([3, 7], [3, 7]), ([8], [8]), ([1, 9], [1, 9]), ([10], [10]), ([11], [11]), ([12, 11], [11, 12]), ([11], [11]), ([13, 14, 11], [11, 13, 14]), ([11, 15], [11, 15]), ([16, 11, 0, 1, 2, 3, 4, 5, 6, 7, 8, 9, 10, 11, 12, 13, 14, 15, 16], [16])])
def spec_AggOk.B14 : List Nat := [0, 1, 0, 4, 0, 16, 48, 112, 252, 508, 1023, 2047, 4095, 8191, 4095, 32767, 65535, 131071]
theorem spec_AggOk.tab14 : rtab .any (opsOf Try.f9 14) = spec_AggOk.T14 := by kernel_rfl
theorem spec_AggOk.bits14 : waitsOk spec_AggOk.T14.2 spec_AggOk.B14 = true := by kernel_rfl
def spec_AggOk.T15 : Bool × List (List Nat × List Nat) := (true, [([], []), ([], []), ([], []), ([2], [2]), ([1, 3], [1, 3]), ([0, 4, 4], [0, 4]), ([], []), ([6, 5, 5, 0, 1, 2, 3, 4, 5, 6], [5, 6])])
def spec_AggOk.B15 : List Nat := [0, 0, 0, 4, 14, 31, 0, 127]
theorem spec_AggOk.tab15 : rtab .any (opsOf Try.f9 15) = spec_AggOk.T15 := by kernel_rfl
theorem spec_AggOk.bits15 : waitsOk spec_AggOk.T15.2 spec_AggOk.B15 = true := by kernel_rfl
def spec_AggOk.T16 : Bool × List (List Nat × List Nat) := (true, [([], []), ([], []), ([1], [1]), ([2], [2]), ([0, 3, 3], [0, 3]), ([], []), ([5], [5]), ([], []), ([7], [7]), ([8], [8]), ([9], [9]), ([6, 10, 4], [6, 10]), ([4, 11, 11], [4, 11]), ([], []), ([13, 12, 12, 0, 1, 2, 3, 4, 5, 6, 7, 8, 9, 10, 11, 12, 13], [12, 13])])
def spec_AggOk.B16 : List Nat := [0, 0, 2, 6, 15, 0, 32, 0, 128, 384, 896, 2047, 4095, 0, 16383]
theorem spec_AggOk.tab16 : rtab .any (opsOf Try.f9 16) = spec_AggOk.T16 := by kernel_rfl
theorem spec_AggOk.bits16 : waitsOk spec_AggOk.T16.2 spec_AggOk.B16 = true := by kernel_rfl
set_option maxHeartbeats 8000000 in
set_option maxRecDepth 100000 in
theorem spec_AggOk.calls (k : Nat) (a0_0 : Int) (a0_1 : Int) (a0_2 : Int) (a0_3 : Int) (a0_4 : Int) (A0_5 : Option Addr) (c0_5 : Nat) (l0_5 : List Int) (r : Bool) (w : World) (hr0_5 : Kd.C (Kd.int .i64) w A0_5 l0_5.length l0_5) (hc0_5 : l0_5.length ≤ c0_5) (h : spec_AggOk.f k a0_0 a0_1 a0_2 a0_3 a0_4 l0_5 = some r) :
  Calls Try.prog 9 #[.agg #[.int .i64 a0_0, .int .i64 a0_1, .int .u64 a0_2, .int .i64 a0_3, .int .i64 a0_4, .slice A0_5 l0_5.length c0_5]] w fun e w' => e = .returned (.bool r) ∧ Below w.heap.size w w' := by
 have hu32 := Try.underlying32
 have hu30 := Try.underlying30
 have HR0_5 := zp.mk hr0_5
 have HC0_5 := zp.mk hc0_5
 clear hr0_5 hc0_5
 have HB := zp.mk (Below.refl w.heap.size w)
 have H : (if a0_0 < 0 then (spec_AggOk.j0 k true a0_0 a0_1 a0_2 a0_3 a0_4 l0_5) else (if a0_0 > 1000000 then (spec_AggOk.j0 k true a0_0 a0_1 a0_2 a0_3 a0_4 l0_5) else (spec_AggOk.j0 k ((l0_5.length : Int) != (mn a0_0 4)) a0_0 a0_1 a0_2 a0_3 a0_4 l0_5))) = some r := h
 clear h
 have HC2 := zp.mk H
 clear H
 go_enter Try.func9, Try.ntmps9
 go_upto_region 1 with (first | ((with_reducible refine zo (N := 1) rfl ?_); (try (refine gate_guard (by rfl) ?_; dsimp only)); refine zm ?hg (N := 1) ?hd (cs := #[.int .i64 a0_0, .int .i64 a0_1, .int .u64 a0_2, .int .i64 a0_3, .int .i64 a0_4, .slice A0_5 l0_5.length c0_5]) (t := 32) ?hr ?_; (case hd => rfl); (case hg => rfl); (case hr => first | (go_simp; done) | (go_simp; rfl)); intro gb190 hg w3 hbox hb; have BK190 := zp.mk (hbox); have GW190 := zp.mk ((zv3 (zv6 HB.out) hg)); have GE190 := zp.mk ((zv3 (zv6 HB.out) hg)); replace HB := zp.mk (zj (zv6 HB.out) hb); clear hb hbox hg))
 (try simp only [Act.put, zs1, zs2, zs3])
 go_cut [24] (fun v24 wc => ∃ (kq : Nat) (x24_1 : Bool), v24 = .bool x24_1 ∧ zp (spec_AggOk.j0 kq x24_1 a0_0 a0_1 a0_2 a0_3 a0_4 l0_5 = some r) ∧ zp (kq ≤ k) ∧ zp (wc.heap[gb190]? = some (.cells #[.int .i64 a0_0, .int .i64 a0_1, .int .u64 a0_2, .int .i64 a0_3, .int .i64 a0_4, (.slice A0_5 l0_5.length c0_5)] 32 (0, 0))) ∧ zp (Below w.heap.size w wc))
 case first =>
  have H := HC2.out
  clear HC2
  by_cases c4 : a0_0 < 0
  ·rw [if_pos c4] at H
   have c4b0 : decide (a0_0 < 0) = true := decide_eq_true c4
   clear c4
   (first | rw [c4b0] | (simp only [i64_w, i32_w]; rw [c4b0]) | skip)
   have H' := zp.mk H
   clear H
   have y5_0 := zt0 BK190.out
   have y5_1 := zt1 BK190.out
   have y5_2 := zt2 BK190.out
   have y5_3 := zt3 BK190.out
   have y5_4 := zt4 BK190.out
   have y5_5 := zt5 BK190.out
   have u5_0 := zd BK190.out 0
   have u5_1 := zd BK190.out 1
   have u5_2 := zd BK190.out 2
   have u5_3 := zd BK190.out 3
   have u5_4 := zd BK190.out 4
   have u5_5 := zd BK190.out 5
   go_wp2
   go_meet
   case rel => exact ⟨_, (true), (by first | rfl | (simp; done) | (simp [*]; done)), H', ⟨by first | omega | exact Nat.le_refl _⟩, ⟨zv8 BK190.out⟩, ⟨zv7 HB.out⟩⟩
  ·rw [if_neg c4] at H
   have c4b0 : decide (a0_0 < 0) = false := decide_eq_false c4
   clear c4
   (first | rw [c4b0] | (simp only [i64_w, i32_w]; rw [c4b0]) | skip)
   by_cases c6 : a0_0 > 1000000
   ·rw [if_pos c6] at H
    have c6b0 : decide (1000000 < a0_0) = true := decide_eq_true c6
    clear c6
    have H' := zp.mk H
    clear H
    have y7_0 := zt0 BK190.out
    have y7_1 := zt1 BK190.out
    have y7_2 := zt2 BK190.out
    have y7_3 := zt3 BK190.out
    have y7_4 := zt4 BK190.out
    have y7_5 := zt5 BK190.out
    have u7_0 := zd BK190.out 0
    have u7_1 := zd BK190.out 1
    have u7_2 := zd BK190.out 2
    have u7_3 := zd BK190.out 3
    have u7_4 := zd BK190.out 4
    have u7_5 := zd BK190.out 5
    go_wp2
    go_meet
    case rel => exact ⟨_, (true), (by first | rfl | (simp; done) | (simp [*]; done)), H', ⟨by first | omega | exact Nat.le_refl _⟩, ⟨zv8 BK190.out⟩, ⟨zv7 HB.out⟩⟩
   ·rw [if_neg c6] at H
    have c6b0 : decide (1000000 < a0_0) = false := decide_eq_false c6
    clear c6
    obtain ⟨ji8, hji8⟩ : ∃ j_ : Int, (mn a0_0 4) = j_ := ⟨_, rfl⟩
    replace H : (spec_AggOk.j0 k ((l0_5.length : Int) != (ji8)) a0_0 a0_1 a0_2 a0_3 a0_4 l0_5) = some r := by first | (rw [hji8] at H; exact H) | (simp only [hji8] at H ⊢; exact H)
    (try (have hji8h : ji8 ≤ 4 := by (rw [← hji8]; unfold mn; (repeat' split) <;> omega)))
    (try (have hji8g : ji8 ≤ 64 := by omega))
    have hji8_ : (if 4 < a0_0 then 4 else a0_0) = ji8 := hji8
    have H' := zp.mk H
    clear H
    have y9_0 := zt0 BK190.out
    have y9_1 := zt1 BK190.out
    have y9_2 := zt2 BK190.out
    have y9_3 := zt3 BK190.out
    have y9_4 := zt4 BK190.out
    have y9_5 := zt5 BK190.out
    have u9_0 := zd BK190.out 0
    have u9_1 := zd BK190.out 1
    have u9_2 := zd BK190.out 2
    have u9_3 := zd BK190.out 3
    have u9_4 := zd BK190.out 4
    have u9_5 := zd BK190.out 5
    go_wp2
    go_meet
    case rel => exact ⟨_, (((l0_5.length : Int) != (ji8))), (by first | rfl | (simp; done) | (simp only [← hji8] <;> (first | rfl | simp)) | (simp [*]; done)), H', ⟨by first | omega | exact Nat.le_refl _⟩, ⟨zv8 BK190.out⟩, ⟨zv7 HB.out⟩⟩
 case rest =>
  clear HC2
  try clear p2
  try clear c4
  try clear c4b0
  try clear c6
  try clear c6b0
  try clear c9
  try clear y5_0
  try clear y5_1
  try clear y5_2
  try clear y5_3
  try clear y5_4
  try clear y5_5
  try clear y7_0
  try clear y7_1
  try clear y7_2
  try clear y7_3
  try clear y7_4
  try clear y7_5
  try clear y9_0
  try clear y9_1
  try clear y9_2
  try clear y9_3
  try clear y9_4
  try clear y9_5
  try clear u5_0
  try clear u5_1
  try clear u5_2
  try clear u5_3
  try clear u5_4
  try clear u5_5
  try clear u7_0
  try clear u7_1
  try clear u7_2
  try clear u7_3
  try clear u7_4
  try clear u7_5
  try clear u9_0
  try clear u9_1
  try clear u9_2
  try clear u9_3
  try clear u9_4
  try clear u9_5
  obtain ⟨kq, x24_1, rfl, HA, HJ1, BK190, HB⟩ := hcut
  cases kq with
  | zero => exact absurd HA.out (by simp [spec_AggOk.j0])
  | succ kj1 =>
   have H := HA.out
   clear HA
   simp only [spec_AggOk.j0] at H
   by_cases c10 : x24_1 = true
   ·subst c10
    have H1 : (some false) = some r := by rw [if_pos rfl] at H; exact H
    clear H
    have H := H1
    clear H1
    obtain rfl := Option.some.inj H
    go_wp2
    go_ret
    exact ⟨by first | rfl | (simp [errW_none, errW_some] <;> rfl) | (simp [*, errW_none, errW_some] <;> rfl), zv7 HB.out⟩
   ·replace c10 := Bool.eq_false_iff.mpr c10
    subst c10
    have H1 : (if a0_0 = 0 then (if (a0_1 == 0 && (a0_2 == 0)) = true then (if a0_3 = 0 then (some (a0_4 == 0)) else (some false)) else (some false)) else ((spec_TopOf.f kj1 l0_5 ([] : List Int)).bind fun t191 => ((spec_l07Same.f kj1 t191 l0_5).bind fun t194 => (if t194 = true then (if 0 < (l0_5.length : Int) then (if (rd l0_5 0) = a0_4 then (if 0 ≤ (wrap64 ((l0_5.length : Int) - 1)) then (if (wrap64 ((l0_5.length : Int) - 1)) < (l0_5.length : Int) then (spec_AggOk.j1 kj1 (decide (a0_3 > (rd l0_5 (wrap64 ((l0_5.length : Int) - 1))))) a0_0 a0_1 a0_2 a0_3 a0_4 l0_5) else (none)) else (none)) else (spec_AggOk.j1 kj1 true a0_0 a0_1 a0_2 a0_3 a0_4 l0_5)) else (none)) else (spec_AggOk.j1 kj1 true a0_0 a0_1 a0_2 a0_3 a0_4 l0_5))))) = some r := by rw [if_neg (show ¬ (false = true) by decide)] at H; exact H
    clear H
    have H := H1
    clear H1
    by_cases c11 : a0_0 = 0
    ·rw [if_pos c11] at H
     have c11b0 : (a0_0 == 0) = true := beq_iff_eq.mpr c11
     have c11b1 : (a0_0 != 0) = false := bne_eq_false_iff_eq.mpr c11
     clear c11
     by_cases c12 : (a0_1 == 0 && (a0_2 == 0)) = true
     ·rw [if_pos c12] at H
      have c12b0 : (a0_1 == 0 && (a0_2 == 0)) = true := c12
      (try (have c12b1 : decide (a0_1 = 0 && (a0_2 == 0)) = true := by simpa using c12))
      (try (have c12b2 : (a0_1 == 0 && (a0_2 == 0)) = true := by simpa using c12))
      clear c12
      by_cases c13 : a0_3 = 0
      ·rw [if_pos c13] at H
       have c13b0 : (a0_3 == 0) = true := beq_iff_eq.mpr c13
       have c13b1 : (a0_3 != 0) = false := bne_eq_false_iff_eq.mpr c13
       clear c13
       obtain rfl := Option.some.inj H
       have y14_0 := zt0 BK190.out
       have y14_1 := zt1 BK190.out
       have y14_2 := zt2 BK190.out
       have y14_3 := zt3 BK190.out
       have y14_4 := zt4 BK190.out
       have y14_5 := zt5 BK190.out
       have u14_0 := zd BK190.out 0
       have u14_1 := zd BK190.out 1
       have u14_2 := zd BK190.out 2
       have u14_3 := zd BK190.out 3
       have u14_4 := zd BK190.out 4
       have u14_5 := zd BK190.out 5
       go_wp2
       go_ret
       exact ⟨by first | rfl | (simp [errW_none, errW_some] <;> rfl) | (simp [*, errW_none, errW_some] <;> rfl), zv7 HB.out⟩
      ·rw [if_neg c13] at H
       have c13b0 : (a0_3 == 0) = false := beq_eq_false_iff_ne.mpr c13
       have c13b1 : (a0_3 != 0) = true := bne_iff_ne.mpr c13
       obtain rfl := Option.some.inj H
       have y15_0 := zt0 BK190.out
       have y15_1 := zt1 BK190.out
       have y15_2 := zt2 BK190.out
       have y15_3 := zt3 BK190.out
       have y15_4 := zt4 BK190.out
       have y15_5 := zt5 BK190.out
       have u15_0 := zd BK190.out 0
       have u15_1 := zd BK190.out 1
       have u15_2 := zd BK190.out 2
       have u15_3 := zd BK190.out 3
       have u15_4 := zd BK190.out 4
       have u15_5 := zd BK190.out 5
       go_wp2
       go_ret
       exact ⟨by first | rfl | (simp [errW_none, errW_some] <;> rfl) | (simp [*, errW_none, errW_some] <;> rfl), zv7 HB.out⟩
     ·rw [if_neg c12] at H
      have c12b0 : (a0_1 == 0 && (a0_2 == 0)) = false := by simpa using c12
      (try (have c12b1 : decide (a0_1 = 0 && (a0_2 == 0)) = false := by simpa using c12))
      (try (have c12b2 : (a0_1 == 0 && (a0_2 == 0)) = false := by simpa using c12))
      (try (have c12b3 : ¬ (a0_1 = 0 && (a0_2 == 0)) := by simpa using c12))
      clear c12
      obtain rfl := Option.some.inj H
      have y16_0 := zt0 BK190.out
      have y16_1 := zt1 BK190.out
      have y16_2 := zt2 BK190.out
      have y16_3 := zt3 BK190.out
      have y16_4 := zt4 BK190.out
      have y16_5 := zt5 BK190.out
      have u16_0 := zd BK190.out 0
      have u16_1 := zd BK190.out 1
      have u16_2 := zd BK190.out 2
      have u16_3 := zd BK190.out 3
      have u16_4 := zd BK190.out 4
      have u16_5 := zd BK190.out 5
      go_wp2
      go_ret
      exact ⟨by first | rfl | (simp [errW_none, errW_some] <;> rfl) | (simp [*, errW_none, errW_some] <;> rfl), zv7 HB.out⟩
    ·rw [if_neg c11] at H
     have c11b0 : (a0_0 == 0) = false := beq_eq_false_iff_ne.mpr c11
     have c11b1 : (a0_0 != 0) = true := bne_iff_ne.mpr c11
     have HC17 := zp.mk H
     clear H
     have y18_0 := zt0 BK190.out
     have y18_1 := zt1 BK190.out
     have y18_2 := zt2 BK190.out
     have y18_3 := zt3 BK190.out
     have y18_4 := zt4 BK190.out
     have y18_5 := zt5 BK190.out
     have u18_0 := zd BK190.out 0
     have u18_1 := zd BK190.out 1
     have u18_2 := zd BK190.out 2
     have u18_3 := zd BK190.out 3
     have u18_4 := zd BK190.out 4
     have u18_5 := zd BK190.out 5
     go_upto_region 5 with (fail)
     go_cut [70] (fun v70 wc => ∃ (kq : Nat) (x70_16 : Bool), v70 = .bool x70_16 ∧ zp (spec_AggOk.j1 kq x70_16 a0_0 a0_1 a0_2 a0_3 a0_4 l0_5 = some r) ∧ zp (kq ≤ kj1) ∧ zp (wc.heap[gb190]? = some (.cells #[.int .i64 a0_0, .int .i64 a0_1, .int .u64 a0_2, .int .i64 a0_3, .int .i64 a0_4, (.slice A0_5 l0_5.length c0_5)] 32 (0, 0))) ∧ zp (Below w.heap.size w wc))
     case first =>
      have H := HC17.out
      clear HC17
      replace H := zs4 H
      obtain ⟨t191, A190, H⟩ := H
      replace H : ((spec_l07Same.f kj1 t191 l0_5).bind fun t194 => (if t194 = true then (if 0 < (l0_5.length : Int) then (if (rd l0_5 0) = a0_4 then (if 0 ≤ (wrap64 ((l0_5.length : Int) - 1)) then (if (wrap64 ((l0_5.length : Int) - 1)) < (l0_5.length : Int) then (spec_AggOk.j1 kj1 (decide (a0_3 > (rd l0_5 (wrap64 ((l0_5.length : Int) - 1))))) a0_0 a0_1 a0_2 a0_3 a0_4 l0_5) else (none)) else (none)) else (spec_AggOk.j1 kj1 true a0_0 a0_1 a0_2 a0_3 a0_4 l0_5)) else (none)) else (spec_AggOk.j1 kj1 true a0_0 a0_1 a0_2 a0_3 a0_4 l0_5))) = some r := H
      have A19 := zp.mk A190
      clear A190
      replace H := zs4 H
      obtain ⟨t194, A200, H⟩ := H
      replace H : (if t194 = true then (if 0 < (l0_5.length : Int) then (if (rd l0_5 0) = a0_4 then (if 0 ≤ (wrap64 ((l0_5.length : Int) - 1)) then (if (wrap64 ((l0_5.length : Int) - 1)) < (l0_5.length : Int) then (spec_AggOk.j1 kj1 (decide (a0_3 > (rd l0_5 (wrap64 ((l0_5.length : Int) - 1))))) a0_0 a0_1 a0_2 a0_3 a0_4 l0_5) else (none)) else (none)) else (spec_AggOk.j1 kj1 true a0_0 a0_1 a0_2 a0_3 a0_4 l0_5)) else (none)) else (spec_AggOk.j1 kj1 true a0_0 a0_1 a0_2 a0_3 a0_4 l0_5)) = some r := H
      have A20 := zp.mk A200
      clear A200
      by_cases c21 : t194 = true
      ·subst c21
       have H1 : (if 0 < (l0_5.length : Int) then (if (rd l0_5 0) = a0_4 then (if 0 ≤ (wrap64 ((l0_5.length : Int) - 1)) then (if (wrap64 ((l0_5.length : Int) - 1)) < (l0_5.length : Int) then (spec_AggOk.j1 kj1 (decide (a0_3 > (rd l0_5 (wrap64 ((l0_5.length : Int) - 1))))) a0_0 a0_1 a0_2 a0_3 a0_4 l0_5) else (none)) else (none)) else (spec_AggOk.j1 kj1 true a0_0 a0_1 a0_2 a0_3 a0_4 l0_5)) else (none)) = some r := by rw [if_pos rfl] at H; exact H
       clear H
       have H := H1
       clear H1
       by_cases c22 : 0 < (l0_5.length : Int)
       ·rw [if_pos c22] at H
        have c22b0 : decide (0 < (l0_5.length : Int)) = true := decide_eq_true c22
        have c22b1 : decide (0 < l0_5.length) = true := decide_eq_true (by omega)
        clear c22
        (first | rw [c22b0] | (simp only [i64_w, i32_w]; rw [c22b0]) | skip)
        by_cases c23 : (rd l0_5 0) = a0_4
        ·rw [if_pos c23] at H
         have c23b0 : ((rd l0_5 0) == a0_4) = true := beq_iff_eq.mpr c23
         have c23b1 : ((rd l0_5 0) != a0_4) = false := bne_eq_false_iff_eq.mpr c23
         clear c23
         obtain ⟨ji24, hji24⟩ : ∃ j_ : Int, (wrap64 ((l0_5.length : Int) - 1)) = j_ := ⟨_, rfl⟩
         replace H : (if 0 ≤ (ji24) then (if (ji24) < (l0_5.length : Int) then (spec_AggOk.j1 kj1 (decide (a0_3 > (rd l0_5 (ji24)))) a0_0 a0_1 a0_2 a0_3 a0_4 l0_5) else (none)) else (none)) = some r := by first | (rw [hji24] at H; exact H) | (simp only [hji24] at H ⊢; exact H)
         (try rw [hji24] at A19)
         (try rw [hji24] at A20)
         have hji24w : (IntKind.i64.wrap ((l0_5.length : Int) - 1)) = ji24 := (i64_w _).trans hji24
         by_cases c25 : 0 ≤ (ji24)
         ·rw [if_pos c25] at H
          have c25b0 : decide (0 ≤ (ji24)) = true := decide_eq_true c25
          clear c25
          by_cases c26 : (ji24) < (l0_5.length : Int)
          ·rw [if_pos c26] at H
           have c26b0 : decide ((ji24) < (l0_5.length : Int)) = true := decide_eq_true c26
           clear c26
           have H' := zp.mk H
           clear H
           try go_wp2
           replace BK190 := zp.mk (zi BK190.out)
           replace HB := zp.mk (zb HB.out)
           have p195 : 0 ≤ (0 : Int) := (by omega)
           have q195 : 0 < (l0_5.length : Int) := of_decide_eq_true (by first | (with_reducible assumption) | assumption)
           obtain ⟨ad195, e195, hx195_0⟩ := Kd.at_int HR0_5.out 0 p195 q195
           have hw195_0 := hx195_0
           (try rw [show ((0 : Int)).toNat = 0 from rfl] at hw195_0)
           (try rw [show 0 * 1 = 0 from rfl] at hw195_0)
           (try rw [Addr.add_zero'] at hw195_0)
           cases e195
           have qi195 : (0 < l0_5.length) = True := eq_true (by omega)
           (try rw [show ((0 : Int)).toNat = 0 from rfl] at hx195_0)
           (try rw [Addr.add_zero'] at hx195_0)
           replace hx195_0 := (HB.out.cell (World.block_lt_of_cell? w _ hx195_0)).trans hx195_0
           replace p195 := eq_true p195
           replace q195 := eq_true q195
           have p196 : 0 ≤ ((ji24) : Int) := of_decide_eq_true (by first | (with_reducible assumption) | assumption)
           have q196 : (ji24) < (l0_5.length : Int) := of_decide_eq_true (by first | (with_reducible assumption) | assumption)
           obtain ⟨ad196, e196, hx196_0⟩ := Kd.at_int HR0_5.out (ji24) p196 q196
           have hw196_0 := hx196_0
           obtain rfl : ad195 = ad196 := (by injection e196)
           replace hx196_0 := (HB.out.cell (World.block_lt_of_cell? w _ hx196_0)).trans hx196_0
           replace p196 := eq_true p196
           replace q196 := eq_true q196
           refine start_ (n := 29) (S := fun w' => w'.cell? ⟨gb190, 0, none⟩ = some (.int .i64 a0_0) ∧ w'.cell? ⟨gb190, 1, none⟩ = some (.int .i64 a0_1) ∧ w'.cell? ⟨gb190, 2, none⟩ = some (.int .u64 a0_2) ∧ w'.cell? ⟨gb190, 3, none⟩ = some (.int .i64 a0_3) ∧ w'.cell? ⟨gb190, 4, none⟩ = some (.int .i64 a0_4) ∧ w'.cell? ⟨gb190, 5, none⟩ = some (.slice (some ad195) l0_5.length c0_5) ∧ w'.cell? ad195 = some (.int .i64 (rd l0_5 0)) ∧ w'.cell? (ad195.add ((ji24)).toNat) = some (.int .i64 (rd l0_5 (ji24)))) (ds := []) #[false, false, false, false, false, false, false, false, false, false, false, false, false, false, false, false, false, false, false, false, false, false, false, false, false, false, false, false, false] (by kernel_rfl) rfl rfl ⟨(ze BK190.out 0).trans rfl, (ze BK190.out 1).trans rfl, (ze BK190.out 2).trans rfl, (ze BK190.out 3).trans rfl, (ze BK190.out 4).trans rfl, (ze BK190.out 5).trans rfl, ((HB.out.cell (World.block_lt_of_cell? w _ hw195_0)).trans hw195_0), ((HB.out.cell (World.block_lt_of_cell? w _ hw196_0)).trans hw196_0)⟩ (fun hHeld => ?_); refine with_tabW spec_AggOk.tab5 spec_AggOk.bits5 (fun HT_ HW_ => ?_)
           generalize wc.drew = w27 at BK190 HB hx195_0 hx196_0 hHeld ⊢
           refine pure_ (i := 0) (N := some 42) (v := ?_) (a' := ?_) #[true, false, false, false, false, false, false, false, false, false, false, false, false, false, false, false, false, false, false, false, false, false, false, false, false, false, false, false, false] rfl rfl (any_of HT_.out (by kernel_rfl)) (fun _ _ _ h => h) (Or.inl ⟨by rfl, ?_⟩) ?_ ?_
           rotate_left
           ·intro w'
            go_simp
            with_reducible rfl
           rotate_left
           ·simp only [Act.put, zs1, zs2, zs3, i64_w, i32_w]
            rfl
           refine pure_ (i := 3) (N := some 45) (v := ?_) (a' := ?_) #[true, false, false, true, false, false, false, false, false, false, false, false, false, false, false, false, false, false, false, false, false, false, false, false, false, false, false, false, false] rfl rfl (any_of HT_.out (by kernel_rfl)) (fun _ _ _ h => h) (Or.inl ⟨by rfl, ?_⟩) ?_ ?_
           rotate_left
           ·intro w'
            go_simp
            with_reducible rfl
           rotate_left
           ·simp only [Act.put, zs1, zs2, zs3, i64_w, i32_w]
            rfl
           refine take_ (i := 1) (N := some 43) (v := ?_) (a' := ?_) #[true, true, false, true, false, false, false, false, false, false, false, false, false, false, false, false, false, false, false, false, false, false, false, false, false, false, false, false, false] rfl rfl (take_ofW HT_.out HW_.out (by kernel_rfl)) (fun _ _ _ h => h) (Or.inl ⟨by rfl, ?_⟩) hHeld ?_ ?_
           rotate_left
           ·rintro w' ⟨s0, s1, s2, s3, s4, s5, s6, s7⟩
            go_simp
            with_reducible rfl
           rotate_left
           ·simp only [Act.put, zs1, zs2, zs3, i64_w, i32_w]
            rfl
           refine take_ (i := 4) (N := some 46) (v := ?_) (a' := ?_) #[true, true, false, true, true, false, false, false, false, false, false, false, false, false, false, false, false, false, false, false, false, false, false, false, false, false, false, false, false] rfl rfl (take_ofW HT_.out HW_.out (by kernel_rfl)) (fun _ _ _ h => h) (Or.inl ⟨by rfl, ?_⟩) hHeld ?_ ?_
           rotate_left
           ·rintro w' ⟨s0, s1, s2, s3, s4, s5, s6, s7⟩
            go_simp
            with_reducible rfl
           rotate_left
           ·simp only [Act.put, zs1, zs2, zs3, i64_w, i32_w]
            rfl
           refine one_ (i := 2) (N := some 44) #[true, true, true, true, true, false, false, false, false, false, false, false, false, false, false, false, false, false, false, false, false, false, false, false, false, false, false, false, false] rfl rfl (one_of HT_.out (by kernel_rfl)) (by decide) (fun K hK => ?_)
           refine goes_ Try.func19 (by kernel_rfl) rfl #[.slice (some ad195) l0_5.length c0_5, .slice none 0 0] (by rfl) rfl rfl (by (try simp only [List.map_toArray, List.map_cons, List.map_nil]); first | done | rfl | (simp only [List.length_drop, List.length_take]; rfl)) ?_
           refine (spec_TopOf.calls kj1 _ _ l0_5 _ _ ([] : List Int) t191 _ ?side1 ?side2 ?side3 ?side4 A19.out).mono ?_
           (case side1 => repeat (first | exact (Kd.zs HR0_5.out HB.out) | (with_reducible refine Kd.zr ?_ _) | (with_reducible refine Kd.zq ?_ _) | (with_reducible refine Kd.C_drew ?_)))
           (case side2 => exact HC0_5.out)
           (case side3 => exact Kd.C_nil _ _)
           (case side4 => exact Nat.le_refl _)
           rintro e w28 ⟨v192, rfl, ho0, hb⟩
           refine ⟨_, rfl, ?_⟩
           have HO193 := zp.mk (Kd.R_lower ho0 (zk (zv7 HB.out)))
           replace BK190 := zp.mk (zl (zv8 BK190.out) hb)
           replace HB := zp.mk (zj (zv7 HB.out) hb)
           (try clear hb)
           (try clear hb2)
           (try clear hk)
           (try clear hi)
           (try clear ho0)
           obtain ⟨Ao29, co29, eo29⟩ := Kd.R_slice HO193.out
           (first | subst eo29 | (injection eo29 with f1_ f2_ f3_; have f4_ := f1_.symm; have f5_ := f3_.symm; clear f1_ f2_ f3_; subst f4_; subst f5_))
           refine hK.out _ _ ⟨(ze BK190.out 0).trans rfl, (ze BK190.out 1).trans rfl, (ze BK190.out 2).trans rfl, (ze BK190.out 3).trans rfl, (ze BK190.out 4).trans rfl, (ze BK190.out 5).trans rfl, ((HB.out.cell (World.block_lt_of_cell? w _ hw195_0)).trans hw195_0), ((HB.out.cell (World.block_lt_of_cell? w _ hw196_0)).trans hw196_0)⟩ (fun hHeld => ?_)
           clear hK K
           refine norm_ (a' := ?_) ?_ ?_
           rotate_left
           ·show Act.put _ (some 44) _ = _
            simp only [Act.put, zs1, zs2, zs3, i64_w, i32_w]
            rfl
           refine one_ (i := 5) (N := some 47) #[true, true, true, true, true, true, false, false, false, false, false, false, false, false, false, false, false, false, false, false, false, false, false, false, false, false, false, false, false] rfl rfl (one_of HT_.out (by kernel_rfl)) (by decide) (fun K hK => ?_)
           refine goes_ Try.func28 (by kernel_rfl) rfl #[.slice Ao29 t191.length co29, .slice (some ad195) l0_5.length c0_5] (by rfl) rfl rfl (by (try simp only [List.map_toArray, List.map_cons, List.map_nil]); first | done | rfl | (simp only [List.length_drop, List.length_take]; rfl)) ?_
           with_reducible refine (spec_l07Same.calls kj1 _ _ t191 _ _ l0_5 true _ ?side1 ?side2 ?side3 ?side4 A20.out).mono ?_
           (case side1 => repeat (first | exact (Kd.R_reads' HO193.out).2.2 | (with_reducible refine Kd.zr ?_ _) | (with_reducible refine Kd.zq ?_ _) | (with_reducible refine Kd.C_drew ?_)))
           (case side2 => exact (Kd.R_reads' HO193.out).2.1)
           (case side3 => repeat (first | exact (Kd.zs HR0_5.out HB.out) | (with_reducible refine Kd.zr ?_ _) | (with_reducible refine Kd.zq ?_ _) | (with_reducible refine Kd.C_drew ?_)))
           (case side4 => exact HC0_5.out)
           rintro e w' ⟨rfl, ⟨nd, rfl⟩⟩
           refine ⟨_, rfl, ?_⟩
           refine hK.out _ _ ⟨(ze BK190.out 0).trans rfl, (ze BK190.out 1).trans rfl, (ze BK190.out 2).trans rfl, (ze BK190.out 3).trans rfl, (ze BK190.out 4).trans rfl, (ze BK190.out 5).trans rfl, ((HB.out.cell (World.block_lt_of_cell? w _ hw195_0)).trans hw195_0), ((HB.out.cell (World.block_lt_of_cell? w _ hw196_0)).trans hw196_0)⟩ (fun hHeld => ?_)
           clear hK K
           refine norm_ (a' := ?_) ?_ ?_
           rotate_left
           ·show Act.put _ (some 47) _ = _
            simp only [Act.put, zs1, zs2, zs3, i64_w, i32_w]
            rfl
           refine pure_ (i := 6) (N := some 48) (v := ?_) (a' := ?_) #[true, true, true, true, true, true, true, false, false, false, false, false, false, false, false, false, false, false, false, false, false, false, false, false, false, false, false, false, false] rfl rfl (any_of HT_.out (by kernel_rfl)) (fun _ _ _ h => h) (Or.inl ⟨by rfl, ?_⟩) ?_ ?_
           rotate_left
           ·intro w'
            go_simp
            with_reducible rfl
           rotate_left
           ·simp only [Act.put, zs1, zs2, zs3, i64_w, i32_w]
            rfl
           refine pure_ (i := 7) (N := some 49) (v := ?_) (a' := ?_) #[true, true, true, true, true, true, true, true, false, false, false, false, false, false, false, false, false, false, false, false, false, false, false, false, false, false, false, false, false] rfl rfl (any_of HT_.out (by kernel_rfl)) (fun _ _ _ h => h) (Or.inl ⟨by rfl, ?_⟩) ?_ ?_
           rotate_left
           ·intro w'
            go_simp
            with_reducible rfl
           rotate_left
           ·simp only [Act.put, zs1, zs2, zs3, i64_w, i32_w]
            rfl
           refine pure_ (i := 8) (N := some 50) (v := ?_) (a' := ?_) #[true, true, true, true, true, true, true, true, true, false, false, false, false, false, false, false, false, false, false, false, false, false, false, false, false, false, false, false, false] rfl rfl (any_of HT_.out (by kernel_rfl)) (fun _ _ _ h => h) (Or.inl ⟨by rfl, ?_⟩) ?_ ?_
           rotate_left
           ·intro w'
            go_simp
            with_reducible rfl
           rotate_left
           ·simp only [Act.put, zs1, zs2, zs3, i64_w, i32_w]
            rfl
           refine pure_ (i := 12) (N := some 54) (v := ?_) (a' := ?_) #[true, true, true, true, true, true, true, true, true, false, false, false, true, false, false, false, false, false, false, false, false, false, false, false, false, false, false, false, false] rfl rfl (any_of HT_.out (by kernel_rfl)) (fun _ _ _ h => h) (Or.inl ⟨by rfl, ?_⟩) ?_ ?_
           rotate_left
           ·intro w'
            go_simp
            with_reducible rfl
           rotate_left
           ·simp only [Act.put, zs1, zs2, zs3, i64_w, i32_w]
            rfl
           refine take_ (i := 9) (N := some 51) (v := ?_) (a' := ?_) #[true, true, true, true, true, true, true, true, true, true, false, false, true, false, false, false, false, false, false, false, false, false, false, false, false, false, false, false, false] rfl rfl (take_ofW HT_.out HW_.out (by kernel_rfl)) (fun _ _ _ h => h) (Or.inl ⟨by rfl, ?_⟩) hHeld ?_ ?_
           rotate_left
           ·rintro w' ⟨s0, s1, s2, s3, s4, s5, s6, s7⟩
            go_simp
            with_reducible rfl
           rotate_left
           ·simp only [Act.put, zs1, zs2, zs3, i64_w, i32_w]
            rfl
           refine pure_ (i := 10) (N := some 52) (v := ?_) (a' := ?_) #[true, true, true, true, true, true, true, true, true, true, true, false, true, false, false, false, false, false, false, false, false, false, false, false, false, false, false, false, false] rfl rfl (any_of HT_.out (by kernel_rfl)) (fun _ _ _ h => h) (Or.inl ⟨by rfl, ?_⟩) ?_ ?_
           rotate_left
           ·intro w'
            go_simp
            with_reducible rfl
           rotate_left
           ·simp only [Act.put, zs1, zs2, zs3, i64_w, i32_w]
            rfl
           refine take_ (i := 11) (N := some 53) (v := ?_) (a' := ?_) #[true, true, true, true, true, true, true, true, true, true, true, true, true, false, false, false, false, false, false, false, false, false, false, false, false, false, false, false, false] rfl rfl (take_ofW HT_.out HW_.out (by kernel_rfl)) (fun _ _ _ h => h) (Or.inl ⟨by rfl, ?_⟩) hHeld ?_ ?_
           rotate_left
           ·rintro w' ⟨s0, s1, s2, s3, s4, s5, s6, s7⟩
            go_simp
            with_reducible rfl
           rotate_left
           ·simp only [Act.put, zs1, zs2, zs3, i64_w, i32_w]
            rfl
           refine take_ (i := 13) (N := some 55) (v := ?_) (a' := ?_) #[true, true, true, true, true, true, true, true, true, true, true, true, true, true, false, false, false, false, false, false, false, false, false, false, false, false, false, false, false] rfl rfl (take_ofW HT_.out HW_.out (by kernel_rfl)) (fun _ _ _ h => h) (Or.inl ⟨by rfl, ?_⟩) hHeld ?_ ?_
           rotate_left
           ·rintro w' ⟨s0, s1, s2, s3, s4, s5, s6, s7⟩
            go_simp
            with_reducible rfl
           rotate_left
           ·simp only [Act.put, zs1, zs2, zs3, i64_w, i32_w]
            rfl
           refine pure_ (i := 14) (N := some 56) (v := ?_) (a' := ?_) #[true, true, true, true, true, true, true, true, true, true, true, true, true, true, true, false, false, false, false, false, false, false, false, false, false, false, false, false, false] rfl rfl (any_of HT_.out (by kernel_rfl)) (fun _ _ _ h => h) (Or.inl ⟨by rfl, ?_⟩) ?_ ?_
           rotate_left
           ·intro w'
            go_simp
            with_reducible rfl
           rotate_left
           ·simp only [Act.put, zs1, zs2, zs3, i64_w, i32_w]
            rfl
           refine pure_ (i := 15) (N := some 57) (v := ?_) (a' := ?_) #[true, true, true, true, true, true, true, true, true, true, true, true, true, true, true, true, false, false, false, false, false, false, false, false, false, false, false, false, false] rfl rfl (any_of HT_.out (by kernel_rfl)) (fun _ _ _ h => h) (Or.inl ⟨by rfl, ?_⟩) ?_ ?_
           rotate_left
           ·intro w'
            go_simp
            with_reducible rfl
           rotate_left
           ·simp only [Act.put, zs1, zs2, zs3, i64_w, i32_w]
            rfl
           refine pure_ (i := 16) (N := some 58) (v := ?_) (a' := ?_) #[true, true, true, true, true, true, true, true, true, true, true, true, true, true, true, true, true, false, false, false, false, false, false, false, false, false, false, false, false] rfl rfl (any_of HT_.out (by kernel_rfl)) (fun _ _ _ h => h) (Or.inl ⟨by rfl, ?_⟩) ?_ ?_
           rotate_left
           ·intro w'
            go_simp
            with_reducible rfl
           rotate_left
           ·simp only [Act.put, zs1, zs2, zs3, i64_w, i32_w]
            rfl
           refine pure_ (i := 17) (N := some 59) (v := ?_) (a' := ?_) #[true, true, true, true, true, true, true, true, true, true, true, true, true, true, true, true, true, true, false, false, false, false, false, false, false, false, false, false, false] rfl rfl (any_of HT_.out (by kernel_rfl)) (fun _ _ _ h => h) (Or.inl ⟨by rfl, ?_⟩) ?_ ?_
           rotate_left
           ·intro w'
            go_simp
            with_reducible rfl
           rotate_left
           ·simp only [Act.put, zs1, zs2, zs3, i64_w, i32_w]
            rfl
           refine pure_ (i := 19) (N := some 61) (v := ?_) (a' := ?_) #[true, true, true, true, true, true, true, true, true, true, true, true, true, true, true, true, true, true, false, true, false, false, false, false, false, false, false, false, false] rfl rfl (any_of HT_.out (by kernel_rfl)) (fun _ _ _ h => h) (Or.inl ⟨by rfl, ?_⟩) ?_ ?_
           rotate_left
           ·intro w'
            go_simp
            with_reducible rfl
           rotate_left
           ·simp only [Act.put, zs1, zs2, zs3, i64_w, i32_w]
            rfl
           refine pure_ (i := 21) (N := some 63) (v := ?_) (a' := ?_) #[true, true, true, true, true, true, true, true, true, true, true, true, true, true, true, true, true, true, false, true, false, true, false, false, false, false, false, false, false] rfl rfl (any_of HT_.out (by kernel_rfl)) (fun _ _ _ h => h) (Or.inl ⟨by rfl, ?_⟩) ?_ ?_
           rotate_left
           ·intro w'
            go_simp
            with_reducible rfl
           rotate_left
           ·simp only [Act.put, zs1, zs2, zs3, i64_w, i32_w]
            rfl
           refine take_ (i := 18) (N := some 60) (v := ?_) (a' := ?_) #[true, true, true, true, true, true, true, true, true, true, true, true, true, true, true, true, true, true, true, true, false, true, false, false, false, false, false, false, false] rfl rfl (take_ofW HT_.out HW_.out (by kernel_rfl)) (fun _ _ _ h => h) (Or.inl ⟨by rfl, ?_⟩) hHeld ?_ ?_
           rotate_left
           ·rintro w' ⟨s0, s1, s2, s3, s4, s5, s6, s7⟩
            go_simp
            with_reducible rfl
           rotate_left
           ·simp only [Act.put, zs1, zs2, zs3, i64_w, i32_w]
            rfl
           refine take_ (i := 20) (N := some 62) (v := ?_) (a' := ?_) #[true, true, true, true, true, true, true, true, true, true, true, true, true, true, true, true, true, true, true, true, true, true, false, false, false, false, false, false, false] rfl rfl (take_ofW HT_.out HW_.out (by kernel_rfl)) (fun _ _ _ h => h) (Or.inl ⟨by rfl, ?_⟩) hHeld ?_ ?_
           rotate_left
           ·rintro w' ⟨s0, s1, s2, s3, s4, s5, s6, s7⟩
            go_simp
            with_reducible rfl
           rotate_left
           ·simp only [Act.put, zs1, zs2, zs3, i64_w, i32_w]
            rfl
           refine take_ (i := 22) (N := some 64) (v := ?_) (a' := ?_) #[true, true, true, true, true, true, true, true, true, true, true, true, true, true, true, true, true, true, true, true, true, true, true, false, false, false, false, false, false] rfl rfl (take_ofW HT_.out HW_.out (by kernel_rfl)) (fun _ _ _ h => h) (Or.inl ⟨by rfl, ?_⟩) hHeld ?_ ?_
           rotate_left
           ·rintro w' ⟨s0, s1, s2, s3, s4, s5, s6, s7⟩
            go_simp
            with_reducible rfl
           rotate_left
           ·simp only [Act.put, zs1, zs2, zs3, i64_w, i32_w]
            rfl
           refine pure_ (i := 23) (N := some 65) (v := ?_) (a' := ?_) #[true, true, true, true, true, true, true, true, true, true, true, true, true, true, true, true, true, true, true, true, true, true, true, true, false, false, false, false, false] rfl rfl (any_of HT_.out (by kernel_rfl)) (fun _ _ _ h => h) (Or.inl ⟨by rfl, ?_⟩) ?_ ?_
           rotate_left
           ·intro w'
            go_simp
            with_reducible rfl
           rotate_left
           ·simp only [Act.put, zs1, zs2, zs3, i64_w, i32_w]
            rfl
           refine pure_ (i := 24) (N := some 66) (v := ?_) (a' := ?_) #[true, true, true, true, true, true, true, true, true, true, true, true, true, true, true, true, true, true, true, true, true, true, true, true, true, false, false, false, false] rfl rfl (any_of HT_.out (by kernel_rfl)) (fun _ _ _ h => h) (Or.inl ⟨by rfl, ?_⟩) ?_ ?_
           rotate_left
           ·intro w'
            go_simp
            with_reducible rfl
           rotate_left
           ·simp only [Act.put, zs1, zs2, zs3, i64_w, i32_w]
            rfl
           refine pure_ (i := 25) (N := some 67) (v := ?_) (a' := ?_) #[true, true, true, true, true, true, true, true, true, true, true, true, true, true, true, true, true, true, true, true, true, true, true, true, true, true, false, false, false] rfl rfl (any_of HT_.out (by kernel_rfl)) (fun _ _ _ h => h) (Or.inl ⟨by rfl, ?_⟩) ?_ ?_
           rotate_left
           ·intro w'
            go_simp
            with_reducible rfl
           rotate_left
           ·simp only [Act.put, zs1, zs2, zs3, i64_w, i32_w]
            rfl
           refine take_ (i := 26) (N := some 68) (v := ?_) (a' := ?_) #[true, true, true, true, true, true, true, true, true, true, true, true, true, true, true, true, true, true, true, true, true, true, true, true, true, true, true, false, false] rfl rfl (take_ofW HT_.out HW_.out (by kernel_rfl)) (fun _ _ _ h => h) (Or.inl ⟨by rfl, ?_⟩) hHeld ?_ ?_
           rotate_left
           ·rintro w' ⟨s0, s1, s2, s3, s4, s5, s6, s7⟩
            go_simp
            with_reducible rfl
           rotate_left
           ·simp only [Act.put, zs1, zs2, zs3, i64_w, i32_w]
            rfl
           refine pure_ (i := 27) (N := some 69) (v := ?_) (a' := ?_) #[true, true, true, true, true, true, true, true, true, true, true, true, true, true, true, true, true, true, true, true, true, true, true, true, true, true, true, true, false] rfl rfl (any_of HT_.out (by kernel_rfl)) (fun _ _ _ h => h) (Or.inl ⟨by rfl, ?_⟩) ?_ ?_
           rotate_left
           ·intro w'
            go_simp
            with_reducible rfl
           rotate_left
           ·simp only [Act.put, zs1, zs2, zs3, i64_w, i32_w]
            rfl
           refine pure_ (i := 28) (N := some 70) (v := ?_) (a' := ?_) #[true, true, true, true, true, true, true, true, true, true, true, true, true, true, true, true, true, true, true, true, true, true, true, true, true, true, true, true, true] rfl rfl (any_of HT_.out (by kernel_rfl)) (fun _ _ _ h => h) (Or.inl ⟨by rfl, ?_⟩) ?_ ?_
           rotate_left
           ·intro w'
            go_simp
            with_reducible rfl
           rotate_left
           ·simp only [Act.put, zs1, zs2, zs3, i64_w, i32_w]
            rfl
           refine done_ (done_of HT_.out (by kernel_rfl)) ?_
           try go_wp2
           go_meet
           case rel => exact ⟨_, (decide (a0_3 > (rd l0_5 (ji24)))), (by first | rfl | (simp; done) | (simp only [← hji24] <;> (first | rfl | simp)) | (simp [*]; done)), H', ⟨by have := HJ1.out; first | omega | exact Nat.le_refl _⟩, ⟨zv8 BK190.out⟩, ⟨zv7 HB.out⟩⟩
          ·rw [if_neg c26] at H
           exact absurd H (by simp)
         ·rw [if_neg c25] at H
          exact absurd H (by simp)
        ·rw [if_neg c23] at H
         have c23b0 : ((rd l0_5 0) == a0_4) = false := beq_eq_false_iff_ne.mpr c23
         have c23b1 : ((rd l0_5 0) != a0_4) = true := bne_iff_ne.mpr c23
         have H' := zp.mk H
         clear H
         try go_wp2
         replace BK190 := zp.mk (zi BK190.out)
         replace HB := zp.mk (zb HB.out)
         have p195 : 0 ≤ (0 : Int) := (by omega)
         have q195 : 0 < (l0_5.length : Int) := of_decide_eq_true (by first | (with_reducible assumption) | assumption)
         obtain ⟨ad195, e195, hx195_0⟩ := Kd.at_int HR0_5.out 0 p195 q195
         have hw195_0 := hx195_0
         (try rw [show ((0 : Int)).toNat = 0 from rfl] at hw195_0)
         (try rw [show 0 * 1 = 0 from rfl] at hw195_0)
         (try rw [Addr.add_zero'] at hw195_0)
         cases e195
         have qi195 : (0 < l0_5.length) = True := eq_true (by omega)
         (try rw [show ((0 : Int)).toNat = 0 from rfl] at hx195_0)
         (try rw [Addr.add_zero'] at hx195_0)
         replace hx195_0 := (HB.out.cell (World.block_lt_of_cell? w _ hx195_0)).trans hx195_0
         replace p195 := eq_true p195
         replace q195 := eq_true q195
         refine start_ (n := 29) (S := fun w' => w'.cell? ⟨gb190, 0, none⟩ = some (.int .i64 a0_0) ∧ w'.cell? ⟨gb190, 1, none⟩ = some (.int .i64 a0_1) ∧ w'.cell? ⟨gb190, 2, none⟩ = some (.int .u64 a0_2) ∧ w'.cell? ⟨gb190, 3, none⟩ = some (.int .i64 a0_3) ∧ w'.cell? ⟨gb190, 4, none⟩ = some (.int .i64 a0_4) ∧ w'.cell? ⟨gb190, 5, none⟩ = some (.slice (some ad195) l0_5.length c0_5) ∧ w'.cell? ad195 = some (.int .i64 (rd l0_5 0))) (ds := []) #[false, false, false, false, false, false, false, false, false, false, false, false, false, false, false, false, false, false, false, false, false, false, false, false, false, false, false, false, false] (by kernel_rfl) rfl rfl ⟨(ze BK190.out 0).trans rfl, (ze BK190.out 1).trans rfl, (ze BK190.out 2).trans rfl, (ze BK190.out 3).trans rfl, (ze BK190.out 4).trans rfl, (ze BK190.out 5).trans rfl, ((HB.out.cell (World.block_lt_of_cell? w _ hw195_0)).trans hw195_0)⟩ (fun hHeld => ?_); refine with_tabW spec_AggOk.tab5 spec_AggOk.bits5 (fun HT_ HW_ => ?_)
         generalize wc.drew = w30 at BK190 HB hx195_0 hHeld ⊢
         refine pure_ (i := 0) (N := some 42) (v := ?_) (a' := ?_) #[true, false, false, false, false, false, false, false, false, false, false, false, false, false, false, false, false, false, false, false, false, false, false, false, false, false, false, false, false] rfl rfl (any_of HT_.out (by kernel_rfl)) (fun _ _ _ h => h) (Or.inl ⟨by rfl, ?_⟩) ?_ ?_
         rotate_left
         ·intro w'
          go_simp
          with_reducible rfl
         rotate_left
         ·simp only [Act.put, zs1, zs2, zs3, i64_w, i32_w]
          rfl
         refine pure_ (i := 3) (N := some 45) (v := ?_) (a' := ?_) #[true, false, false, true, false, false, false, false, false, false, false, false, false, false, false, false, false, false, false, false, false, false, false, false, false, false, false, false, false] rfl rfl (any_of HT_.out (by kernel_rfl)) (fun _ _ _ h => h) (Or.inl ⟨by rfl, ?_⟩) ?_ ?_
         rotate_left
         ·intro w'
          go_simp
          with_reducible rfl
         rotate_left
         ·simp only [Act.put, zs1, zs2, zs3, i64_w, i32_w]
          rfl
         refine take_ (i := 1) (N := some 43) (v := ?_) (a' := ?_) #[true, true, false, true, false, false, false, false, false, false, false, false, false, false, false, false, false, false, false, false, false, false, false, false, false, false, false, false, false] rfl rfl (take_ofW HT_.out HW_.out (by kernel_rfl)) (fun _ _ _ h => h) (Or.inl ⟨by rfl, ?_⟩) hHeld ?_ ?_
         rotate_left
         ·rintro w' ⟨s0, s1, s2, s3, s4, s5, s6⟩
          go_simp
          with_reducible rfl
         rotate_left
         ·simp only [Act.put, zs1, zs2, zs3, i64_w, i32_w]
          rfl
         refine take_ (i := 4) (N := some 46) (v := ?_) (a' := ?_) #[true, true, false, true, true, false, false, false, false, false, false, false, false, false, false, false, false, false, false, false, false, false, false, false, false, false, false, false, false] rfl rfl (take_ofW HT_.out HW_.out (by kernel_rfl)) (fun _ _ _ h => h) (Or.inl ⟨by rfl, ?_⟩) hHeld ?_ ?_
         rotate_left
         ·rintro w' ⟨s0, s1, s2, s3, s4, s5, s6⟩
          go_simp
          with_reducible rfl
         rotate_left
         ·simp only [Act.put, zs1, zs2, zs3, i64_w, i32_w]
          rfl
         refine one_ (i := 2) (N := some 44) #[true, true, true, true, true, false, false, false, false, false, false, false, false, false, false, false, false, false, false, false, false, false, false, false, false, false, false, false, false] rfl rfl (one_of HT_.out (by kernel_rfl)) (by decide) (fun K hK => ?_)
         refine goes_ Try.func19 (by kernel_rfl) rfl #[.slice (some ad195) l0_5.length c0_5, .slice none 0 0] (by rfl) rfl rfl (by (try simp only [List.map_toArray, List.map_cons, List.map_nil]); first | done | rfl | (simp only [List.length_drop, List.length_take]; rfl)) ?_
         refine (spec_TopOf.calls kj1 _ _ l0_5 _ _ ([] : List Int) t191 _ ?side1 ?side2 ?side3 ?side4 A19.out).mono ?_
         (case side1 => repeat (first | exact (Kd.zs HR0_5.out HB.out) | (with_reducible refine Kd.zr ?_ _) | (with_reducible refine Kd.zq ?_ _) | (with_reducible refine Kd.C_drew ?_)))
         (case side2 => exact HC0_5.out)
         (case side3 => exact Kd.C_nil _ _)
         (case side4 => exact Nat.le_refl _)
         rintro e w31 ⟨v192, rfl, ho0, hb⟩
         refine ⟨_, rfl, ?_⟩
         have HO193 := zp.mk (Kd.R_lower ho0 (zk (zv7 HB.out)))
         replace BK190 := zp.mk (zl (zv8 BK190.out) hb)
         replace HB := zp.mk (zj (zv7 HB.out) hb)
         (try clear hb)
         (try clear hb2)
         (try clear hk)
         (try clear hi)
         (try clear ho0)
         obtain ⟨Ao32, co32, eo32⟩ := Kd.R_slice HO193.out
         (first | subst eo32 | (injection eo32 with f1_ f2_ f3_; have f4_ := f1_.symm; have f5_ := f3_.symm; clear f1_ f2_ f3_; subst f4_; subst f5_))
         refine hK.out _ _ ⟨(ze BK190.out 0).trans rfl, (ze BK190.out 1).trans rfl, (ze BK190.out 2).trans rfl, (ze BK190.out 3).trans rfl, (ze BK190.out 4).trans rfl, (ze BK190.out 5).trans rfl, ((HB.out.cell (World.block_lt_of_cell? w _ hw195_0)).trans hw195_0)⟩ (fun hHeld => ?_)
         clear hK K
         refine norm_ (a' := ?_) ?_ ?_
         rotate_left
         ·show Act.put _ (some 44) _ = _
          simp only [Act.put, zs1, zs2, zs3, i64_w, i32_w]
          rfl
         refine one_ (i := 5) (N := some 47) #[true, true, true, true, true, true, false, false, false, false, false, false, false, false, false, false, false, false, false, false, false, false, false, false, false, false, false, false, false] rfl rfl (one_of HT_.out (by kernel_rfl)) (by decide) (fun K hK => ?_)
         refine goes_ Try.func28 (by kernel_rfl) rfl #[.slice Ao32 t191.length co32, .slice (some ad195) l0_5.length c0_5] (by rfl) rfl rfl (by (try simp only [List.map_toArray, List.map_cons, List.map_nil]); first | done | rfl | (simp only [List.length_drop, List.length_take]; rfl)) ?_
         with_reducible refine (spec_l07Same.calls kj1 _ _ t191 _ _ l0_5 true _ ?side1 ?side2 ?side3 ?side4 A20.out).mono ?_
         (case side1 => repeat (first | exact (Kd.R_reads' HO193.out).2.2 | (with_reducible refine Kd.zr ?_ _) | (with_reducible refine Kd.zq ?_ _) | (with_reducible refine Kd.C_drew ?_)))
         (case side2 => exact (Kd.R_reads' HO193.out).2.1)
         (case side3 => repeat (first | exact (Kd.zs HR0_5.out HB.out) | (with_reducible refine Kd.zr ?_ _) | (with_reducible refine Kd.zq ?_ _) | (with_reducible refine Kd.C_drew ?_)))
         (case side4 => exact HC0_5.out)
         rintro e w' ⟨rfl, ⟨nd, rfl⟩⟩
         refine ⟨_, rfl, ?_⟩
         refine hK.out _ _ ⟨(ze BK190.out 0).trans rfl, (ze BK190.out 1).trans rfl, (ze BK190.out 2).trans rfl, (ze BK190.out 3).trans rfl, (ze BK190.out 4).trans rfl, (ze BK190.out 5).trans rfl, ((HB.out.cell (World.block_lt_of_cell? w _ hw195_0)).trans hw195_0)⟩ (fun hHeld => ?_)
         clear hK K
         refine norm_ (a' := ?_) ?_ ?_
         rotate_left
         ·show Act.put _ (some 47) _ = _
          simp only [Act.put, zs1, zs2, zs3, i64_w, i32_w]
          rfl
         refine pure_ (i := 6) (N := some 48) (v := ?_) (a' := ?_) #[true, true, true, true, true, true, true, false, false, false, false, false, false, false, false, false, false, false, false, false, false, false, false, false, false, false, false, false, false] rfl rfl (any_of HT_.out (by kernel_rfl)) (fun _ _ _ h => h) (Or.inl ⟨by rfl, ?_⟩) ?_ ?_
         rotate_left
         ·intro w'
          go_simp
          with_reducible rfl
         rotate_left
         ·simp only [Act.put, zs1, zs2, zs3, i64_w, i32_w]
          rfl
         refine pure_ (i := 7) (N := some 49) (v := ?_) (a' := ?_) #[true, true, true, true, true, true, true, true, false, false, false, false, false, false, false, false, false, false, false, false, false, false, false, false, false, false, false, false, false] rfl rfl (any_of HT_.out (by kernel_rfl)) (fun _ _ _ h => h) (Or.inl ⟨by rfl, ?_⟩) ?_ ?_
         rotate_left
         ·intro w'
          go_simp
          with_reducible rfl
         rotate_left
         ·simp only [Act.put, zs1, zs2, zs3, i64_w, i32_w]
          rfl
         refine pure_ (i := 8) (N := some 50) (v := ?_) (a' := ?_) #[true, true, true, true, true, true, true, true, true, false, false, false, false, false, false, false, false, false, false, false, false, false, false, false, false, false, false, false, false] rfl rfl (any_of HT_.out (by kernel_rfl)) (fun _ _ _ h => h) (Or.inl ⟨by rfl, ?_⟩) ?_ ?_
         rotate_left
         ·intro w'
          go_simp
          with_reducible rfl
         rotate_left
         ·simp only [Act.put, zs1, zs2, zs3, i64_w, i32_w]
          rfl
         refine pure_ (i := 12) (N := some 54) (v := ?_) (a' := ?_) #[true, true, true, true, true, true, true, true, true, false, false, false, true, false, false, false, false, false, false, false, false, false, false, false, false, false, false, false, false] rfl rfl (any_of HT_.out (by kernel_rfl)) (fun _ _ _ h => h) (Or.inl ⟨by rfl, ?_⟩) ?_ ?_
         rotate_left
         ·intro w'
          go_simp
          with_reducible rfl
         rotate_left
         ·simp only [Act.put, zs1, zs2, zs3, i64_w, i32_w]
          rfl
         refine take_ (i := 9) (N := some 51) (v := ?_) (a' := ?_) #[true, true, true, true, true, true, true, true, true, true, false, false, true, false, false, false, false, false, false, false, false, false, false, false, false, false, false, false, false] rfl rfl (take_ofW HT_.out HW_.out (by kernel_rfl)) (fun _ _ _ h => h) (Or.inl ⟨by rfl, ?_⟩) hHeld ?_ ?_
         rotate_left
         ·rintro w' ⟨s0, s1, s2, s3, s4, s5, s6⟩
          go_simp
          with_reducible rfl
         rotate_left
         ·simp only [Act.put, zs1, zs2, zs3, i64_w, i32_w]
          rfl
         refine pure_ (i := 10) (N := some 52) (v := ?_) (a' := ?_) #[true, true, true, true, true, true, true, true, true, true, true, false, true, false, false, false, false, false, false, false, false, false, false, false, false, false, false, false, false] rfl rfl (any_of HT_.out (by kernel_rfl)) (fun _ _ _ h => h) (Or.inl ⟨by rfl, ?_⟩) ?_ ?_
         rotate_left
         ·intro w'
          go_simp
          with_reducible rfl
         rotate_left
         ·simp only [Act.put, zs1, zs2, zs3, i64_w, i32_w]
          rfl
         refine take_ (i := 11) (N := some 53) (v := ?_) (a' := ?_) #[true, true, true, true, true, true, true, true, true, true, true, true, true, false, false, false, false, false, false, false, false, false, false, false, false, false, false, false, false] rfl rfl (take_ofW HT_.out HW_.out (by kernel_rfl)) (fun _ _ _ h => h) (Or.inl ⟨by rfl, ?_⟩) hHeld ?_ ?_
         rotate_left
         ·rintro w' ⟨s0, s1, s2, s3, s4, s5, s6⟩
          go_simp
          with_reducible rfl
         rotate_left
         ·simp only [Act.put, zs1, zs2, zs3, i64_w, i32_w]
          rfl
         refine take_ (i := 13) (N := some 55) (v := ?_) (a' := ?_) #[true, true, true, true, true, true, true, true, true, true, true, true, true, true, false, false, false, false, false, false, false, false, false, false, false, false, false, false, false] rfl rfl (take_ofW HT_.out HW_.out (by kernel_rfl)) (fun _ _ _ h => h) (Or.inl ⟨by rfl, ?_⟩) hHeld ?_ ?_
         rotate_left
         ·rintro w' ⟨s0, s1, s2, s3, s4, s5, s6⟩
          go_simp
          with_reducible rfl
         rotate_left
         ·simp only [Act.put, zs1, zs2, zs3, i64_w, i32_w]
          rfl
         refine pure_ (i := 14) (N := some 56) (v := ?_) (a' := ?_) #[true, true, true, true, true, true, true, true, true, true, true, true, true, true, true, false, false, false, false, false, false, false, false, false, false, false, false, false, false] rfl rfl (any_of HT_.out (by kernel_rfl)) (fun _ _ _ h => h) (Or.inl ⟨by rfl, ?_⟩) ?_ ?_
         rotate_left
         ·intro w'
          go_simp
          with_reducible rfl
         rotate_left
         ·simp only [Act.put, zs1, zs2, zs3, i64_w, i32_w]
          rfl
         refine pure_ (i := 15) (N := some 57) (v := ?_) (a' := ?_) #[true, true, true, true, true, true, true, true, true, true, true, true, true, true, true, true, false, false, false, false, false, false, false, false, false, false, false, false, false] rfl rfl (any_of HT_.out (by kernel_rfl)) (fun _ _ _ h => h) (Or.inl ⟨by rfl, ?_⟩) ?_ ?_
         rotate_left
         ·intro w'
          go_simp
          with_reducible rfl
         rotate_left
         ·simp only [Act.put, zs1, zs2, zs3, i64_w, i32_w]
          rfl
         refine pure_ (i := 16) (N := some 58) (v := ?_) (a' := ?_) #[true, true, true, true, true, true, true, true, true, true, true, true, true, true, true, true, true, false, false, false, false, false, false, false, false, false, false, false, false] rfl rfl (any_of HT_.out (by kernel_rfl)) (fun _ _ _ h => h) (Or.inl ⟨by rfl, ?_⟩) ?_ ?_
         rotate_left
         ·intro w'
          go_simp
          with_reducible rfl
         rotate_left
         ·simp only [Act.put, zs1, zs2, zs3, i64_w, i32_w]
          rfl
         refine pure_ (i := 17) (N := some 59) (v := undef) (a' := ?_) #[true, true, true, true, true, true, true, true, true, true, true, true, true, true, true, true, true, true, false, false, false, false, false, false, false, false, false, false, false] rfl rfl (any_of HT_.out (by kernel_rfl)) (fun _ _ _ h => h) (Or.inr ⟨by rfl, rfl⟩) ?_ ?_
         rotate_left
         ·simp only [Act.put, zs1, zs2, zs3, i64_w, i32_w]
          rfl
         refine pure_ (i := 18) (N := some 60) (v := undef) (a' := ?_) #[true, true, true, true, true, true, true, true, true, true, true, true, true, true, true, true, true, true, true, false, false, false, false, false, false, false, false, false, false] rfl rfl (any_of HT_.out (by kernel_rfl)) (fun _ _ _ h => h) (Or.inr ⟨by rfl, rfl⟩) ?_ ?_
         rotate_left
         ·simp only [Act.put, zs1, zs2, zs3, i64_w, i32_w]
          rfl
         refine pure_ (i := 19) (N := some 61) (v := undef) (a' := ?_) #[true, true, true, true, true, true, true, true, true, true, true, true, true, true, true, true, true, true, true, true, false, false, false, false, false, false, false, false, false] rfl rfl (any_of HT_.out (by kernel_rfl)) (fun _ _ _ h => h) (Or.inr ⟨by rfl, rfl⟩) ?_ ?_
         rotate_left
         ·simp only [Act.put, zs1, zs2, zs3, i64_w, i32_w]
          rfl
         refine pure_ (i := 20) (N := some 62) (v := undef) (a' := ?_) #[true, true, true, true, true, true, true, true, true, true, true, true, true, true, true, true, true, true, true, true, true, false, false, false, false, false, false, false, false] rfl rfl (any_of HT_.out (by kernel_rfl)) (fun _ _ _ h => h) (Or.inr ⟨by rfl, rfl⟩) ?_ ?_
         rotate_left
         ·simp only [Act.put, zs1, zs2, zs3, i64_w, i32_w]
          rfl
         refine pure_ (i := 21) (N := some 63) (v := undef) (a' := ?_) #[true, true, true, true, true, true, true, true, true, true, true, true, true, true, true, true, true, true, true, true, true, true, false, false, false, false, false, false, false] rfl rfl (any_of HT_.out (by kernel_rfl)) (fun _ _ _ h => h) (Or.inr ⟨by rfl, rfl⟩) ?_ ?_
         rotate_left
         ·simp only [Act.put, zs1, zs2, zs3, i64_w, i32_w]
          rfl
         refine pure_ (i := 22) (N := some 64) (v := undef) (a' := ?_) #[true, true, true, true, true, true, true, true, true, true, true, true, true, true, true, true, true, true, true, true, true, true, true, false, false, false, false, false, false] rfl rfl (any_of HT_.out (by kernel_rfl)) (fun _ _ _ h => h) (Or.inr ⟨by rfl, rfl⟩) ?_ ?_
         rotate_left
         ·simp only [Act.put, zs1, zs2, zs3, i64_w, i32_w]
          rfl
         refine pure_ (i := 23) (N := some 65) (v := undef) (a' := ?_) #[true, true, true, true, true, true, true, true, true, true, true, true, true, true, true, true, true, true, true, true, true, true, true, true, false, false, false, false, false] rfl rfl (any_of HT_.out (by kernel_rfl)) (fun _ _ _ h => h) (Or.inr ⟨by rfl, rfl⟩) ?_ ?_
         rotate_left
         ·simp only [Act.put, zs1, zs2, zs3, i64_w, i32_w]
          rfl
         refine pure_ (i := 24) (N := some 66) (v := undef) (a' := ?_) #[true, true, true, true, true, true, true, true, true, true, true, true, true, true, true, true, true, true, true, true, true, true, true, true, true, false, false, false, false] rfl rfl (any_of HT_.out (by kernel_rfl)) (fun _ _ _ h => h) (Or.inr ⟨by rfl, rfl⟩) ?_ ?_
         rotate_left
         ·simp only [Act.put, zs1, zs2, zs3, i64_w, i32_w]
          rfl
         refine pure_ (i := 25) (N := some 67) (v := undef) (a' := ?_) #[true, true, true, true, true, true, true, true, true, true, true, true, true, true, true, true, true, true, true, true, true, true, true, true, true, true, false, false, false] rfl rfl (any_of HT_.out (by kernel_rfl)) (fun _ _ _ h => h) (Or.inr ⟨by rfl, rfl⟩) ?_ ?_
         rotate_left
         ·simp only [Act.put, zs1, zs2, zs3, i64_w, i32_w]
          rfl
         refine pure_ (i := 26) (N := some 68) (v := undef) (a' := ?_) #[true, true, true, true, true, true, true, true, true, true, true, true, true, true, true, true, true, true, true, true, true, true, true, true, true, true, true, false, false] rfl rfl (any_of HT_.out (by kernel_rfl)) (fun _ _ _ h => h) (Or.inr ⟨by rfl, rfl⟩) ?_ ?_
         rotate_left
         ·simp only [Act.put, zs1, zs2, zs3, i64_w, i32_w]
          rfl
         refine pure_ (i := 27) (N := some 69) (v := undef) (a' := ?_) #[true, true, true, true, true, true, true, true, true, true, true, true, true, true, true, true, true, true, true, true, true, true, true, true, true, true, true, true, false] rfl rfl (any_of HT_.out (by kernel_rfl)) (fun _ _ _ h => h) (Or.inr ⟨by rfl, rfl⟩) ?_ ?_
         rotate_left
         ·simp only [Act.put, zs1, zs2, zs3, i64_w, i32_w]
          rfl
         refine pure_ (i := 28) (N := some 70) (v := ?_) (a' := ?_) #[true, true, true, true, true, true, true, true, true, true, true, true, true, true, true, true, true, true, true, true, true, true, true, true, true, true, true, true, true] rfl rfl (any_of HT_.out (by kernel_rfl)) (fun _ _ _ h => h) (Or.inl ⟨by rfl, ?_⟩) ?_ ?_
         rotate_left
         ·intro w'
          go_simp
          with_reducible rfl
         rotate_left
         ·simp only [Act.put, zs1, zs2, zs3, i64_w, i32_w]
          rfl
         refine done_ (done_of HT_.out (by kernel_rfl)) ?_
         try go_wp2
         go_meet
         case rel => exact ⟨_, (true), (by first | rfl | (simp; done) | (simp [*]; done)), H', ⟨by have := HJ1.out; first | omega | exact Nat.le_refl _⟩, ⟨zv8 BK190.out⟩, ⟨zv7 HB.out⟩⟩
       ·rw [if_neg c22] at H
        exact absurd H (by simp)
      ·replace c21 := Bool.eq_false_iff.mpr c21
       subst c21
       have H1 : (spec_AggOk.j1 kj1 true a0_0 a0_1 a0_2 a0_3 a0_4 l0_5) = some r := by rw [if_neg (show ¬ (false = true) by decide)] at H; exact H
       clear H
       have H := H1
       clear H1
       have H' := zp.mk H
       clear H
       try go_wp2
       replace BK190 := zp.mk (zi BK190.out)
       replace HB := zp.mk (zb HB.out)
       refine start_ (n := 29) (S := fun w' => w'.cell? ⟨gb190, 0, none⟩ = some (.int .i64 a0_0) ∧ w'.cell? ⟨gb190, 1, none⟩ = some (.int .i64 a0_1) ∧ w'.cell? ⟨gb190, 2, none⟩ = some (.int .u64 a0_2) ∧ w'.cell? ⟨gb190, 3, none⟩ = some (.int .i64 a0_3) ∧ w'.cell? ⟨gb190, 4, none⟩ = some (.int .i64 a0_4) ∧ w'.cell? ⟨gb190, 5, none⟩ = some (.slice A0_5 l0_5.length c0_5)) (ds := []) #[false, false, false, false, false, false, false, false, false, false, false, false, false, false, false, false, false, false, false, false, false, false, false, false, false, false, false, false, false] (by kernel_rfl) rfl rfl ⟨(ze BK190.out 0).trans rfl, (ze BK190.out 1).trans rfl, (ze BK190.out 2).trans rfl, (ze BK190.out 3).trans rfl, (ze BK190.out 4).trans rfl, (ze BK190.out 5).trans rfl⟩ (fun hHeld => ?_); refine with_tabW spec_AggOk.tab5 spec_AggOk.bits5 (fun HT_ HW_ => ?_)
       generalize wc.drew = w33 at BK190 HB hHeld ⊢
       refine pure_ (i := 0) (N := some 42) (v := ?_) (a' := ?_) #[true, false, false, false, false, false, false, false, false, false, false, false, false, false, false, false, false, false, false, false, false, false, false, false, false, false, false, false, false] rfl rfl (any_of HT_.out (by kernel_rfl)) (fun _ _ _ h => h) (Or.inl ⟨by rfl, ?_⟩) ?_ ?_
       rotate_left
       ·intro w'
        go_simp
        with_reducible rfl
       rotate_left
       ·simp only [Act.put, zs1, zs2, zs3, i64_w, i32_w]
        rfl
       refine pure_ (i := 3) (N := some 45) (v := ?_) (a' := ?_) #[true, false, false, true, false, false, false, false, false, false, false, false, false, false, false, false, false, false, false, false, false, false, false, false, false, false, false, false, false] rfl rfl (any_of HT_.out (by kernel_rfl)) (fun _ _ _ h => h) (Or.inl ⟨by rfl, ?_⟩) ?_ ?_
       rotate_left
       ·intro w'
        go_simp
        with_reducible rfl
       rotate_left
       ·simp only [Act.put, zs1, zs2, zs3, i64_w, i32_w]
        rfl
       refine take_ (i := 1) (N := some 43) (v := ?_) (a' := ?_) #[true, true, false, true, false, false, false, false, false, false, false, false, false, false, false, false, false, false, false, false, false, false, false, false, false, false, false, false, false] rfl rfl (take_ofW HT_.out HW_.out (by kernel_rfl)) (fun _ _ _ h => h) (Or.inl ⟨by rfl, ?_⟩) hHeld ?_ ?_
       rotate_left
       ·rintro w' ⟨s0, s1, s2, s3, s4, s5⟩
        go_simp
        with_reducible rfl
       rotate_left
       ·simp only [Act.put, zs1, zs2, zs3, i64_w, i32_w]
        rfl
       refine take_ (i := 4) (N := some 46) (v := ?_) (a' := ?_) #[true, true, false, true, true, false, false, false, false, false, false, false, false, false, false, false, false, false, false, false, false, false, false, false, false, false, false, false, false] rfl rfl (take_ofW HT_.out HW_.out (by kernel_rfl)) (fun _ _ _ h => h) (Or.inl ⟨by rfl, ?_⟩) hHeld ?_ ?_
       rotate_left
       ·rintro w' ⟨s0, s1, s2, s3, s4, s5⟩
        go_simp
        with_reducible rfl
       rotate_left
       ·simp only [Act.put, zs1, zs2, zs3, i64_w, i32_w]
        rfl
       refine one_ (i := 2) (N := some 44) #[true, true, true, true, true, false, false, false, false, false, false, false, false, false, false, false, false, false, false, false, false, false, false, false, false, false, false, false, false] rfl rfl (one_of HT_.out (by kernel_rfl)) (by decide) (fun K hK => ?_)
       refine goes_ Try.func19 (by kernel_rfl) rfl #[.slice A0_5 l0_5.length c0_5, .slice none 0 0] (by rfl) rfl rfl (by (try simp only [List.map_toArray, List.map_cons, List.map_nil]); first | done | rfl | (simp only [List.length_drop, List.length_take]; rfl)) ?_
       refine (spec_TopOf.calls kj1 _ _ l0_5 _ _ ([] : List Int) t191 _ ?side1 ?side2 ?side3 ?side4 A19.out).mono ?_
       (case side1 => repeat (first | exact (Kd.zs HR0_5.out HB.out) | (with_reducible refine Kd.zr ?_ _) | (with_reducible refine Kd.zq ?_ _) | (with_reducible refine Kd.C_drew ?_)))
       (case side2 => exact HC0_5.out)
       (case side3 => exact Kd.C_nil _ _)
       (case side4 => exact Nat.le_refl _)
       rintro e w34 ⟨v192, rfl, ho0, hb⟩
       refine ⟨_, rfl, ?_⟩
       have HO193 := zp.mk (Kd.R_lower ho0 (zk (zv7 HB.out)))
       replace BK190 := zp.mk (zl (zv8 BK190.out) hb)
       replace HB := zp.mk (zj (zv7 HB.out) hb)
       (try clear hb)
       (try clear hb2)
       (try clear hk)
       (try clear hi)
       (try clear ho0)
       obtain ⟨Ao35, co35, eo35⟩ := Kd.R_slice HO193.out
       (first | subst eo35 | (injection eo35 with f1_ f2_ f3_; have f4_ := f1_.symm; have f5_ := f3_.symm; clear f1_ f2_ f3_; subst f4_; subst f5_))
       refine hK.out _ _ ⟨(ze BK190.out 0).trans rfl, (ze BK190.out 1).trans rfl, (ze BK190.out 2).trans rfl, (ze BK190.out 3).trans rfl, (ze BK190.out 4).trans rfl, (ze BK190.out 5).trans rfl⟩ (fun hHeld => ?_)
       clear hK K
       refine norm_ (a' := ?_) ?_ ?_
       rotate_left
       ·show Act.put _ (some 44) _ = _
        simp only [Act.put, zs1, zs2, zs3, i64_w, i32_w]
        rfl
       refine one_ (i := 5) (N := some 47) #[true, true, true, true, true, true, false, false, false, false, false, false, false, false, false, false, false, false, false, false, false, false, false, false, false, false, false, false, false] rfl rfl (one_of HT_.out (by kernel_rfl)) (by decide) (fun K hK => ?_)
       refine goes_ Try.func28 (by kernel_rfl) rfl #[.slice Ao35 t191.length co35, .slice A0_5 l0_5.length c0_5] (by rfl) rfl rfl (by (try simp only [List.map_toArray, List.map_cons, List.map_nil]); first | done | rfl | (simp only [List.length_drop, List.length_take]; rfl)) ?_
       with_reducible refine (spec_l07Same.calls kj1 _ _ t191 _ _ l0_5 false _ ?side1 ?side2 ?side3 ?side4 A20.out).mono ?_
       (case side1 => repeat (first | exact (Kd.R_reads' HO193.out).2.2 | (with_reducible refine Kd.zr ?_ _) | (with_reducible refine Kd.zq ?_ _) | (with_reducible refine Kd.C_drew ?_)))
       (case side2 => exact (Kd.R_reads' HO193.out).2.1)
       (case side3 => repeat (first | exact (Kd.zs HR0_5.out HB.out) | (with_reducible refine Kd.zr ?_ _) | (with_reducible refine Kd.zq ?_ _) | (with_reducible refine Kd.C_drew ?_)))
       (case side4 => exact HC0_5.out)
       rintro e w' ⟨rfl, ⟨nd, rfl⟩⟩
       refine ⟨_, rfl, ?_⟩
       refine hK.out _ _ ⟨(ze BK190.out 0).trans rfl, (ze BK190.out 1).trans rfl, (ze BK190.out 2).trans rfl, (ze BK190.out 3).trans rfl, (ze BK190.out 4).trans rfl, (ze BK190.out 5).trans rfl⟩ (fun hHeld => ?_)
       clear hK K
       refine norm_ (a' := ?_) ?_ ?_
       rotate_left
       ·show Act.put _ (some 47) _ = _
        simp only [Act.put, zs1, zs2, zs3, i64_w, i32_w]
        rfl
       refine pure_ (i := 6) (N := some 48) (v := ?_) (a' := ?_) #[true, true, true, true, true, true, true, false, false, false, false, false, false, false, false, false, false, false, false, false, false, false, false, false, false, false, false, false, false] rfl rfl (any_of HT_.out (by kernel_rfl)) (fun _ _ _ h => h) (Or.inl ⟨by rfl, ?_⟩) ?_ ?_
       rotate_left
       ·intro w'
        go_simp
        with_reducible rfl
       rotate_left
       ·simp only [Act.put, zs1, zs2, zs3, i64_w, i32_w]
        rfl
       refine pure_ (i := 7) (N := some 49) (v := ?_) (a' := ?_) #[true, true, true, true, true, true, true, true, false, false, false, false, false, false, false, false, false, false, false, false, false, false, false, false, false, false, false, false, false] rfl rfl (any_of HT_.out (by kernel_rfl)) (fun _ _ _ h => h) (Or.inl ⟨by rfl, ?_⟩) ?_ ?_
       rotate_left
       ·intro w'
        go_simp
        with_reducible rfl
       rotate_left
       ·simp only [Act.put, zs1, zs2, zs3, i64_w, i32_w]
        rfl
       refine pure_ (i := 8) (N := some 50) (v := undef) (a' := ?_) #[true, true, true, true, true, true, true, true, true, false, false, false, false, false, false, false, false, false, false, false, false, false, false, false, false, false, false, false, false] rfl rfl (any_of HT_.out (by kernel_rfl)) (fun _ _ _ h => h) (Or.inr ⟨by rfl, rfl⟩) ?_ ?_
       rotate_left
       ·simp only [Act.put, zs1, zs2, zs3, i64_w, i32_w]
        rfl
       refine pure_ (i := 9) (N := some 51) (v := undef) (a' := ?_) #[true, true, true, true, true, true, true, true, true, true, false, false, false, false, false, false, false, false, false, false, false, false, false, false, false, false, false, false, false] rfl rfl (any_of HT_.out (by kernel_rfl)) (fun _ _ _ h => h) (Or.inr ⟨by rfl, rfl⟩) ?_ ?_
       rotate_left
       ·simp only [Act.put, zs1, zs2, zs3, i64_w, i32_w]
        rfl
       refine pure_ (i := 10) (N := some 52) (v := undef) (a' := ?_) #[true, true, true, true, true, true, true, true, true, true, true, false, false, false, false, false, false, false, false, false, false, false, false, false, false, false, false, false, false] rfl rfl (any_of HT_.out (by kernel_rfl)) (fun _ _ _ h => h) (Or.inr ⟨by rfl, rfl⟩) ?_ ?_
       rotate_left
       ·simp only [Act.put, zs1, zs2, zs3, i64_w, i32_w]
        rfl
       refine pure_ (i := 11) (N := some 53) (v := undef) (a' := ?_) #[true, true, true, true, true, true, true, true, true, true, true, true, false, false, false, false, false, false, false, false, false, false, false, false, false, false, false, false, false] rfl rfl (any_of HT_.out (by kernel_rfl)) (fun _ _ _ h => h) (Or.inr ⟨by rfl, rfl⟩) ?_ ?_
       rotate_left
       ·simp only [Act.put, zs1, zs2, zs3, i64_w, i32_w]
        rfl
       refine pure_ (i := 12) (N := some 54) (v := undef) (a' := ?_) #[true, true, true, true, true, true, true, true, true, true, true, true, true, false, false, false, false, false, false, false, false, false, false, false, false, false, false, false, false] rfl rfl (any_of HT_.out (by kernel_rfl)) (fun _ _ _ h => h) (Or.inr ⟨by rfl, rfl⟩) ?_ ?_
       rotate_left
       ·simp only [Act.put, zs1, zs2, zs3, i64_w, i32_w]
        rfl
       refine pure_ (i := 13) (N := some 55) (v := undef) (a' := ?_) #[true, true, true, true, true, true, true, true, true, true, true, true, true, true, false, false, false, false, false, false, false, false, false, false, false, false, false, false, false] rfl rfl (any_of HT_.out (by kernel_rfl)) (fun _ _ _ h => h) (Or.inr ⟨by rfl, rfl⟩) ?_ ?_
       rotate_left
       ·simp only [Act.put, zs1, zs2, zs3, i64_w, i32_w]
        rfl
       refine pure_ (i := 14) (N := some 56) (v := undef) (a' := ?_) #[true, true, true, true, true, true, true, true, true, true, true, true, true, true, true, false, false, false, false, false, false, false, false, false, false, false, false, false, false] rfl rfl (any_of HT_.out (by kernel_rfl)) (fun _ _ _ h => h) (Or.inr ⟨by rfl, rfl⟩) ?_ ?_
       rotate_left
       ·simp only [Act.put, zs1, zs2, zs3, i64_w, i32_w]
        rfl
       refine pure_ (i := 15) (N := some 57) (v := ?_) (a' := ?_) #[true, true, true, true, true, true, true, true, true, true, true, true, true, true, true, true, false, false, false, false, false, false, false, false, false, false, false, false, false] rfl rfl (any_of HT_.out (by kernel_rfl)) (fun _ _ _ h => h) (Or.inl ⟨by rfl, ?_⟩) ?_ ?_
       rotate_left
       ·intro w'
        go_simp
        with_reducible rfl
       rotate_left
       ·simp only [Act.put, zs1, zs2, zs3, i64_w, i32_w]
        rfl
       refine pure_ (i := 16) (N := some 58) (v := ?_) (a' := ?_) #[true, true, true, true, true, true, true, true, true, true, true, true, true, true, true, true, true, false, false, false, false, false, false, false, false, false, false, false, false] rfl rfl (any_of HT_.out (by kernel_rfl)) (fun _ _ _ h => h) (Or.inl ⟨by rfl, ?_⟩) ?_ ?_
       rotate_left
       ·intro w'
        go_simp
        with_reducible rfl
       rotate_left
       ·simp only [Act.put, zs1, zs2, zs3, i64_w, i32_w]
        rfl
       refine pure_ (i := 17) (N := some 59) (v := undef) (a' := ?_) #[true, true, true, true, true, true, true, true, true, true, true, true, true, true, true, true, true, true, false, false, false, false, false, false, false, false, false, false, false] rfl rfl (any_of HT_.out (by kernel_rfl)) (fun _ _ _ h => h) (Or.inr ⟨by rfl, rfl⟩) ?_ ?_
       rotate_left
       ·simp only [Act.put, zs1, zs2, zs3, i64_w, i32_w]
        rfl
       refine pure_ (i := 18) (N := some 60) (v := undef) (a' := ?_) #[true, true, true, true, true, true, true, true, true, true, true, true, true, true, true, true, true, true, true, false, false, false, false, false, false, false, false, false, false] rfl rfl (any_of HT_.out (by kernel_rfl)) (fun _ _ _ h => h) (Or.inr ⟨by rfl, rfl⟩) ?_ ?_
       rotate_left
       ·simp only [Act.put, zs1, zs2, zs3, i64_w, i32_w]
        rfl
       refine pure_ (i := 19) (N := some 61) (v := undef) (a' := ?_) #[true, true, true, true, true, true, true, true, true, true, true, true, true, true, true, true, true, true, true, true, false, false, false, false, false, false, false, false, false] rfl rfl (any_of HT_.out (by kernel_rfl)) (fun _ _ _ h => h) (Or.inr ⟨by rfl, rfl⟩) ?_ ?_
       rotate_left
       ·simp only [Act.put, zs1, zs2, zs3, i64_w, i32_w]
        rfl
       refine pure_ (i := 20) (N := some 62) (v := undef) (a' := ?_) #[true, true, true, true, true, true, true, true, true, true, true, true, true, true, true, true, true, true, true, true, true, false, false, false, false, false, false, false, false] rfl rfl (any_of HT_.out (by kernel_rfl)) (fun _ _ _ h => h) (Or.inr ⟨by rfl, rfl⟩) ?_ ?_
       rotate_left
       ·simp only [Act.put, zs1, zs2, zs3, i64_w, i32_w]
        rfl
       refine pure_ (i := 21) (N := some 63) (v := undef) (a' := ?_) #[true, true, true, true, true, true, true, true, true, true, true, true, true, true, true, true, true, true, true, true, true, true, false, false, false, false, false, false, false] rfl rfl (any_of HT_.out (by kernel_rfl)) (fun _ _ _ h => h) (Or.inr ⟨by rfl, rfl⟩) ?_ ?_
       rotate_left
       ·simp only [Act.put, zs1, zs2, zs3, i64_w, i32_w]
        rfl
       refine pure_ (i := 22) (N := some 64) (v := undef) (a' := ?_) #[true, true, true, true, true, true, true, true, true, true, true, true, true, true, true, true, true, true, true, true, true, true, true, false, false, false, false, false, false] rfl rfl (any_of HT_.out (by kernel_rfl)) (fun _ _ _ h => h) (Or.inr ⟨by rfl, rfl⟩) ?_ ?_
       rotate_left
       ·simp only [Act.put, zs1, zs2, zs3, i64_w, i32_w]
        rfl
       refine pure_ (i := 23) (N := some 65) (v := undef) (a' := ?_) #[true, true, true, true, true, true, true, true, true, true, true, true, true, true, true, true, true, true, true, true, true, true, true, true, false, false, false, false, false] rfl rfl (any_of HT_.out (by kernel_rfl)) (fun _ _ _ h => h) (Or.inr ⟨by rfl, rfl⟩) ?_ ?_
       rotate_left
       ·simp only [Act.put, zs1, zs2, zs3, i64_w, i32_w]
        rfl
       refine pure_ (i := 24) (N := some 66) (v := undef) (a' := ?_) #[true, true, true, true, true, true, true, true, true, true, true, true, true, true, true, true, true, true, true, true, true, true, true, true, true, false, false, false, false] rfl rfl (any_of HT_.out (by kernel_rfl)) (fun _ _ _ h => h) (Or.inr ⟨by rfl, rfl⟩) ?_ ?_
       rotate_left
       ·simp only [Act.put, zs1, zs2, zs3, i64_w, i32_w]
        rfl
       refine pure_ (i := 25) (N := some 67) (v := undef) (a' := ?_) #[true, true, true, true, true, true, true, true, true, true, true, true, true, true, true, true, true, true, true, true, true, true, true, true, true, true, false, false, false] rfl rfl (any_of HT_.out (by kernel_rfl)) (fun _ _ _ h => h) (Or.inr ⟨by rfl, rfl⟩) ?_ ?_
       rotate_left
       ·simp only [Act.put, zs1, zs2, zs3, i64_w, i32_w]
        rfl
       refine pure_ (i := 26) (N := some 68) (v := undef) (a' := ?_) #[true, true, true, true, true, true, true, true, true, true, true, true, true, true, true, true, true, true, true, true, true, true, true, true, true, true, true, false, false] rfl rfl (any_of HT_.out (by kernel_rfl)) (fun _ _ _ h => h) (Or.inr ⟨by rfl, rfl⟩) ?_ ?_
       rotate_left
       ·simp only [Act.put, zs1, zs2, zs3, i64_w, i32_w]
        rfl
       refine pure_ (i := 27) (N := some 69) (v := undef) (a' := ?_) #[true, true, true, true, true, true, true, true, true, true, true, true, true, true, true, true, true, true, true, true, true, true, true, true, true, true, true, true, false] rfl rfl (any_of HT_.out (by kernel_rfl)) (fun _ _ _ h => h) (Or.inr ⟨by rfl, rfl⟩) ?_ ?_
       rotate_left
       ·simp only [Act.put, zs1, zs2, zs3, i64_w, i32_w]
        rfl
       refine pure_ (i := 28) (N := some 70) (v := ?_) (a' := ?_) #[true, true, true, true, true, true, true, true, true, true, true, true, true, true, true, true, true, true, true, true, true, true, true, true, true, true, true, true, true] rfl rfl (any_of HT_.out (by kernel_rfl)) (fun _ _ _ h => h) (Or.inl ⟨by rfl, ?_⟩) ?_ ?_
       rotate_left
       ·intro w'
        go_simp
        with_reducible rfl
       rotate_left
       ·simp only [Act.put, zs1, zs2, zs3, i64_w, i32_w]
        rfl
       refine done_ (done_of HT_.out (by kernel_rfl)) ?_
       try go_wp2
       go_meet
       case rel => exact ⟨_, (true), (by first | rfl | (simp; done) | (simp [*]; done)), H', ⟨by have := HJ1.out; first | omega | exact Nat.le_refl _⟩, ⟨zv8 BK190.out⟩, ⟨zv7 HB.out⟩⟩
     case rest =>
      clear HC17
      try clear c1
      try clear p1
      try clear q1
      try clear hx1
      try clear qi1
      try clear c2
      try clear p2
      try clear c19
      try clear p19
      try clear q19
      try clear hx19
      try clear qi19
      try clear c21
      try clear c22
      try clear c23
      try clear c23b0
      try clear c23b1
      try clear c25
      try clear c26
      try clear c28
      try clear hx195_0
      try clear p195
      try clear q195
      obtain ⟨kq, x70_16, rfl, HA, HJ16, BK190, HB⟩ := hcut
      cases kq with
      | zero => exact absurd HA.out (by simp [spec_AggOk.j1])
      | succ kj16 =>
       have H := HA.out
       clear HA
       simp only [spec_AggOk.j1] at H
       by_cases c36 : x70_16 = true
       ·subst c36
        have H1 : (some false) = some r := by rw [if_pos rfl] at H; exact H
        clear H
        have H := H1
        clear H1
        obtain rfl := Option.some.inj H
        go_wp2
        go_ret
        exact ⟨by first | rfl | (simp [errW_none, errW_some] <;> rfl) | (simp [*, errW_none, errW_some] <;> rfl), zv7 HB.out⟩
       ·replace c36 := Bool.eq_false_iff.mpr c36
        subst c36
        have H1 : (spec_AggOk.l0 kj16 0 a0_0 a0_1 a0_2 a0_3 a0_4 l0_5 0 0) = some r := by rw [if_neg (show ¬ (false = true) by decide)] at H; exact H
        clear H
        have H := H1
        clear H1
        have H' := zp.mk H
        clear H
        go_wp2_with (first | ((with_reducible refine zo (N := 3) rfl ?_); (try (refine gate_guard (by rfl) ?_; dsimp only)); refine zm ?hg (N := 3) ?hd (cs := #[.int .i64 0, .int .u64 0]) (t := 30) ?hr ?_; (case hd => rfl); (case hg => rfl); (case hr => first | (go_simp; done) | (go_simp; rfl)); intro gb197 hg w37 hbox hb; have BK197 := zp.mk (hbox); have GW197 := zp.mk ((zv3 (zv7 HB.out) hg)); have GE197 := zp.mk ((zv3 (zv7 HB.out) hg)); have NB190_197 := zp.mk ((by rw [hg]; exact Nat.ne_of_lt (blk_lt (g := gb190) (o := .cells #[.int .i64 a0_0, .int .i64 a0_1, .int .u64 a0_2, .int .i64 a0_3, .int .i64 a0_4, .slice A0_5 l0_5.length c0_5] 32 (0, 0)) (zv8 BK190.out)) : gb190 ≠ gb197)); have NB197_190 := zp.mk ((by rw [hg]; exact Nat.ne_of_gt (blk_lt (g := gb190) (o := .cells #[.int .i64 a0_0, .int .i64 a0_1, .int .u64 a0_2, .int .i64 a0_3, .int .i64 a0_4, .slice A0_5 l0_5.length c0_5] 32 (0, 0)) (zv8 BK190.out)) : gb197 ≠ gb190)); replace BK190 := zp.mk (zl (zv8 BK190.out) hb); replace HB := zp.mk (zj (zv7 HB.out) hb); clear hb hbox hg; have hnb38 := NB197_190.out; have hnc38 := NB190_197.out; have y39_0 := zt0 BK197.out; have y39_1 := zt1 BK197.out; have u39_0 := zd BK197.out 0; have u39_1 := zd BK197.out 1))
        go_loopg [4] kj16 (fun kq v4 w' => ∃ (x4_3 : Int) (x198000_3 : Int) (x198001_3 : Int), v4 = .int .i64 x4_3 ∧ zp (spec_AggOk.l0 kq x4_3 a0_0 a0_1 a0_2 a0_3 a0_4 l0_5 x198000_3 x198001_3 = some r) ∧ zp (kq ≤ kj16) ∧ zp (w'.heap[gb190]? = some (.cells #[.int .i64 a0_0, .int .i64 a0_1, .int .u64 a0_2, .int .i64 a0_3, .int .i64 a0_4, (.slice A0_5 l0_5.length c0_5)] 32 (0, 0))) ∧ zp (w'.heap[gb197]? = some (.cells #[.int .i64 x198000_3, .int .u64 x198001_3] 30 (0, 0))) ∧ zp (Below w.heap.size w w'))
        case atStart => exact ⟨(0), (0), (0), (by first | rfl | (simp; done) | (simp [*]; done)), H', ⟨Nat.le_refl _⟩, ⟨by (with_reducible repeat (first | refine zf ?_ _ | refine zi ?_ | refine zg ?_ _)); refine blk_far ?_ NB190_197.out _; (with_reducible repeat (first | refine zf ?_ _ | refine zi ?_ | refine zg ?_ _)); refine blk_far ?_ NB190_197.out _; (with_reducible repeat (first | refine zf ?_ _ | refine zi ?_ | refine zg ?_ _)); exact BK190.out⟩, ⟨by (with_reducible repeat (first | refine zf ?_ _ | refine zi ?_ | refine zg ?_ _)); refine blk_put (cs := #[.int .i64 0, .int .u64 0]) ?_ 1 _ rfl; (with_reducible repeat (first | refine zf ?_ _ | refine zi ?_ | refine zg ?_ _)); refine blk_put (cs := #[.int .i64 0, .int .u64 0]) ?_ 0 _ rfl; (with_reducible repeat (first | refine zf ?_ _ | refine zi ?_ | refine zg ?_ _)); exact BK197.out⟩, ⟨zv7 HB.out⟩⟩
        case round =>
         clear H'
         try clear c1
         try clear p1
         try clear q1
         try clear hx1
         try clear qi1
         try clear c2
         try clear p2
         try clear c3
         try clear c19
         try clear p19
         try clear q19
         try clear hx19
         try clear qi19
         try clear c21
         try clear c22
         try clear c23
         try clear c23b0
         try clear c23b1
         try clear c25
         try clear c26
         try clear c28
         try clear c36
         try clear c38
         try clear y39_0
         try clear y39_1
         try clear u39_0
         try clear u39_1
         try clear hx195_0
         try clear p1
         try clear p19
         try clear p195
         try clear p2
         try clear q1
         try clear q19
         try clear q195
         obtain ⟨x4_3, x198000_3, x198001_3, rfl, HA, HK3, BK190, BK197, HB⟩ := hrel
         cases gk with
         | zero => exact absurd HA.out (by simp [spec_AggOk.l0])
         | succ k3 =>
          have H := HA.out
          clear HA
          simp only [spec_AggOk.l0] at H
          by_cases c40 : x4_3 < (l0_5.length : Int)
          ·rw [if_pos c40] at H
           have c40b0 : decide (x4_3 < (l0_5.length : Int)) = true := decide_eq_true c40
           clear c40
           by_cases c41 : 0 ≤ x4_3
           ·rw [if_pos c41] at H
            have c41b0 : decide (0 ≤ x4_3) = true := decide_eq_true c41
            clear c41
            replace H := zs4 H
            obtain ⟨⟨t199, t200⟩, A420, H⟩ := H
            replace H : ((spec_WideAdd.f x198000_3 x198001_3 t199 t200).bind fun bt201 => (spec_AggOk.l0 k3 (wrap64 (x4_3 + 1)) a0_0 a0_1 a0_2 a0_3 a0_4 l0_5 bt201.1 bt201.2)) = some r := H
            have A42 := zp.mk A420
            clear A420
            replace H := zs4 H
            obtain ⟨⟨t201, t202⟩, A430, H⟩ := H
            replace H : (spec_AggOk.l0 k3 (wrap64 (x4_3 + 1)) a0_0 a0_1 a0_2 a0_3 a0_4 l0_5 t201 t202) = some r := H
            have A43 := zp.mk A430
            clear A430
            have H' := zp.mk H
            clear H
            have hnb44 := NB190_197.out
            have hnc44 := NB197_190.out
            have y45_0 := zt0 BK190.out
            have y45_1 := zt1 BK190.out
            have y45_2 := zt2 BK190.out
            have y45_3 := zt3 BK190.out
            have y45_4 := zt4 BK190.out
            have y45_5 := zt5 BK190.out
            have u45_0 := zd BK190.out 0
            have u45_1 := zd BK190.out 1
            have u45_2 := zd BK190.out 2
            have u45_3 := zd BK190.out 3
            have u45_4 := zd BK190.out 4
            have u45_5 := zd BK190.out 5
            try go_wp2
            replace BK190 := zp.mk (zi BK190.out)
            replace BK197 := zp.mk (zi BK197.out)
            replace HB := zp.mk (zb HB.out)
            have p198 : 0 ≤ (x4_3 : Int) := of_decide_eq_true (by first | (with_reducible assumption) | assumption)
            have q198 : x4_3 < (l0_5.length : Int) := of_decide_eq_true (by first | (with_reducible assumption) | assumption)
            obtain ⟨ad198, e198, hx198_0⟩ := Kd.at_int HR0_5.out x4_3 p198 q198
            have hw198_0 := hx198_0
            cases e198
            replace hx198_0 := (HB.out.cell (World.block_lt_of_cell? w _ hx198_0)).trans hx198_0
            replace p198 := eq_true p198
            replace q198 := eq_true q198
            refine start_ (n := 9) (S := fun w' => w'.cell? ⟨gb197, 0, none⟩ = some (.int .i64 x198000_3) ∧ w'.cell? ⟨gb197, 1, none⟩ = some (.int .u64 x198001_3) ∧ w'.cell? ⟨gb190, 0, none⟩ = some (.int .i64 a0_0) ∧ w'.cell? ⟨gb190, 1, none⟩ = some (.int .i64 a0_1) ∧ w'.cell? ⟨gb190, 2, none⟩ = some (.int .u64 a0_2) ∧ w'.cell? ⟨gb190, 3, none⟩ = some (.int .i64 a0_3) ∧ w'.cell? ⟨gb190, 4, none⟩ = some (.int .i64 a0_4) ∧ w'.cell? ⟨gb190, 5, none⟩ = some (.slice (some ad198) l0_5.length c0_5) ∧ w'.cell? (ad198.add (x4_3).toNat) = some (.int .i64 (rd l0_5 x4_3))) (ds := [8]) #[false, false, false, false, false, false, false, false, false] (by kernel_rfl) rfl rfl ⟨(ze BK197.out 0).trans rfl, (ze BK197.out 1).trans rfl, (ze BK190.out 0).trans rfl, (ze BK190.out 1).trans rfl, (ze BK190.out 2).trans rfl, (ze BK190.out 3).trans rfl, (ze BK190.out 4).trans rfl, (ze BK190.out 5).trans rfl, ((HB.out.cell (World.block_lt_of_cell? w _ hw198_0)).trans hw198_0)⟩ (fun hHeld => ?_); refine with_tabW spec_AggOk.tab11 spec_AggOk.bits11 (fun HT_ HW_ => ?_)
            generalize wr.drew = w46 at BK190 BK197 HB hx198_0 hHeld ⊢
            refine pure_ (i := 1) (N := some 80) (v := ?_) (a' := ?_) #[false, true, false, false, false, false, false, false, false] rfl rfl (any_of HT_.out (by kernel_rfl)) (fun _ _ _ h => h) (Or.inl ⟨by rfl, ?_⟩) ?_ ?_
            rotate_left
            ·intro w'
             go_simp
             with_reducible rfl
            rotate_left
            ·simp only [Act.put, zs1, zs2, zs3, i64_w, i32_w]
             rfl
            refine pure_ (i := 3) (N := some 82) (v := ?_) (a' := ?_) #[false, true, false, true, false, false, false, false, false] rfl rfl (any_of HT_.out (by kernel_rfl)) (fun _ _ _ h => h) (Or.inl ⟨by rfl, ?_⟩) ?_ ?_
            rotate_left
            ·intro w'
             go_simp
             with_reducible rfl
            rotate_left
            ·simp only [Act.put, zs1, zs2, zs3, i64_w, i32_w]
             rfl
            refine take_ (i := 0) (N := some 79) (v := ?_) (a' := ?_) #[true, true, false, true, false, false, false, false, false] rfl rfl (take_ofW HT_.out HW_.out (by kernel_rfl)) (fun _ _ _ h => h) (Or.inl ⟨by rfl, ?_⟩) hHeld ?_ ?_
            rotate_left
            ·rintro w' ⟨s0, s1, s2, s3, s4, s5, s6, s7, s8⟩
             go_simp
             with_reducible rfl
            rotate_left
            ·simp only [Act.put, zs1, zs2, zs3, i64_w, i32_w]
             rfl
            refine take_ (i := 2) (N := some 81) (v := ?_) (a' := ?_) #[true, true, true, true, false, false, false, false, false] rfl rfl (take_ofW HT_.out HW_.out (by kernel_rfl)) (fun _ _ _ h => h) (Or.inl ⟨by rfl, ?_⟩) hHeld ?_ ?_
            rotate_left
            ·rintro w' ⟨s0, s1, s2, s3, s4, s5, s6, s7, s8⟩
             go_simp
             with_reducible rfl
            rotate_left
            ·simp only [Act.put, zs1, zs2, zs3, i64_w, i32_w]
             rfl
            refine pure_ (i := 4) (N := some 83) (v := ?_) (a' := ?_) #[true, true, true, true, true, false, false, false, false] rfl rfl (any_of HT_.out (by kernel_rfl)) (fun _ _ _ h => h) (Or.inl ⟨by rfl, ?_⟩) ?_ ?_
            rotate_left
            ·intro w'
             go_simp
             with_reducible rfl
            rotate_left
            ·simp only [Act.put, zs1, zs2, zs3, i64_w, i32_w]
             rfl
            refine take_ (i := 5) (N := some 84) (v := ?_) (a' := ?_) #[true, true, true, true, true, true, false, false, false] rfl rfl (take_ofW HT_.out HW_.out (by kernel_rfl)) (fun _ _ _ h => h) (Or.inl ⟨by rfl, ?_⟩) hHeld ?_ ?_
            rotate_left
            ·rintro w' ⟨s0, s1, s2, s3, s4, s5, s6, s7, s8⟩
             go_simp
             with_reducible rfl
            rotate_left
            ·simp only [Act.put, zs1, zs2, zs3, i64_w, i32_w]
             rfl
            refine one_ (i := 6) (N := some 85) #[true, true, true, true, true, true, true, false, false] rfl rfl (one_of HT_.out (by kernel_rfl)) (by decide) (fun K hK => ?_)
            refine goes_ Try.func30 (by kernel_rfl) rfl #[.int .i64 (rd l0_5 x4_3)] (by rfl) rfl rfl (by (try simp only [List.map_toArray, List.map_cons, List.map_nil]); first | done | rfl | (simp only [List.length_drop, List.length_take]; rfl)) ?_
            with_reducible refine (spec_WideOf.calls (rd l0_5 x4_3) t199 t200 _ A42.out).mono ?_
            rintro e w47 ⟨rfl, hb⟩
            refine ⟨_, rfl, ?_⟩
            replace BK190 := zp.mk (zl (zv8 BK190.out) hb)
            replace BK197 := zp.mk (zl (zv8 BK197.out) hb)
            replace HB := zp.mk (zj (zv7 HB.out) hb)
            (try clear hb)
            (try clear hb2)
            (try clear hk)
            (try clear hi)
            refine hK.out _ _ ⟨(ze BK197.out 0).trans rfl, (ze BK197.out 1).trans rfl, (ze BK190.out 0).trans rfl, (ze BK190.out 1).trans rfl, (ze BK190.out 2).trans rfl, (ze BK190.out 3).trans rfl, (ze BK190.out 4).trans rfl, (ze BK190.out 5).trans rfl, ((HB.out.cell (World.block_lt_of_cell? w _ hw198_0)).trans hw198_0)⟩ (fun hHeld => ?_)
            clear hK K
            refine norm_ (a' := ?_) ?_ ?_
            rotate_left
            ·show Act.put _ (some 85) _ = _
             simp only [Act.put, zs1, zs2, zs3, i64_w, i32_w]
             rfl
            refine one_ (i := 7) (N := some 86) #[true, true, true, true, true, true, true, true, false] rfl rfl (one_of HT_.out (by kernel_rfl)) (by decide) (fun K hK => ?_)
            refine goes_ Try.func29 (by kernel_rfl) rfl #[.agg #[.int .i64 x198000_3, .int .u64 x198001_3], .agg #[.int .i64 t199, .int .u64 t200]] (by rfl) rfl rfl (by (try simp only [List.map_toArray, List.map_cons, List.map_nil]); first | done | rfl | (simp only [List.length_drop, List.length_take]; rfl)) ?_
            with_reducible refine (spec_WideAdd.calls x198000_3 x198001_3 t199 t200 t201 t202 _ A43.out).mono ?_
            rintro e w48 ⟨rfl, hb⟩
            refine ⟨_, rfl, ?_⟩
            replace BK190 := zp.mk (zl (zv8 BK190.out) hb)
            replace BK197 := zp.mk (zl (zv8 BK197.out) hb)
            replace HB := zp.mk (zj (zv7 HB.out) hb)
            (try clear hb)
            (try clear hb2)
            (try clear hk)
            (try clear hi)
            refine hK.out _ _ ⟨(ze BK197.out 0).trans rfl, (ze BK197.out 1).trans rfl, (ze BK190.out 0).trans rfl, (ze BK190.out 1).trans rfl, (ze BK190.out 2).trans rfl, (ze BK190.out 3).trans rfl, (ze BK190.out 4).trans rfl, (ze BK190.out 5).trans rfl, ((HB.out.cell (World.block_lt_of_cell? w _ hw198_0)).trans hw198_0)⟩ (fun hHeld => ?_)
            clear hK K
            refine norm_ (a' := ?_) ?_ ?_
            rotate_left
            ·show Act.put _ (some 86) _ = _
             simp only [Act.put, zs1, zs2, zs3, i64_w, i32_w]
             rfl
            refine last_ (i := 8) (N := none) #[true, true, true, true, true, true, true, true, true] rfl rfl (one_of HT_.out (by kernel_rfl)) (by decide) (fun K hK => ?_)
            have hs49 : w48.cell? ⟨gb197, 0, none⟩ = some (.int .i64 x198000_3) := (ze BK197.out 0).trans rfl
            have hfs49 := zd BK197.out 0
            have hns49_0 := NB190_197.out
            have hms49_0 := NB197_190.out
            have hs50 : w48.cell? ⟨gb197, 1, none⟩ = some (.int .u64 x198001_3) := (ze BK197.out 1).trans rfl
            have hfs50 := zd BK197.out 1
            have hns50_0 := NB190_197.out
            have hms50_0 := NB197_190.out
            refine skip_ (w1 := ?_) (by rfl) rfl ?_ ?_
            rotate_left
            ·go_simp
             rfl
            refine hK.out _ _ ?_
            clear hK K
            refine done_ (done_of HT_.out (by kernel_rfl)) ?_
            try go_wp2
            go_roundg k3
            case measure => have := HJ1.out; have := HJ16.out; have := HK3.out; omega
            case rel => exact ⟨(wrap64 (x4_3 + 1)), (t201), (t202), (by first | rfl | (simp; done) | (simp [*]; done)), H', ⟨by have := HJ1.out; have := HJ16.out; have := HK3.out; omega⟩, ⟨by (with_reducible repeat (first | refine zf ?_ _ | refine zi ?_ | refine zg ?_ _)); refine blk_far ?_ NB190_197.out _; (with_reducible repeat (first | refine zf ?_ _ | refine zi ?_ | refine zg ?_ _)); refine blk_far ?_ NB190_197.out _; (with_reducible repeat (first | refine zf ?_ _ | refine zi ?_ | refine zg ?_ _)); exact BK190.out⟩, ⟨by (with_reducible repeat (first | refine zf ?_ _ | refine zi ?_ | refine zg ?_ _)); refine blk_put (cs := #[.int .i64 t201, .int .u64 x198001_3]) ?_ 1 _ rfl; (with_reducible repeat (first | refine zf ?_ _ | refine zi ?_ | refine zg ?_ _)); refine blk_put (cs := #[.int .i64 x198000_3, .int .u64 x198001_3]) ?_ 0 _ rfl; (with_reducible repeat (first | refine zf ?_ _ | refine zi ?_ | refine zg ?_ _)); exact BK197.out⟩, ⟨zv7 HB.out⟩⟩
           ·rw [if_neg c41] at H
            exact absurd H (by simp)
          ·rw [if_neg c40] at H
           have c40b0 : decide (x4_3 < (l0_5.length : Int)) = false := decide_eq_false c40
           clear c40
           by_cases c51 : (wrap64 (a0_0 - (l0_5.length : Int))) = 0
           ·rw [if_pos c51] at H
            have c51b0 : ((wrap64 (a0_0 - (l0_5.length : Int))) == 0) = true := beq_iff_eq.mpr c51
            have c51b1 : ((wrap64 (a0_0 - (l0_5.length : Int))) != 0) = false := bne_eq_false_iff_eq.mpr c51
            clear c51
            obtain ⟨ji52, hji52⟩ : ∃ j_ : Int, (wrap64 ((l0_5.length : Int) - 1)) = j_ := ⟨_, rfl⟩
            replace H : (if 0 ≤ (ji52) then (if (ji52) < (l0_5.length : Int) then (if a0_3 = (rd l0_5 (ji52)) then (some (a0_1 == x198000_3 && (a0_2 == x198001_3))) else (some false)) else (none)) else (none)) = some r := by first | (rw [hji52] at H; exact H) | (simp only [hji52] at H ⊢; exact H)
            have hji52w : (IntKind.i64.wrap ((l0_5.length : Int) - 1)) = ji52 := (i64_w _).trans hji52
            by_cases c53 : 0 ≤ (ji52)
            ·rw [if_pos c53] at H
             have c53b0 : decide (0 ≤ (ji52)) = true := decide_eq_true c53
             clear c53
             by_cases c54 : (ji52) < (l0_5.length : Int)
             ·rw [if_pos c54] at H
              have c54b0 : decide ((ji52) < (l0_5.length : Int)) = true := decide_eq_true c54
              clear c54
              by_cases c55 : a0_3 = (rd l0_5 (ji52))
              ·rw [if_pos c55] at H
               have c55b0 : (a0_3 == (rd l0_5 (ji52))) = true := beq_iff_eq.mpr c55
               have c55b1 : (a0_3 != (rd l0_5 (ji52))) = false := bne_eq_false_iff_eq.mpr c55
               clear c55
               obtain rfl := Option.some.inj H
               have hnb56 := NB190_197.out
               have hnc56 := NB197_190.out
               have y57_0 := zt0 BK190.out
               have y57_1 := zt1 BK190.out
               have y57_2 := zt2 BK190.out
               have y57_3 := zt3 BK190.out
               have y57_4 := zt4 BK190.out
               have y57_5 := zt5 BK190.out
               have u57_0 := zd BK190.out 0
               have u57_1 := zd BK190.out 1
               have u57_2 := zd BK190.out 2
               have u57_3 := zd BK190.out 3
               have u57_4 := zd BK190.out 4
               have u57_5 := zd BK190.out 5
               try go_wp2
               replace BK190 := zp.mk (zi BK190.out)
               replace BK197 := zp.mk (zi BK197.out)
               replace HB := zp.mk (zb HB.out)
               have p203 : 0 ≤ ((ji52) : Int) := of_decide_eq_true (by first | (with_reducible assumption) | assumption)
               have q203 : (ji52) < (l0_5.length : Int) := of_decide_eq_true (by first | (with_reducible assumption) | assumption)
               obtain ⟨ad203, e203, hx203_0⟩ := Kd.at_int HR0_5.out (ji52) p203 q203
               have hw203_0 := hx203_0
               cases e203
               replace hx203_0 := (HB.out.cell (World.block_lt_of_cell? w _ hx203_0)).trans hx203_0
               replace p203 := eq_true p203
               replace q203 := eq_true q203
               refine start_ (n := 18) (S := fun w' => w'.cell? ⟨gb190, 0, none⟩ = some (.int .i64 a0_0) ∧ w'.cell? ⟨gb190, 1, none⟩ = some (.int .i64 a0_1) ∧ w'.cell? ⟨gb190, 2, none⟩ = some (.int .u64 a0_2) ∧ w'.cell? ⟨gb190, 3, none⟩ = some (.int .i64 a0_3) ∧ w'.cell? ⟨gb190, 4, none⟩ = some (.int .i64 a0_4) ∧ w'.cell? ⟨gb190, 5, none⟩ = some (.slice (some ad203) l0_5.length c0_5) ∧ w'.cell? ⟨gb197, 0, none⟩ = some (.int .i64 x198000_3) ∧ w'.cell? ⟨gb197, 1, none⟩ = some (.int .u64 x198001_3) ∧ w'.cell? (ad203.add ((ji52)).toNat) = some (.int .i64 (rd l0_5 (ji52)))) (ds := []) #[false, false, false, false, false, false, false, false, false, false, false, false, false, false, false, false, false, false] (by kernel_rfl) rfl rfl ⟨(ze BK190.out 0).trans rfl, (ze BK190.out 1).trans rfl, (ze BK190.out 2).trans rfl, (ze BK190.out 3).trans rfl, (ze BK190.out 4).trans rfl, (ze BK190.out 5).trans rfl, (ze BK197.out 0).trans rfl, (ze BK197.out 1).trans rfl, ((HB.out.cell (World.block_lt_of_cell? w _ hw203_0)).trans hw203_0)⟩ (fun hHeld => ?_); refine with_tabW spec_AggOk.tab14 spec_AggOk.bits14 (fun HT_ HW_ => ?_)
               generalize wr.drew = w58 at BK190 BK197 HB hx203_0 hHeld ⊢
               refine pure_ (i := 0) (N := some 95) (v := ?_) (a' := ?_) #[true, false, false, false, false, false, false, false, false, false, false, false, false, false, false, false, false, false] rfl rfl (any_of HT_.out (by kernel_rfl)) (fun _ _ _ h => h) (Or.inl ⟨by rfl, ?_⟩) ?_ ?_
               rotate_left
               ·intro w'
                go_simp
                with_reducible rfl
               rotate_left
               ·simp only [Act.put, zs1, zs2, zs3, i64_w, i32_w]
                rfl
               refine pure_ (i := 2) (N := some 97) (v := ?_) (a' := ?_) #[true, false, true, false, false, false, false, false, false, false, false, false, false, false, false, false, false, false] rfl rfl (any_of HT_.out (by kernel_rfl)) (fun _ _ _ h => h) (Or.inl ⟨by rfl, ?_⟩) ?_ ?_
               rotate_left
               ·intro w'
                go_simp
                with_reducible rfl
               rotate_left
               ·simp only [Act.put, zs1, zs2, zs3, i64_w, i32_w]
                rfl
               refine pure_ (i := 4) (N := some 99) (v := ?_) (a' := ?_) #[true, false, true, false, true, false, false, false, false, false, false, false, false, false, false, false, false, false] rfl rfl (any_of HT_.out (by kernel_rfl)) (fun _ _ _ h => h) (Or.inl ⟨by rfl, ?_⟩) ?_ ?_
               rotate_left
               ·intro w'
                go_simp
                with_reducible rfl
               rotate_left
               ·simp only [Act.put, zs1, zs2, zs3, i64_w, i32_w]
                rfl
               refine take_ (i := 1) (N := some 96) (v := ?_) (a' := ?_) #[true, true, true, false, true, false, false, false, false, false, false, false, false, false, false, false, false, false] rfl rfl (take_ofW HT_.out HW_.out (by kernel_rfl)) (fun _ _ _ h => h) (Or.inl ⟨by rfl, ?_⟩) hHeld ?_ ?_
               rotate_left
               ·rintro w' ⟨s0, s1, s2, s3, s4, s5, s6, s7, s8⟩
                go_simp
                with_reducible rfl
               rotate_left
               ·simp only [Act.put, zs1, zs2, zs3, i64_w, i32_w]
                rfl
               refine take_ (i := 3) (N := some 98) (v := ?_) (a' := ?_) #[true, true, true, true, true, false, false, false, false, false, false, false, false, false, false, false, false, false] rfl rfl (take_ofW HT_.out HW_.out (by kernel_rfl)) (fun _ _ _ h => h) (Or.inl ⟨by rfl, ?_⟩) hHeld ?_ ?_
               rotate_left
               ·rintro w' ⟨s0, s1, s2, s3, s4, s5, s6, s7, s8⟩
                go_simp
                with_reducible rfl
               rotate_left
               ·simp only [Act.put, zs1, zs2, zs3, i64_w, i32_w]
                rfl
               refine take_ (i := 5) (N := some 100) (v := ?_) (a' := ?_) #[true, true, true, true, true, true, false, false, false, false, false, false, false, false, false, false, false, false] rfl rfl (take_ofW HT_.out HW_.out (by kernel_rfl)) (fun _ _ _ h => h) (Or.inl ⟨by rfl, ?_⟩) hHeld ?_ ?_
               rotate_left
               ·rintro w' ⟨s0, s1, s2, s3, s4, s5, s6, s7, s8⟩
                go_simp
                with_reducible rfl
               rotate_left
               ·simp only [Act.put, zs1, zs2, zs3, i64_w, i32_w]
                rfl
               refine pure_ (i := 6) (N := some 101) (v := ?_) (a' := ?_) #[true, true, true, true, true, true, true, false, false, false, false, false, false, false, false, false, false, false] rfl rfl (any_of HT_.out (by kernel_rfl)) (fun _ _ _ h => h) (Or.inl ⟨by rfl, ?_⟩) ?_ ?_
               rotate_left
               ·intro w'
                go_simp
                with_reducible rfl
               rotate_left
               ·simp only [Act.put, zs1, zs2, zs3, i64_w, i32_w]
                rfl
               refine pure_ (i := 7) (N := some 102) (v := ?_) (a' := ?_) #[true, true, true, true, true, true, true, true, false, false, false, false, false, false, false, false, false, false] rfl rfl (any_of HT_.out (by kernel_rfl)) (fun _ _ _ h => h) (Or.inl ⟨by rfl, ?_⟩) ?_ ?_
               rotate_left
               ·intro w'
                go_simp
                with_reducible rfl
               rotate_left
               ·simp only [Act.put, zs1, zs2, zs3, i64_w, i32_w]
                rfl
               refine pure_ (i := 8) (N := some 103) (v := ?_) (a' := ?_) #[true, true, true, true, true, true, true, true, true, false, false, false, false, false, false, false, false, false] rfl rfl (any_of HT_.out (by kernel_rfl)) (fun _ _ _ h => h) (Or.inl ⟨by rfl, ?_⟩) ?_ ?_
               rotate_left
               ·intro w'
                go_simp
                with_reducible rfl
               rotate_left
               ·simp only [Act.put, zs1, zs2, zs3, i64_w, i32_w]
                rfl
               refine take_ (i := 9) (N := some 104) (v := ?_) (a' := ?_) #[true, true, true, true, true, true, true, true, true, true, false, false, false, false, false, false, false, false] rfl rfl (take_ofW HT_.out HW_.out (by kernel_rfl)) (fun _ _ _ h => h) (Or.inl ⟨by rfl, ?_⟩) hHeld ?_ ?_
               rotate_left
               ·rintro w' ⟨s0, s1, s2, s3, s4, s5, s6, s7, s8⟩
                go_simp
                with_reducible rfl
               rotate_left
               ·simp only [Act.put, zs1, zs2, zs3, i64_w, i32_w]
                rfl
               refine pure_ (i := 10) (N := some 105) (v := ?_) (a' := ?_) #[true, true, true, true, true, true, true, true, true, true, true, false, false, false, false, false, false, false] rfl rfl (any_of HT_.out (by kernel_rfl)) (fun _ _ _ h => h) (Or.inl ⟨by rfl, ?_⟩) ?_ ?_
               rotate_left
               ·intro w'
                go_simp
                with_reducible rfl
               rotate_left
               ·simp only [Act.put, zs1, zs2, zs3, i64_w, i32_w]
                rfl
               refine pure_ (i := 11) (N := some 106) (v := ?_) (a' := ?_) #[true, true, true, true, true, true, true, true, true, true, true, true, false, false, false, false, false, false] rfl rfl (any_of HT_.out (by kernel_rfl)) (fun _ _ _ h => h) (Or.inl ⟨by rfl, ?_⟩) ?_ ?_
               rotate_left
               ·intro w'
                go_simp
                with_reducible rfl
               rotate_left
               ·simp only [Act.put, zs1, zs2, zs3, i64_w, i32_w]
                rfl
               refine pure_ (i := 12) (N := some 107) (v := ?_) (a' := ?_) #[true, true, true, true, true, true, true, true, true, true, true, true, true, false, false, false, false, false] rfl rfl (any_of HT_.out (by kernel_rfl)) (fun _ _ _ h => h) (Or.inl ⟨by rfl, ?_⟩) ?_ ?_
               rotate_left
               ·intro w'
                go_simp
                with_reducible rfl
               rotate_left
               ·simp only [Act.put, zs1, zs2, zs3, i64_w, i32_w]
                rfl
               refine take_ (i := 13) (N := some 108) (v := ?_) (a' := ?_) #[true, true, true, true, true, true, true, true, true, true, true, true, true, true, false, false, false, false] rfl rfl (take_ofW HT_.out HW_.out (by kernel_rfl)) (fun _ _ _ h => h) (Or.inl ⟨by rfl, ?_⟩) hHeld ?_ ?_
               rotate_left
               ·rintro w' ⟨s0, s1, s2, s3, s4, s5, s6, s7, s8⟩
                go_simp
                with_reducible rfl
               rotate_left
               ·simp only [Act.put, zs1, zs2, zs3, i64_w, i32_w]
                rfl
               refine take_ (i := 14) (N := some 109) (v := ?_) (a' := ?_) #[true, true, true, true, true, true, true, true, true, true, true, true, true, true, true, false, false, false] rfl rfl (take_ofW HT_.out HW_.out (by kernel_rfl)) (fun _ _ _ h => h) (Or.inl ⟨by rfl, ?_⟩) hHeld ?_ ?_
               rotate_left
               ·rintro w' ⟨s0, s1, s2, s3, s4, s5, s6, s7, s8⟩
                go_simp
                with_reducible rfl
               rotate_left
               ·simp only [Act.put, zs1, zs2, zs3, i64_w, i32_w]
                rfl
               refine pure_ (i := 15) (N := some 110) (v := ?_) (a' := ?_) #[true, true, true, true, true, true, true, true, true, true, true, true, true, true, true, true, false, false] rfl rfl (any_of HT_.out (by kernel_rfl)) (fun _ _ _ h => h) (Or.inl ⟨by rfl, ?_⟩) ?_ ?_
               rotate_left
               ·intro w'
                go_simp
                with_reducible rfl
               rotate_left
               ·simp only [Act.put, zs1, zs2, zs3, i64_w, i32_w]
                rfl
               refine pure_ (i := 16) (N := some 111) (v := ?_) (a' := ?_) #[true, true, true, true, true, true, true, true, true, true, true, true, true, true, true, true, true, false] rfl rfl (any_of HT_.out (by kernel_rfl)) (fun _ _ _ h => h) (Or.inl ⟨by rfl, ?_⟩) ?_ ?_
               rotate_left
               ·intro w'
                go_simp
                with_reducible rfl
               rotate_left
               ·simp only [Act.put, zs1, zs2, zs3, i64_w, i32_w]
                rfl
               refine pure_ (i := 17) (N := some 2) (v := ?_) (a' := ?_) #[true, true, true, true, true, true, true, true, true, true, true, true, true, true, true, true, true, true] rfl rfl (any_of HT_.out (by kernel_rfl)) (fun _ _ _ h => h) (Or.inl ⟨by rfl, ?_⟩) ?_ ?_
               rotate_left
               ·intro w'
                go_simp
                with_reducible rfl
               rotate_left
               ·simp only [Act.put, zs1, zs2, zs3, i64_w, i32_w]
                rfl
               refine done_ (done_of HT_.out (by kernel_rfl)) ?_
               try go_wp2
               go_ret
               exact ⟨by first | rfl | (simp [errW_none, errW_some] <;> rfl) | (simp only [← hji52]; first | rfl | (simp [errW_none, errW_some] <;> rfl)) | (simp [*, errW_none, errW_some] <;> rfl), zv7 HB.out⟩
              ·rw [if_neg c55] at H
               have c55b0 : (a0_3 == (rd l0_5 (ji52))) = false := beq_eq_false_iff_ne.mpr c55
               have c55b1 : (a0_3 != (rd l0_5 (ji52))) = true := bne_iff_ne.mpr c55
               obtain rfl := Option.some.inj H
               have hnb59 := NB190_197.out
               have hnc59 := NB197_190.out
               have y60_0 := zt0 BK190.out
               have y60_1 := zt1 BK190.out
               have y60_2 := zt2 BK190.out
               have y60_3 := zt3 BK190.out
               have y60_4 := zt4 BK190.out
               have y60_5 := zt5 BK190.out
               have u60_0 := zd BK190.out 0
               have u60_1 := zd BK190.out 1
               have u60_2 := zd BK190.out 2
               have u60_3 := zd BK190.out 3
               have u60_4 := zd BK190.out 4
               have u60_5 := zd BK190.out 5
               try go_wp2
               replace BK190 := zp.mk (zi BK190.out)
               replace BK197 := zp.mk (zi BK197.out)
               replace HB := zp.mk (zb HB.out)
               have p203 : 0 ≤ ((ji52) : Int) := of_decide_eq_true (by first | (with_reducible assumption) | assumption)
               have q203 : (ji52) < (l0_5.length : Int) := of_decide_eq_true (by first | (with_reducible assumption) | assumption)
               obtain ⟨ad203, e203, hx203_0⟩ := Kd.at_int HR0_5.out (ji52) p203 q203
               have hw203_0 := hx203_0
               cases e203
               replace hx203_0 := (HB.out.cell (World.block_lt_of_cell? w _ hx203_0)).trans hx203_0
               replace p203 := eq_true p203
               replace q203 := eq_true q203
               refine start_ (n := 18) (S := fun w' => w'.cell? ⟨gb190, 0, none⟩ = some (.int .i64 a0_0) ∧ w'.cell? ⟨gb190, 1, none⟩ = some (.int .i64 a0_1) ∧ w'.cell? ⟨gb190, 2, none⟩ = some (.int .u64 a0_2) ∧ w'.cell? ⟨gb190, 3, none⟩ = some (.int .i64 a0_3) ∧ w'.cell? ⟨gb190, 4, none⟩ = some (.int .i64 a0_4) ∧ w'.cell? ⟨gb190, 5, none⟩ = some (.slice (some ad203) l0_5.length c0_5) ∧ w'.cell? (ad203.add ((ji52)).toNat) = some (.int .i64 (rd l0_5 (ji52)))) (ds := []) #[false, false, false, false, false, false, false, false, false, false, false, false, false, false, false, false, false, false] (by kernel_rfl) rfl rfl ⟨(ze BK190.out 0).trans rfl, (ze BK190.out 1).trans rfl, (ze BK190.out 2).trans rfl, (ze BK190.out 3).trans rfl, (ze BK190.out 4).trans rfl, (ze BK190.out 5).trans rfl, ((HB.out.cell (World.block_lt_of_cell? w _ hw203_0)).trans hw203_0)⟩ (fun hHeld => ?_); refine with_tabW spec_AggOk.tab14 spec_AggOk.bits14 (fun HT_ HW_ => ?_)
               generalize wr.drew = w61 at BK190 BK197 HB hx203_0 hHeld ⊢
               refine pure_ (i := 0) (N := some 95) (v := ?_) (a' := ?_) #[true, false, false, false, false, false, false, false, false, false, false, false, false, false, false, false, false, false] rfl rfl (any_of HT_.out (by kernel_rfl)) (fun _ _ _ h => h) (Or.inl ⟨by rfl, ?_⟩) ?_ ?_
               rotate_left
               ·intro w'
                go_simp
                with_reducible rfl
               rotate_left
               ·simp only [Act.put, zs1, zs2, zs3, i64_w, i32_w]
                rfl
               refine pure_ (i := 2) (N := some 97) (v := ?_) (a' := ?_) #[true, false, true, false, false, false, false, false, false, false, false, false, false, false, false, false, false, false] rfl rfl (any_of HT_.out (by kernel_rfl)) (fun _ _ _ h => h) (Or.inl ⟨by rfl, ?_⟩) ?_ ?_
               rotate_left
               ·intro w'
                go_simp
                with_reducible rfl
               rotate_left
               ·simp only [Act.put, zs1, zs2, zs3, i64_w, i32_w]
                rfl
               refine pure_ (i := 4) (N := some 99) (v := ?_) (a' := ?_) #[true, false, true, false, true, false, false, false, false, false, false, false, false, false, false, false, false, false] rfl rfl (any_of HT_.out (by kernel_rfl)) (fun _ _ _ h => h) (Or.inl ⟨by rfl, ?_⟩) ?_ ?_
               rotate_left
               ·intro w'
                go_simp
                with_reducible rfl
               rotate_left
               ·simp only [Act.put, zs1, zs2, zs3, i64_w, i32_w]
                rfl
               refine take_ (i := 1) (N := some 96) (v := ?_) (a' := ?_) #[true, true, true, false, true, false, false, false, false, false, false, false, false, false, false, false, false, false] rfl rfl (take_ofW HT_.out HW_.out (by kernel_rfl)) (fun _ _ _ h => h) (Or.inl ⟨by rfl, ?_⟩) hHeld ?_ ?_
               rotate_left
               ·rintro w' ⟨s0, s1, s2, s3, s4, s5, s6⟩
                go_simp
                with_reducible rfl
               rotate_left
               ·simp only [Act.put, zs1, zs2, zs3, i64_w, i32_w]
                rfl
               refine take_ (i := 3) (N := some 98) (v := ?_) (a' := ?_) #[true, true, true, true, true, false, false, false, false, false, false, false, false, false, false, false, false, false] rfl rfl (take_ofW HT_.out HW_.out (by kernel_rfl)) (fun _ _ _ h => h) (Or.inl ⟨by rfl, ?_⟩) hHeld ?_ ?_
               rotate_left
               ·rintro w' ⟨s0, s1, s2, s3, s4, s5, s6⟩
                go_simp
                with_reducible rfl
               rotate_left
               ·simp only [Act.put, zs1, zs2, zs3, i64_w, i32_w]
                rfl
               refine take_ (i := 5) (N := some 100) (v := ?_) (a' := ?_) #[true, true, true, true, true, true, false, false, false, false, false, false, false, false, false, false, false, false] rfl rfl (take_ofW HT_.out HW_.out (by kernel_rfl)) (fun _ _ _ h => h) (Or.inl ⟨by rfl, ?_⟩) hHeld ?_ ?_
               rotate_left
               ·rintro w' ⟨s0, s1, s2, s3, s4, s5, s6⟩
                go_simp
                with_reducible rfl
               rotate_left
               ·simp only [Act.put, zs1, zs2, zs3, i64_w, i32_w]
                rfl
               refine pure_ (i := 6) (N := some 101) (v := ?_) (a' := ?_) #[true, true, true, true, true, true, true, false, false, false, false, false, false, false, false, false, false, false] rfl rfl (any_of HT_.out (by kernel_rfl)) (fun _ _ _ h => h) (Or.inl ⟨by rfl, ?_⟩) ?_ ?_
               rotate_left
               ·intro w'
                go_simp
                with_reducible rfl
               rotate_left
               ·simp only [Act.put, zs1, zs2, zs3, i64_w, i32_w]
                rfl
               refine pure_ (i := 7) (N := some 102) (v := ?_) (a' := ?_) #[true, true, true, true, true, true, true, true, false, false, false, false, false, false, false, false, false, false] rfl rfl (any_of HT_.out (by kernel_rfl)) (fun _ _ _ h => h) (Or.inl ⟨by rfl, ?_⟩) ?_ ?_
               rotate_left
               ·intro w'
                go_simp
                with_reducible rfl
               rotate_left
               ·simp only [Act.put, zs1, zs2, zs3, i64_w, i32_w]
                rfl
               refine pure_ (i := 8) (N := some 103) (v := ?_) (a' := ?_) #[true, true, true, true, true, true, true, true, true, false, false, false, false, false, false, false, false, false] rfl rfl (any_of HT_.out (by kernel_rfl)) (fun _ _ _ h => h) (Or.inl ⟨by rfl, ?_⟩) ?_ ?_
               rotate_left
               ·intro w'
                go_simp
                with_reducible rfl
               rotate_left
               ·simp only [Act.put, zs1, zs2, zs3, i64_w, i32_w]
                rfl
               refine take_ (i := 9) (N := some 104) (v := ?_) (a' := ?_) #[true, true, true, true, true, true, true, true, true, true, false, false, false, false, false, false, false, false] rfl rfl (take_ofW HT_.out HW_.out (by kernel_rfl)) (fun _ _ _ h => h) (Or.inl ⟨by rfl, ?_⟩) hHeld ?_ ?_
               rotate_left
               ·rintro w' ⟨s0, s1, s2, s3, s4, s5, s6⟩
                go_simp
                with_reducible rfl
               rotate_left
               ·simp only [Act.put, zs1, zs2, zs3, i64_w, i32_w]
                rfl
               refine pure_ (i := 10) (N := some 105) (v := ?_) (a' := ?_) #[true, true, true, true, true, true, true, true, true, true, true, false, false, false, false, false, false, false] rfl rfl (any_of HT_.out (by kernel_rfl)) (fun _ _ _ h => h) (Or.inl ⟨by rfl, ?_⟩) ?_ ?_
               rotate_left
               ·intro w'
                go_simp
                with_reducible rfl
               rotate_left
               ·simp only [Act.put, zs1, zs2, zs3, i64_w, i32_w]
                rfl
               refine pure_ (i := 11) (N := some 106) (v := ?_) (a' := ?_) #[true, true, true, true, true, true, true, true, true, true, true, true, false, false, false, false, false, false] rfl rfl (any_of HT_.out (by kernel_rfl)) (fun _ _ _ h => h) (Or.inl ⟨by rfl, ?_⟩) ?_ ?_
               rotate_left
               ·intro w'
                go_simp
                with_reducible rfl
               rotate_left
               ·simp only [Act.put, zs1, zs2, zs3, i64_w, i32_w]
                rfl
               refine pure_ (i := 12) (N := some 107) (v := undef) (a' := ?_) #[true, true, true, true, true, true, true, true, true, true, true, true, true, false, false, false, false, false] rfl rfl (any_of HT_.out (by kernel_rfl)) (fun _ _ _ h => h) (Or.inr ⟨by rfl, rfl⟩) ?_ ?_
               rotate_left
               ·simp only [Act.put, zs1, zs2, zs3, i64_w, i32_w]
                rfl
               refine pure_ (i := 13) (N := some 108) (v := undef) (a' := ?_) #[true, true, true, true, true, true, true, true, true, true, true, true, true, true, false, false, false, false] rfl rfl (any_of HT_.out (by kernel_rfl)) (fun _ _ _ h => h) (Or.inr ⟨by rfl, rfl⟩) ?_ ?_
               rotate_left
               ·simp only [Act.put, zs1, zs2, zs3, i64_w, i32_w]
                rfl
               refine pure_ (i := 14) (N := some 109) (v := undef) (a' := ?_) #[true, true, true, true, true, true, true, true, true, true, true, true, true, true, true, false, false, false] rfl rfl (any_of HT_.out (by kernel_rfl)) (fun _ _ _ h => h) (Or.inr ⟨by rfl, rfl⟩) ?_ ?_
               rotate_left
               ·simp only [Act.put, zs1, zs2, zs3, i64_w, i32_w]
                rfl
               refine pure_ (i := 15) (N := some 110) (v := undef) (a' := ?_) #[true, true, true, true, true, true, true, true, true, true, true, true, true, true, true, true, false, false] rfl rfl (any_of HT_.out (by kernel_rfl)) (fun _ _ _ h => h) (Or.inr ⟨by rfl, rfl⟩) ?_ ?_
               rotate_left
               ·simp only [Act.put, zs1, zs2, zs3, i64_w, i32_w]
                rfl
               refine pure_ (i := 16) (N := some 111) (v := ?_) (a' := ?_) #[true, true, true, true, true, true, true, true, true, true, true, true, true, true, true, true, true, false] rfl rfl (any_of HT_.out (by kernel_rfl)) (fun _ _ _ h => h) (Or.inl ⟨by rfl, ?_⟩) ?_ ?_
               rotate_left
               ·intro w'
                go_simp
                with_reducible rfl
               rotate_left
               ·simp only [Act.put, zs1, zs2, zs3, i64_w, i32_w]
                rfl
               refine pure_ (i := 17) (N := some 2) (v := ?_) (a' := ?_) #[true, true, true, true, true, true, true, true, true, true, true, true, true, true, true, true, true, true] rfl rfl (any_of HT_.out (by kernel_rfl)) (fun _ _ _ h => h) (Or.inl ⟨by rfl, ?_⟩) ?_ ?_
               rotate_left
               ·intro w'
                go_simp
                with_reducible rfl
               rotate_left
               ·simp only [Act.put, zs1, zs2, zs3, i64_w, i32_w]
                rfl
               refine done_ (done_of HT_.out (by kernel_rfl)) ?_
               try go_wp2
               go_ret
               exact ⟨by first | rfl | (simp [errW_none, errW_some] <;> rfl) | (simp only [← hji52]; first | rfl | (simp [errW_none, errW_some] <;> rfl)) | (simp [*, errW_none, errW_some] <;> rfl), zv7 HB.out⟩
             ·rw [if_neg c54] at H
              exact absurd H (by simp)
            ·rw [if_neg c53] at H
             exact absurd H (by simp)
           ·rw [if_neg c51] at H
            have c51b0 : ((wrap64 (a0_0 - (l0_5.length : Int))) == 0) = false := beq_eq_false_iff_ne.mpr c51
            have c51b1 : ((wrap64 (a0_0 - (l0_5.length : Int))) != 0) = true := bne_iff_ne.mpr c51
            replace H := zs4 H
            obtain ⟨⟨t204, t205⟩, A620, H⟩ := H
            replace H : ((spec_WideAdd.f x198000_3 x198001_3 t204 t205).bind fun bt206 => ((spec_WideOf.f a0_3).bind fun bt209 => ((spec_WideAdd.f x198000_3 x198001_3 bt209.1 bt209.2).bind fun bt211 => (if 3 < (l0_5.length : Int) then ((spec_l07Times.f k3 (wrap64 ((wrap64 (a0_0 - (l0_5.length : Int))) - 1)) (rd l0_5 3)).bind fun bt214 => ((spec_WideAdd.f bt211.1 bt211.2 bt214.1 bt214.2).bind fun bt216 => ((spec_WideCmp.f a0_1 a0_2 bt206.1 bt206.2).bind fun t219 => (if t219 ≥ 0 then ((spec_WideCmp.f a0_1 a0_2 bt216.1 bt216.2).bind fun t220 => (some (decide (t220 ≤ 0)))) else (some false))))) else (none))))) = some r := H
            have A62 := zp.mk A620
            clear A620
            replace H := zs4 H
            obtain ⟨⟨t206, t207⟩, A630, H⟩ := H
            replace H : ((spec_WideOf.f a0_3).bind fun bt209 => ((spec_WideAdd.f x198000_3 x198001_3 bt209.1 bt209.2).bind fun bt211 => (if 3 < (l0_5.length : Int) then ((spec_l07Times.f k3 (wrap64 ((wrap64 (a0_0 - (l0_5.length : Int))) - 1)) (rd l0_5 3)).bind fun bt214 => ((spec_WideAdd.f bt211.1 bt211.2 bt214.1 bt214.2).bind fun bt216 => ((spec_WideCmp.f a0_1 a0_2 t206 t207).bind fun t219 => (if t219 ≥ 0 then ((spec_WideCmp.f a0_1 a0_2 bt216.1 bt216.2).bind fun t220 => (some (decide (t220 ≤ 0)))) else (some false))))) else (none)))) = some r := H
            have A63 := zp.mk A630
            clear A630
            replace H := zs4 H
            obtain ⟨⟨t209, t210⟩, A640, H⟩ := H
            replace H : ((spec_WideAdd.f x198000_3 x198001_3 t209 t210).bind fun bt211 => (if 3 < (l0_5.length : Int) then ((spec_l07Times.f k3 (wrap64 ((wrap64 (a0_0 - (l0_5.length : Int))) - 1)) (rd l0_5 3)).bind fun bt214 => ((spec_WideAdd.f bt211.1 bt211.2 bt214.1 bt214.2).bind fun bt216 => ((spec_WideCmp.f a0_1 a0_2 t206 t207).bind fun t219 => (if t219 ≥ 0 then ((spec_WideCmp.f a0_1 a0_2 bt216.1 bt216.2).bind fun t220 => (some (decide (t220 ≤ 0)))) else (some false))))) else (none))) = some r := H
            have A64 := zp.mk A640
            clear A640
            replace H := zs4 H
            obtain ⟨⟨t211, t212⟩, A650, H⟩ := H
            replace H : (if 3 < (l0_5.length : Int) then ((spec_l07Times.f k3 (wrap64 ((wrap64 (a0_0 - (l0_5.length : Int))) - 1)) (rd l0_5 3)).bind fun bt214 => ((spec_WideAdd.f t211 t212 bt214.1 bt214.2).bind fun bt216 => ((spec_WideCmp.f a0_1 a0_2 t206 t207).bind fun t219 => (if t219 ≥ 0 then ((spec_WideCmp.f a0_1 a0_2 bt216.1 bt216.2).bind fun t220 => (some (decide (t220 ≤ 0)))) else (some false))))) else (none)) = some r := H
            have A65 := zp.mk A650
            clear A650
            by_cases c66 : 3 < (l0_5.length : Int)
            ·rw [if_pos c66] at H
             have c66b0 : decide (3 < (l0_5.length : Int)) = true := decide_eq_true c66
             have c66b1 : decide (3 < l0_5.length) = true := decide_eq_true (by omega)
             clear c66
             replace H := zs4 H
             obtain ⟨⟨t214, t215⟩, A670, H⟩ := H
             replace H : ((spec_WideAdd.f t211 t212 t214 t215).bind fun bt216 => ((spec_WideCmp.f a0_1 a0_2 t206 t207).bind fun t219 => (if t219 ≥ 0 then ((spec_WideCmp.f a0_1 a0_2 bt216.1 bt216.2).bind fun t220 => (some (decide (t220 ≤ 0)))) else (some false)))) = some r := H
             have A67 := zp.mk A670
             clear A670
             replace H := zs4 H
             obtain ⟨⟨t216, t217⟩, A680, H⟩ := H
             replace H : ((spec_WideCmp.f a0_1 a0_2 t206 t207).bind fun t219 => (if t219 ≥ 0 then ((spec_WideCmp.f a0_1 a0_2 t216 t217).bind fun t220 => (some (decide (t220 ≤ 0)))) else (some false))) = some r := H
             have A68 := zp.mk A680
             clear A680
             replace H := zs4 H
             obtain ⟨t219, A690, H⟩ := H
             replace H : (if t219 ≥ 0 then ((spec_WideCmp.f a0_1 a0_2 t216 t217).bind fun t220 => (some (decide (t220 ≤ 0)))) else (some false)) = some r := H
             have A69 := zp.mk A690
             clear A690
             by_cases c70 : t219 ≥ 0
             ·rw [if_pos c70] at H
              have c70b0 : decide (0 ≤ t219) = true := decide_eq_true c70
              clear c70
              replace H := zs4 H
              obtain ⟨t220, A710, H⟩ := H
              replace H : (some (decide (t220 ≤ 0))) = some r := H
              have A71 := zp.mk A710
              clear A710
              obtain rfl := Option.some.inj H
              have hnb72 := NB190_197.out
              have hnc72 := NB197_190.out
              have y73_0 := zt0 BK190.out
              have y73_1 := zt1 BK190.out
              have y73_2 := zt2 BK190.out
              have y73_3 := zt3 BK190.out
              have y73_4 := zt4 BK190.out
              have y73_5 := zt5 BK190.out
              have u73_0 := zd BK190.out 0
              have u73_1 := zd BK190.out 1
              have u73_2 := zd BK190.out 2
              have u73_3 := zd BK190.out 3
              have u73_4 := zd BK190.out 4
              have u73_5 := zd BK190.out 5
              try go_wp2
              replace BK190 := zp.mk (zi BK190.out)
              replace BK197 := zp.mk (zi BK197.out)
              replace HB := zp.mk (zb HB.out)
              refine start_ (n := 8) (S := fun w' => True) (ds := []) #[false, false, false, false, false, false, false, false] (by kernel_rfl) rfl rfl trivial (fun hHeld => ?_); refine with_tabW spec_AggOk.tab15 spec_AggOk.bits15 (fun HT_ HW_ => ?_)
              generalize wr.drew = w74 at BK190 BK197 HB hHeld ⊢
              refine pure_ (i := 1) (N := some 113) (v := ?_) (a' := ?_) #[false, true, false, false, false, false, false, false] rfl rfl (any_of HT_.out (by kernel_rfl)) (fun _ _ _ h => h) (Or.inl ⟨by rfl, ?_⟩) ?_ ?_
              rotate_left
              ·intro w'
               go_simp
               with_reducible rfl
              rotate_left
              ·simp only [Act.put, zs1, zs2, zs3, i64_w, i32_w]
               rfl
              refine pure_ (i := 2) (N := some 114) (v := ?_) (a' := ?_) #[false, true, true, false, false, false, false, false] rfl rfl (any_of HT_.out (by kernel_rfl)) (fun _ _ _ h => h) (Or.inl ⟨by rfl, ?_⟩) ?_ ?_
              rotate_left
              ·intro w'
               go_simp
               with_reducible rfl
              rotate_left
              ·simp only [Act.put, zs1, zs2, zs3, i64_w, i32_w]
               rfl
              refine inv_at [0, 3, 4, 5, 6, 7] (fun a0_ b a w' => ∃ (gb208 : Nat) (m6_ : Value), a = putSel a0_ b [(0, 112, .agg #[.int .i64 x198000_3, .int .u64 x198001_3]), (3, 115, .int .i64 a0_3), (4, 116, .agg #[.int .i64 t204, .int .u64 t205]), (5, 117, .agg #[.int .i64 t206, .int .u64 t207]), (6, 6, m6_)] ∧ (w'.heap[gb190]? = some (.cells #[.int .i64 a0_0, .int .i64 a0_1, .int .u64 a0_2, .int .i64 a0_3, .int .i64 a0_4, .slice A0_5 l0_5.length c0_5] 32 (0, 0))) ∧ (w'.heap[gb197]? = some (.cells #[.int .i64 x198000_3, .int .u64 x198001_3] 30 (0, 0))) ∧ (Below w.heap.size w w') ∧ (b 6 = true → b 7 = false → w'.heap[gb208]? = some (.cells #[.int .i64 0, .int .u64 0] 30 (0, 0))) ∧ (b 6 = true → w.heap.size ≤ gb208) ∧ (b 6 = true → w.heap.size ≤ gb208) ∧ (b 6 = true → gb190 ≠ gb208) ∧ (b 6 = true → gb208 ≠ gb190) ∧ (b 6 = true → gb197 ≠ gb208) ∧ (b 6 = true → gb208 ≠ gb197) ∧ (b 7 = true → w'.heap[gb208]? = some (.cells #[.int .i64 t206, .int .u64 t207] 30 (0, 0))) ∧ (b 6 = true → (m6_ : Value) = .pointer (some ⟨gb208, 0, none⟩))) HT_.out HW_.out (by kernel_rfl) (by kernel_rfl) ?_ ?_ ?_
              ·exact ⟨0, .bool false, by simp only [putSel, Bool.false_eq_true, if_false], BK190.out, BK197.out, HB.out, fun h_ => absurd h_ (by decide), fun h_ => absurd h_ (by decide), fun h_ => absurd h_ (by decide), fun h_ => absurd h_ (by decide), fun h_ => absurd h_ (by decide), fun h_ => absurd h_ (by decide), fun h_ => absurd h_ (by decide), fun h_ => absurd h_ (by decide), fun h_ => absurd h_ (by decide)⟩
              ·skip
               clear BK190 BK197 HB
               refine steps_cons ?_ ?_
               ·rintro b a w' ⟨gb208, m6_, ha, Q_BK190, Q_BK197, Q_HB, Q_BK208, Q_GW208, Q_GE208, Q_NB190_208, Q_NB208_190, Q_NB197_208, Q_NB208_197, Q_BK208_e7, Q_X6_⟩ hb_ hon hoff
                refine ⟨_, rfl, fun K hK => ?_⟩
                have e3 : a.tmps[3]? = some (.pointer (some ⟨gb197, 0, none⟩)) := by rw [ha]; exact (putSel_off rfl).trans rfl
                replace ha := zp.mk ha
                have BK190 := zp.mk Q_BK190
                have BK197 := zp.mk Q_BK197
                have HB := zp.mk Q_HB
                have hc0_ : w'.cell? ⟨gb197, 0, none⟩ = some (.int .i64 x198000_3) := (ze BK197.out 0).trans rfl
                have hc1_ : w'.cell? ⟨gb197, 1, none⟩ = some (.int .u64 x198001_3) := (ze BK197.out 1).trans rfl
                refine value_ (w1 := w') (v := .agg #[.int .i64 x198000_3, .int .u64 x198001_3]) (by rfl) rfl ?_ ?_
                ·go_simp
                 (try simp only [i64_w])
                 try rfl
                refine hK.out _ _ ⟨gb208, m6_, (by rw [ha.out]; exact putSel_upk 0 hb_ rfl rfl rfl), Q_BK190, Q_BK197, Q_HB, Q_BK208, Q_GW208, Q_GE208, Q_NB190_208, Q_NB208_190, Q_NB197_208, Q_NB208_197, fun h0_ => absurd ((hoff 7 (by kernel_rfl)).symm.trans h0_) (by decide), Q_X6_⟩
               refine steps_cons ?_ ?_
               ·rintro b a w' ⟨gb208, m6_, ha, Q_BK190, Q_BK197, Q_HB, Q_BK208, Q_GW208, Q_GE208, Q_NB190_208, Q_NB208_190, Q_NB197_208, Q_NB208_197, Q_BK208_e7, Q_X6_⟩ hb_ hon hoff
                refine ⟨_, rfl, fun K hK => ?_⟩
                have e114 : a.tmps[114]? = some (.pointer (some ⟨gb190, 3, none⟩)) := by rw [ha]; exact (putSel_off rfl).trans rfl
                replace ha := zp.mk ha
                have BK190 := zp.mk Q_BK190
                have BK197 := zp.mk Q_BK197
                have HB := zp.mk Q_HB
                have hc0_ : w'.cell? ⟨gb190, 0, none⟩ = some (.int .i64 a0_0) := (ze BK190.out 0).trans rfl
                have hc1_ : w'.cell? ⟨gb190, 1, none⟩ = some (.int .i64 a0_1) := (ze BK190.out 1).trans rfl
                have hc2_ : w'.cell? ⟨gb190, 2, none⟩ = some (.int .u64 a0_2) := (ze BK190.out 2).trans rfl
                have hc3_ : w'.cell? ⟨gb190, 3, none⟩ = some (.int .i64 a0_3) := (ze BK190.out 3).trans rfl
                have hc4_ : w'.cell? ⟨gb190, 4, none⟩ = some (.int .i64 a0_4) := (ze BK190.out 4).trans rfl
                have hc5_ : w'.cell? ⟨gb190, 5, none⟩ = some (.slice A0_5 l0_5.length c0_5) := (ze BK190.out 5).trans rfl
                refine value_ (w1 := w') (v := .int .i64 a0_3) (by rfl) rfl ?_ ?_
                ·go_simp
                 (try simp only [i64_w])
                 try rfl
                refine hK.out _ _ ⟨gb208, m6_, (by rw [ha.out]; exact putSel_upk 1 hb_ rfl rfl rfl), Q_BK190, Q_BK197, Q_HB, Q_BK208, Q_GW208, Q_GE208, Q_NB190_208, Q_NB208_190, Q_NB197_208, Q_NB208_197, fun h0_ => absurd ((hoff 7 (by kernel_rfl)).symm.trans h0_) (by decide), Q_X6_⟩
               refine steps_cons ?_ ?_
               ·rintro b a w' ⟨gb208, m6_, ha, Q_BK190, Q_BK197, Q_HB, Q_BK208, Q_GW208, Q_GE208, Q_NB190_208, Q_NB208_190, Q_NB197_208, Q_NB208_197, Q_BK208_e7, Q_X6_⟩ hb_ hon hoff
                refine ⟨_, rfl, fun K hK => ?_⟩
                have e113 : a.tmps[113]? = some (.int .i64 (wrap64 (a0_0 - (l0_5.length : Int)))) := by rw [ha]; exact (putSel_off rfl).trans rfl
                have e115 : a.tmps[115]? = some (.int .i64 a0_3) := by rw [ha]; exact putSel_on (e := (3, 115, .int .i64 a0_3)) 1 rfl rfl (hon 3 (by kernel_rfl)) rfl
                replace ha := zp.mk ha
                have BK190 := zp.mk Q_BK190
                have BK197 := zp.mk Q_BK197
                have HB := zp.mk Q_HB
                refine goes_ Try.func31 (by kernel_rfl) rfl #[.int .i64 (wrap64 (a0_0 - (l0_5.length : Int))), .int .i64 a0_3] (by rfl) rfl rfl (by first | (simp only [List.map_toArray, List.map_cons, List.map_nil, Act.eval, Array.getD_eq_getD_getElem?, Option.getD_some, e113, e115]; done) | (simp only [List.map_toArray, List.map_cons, List.map_nil, Act.eval, Array.getD_eq_getD_getElem?, Option.getD_some, e113, e115]; rfl)) ?_
                with_reducible refine (spec_l07Times.calls k3 (wrap64 (a0_0 - (l0_5.length : Int))) a0_3 t204 t205 _ A62.out).mono ?_
                rintro e w75 ⟨rfl, hb⟩
                refine ⟨_, rfl, ?_⟩
                replace BK190 := zp.mk (zl (zv8 BK190.out) hb)
                replace BK197 := zp.mk (zl (zv8 BK197.out) hb)
                replace HB := zp.mk (zj (zv7 HB.out) hb); have z_BK208 := fun (h0_ : b 6 = true) (h1_ : b 7 = false) => (show w75.heap[gb208]? = some (.cells #[.int .i64 0, .int .u64 0] 30 (0, 0)) from by first | exact (zl (g := gb208) (o := .cells #[.int .i64 0, .int .u64 0] 30 (0, 0)) (by (with_reducible repeat (first | refine zf ?_ _ | refine zi ?_ | refine zg ?_ _)); exact (Q_BK208 h0_ h1_)) hb))
                (try clear hb)
                (try clear hb2)
                (try clear hk)
                (try clear hi)
                refine hK.out _ _ ⟨gb208, m6_, (by rw [ha.out]; exact putSel_upk 2 hb_ rfl rfl rfl), (zv8 BK190.out), (zv8 BK197.out), (zv7 HB.out), z_BK208, Q_GW208, Q_GE208, Q_NB190_208, Q_NB208_190, Q_NB197_208, Q_NB208_197, fun h0_ => absurd ((hoff 7 (by kernel_rfl)).symm.trans h0_) (by decide), Q_X6_⟩
               refine steps_cons ?_ ?_
               ·rintro b a w' ⟨gb208, m6_, ha, Q_BK190, Q_BK197, Q_HB, Q_BK208, Q_GW208, Q_GE208, Q_NB190_208, Q_NB208_190, Q_NB197_208, Q_NB208_197, Q_BK208_e7, Q_X6_⟩ hb_ hon hoff
                refine ⟨_, rfl, fun K hK => ?_⟩
                have e112 : a.tmps[112]? = some (.agg #[.int .i64 x198000_3, .int .u64 x198001_3]) := by rw [ha]; exact putSel_on (e := (0, 112, .agg #[.int .i64 x198000_3, .int .u64 x198001_3])) 0 rfl rfl (hon 0 (by kernel_rfl)) rfl
                have e116 : a.tmps[116]? = some (.agg #[.int .i64 t204, .int .u64 t205]) := by rw [ha]; exact putSel_on (e := (4, 116, .agg #[.int .i64 t204, .int .u64 t205])) 2 rfl rfl (hon 4 (by kernel_rfl)) rfl
                replace ha := zp.mk ha
                have BK190 := zp.mk Q_BK190
                have BK197 := zp.mk Q_BK197
                have HB := zp.mk Q_HB
                refine goes_ Try.func29 (by kernel_rfl) rfl #[.agg #[.int .i64 x198000_3, .int .u64 x198001_3], .agg #[.int .i64 t204, .int .u64 t205]] (by rfl) rfl rfl (by first | (simp only [List.map_toArray, List.map_cons, List.map_nil, Act.eval, Array.getD_eq_getD_getElem?, Option.getD_some, e112, e116]; done) | (simp only [List.map_toArray, List.map_cons, List.map_nil, Act.eval, Array.getD_eq_getD_getElem?, Option.getD_some, e112, e116]; rfl)) ?_
                with_reducible refine (spec_WideAdd.calls x198000_3 x198001_3 t204 t205 t206 t207 _ A63.out).mono ?_
                rintro e w77 ⟨rfl, hb⟩
                refine ⟨_, rfl, ?_⟩
                replace BK190 := zp.mk (zl (zv8 BK190.out) hb)
                replace BK197 := zp.mk (zl (zv8 BK197.out) hb)
                replace HB := zp.mk (zj (zv7 HB.out) hb); have z_BK208 := fun (h0_ : b 6 = true) (h1_ : b 7 = false) => (show w77.heap[gb208]? = some (.cells #[.int .i64 0, .int .u64 0] 30 (0, 0)) from by first | exact (zl (g := gb208) (o := .cells #[.int .i64 0, .int .u64 0] 30 (0, 0)) (by (with_reducible repeat (first | refine zf ?_ _ | refine zi ?_ | refine zg ?_ _)); exact (Q_BK208 h0_ h1_)) hb))
                (try clear hb)
                (try clear hb2)
                (try clear hk)
                (try clear hi)
                refine hK.out _ _ ⟨gb208, m6_, (by rw [ha.out]; exact putSel_upk 3 hb_ rfl rfl rfl), (zv8 BK190.out), (zv8 BK197.out), (zv7 HB.out), z_BK208, Q_GW208, Q_GE208, Q_NB190_208, Q_NB208_190, Q_NB197_208, Q_NB208_197, fun h0_ => absurd ((hoff 7 (by kernel_rfl)).symm.trans h0_) (by decide), Q_X6_⟩
               refine steps_cons ?_ ?_
               ·rintro b a w' ⟨gb208, m6_, ha, Q_BK190, Q_BK197, Q_HB, Q_BK208, Q_GW208, Q_GE208, Q_NB190_208, Q_NB208_190, Q_NB197_208, Q_NB208_197, Q_BK208_e7, Q_X6_⟩ hb_ hon hoff
                refine ⟨_, rfl, fun K hK => ?_⟩
                replace ha := zp.mk ha
                have BK190 := zp.mk Q_BK190
                have BK197 := zp.mk Q_BK197
                have HB := zp.mk Q_HB
                refine box_step ?hg (N := 6) ?hd (cs := #[.int .i64 0, .int .u64 0]) (t := 30) ?hr ?_; (case hd => rfl); (case hg => rfl); (case hr => first | (go_simp; done) | (go_simp; rfl))
                intro gb208 hg w75 hbox hb
                have BK208 := zp.mk (hbox)
                have GW208 := zp.mk ((zv3 (zv7 HB.out) hg))
                have GE208 := zp.mk ((zv3 (zv7 HB.out) hg))
                have NB190_208 := zp.mk ((by rw [hg]; exact Nat.ne_of_lt (blk_lt (g := gb190) (o := .cells #[.int .i64 a0_0, .int .i64 a0_1, .int .u64 a0_2, .int .i64 a0_3, .int .i64 a0_4, .slice A0_5 l0_5.length c0_5] 32 (0, 0)) (zv8 BK190.out)) : gb190 ≠ gb208))
                have NB208_190 := zp.mk ((by rw [hg]; exact Nat.ne_of_gt (blk_lt (g := gb190) (o := .cells #[.int .i64 a0_0, .int .i64 a0_1, .int .u64 a0_2, .int .i64 a0_3, .int .i64 a0_4, .slice A0_5 l0_5.length c0_5] 32 (0, 0)) (zv8 BK190.out)) : gb208 ≠ gb190))
                have NB197_208 := zp.mk ((by rw [hg]; exact Nat.ne_of_lt (blk_lt (g := gb197) (o := .cells #[.int .i64 x198000_3, .int .u64 x198001_3] 30 (0, 0)) (zv8 BK197.out)) : gb197 ≠ gb208))
                have NB208_197 := zp.mk ((by rw [hg]; exact Nat.ne_of_gt (blk_lt (g := gb197) (o := .cells #[.int .i64 x198000_3, .int .u64 x198001_3] 30 (0, 0)) (zv8 BK197.out)) : gb208 ≠ gb197))
                replace BK190 := zp.mk (zl (zv8 BK190.out) hb)
                replace BK197 := zp.mk (zl (zv8 BK197.out) hb)
                replace HB := zp.mk (zj (zv7 HB.out) hb)
                clear hb hbox hg
                refine hK.out _ _ ⟨gb208, (.pointer (some ⟨gb208, 0, none⟩)), (by rw [ha.out]; exact putSel_upk 4 hb_ rfl rfl rfl), (zv8 BK190.out), (zv8 BK197.out), (zv7 HB.out), fun _ _ => (zv8 BK208.out), fun _ => GW208.out, fun _ => GE208.out, fun _ => NB190_208.out, fun _ => NB208_190.out, fun _ => NB197_208.out, fun _ => NB208_197.out, fun h0_ => absurd ((hoff 7 (by kernel_rfl)).symm.trans h0_) (by decide), fun _ => rfl⟩
               refine steps_cons ?_ ?_
               ·rintro b a w' ⟨gb208, m6_, ha, Q_BK190, Q_BK197, Q_HB, Q_BK208, Q_GW208, Q_GE208, Q_NB190_208, Q_NB208_190, Q_NB197_208, Q_NB208_197, Q_BK208_e7, Q_X6_⟩ hb_ hon hoff
                refine ⟨_, rfl, fun K hK => ?_⟩
                have e6 : a.tmps[6]? = some (m6_) := by rw [ha]; exact putSel_on (e := (6, 6, m6_)) 4 rfl rfl (hon 6 (by kernel_rfl)) rfl
                rw [Q_X6_ (hon 6 (by kernel_rfl))] at e6
                have e117 : a.tmps[117]? = some (.agg #[.int .i64 t206, .int .u64 t207]) := by rw [ha]; exact putSel_on (e := (5, 117, .agg #[.int .i64 t206, .int .u64 t207])) 3 rfl rfl (hon 5 (by kernel_rfl)) rfl
                replace ha := zp.mk ha
                have BK190 := zp.mk Q_BK190
                have BK197 := zp.mk Q_BK197
                have HB := zp.mk Q_HB
                have BK208 := zp.mk (Q_BK208 (hon 6 (by kernel_rfl)) hb_)
                have GW208 := zp.mk (Q_GW208 (hon 6 (by kernel_rfl)))
                have GE208 := zp.mk (Q_GE208 (hon 6 (by kernel_rfl)))
                have NB190_208 := zp.mk (Q_NB190_208 (hon 6 (by kernel_rfl)))
                have NB208_190 := zp.mk (Q_NB208_190 (hon 6 (by kernel_rfl)))
                have NB197_208 := zp.mk (Q_NB197_208 (hon 6 (by kernel_rfl)))
                have NB208_197 := zp.mk (Q_NB208_197 (hon 6 (by kernel_rfl)))
                have hs79 : w'.cell? ⟨gb208, 0, none⟩ = some (.int .i64 0) := (ze BK208.out 0).trans rfl
                have hfs79 := zd BK208.out 0
                have hns79_0 := NB190_208.out
                have hns79_1 := NB197_208.out
                have hms79_0 := NB208_190.out
                have hms79_1 := NB208_197.out
                have hs80 : w'.cell? ⟨gb208, 1, none⟩ = some (.int .u64 0) := (ze BK208.out 1).trans rfl
                have hfs80 := zd BK208.out 1
                have hns80_0 := NB190_208.out
                have hns80_1 := NB197_208.out
                have hms80_0 := NB208_190.out
                have hms80_1 := NB208_197.out
                refine skip_ (w1 := ?_) (by rfl) rfl ?_ ?_
                rotate_left
                ·go_simp
                 rfl
                refine hK.out _ _ ⟨gb208, m6_, (by rw [ha.out]; exact putSel_none (v := undef) rfl), (by (with_reducible repeat (first | refine zf ?_ _ | refine zi ?_ | refine zg ?_ _)); refine blk_far ?_ NB190_208.out _; (with_reducible repeat (first | refine zf ?_ _ | refine zi ?_ | refine zg ?_ _)); refine blk_far ?_ NB190_208.out _; (with_reducible repeat (first | refine zf ?_ _ | refine zi ?_ | refine zg ?_ _)); exact BK190.out), (by (with_reducible repeat (first | refine zf ?_ _ | refine zi ?_ | refine zg ?_ _)); refine blk_far ?_ NB197_208.out _; (with_reducible repeat (first | refine zf ?_ _ | refine zi ?_ | refine zg ?_ _)); refine blk_far ?_ NB197_208.out _; (with_reducible repeat (first | refine zf ?_ _ | refine zi ?_ | refine zg ?_ _)); exact BK197.out), (zv7 HB.out), fun _ h1_ => absurd ((up_self b 7).symm.trans h1_) (by decide), fun _ => GW208.out, fun _ => GE208.out, fun _ => NB190_208.out, fun _ => NB208_190.out, fun _ => NB197_208.out, fun _ => NB208_197.out, fun _ => (by (with_reducible repeat (first | refine zf ?_ _ | refine zi ?_ | refine zg ?_ _)); refine blk_put (cs := #[.int .i64 t206, .int .u64 0]) ?_ 1 _ rfl; (with_reducible repeat (first | refine zf ?_ _ | refine zi ?_ | refine zg ?_ _)); refine blk_put (cs := #[.int .i64 0, .int .u64 0]) ?_ 0 _ rfl; (with_reducible repeat (first | refine zf ?_ _ | refine zi ?_ | refine zg ?_ _)); exact BK208.out), Q_X6_⟩
               exact steps_nil
              rintro b a w80 hall ⟨gb208, m6_, ha, Q_BK190, Q_BK197, Q_HB, Q_BK208, Q_GW208, Q_GE208, Q_NB190_208, Q_NB208_190, Q_NB197_208, Q_NB208_197, Q_BK208_e7, Q_X6_⟩
              clear BK190 BK197 HB
              have hb0_ := hall 0 (by kernel_rfl)
              have hb3_ := hall 3 (by kernel_rfl)
              have hb4_ := hall 4 (by kernel_rfl)
              have hb5_ := hall 5 (by kernel_rfl)
              have hb6_ := hall 6 (by kernel_rfl)
              have hb7_ := hall 7 (by kernel_rfl)
              subst ha
              obtain rfl := Q_X6_ hb6_
              simp only [putSel, hb0_, hb3_, hb4_, hb5_, hb6_, hb7_, if_true, Act.put, zs1, zs2, zs3]
              have BK190 := zp.mk Q_BK190
              clear Q_BK190
              have BK197 := zp.mk Q_BK197
              clear Q_BK197
              have HB := zp.mk Q_HB
              clear Q_HB
              clear Q_BK208
              have GW208 := zp.mk (Q_GW208 hb6_)
              clear Q_GW208
              have GE208 := zp.mk (Q_GE208 hb6_)
              clear Q_GE208
              have NB190_208 := zp.mk (Q_NB190_208 hb6_)
              clear Q_NB190_208
              have NB208_190 := zp.mk (Q_NB208_190 hb6_)
              clear Q_NB208_190
              have NB197_208 := zp.mk (Q_NB197_208 hb6_)
              clear Q_NB197_208
              have NB208_197 := zp.mk (Q_NB208_197 hb6_)
              clear Q_NB208_197
              have BK208 := zp.mk (Q_BK208_e7 hb7_)
              clear Q_BK208_e7
              clear hall hb0_ hb3_ hb4_ hb5_ hb6_ hb7_
              try go_wp2
              replace BK190 := zp.mk (zi BK190.out)
              replace BK197 := zp.mk (zi BK197.out)
              replace BK208 := zp.mk (zi BK208.out)
              replace HB := zp.mk (zb HB.out)
              have p213 : 0 ≤ (3 : Int) := (by omega)
              have q213 : 3 < (l0_5.length : Int) := of_decide_eq_true (by first | (with_reducible assumption) | assumption)
              obtain ⟨ad213, e213, hx213_0⟩ := Kd.at_int HR0_5.out 3 p213 q213
              have hw213_0 := hx213_0
              (try rw [show ((3 : Int)).toNat = 3 from rfl] at hw213_0)
              (try rw [show 3 * 1 = 3 from rfl] at hw213_0)
              (try simp only [Nat.reduceMul, Nat.reduceEqDiff, Go.Addr.add, ↓reduceIte] at hw213_0)
              cases e213
              (try simp only [show (3 : Int).toNat = 3 from rfl, Nat.reduceMul, Nat.reduceEqDiff, Go.Addr.add, ↓reduceIte] at hx213_0)
              have qi213 : (3 < l0_5.length) = True := eq_true (by omega)
              (try rw [show ((3 : Int)).toNat = 3 from rfl] at hx213_0)
              replace hx213_0 := (HB.out.cell (World.block_lt_of_cell? w _ hx213_0)).trans hx213_0
              replace p213 := eq_true p213
              replace q213 := eq_true q213
              refine start_ (n := 15) (S := fun w' => True) (ds := []) #[false, false, false, false, false, false, false, false, false, false, false, false, false, false, false] (by kernel_rfl) rfl rfl trivial (fun hHeld => ?_); refine with_tabW spec_AggOk.tab16 spec_AggOk.bits16 (fun HT_ HW_ => ?_)
              generalize w80.drew = w81 at BK190 BK197 BK208 HB hx213_0 hHeld ⊢
              refine pure_ (i := 1) (N := some 119) (v := ?_) (a' := ?_) #[false, true, false, false, false, false, false, false, false, false, false, false, false, false, false] rfl rfl (any_of HT_.out (by kernel_rfl)) (fun _ _ _ h => h) (Or.inl ⟨by rfl, ?_⟩) ?_ ?_
              rotate_left
              ·intro w'
               go_simp
               with_reducible rfl
              rotate_left
              ·simp only [Act.put, zs1, zs2, zs3, i64_w, i32_w]
               rfl
              refine pure_ (i := 5) (N := some 123) (v := ?_) (a' := ?_) #[false, true, false, false, false, true, false, false, false, false, false, false, false, false, false] rfl rfl (any_of HT_.out (by kernel_rfl)) (fun _ _ _ h => h) (Or.inl ⟨by rfl, ?_⟩) ?_ ?_
              rotate_left
              ·intro w'
               go_simp
               with_reducible rfl
              rotate_left
              ·simp only [Act.put, zs1, zs2, zs3, i64_w, i32_w]
               rfl
              refine pure_ (i := 7) (N := some 125) (v := ?_) (a' := ?_) #[false, true, false, false, false, true, false, true, false, false, false, false, false, false, false] rfl rfl (any_of HT_.out (by kernel_rfl)) (fun _ _ _ h => h) (Or.inl ⟨by rfl, ?_⟩) ?_ ?_
              rotate_left
              ·intro w'
               go_simp
               with_reducible rfl
              rotate_left
              ·simp only [Act.put, zs1, zs2, zs3, i64_w, i32_w]
               rfl
              refine inv_at [0, 2, 3, 4, 6, 8, 9, 10, 11, 12, 13, 14] (fun a0_ b a w' => ∃ (gb218 : Nat) (m13_ : Value), a = putSel a0_ b [(0, 118, .agg #[.int .i64 x198000_3, .int .u64 x198001_3]), (2, 120, .int .i64 a0_3), (3, 121, .agg #[.int .i64 t209, .int .u64 t210]), (4, 122, .agg #[.int .i64 t211, .int .u64 t212]), (6, 124, .int .i64 (wrap64 ((wrap64 (a0_0 - (l0_5.length : Int))) - 1))), (8, 126, .slice (some ad213) l0_5.length c0_5), (9, 127, .pointer (some (ad213.add 3))), (10, 128, .int .i64 (rd l0_5 3)), (11, 129, .agg #[.int .i64 t214, .int .u64 t215]), (12, 130, .agg #[.int .i64 t216, .int .u64 t217]), (13, 7, m13_)] ∧ (w'.heap[gb190]? = some (.cells #[.int .i64 a0_0, .int .i64 a0_1, .int .u64 a0_2, .int .i64 a0_3, .int .i64 a0_4, .slice (some ad213) l0_5.length c0_5] 32 (0, 0))) ∧ (w'.heap[gb197]? = some (.cells #[.int .i64 x198000_3, .int .u64 x198001_3] 30 (0, 0))) ∧ (w'.heap[gb208]? = some (.cells #[.int .i64 t206, .int .u64 t207] 30 (0, 0))) ∧ (Below w.heap.size w w') ∧ (b 13 = true → b 14 = false → w'.heap[gb218]? = some (.cells #[.int .i64 0, .int .u64 0] 30 (0, 0))) ∧ (b 13 = true → w.heap.size ≤ gb218) ∧ (b 13 = true → w.heap.size ≤ gb218) ∧ (b 13 = true → gb190 ≠ gb218) ∧ (b 13 = true → gb218 ≠ gb190) ∧ (b 13 = true → gb197 ≠ gb218) ∧ (b 13 = true → gb218 ≠ gb197) ∧ (b 13 = true → gb208 ≠ gb218) ∧ (b 13 = true → gb218 ≠ gb208) ∧ (b 14 = true → w'.heap[gb218]? = some (.cells #[.int .i64 t216, .int .u64 t217] 30 (0, 0))) ∧ (b 13 = true → (m13_ : Value) = .pointer (some ⟨gb218, 0, none⟩))) HT_.out HW_.out (by kernel_rfl) (by kernel_rfl) ?_ ?_ ?_
              ·exact ⟨0, .bool false, by simp only [putSel, Bool.false_eq_true, if_false], BK190.out, BK197.out, BK208.out, HB.out, fun h_ => absurd h_ (by decide), fun h_ => absurd h_ (by decide), fun h_ => absurd h_ (by decide), fun h_ => absurd h_ (by decide), fun h_ => absurd h_ (by decide), fun h_ => absurd h_ (by decide), fun h_ => absurd h_ (by decide), fun h_ => absurd h_ (by decide), fun h_ => absurd h_ (by decide), fun h_ => absurd h_ (by decide), fun h_ => absurd h_ (by decide)⟩
              ·skip
               clear BK190 BK197 BK208 HB
               refine steps_cons ?_ ?_
               ·rintro b a w' ⟨gb218, m13_, ha, Q_BK190, Q_BK197, Q_BK208, Q_HB, Q_BK218, Q_GW218, Q_GE218, Q_NB190_218, Q_NB218_190, Q_NB197_218, Q_NB218_197, Q_NB208_218, Q_NB218_208, Q_BK218_e14, Q_X13_⟩ hb_ hon hoff
                refine ⟨_, rfl, fun K hK => ?_⟩
                have e3 : a.tmps[3]? = some (.pointer (some ⟨gb197, 0, none⟩)) := by rw [ha]; exact (putSel_off rfl).trans rfl
                replace ha := zp.mk ha
                have BK190 := zp.mk Q_BK190
                have BK197 := zp.mk Q_BK197
                have BK208 := zp.mk Q_BK208
                have HB := zp.mk Q_HB
                have hc0_ : w'.cell? ⟨gb197, 0, none⟩ = some (.int .i64 x198000_3) := (ze BK197.out 0).trans rfl
                have hc1_ : w'.cell? ⟨gb197, 1, none⟩ = some (.int .u64 x198001_3) := (ze BK197.out 1).trans rfl
                refine value_ (w1 := w') (v := .agg #[.int .i64 x198000_3, .int .u64 x198001_3]) (by rfl) rfl ?_ ?_
                ·go_simp
                 (try simp only [i64_w])
                 try rfl
                refine hK.out _ _ ⟨gb218, m13_, (by rw [ha.out]; exact putSel_upk 0 hb_ rfl rfl rfl), Q_BK190, Q_BK197, Q_BK208, Q_HB, Q_BK218, Q_GW218, Q_GE218, Q_NB190_218, Q_NB218_190, Q_NB197_218, Q_NB218_197, Q_NB208_218, Q_NB218_208, fun h0_ => absurd ((hoff 14 (by kernel_rfl)).symm.trans h0_) (by decide), Q_X13_⟩
               refine steps_cons ?_ ?_
               ·rintro b a w' ⟨gb218, m13_, ha, Q_BK190, Q_BK197, Q_BK208, Q_HB, Q_BK218, Q_GW218, Q_GE218, Q_NB190_218, Q_NB218_190, Q_NB197_218, Q_NB218_197, Q_NB208_218, Q_NB218_208, Q_BK218_e14, Q_X13_⟩ hb_ hon hoff
                refine ⟨_, rfl, fun K hK => ?_⟩
                have e119 : a.tmps[119]? = some (.pointer (some ⟨gb190, 3, none⟩)) := by rw [ha]; exact (putSel_off rfl).trans rfl
                replace ha := zp.mk ha
                have BK190 := zp.mk Q_BK190
                have BK197 := zp.mk Q_BK197
                have BK208 := zp.mk Q_BK208
                have HB := zp.mk Q_HB
                have hc0_ : w'.cell? ⟨gb190, 0, none⟩ = some (.int .i64 a0_0) := (ze BK190.out 0).trans rfl
                have hc1_ : w'.cell? ⟨gb190, 1, none⟩ = some (.int .i64 a0_1) := (ze BK190.out 1).trans rfl
                have hc2_ : w'.cell? ⟨gb190, 2, none⟩ = some (.int .u64 a0_2) := (ze BK190.out 2).trans rfl
                have hc3_ : w'.cell? ⟨gb190, 3, none⟩ = some (.int .i64 a0_3) := (ze BK190.out 3).trans rfl
                have hc4_ : w'.cell? ⟨gb190, 4, none⟩ = some (.int .i64 a0_4) := (ze BK190.out 4).trans rfl
                have hc5_ : w'.cell? ⟨gb190, 5, none⟩ = some (.slice (some ad213) l0_5.length c0_5) := (ze BK190.out 5).trans rfl
                refine value_ (w1 := w') (v := .int .i64 a0_3) (by rfl) rfl ?_ ?_
                ·go_simp
                 (try simp only [i64_w])
                 try rfl
                refine hK.out _ _ ⟨gb218, m13_, (by rw [ha.out]; exact putSel_upk 1 hb_ rfl rfl rfl), Q_BK190, Q_BK197, Q_BK208, Q_HB, Q_BK218, Q_GW218, Q_GE218, Q_NB190_218, Q_NB218_190, Q_NB197_218, Q_NB218_197, Q_NB208_218, Q_NB218_208, fun h0_ => absurd ((hoff 14 (by kernel_rfl)).symm.trans h0_) (by decide), Q_X13_⟩
               refine steps_cons ?_ ?_
               ·rintro b a w' ⟨gb218, m13_, ha, Q_BK190, Q_BK197, Q_BK208, Q_HB, Q_BK218, Q_GW218, Q_GE218, Q_NB190_218, Q_NB218_190, Q_NB197_218, Q_NB218_197, Q_NB208_218, Q_NB218_208, Q_BK218_e14, Q_X13_⟩ hb_ hon hoff
                refine ⟨_, rfl, fun K hK => ?_⟩
                have e120 : a.tmps[120]? = some (.int .i64 a0_3) := by rw [ha]; exact putSel_on (e := (2, 120, .int .i64 a0_3)) 1 rfl rfl (hon 2 (by kernel_rfl)) rfl
                replace ha := zp.mk ha
                have BK190 := zp.mk Q_BK190
                have BK197 := zp.mk Q_BK197
                have BK208 := zp.mk Q_BK208
                have HB := zp.mk Q_HB
                refine goes_ Try.func30 (by kernel_rfl) rfl #[.int .i64 a0_3] (by rfl) rfl rfl (by first | (simp only [List.map_toArray, List.map_cons, List.map_nil, Act.eval, Array.getD_eq_getD_getElem?, Option.getD_some, e120]; done) | (simp only [List.map_toArray, List.map_cons, List.map_nil, Act.eval, Array.getD_eq_getD_getElem?, Option.getD_some, e120]; rfl)) ?_
                with_reducible refine (spec_WideOf.calls a0_3 t209 t210 _ A64.out).mono ?_
                rintro e w82 ⟨rfl, hb⟩
                refine ⟨_, rfl, ?_⟩
                replace BK190 := zp.mk (zl (zv8 BK190.out) hb)
                replace BK197 := zp.mk (zl (zv8 BK197.out) hb)
                replace BK208 := zp.mk (zl (zv8 BK208.out) hb)
                replace HB := zp.mk (zj (zv7 HB.out) hb); have z_BK218 := fun (h0_ : b 13 = true) (h1_ : b 14 = false) => (show w82.heap[gb218]? = some (.cells #[.int .i64 0, .int .u64 0] 30 (0, 0)) from by first | exact (zl (g := gb218) (o := .cells #[.int .i64 0, .int .u64 0] 30 (0, 0)) (by (with_reducible repeat (first | refine zf ?_ _ | refine zi ?_ | refine zg ?_ _)); exact (Q_BK218 h0_ h1_)) hb))
                (try clear hb)
                (try clear hb2)
                (try clear hk)
                (try clear hi)
                refine hK.out _ _ ⟨gb218, m13_, (by rw [ha.out]; exact putSel_upk 2 hb_ rfl rfl rfl), (zv8 BK190.out), (zv8 BK197.out), (zv8 BK208.out), (zv7 HB.out), z_BK218, Q_GW218, Q_GE218, Q_NB190_218, Q_NB218_190, Q_NB197_218, Q_NB218_197, Q_NB208_218, Q_NB218_208, fun h0_ => absurd ((hoff 14 (by kernel_rfl)).symm.trans h0_) (by decide), Q_X13_⟩
               refine steps_cons ?_ ?_
               ·rintro b a w' ⟨gb218, m13_, ha, Q_BK190, Q_BK197, Q_BK208, Q_HB, Q_BK218, Q_GW218, Q_GE218, Q_NB190_218, Q_NB218_190, Q_NB197_218, Q_NB218_197, Q_NB208_218, Q_NB218_208, Q_BK218_e14, Q_X13_⟩ hb_ hon hoff
                refine ⟨_, rfl, fun K hK => ?_⟩
                have e118 : a.tmps[118]? = some (.agg #[.int .i64 x198000_3, .int .u64 x198001_3]) := by rw [ha]; exact putSel_on (e := (0, 118, .agg #[.int .i64 x198000_3, .int .u64 x198001_3])) 0 rfl rfl (hon 0 (by kernel_rfl)) rfl
                have e121 : a.tmps[121]? = some (.agg #[.int .i64 t209, .int .u64 t210]) := by rw [ha]; exact putSel_on (e := (3, 121, .agg #[.int .i64 t209, .int .u64 t210])) 2 rfl rfl (hon 3 (by kernel_rfl)) rfl
                replace ha := zp.mk ha
                have BK190 := zp.mk Q_BK190
                have BK197 := zp.mk Q_BK197
                have BK208 := zp.mk Q_BK208
                have HB := zp.mk Q_HB
                refine goes_ Try.func29 (by kernel_rfl) rfl #[.agg #[.int .i64 x198000_3, .int .u64 x198001_3], .agg #[.int .i64 t209, .int .u64 t210]] (by rfl) rfl rfl (by first | (simp only [List.map_toArray, List.map_cons, List.map_nil, Act.eval, Array.getD_eq_getD_getElem?, Option.getD_some, e118, e121]; done) | (simp only [List.map_toArray, List.map_cons, List.map_nil, Act.eval, Array.getD_eq_getD_getElem?, Option.getD_some, e118, e121]; rfl)) ?_
                with_reducible refine (spec_WideAdd.calls x198000_3 x198001_3 t209 t210 t211 t212 _ A65.out).mono ?_
                rintro e w84 ⟨rfl, hb⟩
                refine ⟨_, rfl, ?_⟩
                replace BK190 := zp.mk (zl (zv8 BK190.out) hb)
                replace BK197 := zp.mk (zl (zv8 BK197.out) hb)
                replace BK208 := zp.mk (zl (zv8 BK208.out) hb)
                replace HB := zp.mk (zj (zv7 HB.out) hb); have z_BK218 := fun (h0_ : b 13 = true) (h1_ : b 14 = false) => (show w84.heap[gb218]? = some (.cells #[.int .i64 0, .int .u64 0] 30 (0, 0)) from by first | exact (zl (g := gb218) (o := .cells #[.int .i64 0, .int .u64 0] 30 (0, 0)) (by (with_reducible repeat (first | refine zf ?_ _ | refine zi ?_ | refine zg ?_ _)); exact (Q_BK218 h0_ h1_)) hb))
                (try clear hb)
                (try clear hb2)
                (try clear hk)
                (try clear hi)
                refine hK.out _ _ ⟨gb218, m13_, (by rw [ha.out]; exact putSel_upk 3 hb_ rfl rfl rfl), (zv8 BK190.out), (zv8 BK197.out), (zv8 BK208.out), (zv7 HB.out), z_BK218, Q_GW218, Q_GE218, Q_NB190_218, Q_NB218_190, Q_NB197_218, Q_NB218_197, Q_NB208_218, Q_NB218_208, fun h0_ => absurd ((hoff 14 (by kernel_rfl)).symm.trans h0_) (by decide), Q_X13_⟩
               refine steps_cons ?_ ?_
               ·rintro b a w' ⟨gb218, m13_, ha, Q_BK190, Q_BK197, Q_BK208, Q_HB, Q_BK218, Q_GW218, Q_GE218, Q_NB190_218, Q_NB218_190, Q_NB197_218, Q_NB218_197, Q_NB208_218, Q_NB218_208, Q_BK218_e14, Q_X13_⟩ hb_ hon hoff
                refine ⟨_, rfl, fun K hK => ?_⟩
                have e123 : a.tmps[123]? = some (.int .i64 (wrap64 (a0_0 - (l0_5.length : Int)))) := by rw [ha]; exact (putSel_off rfl).trans rfl
                replace ha := zp.mk ha
                have BK190 := zp.mk Q_BK190
                have BK197 := zp.mk Q_BK197
                have BK208 := zp.mk Q_BK208
                have HB := zp.mk Q_HB
                refine value_ (w1 := w') (v := .int .i64 (wrap64 ((wrap64 (a0_0 - (l0_5.length : Int))) - 1))) (by rfl) rfl ?_ ?_
                ·go_simp
                 (try simp only [i64_w])
                 try rfl
                refine hK.out _ _ ⟨gb218, m13_, (by rw [ha.out]; exact putSel_upk 4 hb_ rfl rfl rfl), Q_BK190, Q_BK197, Q_BK208, Q_HB, Q_BK218, Q_GW218, Q_GE218, Q_NB190_218, Q_NB218_190, Q_NB197_218, Q_NB218_197, Q_NB208_218, Q_NB218_208, fun h0_ => absurd ((hoff 14 (by kernel_rfl)).symm.trans h0_) (by decide), Q_X13_⟩
               refine steps_cons ?_ ?_
               ·rintro b a w' ⟨gb218, m13_, ha, Q_BK190, Q_BK197, Q_BK208, Q_HB, Q_BK218, Q_GW218, Q_GE218, Q_NB190_218, Q_NB218_190, Q_NB197_218, Q_NB218_197, Q_NB208_218, Q_NB218_208, Q_BK218_e14, Q_X13_⟩ hb_ hon hoff
                refine ⟨_, rfl, fun K hK => ?_⟩
                have e125 : a.tmps[125]? = some (.pointer (some ⟨gb190, 5, none⟩)) := by rw [ha]; exact (putSel_off rfl).trans rfl
                replace ha := zp.mk ha
                have BK190 := zp.mk Q_BK190
                have BK197 := zp.mk Q_BK197
                have BK208 := zp.mk Q_BK208
                have HB := zp.mk Q_HB
                have hc0_ : w'.cell? ⟨gb190, 0, none⟩ = some (.int .i64 a0_0) := (ze BK190.out 0).trans rfl
                have hc1_ : w'.cell? ⟨gb190, 1, none⟩ = some (.int .i64 a0_1) := (ze BK190.out 1).trans rfl
                have hc2_ : w'.cell? ⟨gb190, 2, none⟩ = some (.int .u64 a0_2) := (ze BK190.out 2).trans rfl
                have hc3_ : w'.cell? ⟨gb190, 3, none⟩ = some (.int .i64 a0_3) := (ze BK190.out 3).trans rfl
                have hc4_ : w'.cell? ⟨gb190, 4, none⟩ = some (.int .i64 a0_4) := (ze BK190.out 4).trans rfl
                have hc5_ : w'.cell? ⟨gb190, 5, none⟩ = some (.slice (some ad213) l0_5.length c0_5) := (ze BK190.out 5).trans rfl
                refine value_ (w1 := w') (v := .slice (some ad213) l0_5.length c0_5) (by rfl) rfl ?_ ?_
                ·go_simp
                 (try simp only [i64_w])
                 try rfl
                refine hK.out _ _ ⟨gb218, m13_, (by rw [ha.out]; exact putSel_upk 5 hb_ rfl rfl rfl), Q_BK190, Q_BK197, Q_BK208, Q_HB, Q_BK218, Q_GW218, Q_GE218, Q_NB190_218, Q_NB218_190, Q_NB197_218, Q_NB218_197, Q_NB208_218, Q_NB218_208, fun h0_ => absurd ((hoff 14 (by kernel_rfl)).symm.trans h0_) (by decide), Q_X13_⟩
               refine steps_cons ?_ ?_
               ·rintro b a w' ⟨gb218, m13_, ha, Q_BK190, Q_BK197, Q_BK208, Q_HB, Q_BK218, Q_GW218, Q_GE218, Q_NB190_218, Q_NB218_190, Q_NB197_218, Q_NB218_197, Q_NB208_218, Q_NB218_208, Q_BK218_e14, Q_X13_⟩ hb_ hon hoff
                refine ⟨_, rfl, fun K hK => ?_⟩
                have e126 : a.tmps[126]? = some (.slice (some ad213) l0_5.length c0_5) := by rw [ha]; exact putSel_on (e := (8, 126, .slice (some ad213) l0_5.length c0_5)) 5 rfl rfl (hon 8 (by kernel_rfl)) rfl
                replace ha := zp.mk ha
                have BK190 := zp.mk Q_BK190
                have BK197 := zp.mk Q_BK197
                have BK208 := zp.mk Q_BK208
                have HB := zp.mk Q_HB
                have hs0_ : w'.cell? ⟨ad213.block, ad213.off + 3, none⟩ = some (.int .i64 (rd l0_5 3)) := ((HB.out.cell (World.block_lt_of_cell? w _ hw213_0)).trans hw213_0)
                refine value_ (w1 := w') (v := .pointer (some (ad213.add 3))) (by rfl) rfl ?_ ?_
                ·go_simp
                 (try simp only [i64_w])
                 try rfl
                refine hK.out _ _ ⟨gb218, m13_, (by rw [ha.out]; exact putSel_upk 6 hb_ rfl rfl rfl), Q_BK190, Q_BK197, Q_BK208, Q_HB, Q_BK218, Q_GW218, Q_GE218, Q_NB190_218, Q_NB218_190, Q_NB197_218, Q_NB218_197, Q_NB208_218, Q_NB218_208, fun h0_ => absurd ((hoff 14 (by kernel_rfl)).symm.trans h0_) (by decide), Q_X13_⟩
               refine steps_cons ?_ ?_
               ·rintro b a w' ⟨gb218, m13_, ha, Q_BK190, Q_BK197, Q_BK208, Q_HB, Q_BK218, Q_GW218, Q_GE218, Q_NB190_218, Q_NB218_190, Q_NB197_218, Q_NB218_197, Q_NB208_218, Q_NB218_208, Q_BK218_e14, Q_X13_⟩ hb_ hon hoff
                refine ⟨_, rfl, fun K hK => ?_⟩
                have e127 : a.tmps[127]? = some (.pointer (some (ad213.add 3))) := by rw [ha]; exact putSel_on (e := (9, 127, .pointer (some (ad213.add 3)))) 6 rfl rfl (hon 9 (by kernel_rfl)) rfl
                replace ha := zp.mk ha
                have BK190 := zp.mk Q_BK190
                have BK197 := zp.mk Q_BK197
                have BK208 := zp.mk Q_BK208
                have HB := zp.mk Q_HB
                have hs0_ : w'.cell? ⟨ad213.block, ad213.off + 3, none⟩ = some (.int .i64 (rd l0_5 3)) := ((HB.out.cell (World.block_lt_of_cell? w _ hw213_0)).trans hw213_0)
                refine value_ (w1 := w') (v := .int .i64 (rd l0_5 3)) (by rfl) rfl ?_ ?_
                ·go_simp
                 (try simp only [i64_w])
                 try rfl
                refine hK.out _ _ ⟨gb218, m13_, (by rw [ha.out]; exact putSel_upk 7 hb_ rfl rfl rfl), Q_BK190, Q_BK197, Q_BK208, Q_HB, Q_BK218, Q_GW218, Q_GE218, Q_NB190_218, Q_NB218_190, Q_NB197_218, Q_NB218_197, Q_NB208_218, Q_NB218_208, fun h0_ => absurd ((hoff 14 (by kernel_rfl)).symm.trans h0_) (by decide), Q_X13_⟩
               refine steps_cons ?_ ?_
               ·rintro b a w' ⟨gb218, m13_, ha, Q_BK190, Q_BK197, Q_BK208, Q_HB, Q_BK218, Q_GW218, Q_GE218, Q_NB190_218, Q_NB218_190, Q_NB197_218, Q_NB218_197, Q_NB208_218, Q_NB218_208, Q_BK218_e14, Q_X13_⟩ hb_ hon hoff
                refine ⟨_, rfl, fun K hK => ?_⟩
                have e124 : a.tmps[124]? = some (.int .i64 (wrap64 ((wrap64 (a0_0 - (l0_5.length : Int))) - 1))) := by rw [ha]; exact putSel_on (e := (6, 124, .int .i64 (wrap64 ((wrap64 (a0_0 - (l0_5.length : Int))) - 1)))) 4 rfl rfl (hon 6 (by kernel_rfl)) rfl
                have e128 : a.tmps[128]? = some (.int .i64 (rd l0_5 3)) := by rw [ha]; exact putSel_on (e := (10, 128, .int .i64 (rd l0_5 3))) 7 rfl rfl (hon 10 (by kernel_rfl)) rfl
                replace ha := zp.mk ha
                have BK190 := zp.mk Q_BK190
                have BK197 := zp.mk Q_BK197
                have BK208 := zp.mk Q_BK208
                have HB := zp.mk Q_HB
                refine goes_ Try.func31 (by kernel_rfl) rfl #[.int .i64 (wrap64 ((wrap64 (a0_0 - (l0_5.length : Int))) - 1)), .int .i64 (rd l0_5 3)] (by rfl) rfl rfl (by first | (simp only [List.map_toArray, List.map_cons, List.map_nil, Act.eval, Array.getD_eq_getD_getElem?, Option.getD_some, e124, e128]; done) | (simp only [List.map_toArray, List.map_cons, List.map_nil, Act.eval, Array.getD_eq_getD_getElem?, Option.getD_some, e124, e128]; rfl)) ?_
                with_reducible refine (spec_l07Times.calls k3 (wrap64 ((wrap64 (a0_0 - (l0_5.length : Int))) - 1)) (rd l0_5 3) t214 t215 _ A67.out).mono ?_
                rintro e w85 ⟨rfl, hb⟩
                refine ⟨_, rfl, ?_⟩
                replace BK190 := zp.mk (zl (zv8 BK190.out) hb)
                replace BK197 := zp.mk (zl (zv8 BK197.out) hb)
                replace BK208 := zp.mk (zl (zv8 BK208.out) hb)
                replace HB := zp.mk (zj (zv7 HB.out) hb); have z_BK218 := fun (h0_ : b 13 = true) (h1_ : b 14 = false) => (show w85.heap[gb218]? = some (.cells #[.int .i64 0, .int .u64 0] 30 (0, 0)) from by first | exact (zl (g := gb218) (o := .cells #[.int .i64 0, .int .u64 0] 30 (0, 0)) (by (with_reducible repeat (first | refine zf ?_ _ | refine zi ?_ | refine zg ?_ _)); exact (Q_BK218 h0_ h1_)) hb))
                (try clear hb)
                (try clear hb2)
                (try clear hk)
                (try clear hi)
                refine hK.out _ _ ⟨gb218, m13_, (by rw [ha.out]; exact putSel_upk 8 hb_ rfl rfl rfl), (zv8 BK190.out), (zv8 BK197.out), (zv8 BK208.out), (zv7 HB.out), z_BK218, Q_GW218, Q_GE218, Q_NB190_218, Q_NB218_190, Q_NB197_218, Q_NB218_197, Q_NB208_218, Q_NB218_208, fun h0_ => absurd ((hoff 14 (by kernel_rfl)).symm.trans h0_) (by decide), Q_X13_⟩
               refine steps_cons ?_ ?_
               ·rintro b a w' ⟨gb218, m13_, ha, Q_BK190, Q_BK197, Q_BK208, Q_HB, Q_BK218, Q_GW218, Q_GE218, Q_NB190_218, Q_NB218_190, Q_NB197_218, Q_NB218_197, Q_NB208_218, Q_NB218_208, Q_BK218_e14, Q_X13_⟩ hb_ hon hoff
                refine ⟨_, rfl, fun K hK => ?_⟩
                have e122 : a.tmps[122]? = some (.agg #[.int .i64 t211, .int .u64 t212]) := by rw [ha]; exact putSel_on (e := (4, 122, .agg #[.int .i64 t211, .int .u64 t212])) 3 rfl rfl (hon 4 (by kernel_rfl)) rfl
                have e129 : a.tmps[129]? = some (.agg #[.int .i64 t214, .int .u64 t215]) := by rw [ha]; exact putSel_on (e := (11, 129, .agg #[.int .i64 t214, .int .u64 t215])) 8 rfl rfl (hon 11 (by kernel_rfl)) rfl
                replace ha := zp.mk ha
                have BK190 := zp.mk Q_BK190
                have BK197 := zp.mk Q_BK197
                have BK208 := zp.mk Q_BK208
                have HB := zp.mk Q_HB
                refine goes_ Try.func29 (by kernel_rfl) rfl #[.agg #[.int .i64 t211, .int .u64 t212], .agg #[.int .i64 t214, .int .u64 t215]] (by rfl) rfl rfl (by first | (simp only [List.map_toArray, List.map_cons, List.map_nil, Act.eval, Array.getD_eq_getD_getElem?, Option.getD_some, e122, e129]; done) | (simp only [List.map_toArray, List.map_cons, List.map_nil, Act.eval, Array.getD_eq_getD_getElem?, Option.getD_some, e122, e129]; rfl)) ?_
                with_reducible refine (spec_WideAdd.calls t211 t212 t214 t215 t216 t217 _ A68.out).mono ?_
                rintro e w86 ⟨rfl, hb⟩
                refine ⟨_, rfl, ?_⟩
                replace BK190 := zp.mk (zl (zv8 BK190.out) hb)
                replace BK197 := zp.mk (zl (zv8 BK197.out) hb)
                replace BK208 := zp.mk (zl (zv8 BK208.out) hb)
                replace HB := zp.mk (zj (zv7 HB.out) hb); have z_BK218 := fun (h0_ : b 13 = true) (h1_ : b 14 = false) => (show w86.heap[gb218]? = some (.cells #[.int .i64 0, .int .u64 0] 30 (0, 0)) from by first | exact (zl (g := gb218) (o := .cells #[.int .i64 0, .int .u64 0] 30 (0, 0)) (by (with_reducible repeat (first | refine zf ?_ _ | refine zi ?_ | refine zg ?_ _)); exact (Q_BK218 h0_ h1_)) hb))
                (try clear hb)
                (try clear hb2)
                (try clear hk)
                (try clear hi)
                refine hK.out _ _ ⟨gb218, m13_, (by rw [ha.out]; exact putSel_upk 9 hb_ rfl rfl rfl), (zv8 BK190.out), (zv8 BK197.out), (zv8 BK208.out), (zv7 HB.out), z_BK218, Q_GW218, Q_GE218, Q_NB190_218, Q_NB218_190, Q_NB197_218, Q_NB218_197, Q_NB208_218, Q_NB218_208, fun h0_ => absurd ((hoff 14 (by kernel_rfl)).symm.trans h0_) (by decide), Q_X13_⟩
               refine steps_cons ?_ ?_
               ·rintro b a w' ⟨gb218, m13_, ha, Q_BK190, Q_BK197, Q_BK208, Q_HB, Q_BK218, Q_GW218, Q_GE218, Q_NB190_218, Q_NB218_190, Q_NB197_218, Q_NB218_197, Q_NB208_218, Q_NB218_208, Q_BK218_e14, Q_X13_⟩ hb_ hon hoff
                refine ⟨_, rfl, fun K hK => ?_⟩
                replace ha := zp.mk ha
                have BK190 := zp.mk Q_BK190
                have BK197 := zp.mk Q_BK197
                have BK208 := zp.mk Q_BK208
                have HB := zp.mk Q_HB
                refine box_step ?hg (N := 7) ?hd (cs := #[.int .i64 0, .int .u64 0]) (t := 30) ?hr ?_; (case hd => rfl); (case hg => rfl); (case hr => first | (go_simp; done) | (go_simp; rfl))
                intro gb218 hg w82 hbox hb
                have BK218 := zp.mk (hbox)
                have GW218 := zp.mk ((zv3 (zv7 HB.out) hg))
                have GE218 := zp.mk ((zv3 (zv7 HB.out) hg))
                have NB190_218 := zp.mk ((by rw [hg]; exact Nat.ne_of_lt (blk_lt (g := gb190) (o := .cells #[.int .i64 a0_0, .int .i64 a0_1, .int .u64 a0_2, .int .i64 a0_3, .int .i64 a0_4, .slice (some ad213) l0_5.length c0_5] 32 (0, 0)) (zv8 BK190.out)) : gb190 ≠ gb218))
                have NB218_190 := zp.mk ((by rw [hg]; exact Nat.ne_of_gt (blk_lt (g := gb190) (o := .cells #[.int .i64 a0_0, .int .i64 a0_1, .int .u64 a0_2, .int .i64 a0_3, .int .i64 a0_4, .slice (some ad213) l0_5.length c0_5] 32 (0, 0)) (zv8 BK190.out)) : gb218 ≠ gb190))
                have NB197_218 := zp.mk ((by rw [hg]; exact Nat.ne_of_lt (blk_lt (g := gb197) (o := .cells #[.int .i64 x198000_3, .int .u64 x198001_3] 30 (0, 0)) (zv8 BK197.out)) : gb197 ≠ gb218))
                have NB218_197 := zp.mk ((by rw [hg]; exact Nat.ne_of_gt (blk_lt (g := gb197) (o := .cells #[.int .i64 x198000_3, .int .u64 x198001_3] 30 (0, 0)) (zv8 BK197.out)) : gb218 ≠ gb197))
                have NB208_218 := zp.mk ((by rw [hg]; exact Nat.ne_of_lt (blk_lt (g := gb208) (o := .cells #[.int .i64 t206, .int .u64 t207] 30 (0, 0)) (zv8 BK208.out)) : gb208 ≠ gb218))
                have NB218_208 := zp.mk ((by rw [hg]; exact Nat.ne_of_gt (blk_lt (g := gb208) (o := .cells #[.int .i64 t206, .int .u64 t207] 30 (0, 0)) (zv8 BK208.out)) : gb218 ≠ gb208))
                replace BK190 := zp.mk (zl (zv8 BK190.out) hb)
                replace BK197 := zp.mk (zl (zv8 BK197.out) hb)
                replace BK208 := zp.mk (zl (zv8 BK208.out) hb)
                replace HB := zp.mk (zj (zv7 HB.out) hb)
                clear hb hbox hg
                refine hK.out _ _ ⟨gb218, (.pointer (some ⟨gb218, 0, none⟩)), (by rw [ha.out]; exact putSel_upk 10 hb_ rfl rfl rfl), (zv8 BK190.out), (zv8 BK197.out), (zv8 BK208.out), (zv7 HB.out), fun _ _ => (zv8 BK218.out), fun _ => GW218.out, fun _ => GE218.out, fun _ => NB190_218.out, fun _ => NB218_190.out, fun _ => NB197_218.out, fun _ => NB218_197.out, fun _ => NB208_218.out, fun _ => NB218_208.out, fun h0_ => absurd ((hoff 14 (by kernel_rfl)).symm.trans h0_) (by decide), fun _ => rfl⟩
               refine steps_cons ?_ ?_
               ·rintro b a w' ⟨gb218, m13_, ha, Q_BK190, Q_BK197, Q_BK208, Q_HB, Q_BK218, Q_GW218, Q_GE218, Q_NB190_218, Q_NB218_190, Q_NB197_218, Q_NB218_197, Q_NB208_218, Q_NB218_208, Q_BK218_e14, Q_X13_⟩ hb_ hon hoff
                refine ⟨_, rfl, fun K hK => ?_⟩
                have e7 : a.tmps[7]? = some (m13_) := by rw [ha]; exact putSel_on (e := (13, 7, m13_)) 10 rfl rfl (hon 13 (by kernel_rfl)) rfl
                rw [Q_X13_ (hon 13 (by kernel_rfl))] at e7
                have e130 : a.tmps[130]? = some (.agg #[.int .i64 t216, .int .u64 t217]) := by rw [ha]; exact putSel_on (e := (12, 130, .agg #[.int .i64 t216, .int .u64 t217])) 9 rfl rfl (hon 12 (by kernel_rfl)) rfl
                replace ha := zp.mk ha
                have BK190 := zp.mk Q_BK190
                have BK197 := zp.mk Q_BK197
                have BK208 := zp.mk Q_BK208
                have HB := zp.mk Q_HB
                have BK218 := zp.mk (Q_BK218 (hon 13 (by kernel_rfl)) hb_)
                have GW218 := zp.mk (Q_GW218 (hon 13 (by kernel_rfl)))
                have GE218 := zp.mk (Q_GE218 (hon 13 (by kernel_rfl)))
                have NB190_218 := zp.mk (Q_NB190_218 (hon 13 (by kernel_rfl)))
                have NB218_190 := zp.mk (Q_NB218_190 (hon 13 (by kernel_rfl)))
                have NB197_218 := zp.mk (Q_NB197_218 (hon 13 (by kernel_rfl)))
                have NB218_197 := zp.mk (Q_NB218_197 (hon 13 (by kernel_rfl)))
                have NB208_218 := zp.mk (Q_NB208_218 (hon 13 (by kernel_rfl)))
                have NB218_208 := zp.mk (Q_NB218_208 (hon 13 (by kernel_rfl)))
                have hs88 : w'.cell? ⟨gb218, 0, none⟩ = some (.int .i64 0) := (ze BK218.out 0).trans rfl
                have hfs88 := zd BK218.out 0
                have hns88_0 := NB190_218.out
                have hns88_1 := NB197_218.out
                have hns88_2 := NB208_218.out
                have hms88_0 := NB218_190.out
                have hms88_1 := NB218_197.out
                have hms88_2 := NB218_208.out
                have hs89 : w'.cell? ⟨gb218, 1, none⟩ = some (.int .u64 0) := (ze BK218.out 1).trans rfl
                have hfs89 := zd BK218.out 1
                have hns89_0 := NB190_218.out
                have hns89_1 := NB197_218.out
                have hns89_2 := NB208_218.out
                have hms89_0 := NB218_190.out
                have hms89_1 := NB218_197.out
                have hms89_2 := NB218_208.out
                refine skip_ (w1 := ?_) (by rfl) rfl ?_ ?_
                rotate_left
                ·go_simp
                 rfl
                refine hK.out _ _ ⟨gb218, m13_, (by rw [ha.out]; exact putSel_none (v := undef) rfl), (by (with_reducible repeat (first | refine zf ?_ _ | refine zi ?_ | refine zg ?_ _)); refine blk_far ?_ NB190_218.out _; (with_reducible repeat (first | refine zf ?_ _ | refine zi ?_ | refine zg ?_ _)); refine blk_far ?_ NB190_218.out _; (with_reducible repeat (first | refine zf ?_ _ | refine zi ?_ | refine zg ?_ _)); exact BK190.out), (by (with_reducible repeat (first | refine zf ?_ _ | refine zi ?_ | refine zg ?_ _)); refine blk_far ?_ NB197_218.out _; (with_reducible repeat (first | refine zf ?_ _ | refine zi ?_ | refine zg ?_ _)); refine blk_far ?_ NB197_218.out _; (with_reducible repeat (first | refine zf ?_ _ | refine zi ?_ | refine zg ?_ _)); exact BK197.out), (by (with_reducible repeat (first | refine zf ?_ _ | refine zi ?_ | refine zg ?_ _)); refine blk_far ?_ NB208_218.out _; (with_reducible repeat (first | refine zf ?_ _ | refine zi ?_ | refine zg ?_ _)); refine blk_far ?_ NB208_218.out _; (with_reducible repeat (first | refine zf ?_ _ | refine zi ?_ | refine zg ?_ _)); exact BK208.out), (zv7 HB.out), fun _ h1_ => absurd ((up_self b 14).symm.trans h1_) (by decide), fun _ => GW218.out, fun _ => GE218.out, fun _ => NB190_218.out, fun _ => NB218_190.out, fun _ => NB197_218.out, fun _ => NB218_197.out, fun _ => NB208_218.out, fun _ => NB218_208.out, fun _ => (by (with_reducible repeat (first | refine zf ?_ _ | refine zi ?_ | refine zg ?_ _)); refine blk_put (cs := #[.int .i64 t216, .int .u64 0]) ?_ 1 _ rfl; (with_reducible repeat (first | refine zf ?_ _ | refine zi ?_ | refine zg ?_ _)); refine blk_put (cs := #[.int .i64 0, .int .u64 0]) ?_ 0 _ rfl; (with_reducible repeat (first | refine zf ?_ _ | refine zi ?_ | refine zg ?_ _)); exact BK218.out), Q_X13_⟩
               exact steps_nil
              rintro b a w89 hall ⟨gb218, m13_, ha, Q_BK190, Q_BK197, Q_BK208, Q_HB, Q_BK218, Q_GW218, Q_GE218, Q_NB190_218, Q_NB218_190, Q_NB197_218, Q_NB218_197, Q_NB208_218, Q_NB218_208, Q_BK218_e14, Q_X13_⟩
              clear BK190 BK197 BK208 HB
              have hb0_ := hall 0 (by kernel_rfl)
              have hb2_ := hall 2 (by kernel_rfl)
              have hb3_ := hall 3 (by kernel_rfl)
              have hb4_ := hall 4 (by kernel_rfl)
              have hb6_ := hall 6 (by kernel_rfl)
              have hb8_ := hall 8 (by kernel_rfl)
              have hb9_ := hall 9 (by kernel_rfl)
              have hb10_ := hall 10 (by kernel_rfl)
              have hb11_ := hall 11 (by kernel_rfl)
              have hb12_ := hall 12 (by kernel_rfl)
              have hb13_ := hall 13 (by kernel_rfl)
              have hb14_ := hall 14 (by kernel_rfl)
              subst ha
              obtain rfl := Q_X13_ hb13_
              simp only [putSel, hb0_, hb2_, hb3_, hb4_, hb6_, hb8_, hb9_, hb10_, hb11_, hb12_, hb13_, hb14_, if_true, Act.put, zs1, zs2, zs3]
              have BK190 := zp.mk Q_BK190
              clear Q_BK190
              have BK197 := zp.mk Q_BK197
              clear Q_BK197
              have BK208 := zp.mk Q_BK208
              clear Q_BK208
              have HB := zp.mk Q_HB
              clear Q_HB
              clear Q_BK218
              have GW218 := zp.mk (Q_GW218 hb13_)
              clear Q_GW218
              have GE218 := zp.mk (Q_GE218 hb13_)
              clear Q_GE218
              have NB190_218 := zp.mk (Q_NB190_218 hb13_)
              clear Q_NB190_218
              have NB218_190 := zp.mk (Q_NB218_190 hb13_)
              clear Q_NB218_190
              have NB197_218 := zp.mk (Q_NB197_218 hb13_)
              clear Q_NB197_218
              have NB218_197 := zp.mk (Q_NB218_197 hb13_)
              clear Q_NB218_197
              have NB208_218 := zp.mk (Q_NB208_218 hb13_)
              clear Q_NB208_218
              have NB218_208 := zp.mk (Q_NB218_208 hb13_)
              clear Q_NB218_208
              have BK218 := zp.mk (Q_BK218_e14 hb14_)
              clear Q_BK218_e14
              clear hall hb0_ hb2_ hb3_ hb4_ hb6_ hb8_ hb9_ hb10_ hb11_ hb12_ hb13_ hb14_
              have hnb90 := NB190_208.out
              have hnc90 := NB208_190.out
              have hnb91 := NB190_218.out
              have hnc91 := NB218_190.out
              have y92_0 := zt0 BK190.out
              have y92_1 := zt1 BK190.out
              have y92_2 := zt2 BK190.out
              have y92_3 := zt3 BK190.out
              have y92_4 := zt4 BK190.out
              have y92_5 := zt5 BK190.out
              have u92_0 := zd BK190.out 0
              have u92_1 := zd BK190.out 1
              have u92_2 := zd BK190.out 2
              have u92_3 := zd BK190.out 3
              have u92_4 := zd BK190.out 4
              have u92_5 := zd BK190.out 5
              have hnb93 := NB208_197.out
              have hnc93 := NB197_208.out
              have hnb94 := NB208_218.out
              have hnc94 := NB218_208.out
              have y95_0 := zt0 BK208.out
              have y95_1 := zt1 BK208.out
              have u95_0 := zd BK208.out 0
              have u95_1 := zd BK208.out 1
              try go_wp2_with (first | ((with_reducible refine zn (f := 32) rfl ?_); refine goesL_ (some 134) rfl rfl Try.func32 (by kernel_rfl) rfl #[.agg #[.int .i64 a0_1, .int .u64 a0_2], .agg #[.int .i64 t206, .int .u64 t207]] rfl (by (try simp only [List.map_toArray, List.map_cons, List.map_nil]); first | done | rfl | (simp only [List.length_drop, List.length_take]; rfl)) ?_; (with_reducible refine (spec_WideCmp.calls a0_1 a0_2 t206 t207 t219 _ A69.out).mono ?_); rintro e w96 ⟨rfl, hb⟩; refine ⟨_, rfl, ?_⟩; replace BK190 := zp.mk (zl (zv8 BK190.out) hb); replace BK197 := zp.mk (zl (zv8 BK197.out) hb); replace BK208 := zp.mk (zl (zv8 BK208.out) hb); replace BK218 := zp.mk (zl (zv8 BK218.out) hb); replace HB := zp.mk (zj (zv7 HB.out) hb); (try clear hb); (try clear hb2); (try clear hk); (try clear hi); have y97_0 := zt0 BK190.out; have y97_1 := zt1 BK190.out; have y97_2 := zt2 BK190.out; have y97_3 := zt3 BK190.out; have y97_4 := zt4 BK190.out; have y97_5 := zt5 BK190.out; have u97_0 := zd BK190.out 0; have u97_1 := zd BK190.out 1; have u97_2 := zd BK190.out 2; have u97_3 := zd BK190.out 3; have u97_4 := zd BK190.out 4; have u97_5 := zd BK190.out 5; have hnb98 := NB218_197.out; have hnc98 := NB197_218.out; have y99_0 := zt0 BK218.out; have y99_1 := zt1 BK218.out; have u99_0 := zd BK218.out 0; have u99_1 := zd BK218.out 1) | (go_at_call 32; (with_reducible refine (spec_WideCmp.calls a0_1 a0_2 t216 t217 t220 _ A71.out).mono ?_); rintro e w100 ⟨rfl, hb⟩; replace BK190 := zp.mk (zl (zv8 BK190.out) hb); replace BK197 := zp.mk (zl (zv8 BK197.out) hb); replace BK208 := zp.mk (zl (zv8 BK208.out) hb); replace BK218 := zp.mk (zl (zv8 BK218.out) hb); replace HB := zp.mk (zj (zv7 HB.out) hb); (try clear hb); (try clear hb2); (try clear hk); (try clear hi)))
              go_ret
              exact ⟨by first | rfl | (simp [errW_none, errW_some] <;> rfl) | (simp [*, errW_none, errW_some] <;> rfl), zv7 HB.out⟩
             ·rw [if_neg c70] at H
              have c70b0 : decide (0 ≤ t219) = false := decide_eq_false c70
              clear c70
              obtain rfl := Option.some.inj H
              have hnb101 := NB190_197.out
              have hnc101 := NB197_190.out
              have y102_0 := zt0 BK190.out
              have y102_1 := zt1 BK190.out
              have y102_2 := zt2 BK190.out
              have y102_3 := zt3 BK190.out
              have y102_4 := zt4 BK190.out
              have y102_5 := zt5 BK190.out
              have u102_0 := zd BK190.out 0
              have u102_1 := zd BK190.out 1
              have u102_2 := zd BK190.out 2
              have u102_3 := zd BK190.out 3
              have u102_4 := zd BK190.out 4
              have u102_5 := zd BK190.out 5
              try go_wp2
              replace BK190 := zp.mk (zi BK190.out)
              replace BK197 := zp.mk (zi BK197.out)
              replace HB := zp.mk (zb HB.out)
              refine start_ (n := 8) (S := fun w' => True) (ds := []) #[false, false, false, false, false, false, false, false] (by kernel_rfl) rfl rfl trivial (fun hHeld => ?_); refine with_tabW spec_AggOk.tab15 spec_AggOk.bits15 (fun HT_ HW_ => ?_)
              generalize wr.drew = w103 at BK190 BK197 HB hHeld ⊢
              refine pure_ (i := 1) (N := some 113) (v := ?_) (a' := ?_) #[false, true, false, false, false, false, false, false] rfl rfl (any_of HT_.out (by kernel_rfl)) (fun _ _ _ h => h) (Or.inl ⟨by rfl, ?_⟩) ?_ ?_
              rotate_left
              ·intro w'
               go_simp
               with_reducible rfl
              rotate_left
              ·simp only [Act.put, zs1, zs2, zs3, i64_w, i32_w]
               rfl
              refine pure_ (i := 2) (N := some 114) (v := ?_) (a' := ?_) #[false, true, true, false, false, false, false, false] rfl rfl (any_of HT_.out (by kernel_rfl)) (fun _ _ _ h => h) (Or.inl ⟨by rfl, ?_⟩) ?_ ?_
              rotate_left
              ·intro w'
               go_simp
               with_reducible rfl
              rotate_left
              ·simp only [Act.put, zs1, zs2, zs3, i64_w, i32_w]
               rfl
              refine inv_at [0, 3, 4, 5, 6, 7] (fun a0_ b a w' => ∃ (gb208 : Nat) (m6_ : Value), a = putSel a0_ b [(0, 112, .agg #[.int .i64 x198000_3, .int .u64 x198001_3]), (3, 115, .int .i64 a0_3), (4, 116, .agg #[.int .i64 t204, .int .u64 t205]), (5, 117, .agg #[.int .i64 t206, .int .u64 t207]), (6, 6, m6_)] ∧ (w'.heap[gb190]? = some (.cells #[.int .i64 a0_0, .int .i64 a0_1, .int .u64 a0_2, .int .i64 a0_3, .int .i64 a0_4, .slice A0_5 l0_5.length c0_5] 32 (0, 0))) ∧ (w'.heap[gb197]? = some (.cells #[.int .i64 x198000_3, .int .u64 x198001_3] 30 (0, 0))) ∧ (Below w.heap.size w w') ∧ (b 6 = true → b 7 = false → w'.heap[gb208]? = some (.cells #[.int .i64 0, .int .u64 0] 30 (0, 0))) ∧ (b 6 = true → w.heap.size ≤ gb208) ∧ (b 6 = true → w.heap.size ≤ gb208) ∧ (b 6 = true → gb190 ≠ gb208) ∧ (b 6 = true → gb208 ≠ gb190) ∧ (b 6 = true → gb197 ≠ gb208) ∧ (b 6 = true → gb208 ≠ gb197) ∧ (b 7 = true → w'.heap[gb208]? = some (.cells #[.int .i64 t206, .int .u64 t207] 30 (0, 0))) ∧ (b 6 = true → (m6_ : Value) = .pointer (some ⟨gb208, 0, none⟩))) HT_.out HW_.out (by kernel_rfl) (by kernel_rfl) ?_ ?_ ?_
              ·exact ⟨0, .bool false, by simp only [putSel, Bool.false_eq_true, if_false], BK190.out, BK197.out, HB.out, fun h_ => absurd h_ (by decide), fun h_ => absurd h_ (by decide), fun h_ => absurd h_ (by decide), fun h_ => absurd h_ (by decide), fun h_ => absurd h_ (by decide), fun h_ => absurd h_ (by decide), fun h_ => absurd h_ (by decide), fun h_ => absurd h_ (by decide), fun h_ => absurd h_ (by decide)⟩
              ·skip
               clear BK190 BK197 HB
               refine steps_cons ?_ ?_
               ·rintro b a w' ⟨gb208, m6_, ha, Q_BK190, Q_BK197, Q_HB, Q_BK208, Q_GW208, Q_GE208, Q_NB190_208, Q_NB208_190, Q_NB197_208, Q_NB208_197, Q_BK208_e7, Q_X6_⟩ hb_ hon hoff
                refine ⟨_, rfl, fun K hK => ?_⟩
                have e3 : a.tmps[3]? = some (.pointer (some ⟨gb197, 0, none⟩)) := by rw [ha]; exact (putSel_off rfl).trans rfl
                replace ha := zp.mk ha
                have BK190 := zp.mk Q_BK190
                have BK197 := zp.mk Q_BK197
                have HB := zp.mk Q_HB
                have hc0_ : w'.cell? ⟨gb197, 0, none⟩ = some (.int .i64 x198000_3) := (ze BK197.out 0).trans rfl
                have hc1_ : w'.cell? ⟨gb197, 1, none⟩ = some (.int .u64 x198001_3) := (ze BK197.out 1).trans rfl
                refine value_ (w1 := w') (v := .agg #[.int .i64 x198000_3, .int .u64 x198001_3]) (by rfl) rfl ?_ ?_
                ·go_simp
                 (try simp only [i64_w])
                 try rfl
                refine hK.out _ _ ⟨gb208, m6_, (by rw [ha.out]; exact putSel_upk 0 hb_ rfl rfl rfl), Q_BK190, Q_BK197, Q_HB, Q_BK208, Q_GW208, Q_GE208, Q_NB190_208, Q_NB208_190, Q_NB197_208, Q_NB208_197, fun h0_ => absurd ((hoff 7 (by kernel_rfl)).symm.trans h0_) (by decide), Q_X6_⟩
               refine steps_cons ?_ ?_
               ·rintro b a w' ⟨gb208, m6_, ha, Q_BK190, Q_BK197, Q_HB, Q_BK208, Q_GW208, Q_GE208, Q_NB190_208, Q_NB208_190, Q_NB197_208, Q_NB208_197, Q_BK208_e7, Q_X6_⟩ hb_ hon hoff
                refine ⟨_, rfl, fun K hK => ?_⟩
                have e114 : a.tmps[114]? = some (.pointer (some ⟨gb190, 3, none⟩)) := by rw [ha]; exact (putSel_off rfl).trans rfl
                replace ha := zp.mk ha
                have BK190 := zp.mk Q_BK190
                have BK197 := zp.mk Q_BK197
                have HB := zp.mk Q_HB
                have hc0_ : w'.cell? ⟨gb190, 0, none⟩ = some (.int .i64 a0_0) := (ze BK190.out 0).trans rfl
                have hc1_ : w'.cell? ⟨gb190, 1, none⟩ = some (.int .i64 a0_1) := (ze BK190.out 1).trans rfl
                have hc2_ : w'.cell? ⟨gb190, 2, none⟩ = some (.int .u64 a0_2) := (ze BK190.out 2).trans rfl
                have hc3_ : w'.cell? ⟨gb190, 3, none⟩ = some (.int .i64 a0_3) := (ze BK190.out 3).trans rfl
                have hc4_ : w'.cell? ⟨gb190, 4, none⟩ = some (.int .i64 a0_4) := (ze BK190.out 4).trans rfl
                have hc5_ : w'.cell? ⟨gb190, 5, none⟩ = some (.slice A0_5 l0_5.length c0_5) := (ze BK190.out 5).trans rfl
                refine value_ (w1 := w') (v := .int .i64 a0_3) (by rfl) rfl ?_ ?_
                ·go_simp
                 (try simp only [i64_w])
                 try rfl
                refine hK.out _ _ ⟨gb208, m6_, (by rw [ha.out]; exact putSel_upk 1 hb_ rfl rfl rfl), Q_BK190, Q_BK197, Q_HB, Q_BK208, Q_GW208, Q_GE208, Q_NB190_208, Q_NB208_190, Q_NB197_208, Q_NB208_197, fun h0_ => absurd ((hoff 7 (by kernel_rfl)).symm.trans h0_) (by decide), Q_X6_⟩
               refine steps_cons ?_ ?_
               ·rintro b a w' ⟨gb208, m6_, ha, Q_BK190, Q_BK197, Q_HB, Q_BK208, Q_GW208, Q_GE208, Q_NB190_208, Q_NB208_190, Q_NB197_208, Q_NB208_197, Q_BK208_e7, Q_X6_⟩ hb_ hon hoff
                refine ⟨_, rfl, fun K hK => ?_⟩
                have e113 : a.tmps[113]? = some (.int .i64 (wrap64 (a0_0 - (l0_5.length : Int)))) := by rw [ha]; exact (putSel_off rfl).trans rfl
                have e115 : a.tmps[115]? = some (.int .i64 a0_3) := by rw [ha]; exact putSel_on (e := (3, 115, .int .i64 a0_3)) 1 rfl rfl (hon 3 (by kernel_rfl)) rfl
                replace ha := zp.mk ha
                have BK190 := zp.mk Q_BK190
                have BK197 := zp.mk Q_BK197
                have HB := zp.mk Q_HB
                refine goes_ Try.func31 (by kernel_rfl) rfl #[.int .i64 (wrap64 (a0_0 - (l0_5.length : Int))), .int .i64 a0_3] (by rfl) rfl rfl (by first | (simp only [List.map_toArray, List.map_cons, List.map_nil, Act.eval, Array.getD_eq_getD_getElem?, Option.getD_some, e113, e115]; done) | (simp only [List.map_toArray, List.map_cons, List.map_nil, Act.eval, Array.getD_eq_getD_getElem?, Option.getD_some, e113, e115]; rfl)) ?_
                with_reducible refine (spec_l07Times.calls k3 (wrap64 (a0_0 - (l0_5.length : Int))) a0_3 t204 t205 _ A62.out).mono ?_
                rintro e w104 ⟨rfl, hb⟩
                refine ⟨_, rfl, ?_⟩
                replace BK190 := zp.mk (zl (zv8 BK190.out) hb)
                replace BK197 := zp.mk (zl (zv8 BK197.out) hb)
                replace HB := zp.mk (zj (zv7 HB.out) hb); have z_BK208 := fun (h0_ : b 6 = true) (h1_ : b 7 = false) => (show w104.heap[gb208]? = some (.cells #[.int .i64 0, .int .u64 0] 30 (0, 0)) from by first | exact (zl (g := gb208) (o := .cells #[.int .i64 0, .int .u64 0] 30 (0, 0)) (by (with_reducible repeat (first | refine zf ?_ _ | refine zi ?_ | refine zg ?_ _)); exact (Q_BK208 h0_ h1_)) hb))
                (try clear hb)
                (try clear hb2)
                (try clear hk)
                (try clear hi)
                refine hK.out _ _ ⟨gb208, m6_, (by rw [ha.out]; exact putSel_upk 2 hb_ rfl rfl rfl), (zv8 BK190.out), (zv8 BK197.out), (zv7 HB.out), z_BK208, Q_GW208, Q_GE208, Q_NB190_208, Q_NB208_190, Q_NB197_208, Q_NB208_197, fun h0_ => absurd ((hoff 7 (by kernel_rfl)).symm.trans h0_) (by decide), Q_X6_⟩
               refine steps_cons ?_ ?_
               ·rintro b a w' ⟨gb208, m6_, ha, Q_BK190, Q_BK197, Q_HB, Q_BK208, Q_GW208, Q_GE208, Q_NB190_208, Q_NB208_190, Q_NB197_208, Q_NB208_197, Q_BK208_e7, Q_X6_⟩ hb_ hon hoff
                refine ⟨_, rfl, fun K hK => ?_⟩
                have e112 : a.tmps[112]? = some (.agg #[.int .i64 x198000_3, .int .u64 x198001_3]) := by rw [ha]; exact putSel_on (e := (0, 112, .agg #[.int .i64 x198000_3, .int .u64 x198001_3])) 0 rfl rfl (hon 0 (by kernel_rfl)) rfl
                have e116 : a.tmps[116]? = some (.agg #[.int .i64 t204, .int .u64 t205]) := by rw [ha]; exact putSel_on (e := (4, 116, .agg #[.int .i64 t204, .int .u64 t205])) 2 rfl rfl (hon 4 (by kernel_rfl)) rfl
                replace ha := zp.mk ha
                have BK190 := zp.mk Q_BK190
                have BK197 := zp.mk Q_BK197
                have HB := zp.mk Q_HB
                refine goes_ Try.func29 (by kernel_rfl) rfl #[.agg #[.int .i64 x198000_3, .int .u64 x198001_3], .agg #[.int .i64 t204, .int .u64 t205]] (by rfl) rfl rfl (by first | (simp only [List.map_toArray, List.map_cons, List.map_nil, Act.eval, Array.getD_eq_getD_getElem?, Option.getD_some, e112, e116]; done) | (simp only [List.map_toArray, List.map_cons, List.map_nil, Act.eval, Array.getD_eq_getD_getElem?, Option.getD_some, e112, e116]; rfl)) ?_
                with_reducible refine (spec_WideAdd.calls x198000_3 x198001_3 t204 t205 t206 t207 _ A63.out).mono ?_
                rintro e w106 ⟨rfl, hb⟩
                refine ⟨_, rfl, ?_⟩
                replace BK190 := zp.mk (zl (zv8 BK190.out) hb)
                replace BK197 := zp.mk (zl (zv8 BK197.out) hb)
                replace HB := zp.mk (zj (zv7 HB.out) hb); have z_BK208 := fun (h0_ : b 6 = true) (h1_ : b 7 = false) => (show w106.heap[gb208]? = some (.cells #[.int .i64 0, .int .u64 0] 30 (0, 0)) from by first | exact (zl (g := gb208) (o := .cells #[.int .i64 0, .int .u64 0] 30 (0, 0)) (by (with_reducible repeat (first | refine zf ?_ _ | refine zi ?_ | refine zg ?_ _)); exact (Q_BK208 h0_ h1_)) hb))
                (try clear hb)
                (try clear hb2)
                (try clear hk)
                (try clear hi)
                refine hK.out _ _ ⟨gb208, m6_, (by rw [ha.out]; exact putSel_upk 3 hb_ rfl rfl rfl), (zv8 BK190.out), (zv8 BK197.out), (zv7 HB.out), z_BK208, Q_GW208, Q_GE208, Q_NB190_208, Q_NB208_190, Q_NB197_208, Q_NB208_197, fun h0_ => absurd ((hoff 7 (by kernel_rfl)).symm.trans h0_) (by decide), Q_X6_⟩
               refine steps_cons ?_ ?_
               ·rintro b a w' ⟨gb208, m6_, ha, Q_BK190, Q_BK197, Q_HB, Q_BK208, Q_GW208, Q_GE208, Q_NB190_208, Q_NB208_190, Q_NB197_208, Q_NB208_197, Q_BK208_e7, Q_X6_⟩ hb_ hon hoff
                refine ⟨_, rfl, fun K hK => ?_⟩
                replace ha := zp.mk ha
                have BK190 := zp.mk Q_BK190
                have BK197 := zp.mk Q_BK197
                have HB := zp.mk Q_HB
                refine box_step ?hg (N := 6) ?hd (cs := #[.int .i64 0, .int .u64 0]) (t := 30) ?hr ?_; (case hd => rfl); (case hg => rfl); (case hr => first | (go_simp; done) | (go_simp; rfl))
                intro gb208 hg w104 hbox hb
                have BK208 := zp.mk (hbox)
                have GW208 := zp.mk ((zv3 (zv7 HB.out) hg))
                have GE208 := zp.mk ((zv3 (zv7 HB.out) hg))
                have NB190_208 := zp.mk ((by rw [hg]; exact Nat.ne_of_lt (blk_lt (g := gb190) (o := .cells #[.int .i64 a0_0, .int .i64 a0_1, .int .u64 a0_2, .int .i64 a0_3, .int .i64 a0_4, .slice A0_5 l0_5.length c0_5] 32 (0, 0)) (zv8 BK190.out)) : gb190 ≠ gb208))
                have NB208_190 := zp.mk ((by rw [hg]; exact Nat.ne_of_gt (blk_lt (g := gb190) (o := .cells #[.int .i64 a0_0, .int .i64 a0_1, .int .u64 a0_2, .int .i64 a0_3, .int .i64 a0_4, .slice A0_5 l0_5.length c0_5] 32 (0, 0)) (zv8 BK190.out)) : gb208 ≠ gb190))
                have NB197_208 := zp.mk ((by rw [hg]; exact Nat.ne_of_lt (blk_lt (g := gb197) (o := .cells #[.int .i64 x198000_3, .int .u64 x198001_3] 30 (0, 0)) (zv8 BK197.out)) : gb197 ≠ gb208))
                have NB208_197 := zp.mk ((by rw [hg]; exact Nat.ne_of_gt (blk_lt (g := gb197) (o := .cells #[.int .i64 x198000_3, .int .u64 x198001_3] 30 (0, 0)) (zv8 BK197.out)) : gb208 ≠ gb197))
                replace BK190 := zp.mk (zl (zv8 BK190.out) hb)
                replace BK197 := zp.mk (zl (zv8 BK197.out) hb)
                replace HB := zp.mk (zj (zv7 HB.out) hb)
                clear hb hbox hg
                refine hK.out _ _ ⟨gb208, (.pointer (some ⟨gb208, 0, none⟩)), (by rw [ha.out]; exact putSel_upk 4 hb_ rfl rfl rfl), (zv8 BK190.out), (zv8 BK197.out), (zv7 HB.out), fun _ _ => (zv8 BK208.out), fun _ => GW208.out, fun _ => GE208.out, fun _ => NB190_208.out, fun _ => NB208_190.out, fun _ => NB197_208.out, fun _ => NB208_197.out, fun h0_ => absurd ((hoff 7 (by kernel_rfl)).symm.trans h0_) (by decide), fun _ => rfl⟩
               refine steps_cons ?_ ?_
               ·rintro b a w' ⟨gb208, m6_, ha, Q_BK190, Q_BK197, Q_HB, Q_BK208, Q_GW208, Q_GE208, Q_NB190_208, Q_NB208_190, Q_NB197_208, Q_NB208_197, Q_BK208_e7, Q_X6_⟩ hb_ hon hoff
                refine ⟨_, rfl, fun K hK => ?_⟩
                have e6 : a.tmps[6]? = some (m6_) := by rw [ha]; exact putSel_on (e := (6, 6, m6_)) 4 rfl rfl (hon 6 (by kernel_rfl)) rfl
                rw [Q_X6_ (hon 6 (by kernel_rfl))] at e6
                have e117 : a.tmps[117]? = some (.agg #[.int .i64 t206, .int .u64 t207]) := by rw [ha]; exact putSel_on (e := (5, 117, .agg #[.int .i64 t206, .int .u64 t207])) 3 rfl rfl (hon 5 (by kernel_rfl)) rfl
                replace ha := zp.mk ha
                have BK190 := zp.mk Q_BK190
                have BK197 := zp.mk Q_BK197
                have HB := zp.mk Q_HB
                have BK208 := zp.mk (Q_BK208 (hon 6 (by kernel_rfl)) hb_)
                have GW208 := zp.mk (Q_GW208 (hon 6 (by kernel_rfl)))
                have GE208 := zp.mk (Q_GE208 (hon 6 (by kernel_rfl)))
                have NB190_208 := zp.mk (Q_NB190_208 (hon 6 (by kernel_rfl)))
                have NB208_190 := zp.mk (Q_NB208_190 (hon 6 (by kernel_rfl)))
                have NB197_208 := zp.mk (Q_NB197_208 (hon 6 (by kernel_rfl)))
                have NB208_197 := zp.mk (Q_NB208_197 (hon 6 (by kernel_rfl)))
                have hs108 : w'.cell? ⟨gb208, 0, none⟩ = some (.int .i64 0) := (ze BK208.out 0).trans rfl
                have hfs108 := zd BK208.out 0
                have hns108_0 := NB190_208.out
                have hns108_1 := NB197_208.out
                have hms108_0 := NB208_190.out
                have hms108_1 := NB208_197.out
                have hs109 : w'.cell? ⟨gb208, 1, none⟩ = some (.int .u64 0) := (ze BK208.out 1).trans rfl
                have hfs109 := zd BK208.out 1
                have hns109_0 := NB190_208.out
                have hns109_1 := NB197_208.out
                have hms109_0 := NB208_190.out
                have hms109_1 := NB208_197.out
                refine skip_ (w1 := ?_) (by rfl) rfl ?_ ?_
                rotate_left
                ·go_simp
                 rfl
                refine hK.out _ _ ⟨gb208, m6_, (by rw [ha.out]; exact putSel_none (v := undef) rfl), (by (with_reducible repeat (first | refine zf ?_ _ | refine zi ?_ | refine zg ?_ _)); refine blk_far ?_ NB190_208.out _; (with_reducible repeat (first | refine zf ?_ _ | refine zi ?_ | refine zg ?_ _)); refine blk_far ?_ NB190_208.out _; (with_reducible repeat (first | refine zf ?_ _ | refine zi ?_ | refine zg ?_ _)); exact BK190.out), (by (with_reducible repeat (first | refine zf ?_ _ | refine zi ?_ | refine zg ?_ _)); refine blk_far ?_ NB197_208.out _; (with_reducible repeat (first | refine zf ?_ _ | refine zi ?_ | refine zg ?_ _)); refine blk_far ?_ NB197_208.out _; (with_reducible repeat (first | refine zf ?_ _ | refine zi ?_ | refine zg ?_ _)); exact BK197.out), (zv7 HB.out), fun _ h1_ => absurd ((up_self b 7).symm.trans h1_) (by decide), fun _ => GW208.out, fun _ => GE208.out, fun _ => NB190_208.out, fun _ => NB208_190.out, fun _ => NB197_208.out, fun _ => NB208_197.out, fun _ => (by (with_reducible repeat (first | refine zf ?_ _ | refine zi ?_ | refine zg ?_ _)); refine blk_put (cs := #[.int .i64 t206, .int .u64 0]) ?_ 1 _ rfl; (with_reducible repeat (first | refine zf ?_ _ | refine zi ?_ | refine zg ?_ _)); refine blk_put (cs := #[.int .i64 0, .int .u64 0]) ?_ 0 _ rfl; (with_reducible repeat (first | refine zf ?_ _ | refine zi ?_ | refine zg ?_ _)); exact BK208.out), Q_X6_⟩
               exact steps_nil
              rintro b a w109 hall ⟨gb208, m6_, ha, Q_BK190, Q_BK197, Q_HB, Q_BK208, Q_GW208, Q_GE208, Q_NB190_208, Q_NB208_190, Q_NB197_208, Q_NB208_197, Q_BK208_e7, Q_X6_⟩
              clear BK190 BK197 HB
              have hb0_ := hall 0 (by kernel_rfl)
              have hb3_ := hall 3 (by kernel_rfl)
              have hb4_ := hall 4 (by kernel_rfl)
              have hb5_ := hall 5 (by kernel_rfl)
              have hb6_ := hall 6 (by kernel_rfl)
              have hb7_ := hall 7 (by kernel_rfl)
              subst ha
              obtain rfl := Q_X6_ hb6_
              simp only [putSel, hb0_, hb3_, hb4_, hb5_, hb6_, hb7_, if_true, Act.put, zs1, zs2, zs3]
              have BK190 := zp.mk Q_BK190
              clear Q_BK190
              have BK197 := zp.mk Q_BK197
              clear Q_BK197
              have HB := zp.mk Q_HB
              clear Q_HB
              clear Q_BK208
              have GW208 := zp.mk (Q_GW208 hb6_)
              clear Q_GW208
              have GE208 := zp.mk (Q_GE208 hb6_)
              clear Q_GE208
              have NB190_208 := zp.mk (Q_NB190_208 hb6_)
              clear Q_NB190_208
              have NB208_190 := zp.mk (Q_NB208_190 hb6_)
              clear Q_NB208_190
              have NB197_208 := zp.mk (Q_NB197_208 hb6_)
              clear Q_NB197_208
              have NB208_197 := zp.mk (Q_NB208_197 hb6_)
              clear Q_NB208_197
              have BK208 := zp.mk (Q_BK208_e7 hb7_)
              clear Q_BK208_e7
              clear hall hb0_ hb3_ hb4_ hb5_ hb6_ hb7_
              try go_wp2
              replace BK190 := zp.mk (zi BK190.out)
              replace BK197 := zp.mk (zi BK197.out)
              replace BK208 := zp.mk (zi BK208.out)
              replace HB := zp.mk (zb HB.out)
              have p213 : 0 ≤ (3 : Int) := (by omega)
              have q213 : 3 < (l0_5.length : Int) := of_decide_eq_true (by first | (with_reducible assumption) | assumption)
              obtain ⟨ad213, e213, hx213_0⟩ := Kd.at_int HR0_5.out 3 p213 q213
              have hw213_0 := hx213_0
              (try rw [show ((3 : Int)).toNat = 3 from rfl] at hw213_0)
              (try rw [show 3 * 1 = 3 from rfl] at hw213_0)
              (try simp only [Nat.reduceMul, Nat.reduceEqDiff, Go.Addr.add, ↓reduceIte] at hw213_0)
              cases e213
              (try simp only [show (3 : Int).toNat = 3 from rfl, Nat.reduceMul, Nat.reduceEqDiff, Go.Addr.add, ↓reduceIte] at hx213_0)
              have qi213 : (3 < l0_5.length) = True := eq_true (by omega)
              (try rw [show ((3 : Int)).toNat = 3 from rfl] at hx213_0)
              replace hx213_0 := (HB.out.cell (World.block_lt_of_cell? w _ hx213_0)).trans hx213_0
              replace p213 := eq_true p213
              replace q213 := eq_true q213
              refine start_ (n := 15) (S := fun w' => True) (ds := []) #[false, false, false, false, false, false, false, false, false, false, false, false, false, false, false] (by kernel_rfl) rfl rfl trivial (fun hHeld => ?_); refine with_tabW spec_AggOk.tab16 spec_AggOk.bits16 (fun HT_ HW_ => ?_)
              generalize w109.drew = w110 at BK190 BK197 BK208 HB hx213_0 hHeld ⊢
              refine pure_ (i := 1) (N := some 119) (v := ?_) (a' := ?_) #[false, true, false, false, false, false, false, false, false, false, false, false, false, false, false] rfl rfl (any_of HT_.out (by kernel_rfl)) (fun _ _ _ h => h) (Or.inl ⟨by rfl, ?_⟩) ?_ ?_
              rotate_left
              ·intro w'
               go_simp
               with_reducible rfl
              rotate_left
              ·simp only [Act.put, zs1, zs2, zs3, i64_w, i32_w]
               rfl
              refine pure_ (i := 5) (N := some 123) (v := ?_) (a' := ?_) #[false, true, false, false, false, true, false, false, false, false, false, false, false, false, false] rfl rfl (any_of HT_.out (by kernel_rfl)) (fun _ _ _ h => h) (Or.inl ⟨by rfl, ?_⟩) ?_ ?_
              rotate_left
              ·intro w'
               go_simp
               with_reducible rfl
              rotate_left
              ·simp only [Act.put, zs1, zs2, zs3, i64_w, i32_w]
               rfl
              refine pure_ (i := 7) (N := some 125) (v := ?_) (a' := ?_) #[false, true, false, false, false, true, false, true, false, false, false, false, false, false, false] rfl rfl (any_of HT_.out (by kernel_rfl)) (fun _ _ _ h => h) (Or.inl ⟨by rfl, ?_⟩) ?_ ?_
              rotate_left
              ·intro w'
               go_simp
               with_reducible rfl
              rotate_left
              ·simp only [Act.put, zs1, zs2, zs3, i64_w, i32_w]
               rfl
              refine inv_at [0, 2, 3, 4, 6, 8, 9, 10, 11, 12, 13, 14] (fun a0_ b a w' => ∃ (gb218 : Nat) (m13_ : Value), a = putSel a0_ b [(0, 118, .agg #[.int .i64 x198000_3, .int .u64 x198001_3]), (2, 120, .int .i64 a0_3), (3, 121, .agg #[.int .i64 t209, .int .u64 t210]), (4, 122, .agg #[.int .i64 t211, .int .u64 t212]), (6, 124, .int .i64 (wrap64 ((wrap64 (a0_0 - (l0_5.length : Int))) - 1))), (8, 126, .slice (some ad213) l0_5.length c0_5), (9, 127, .pointer (some (ad213.add 3))), (10, 128, .int .i64 (rd l0_5 3)), (11, 129, .agg #[.int .i64 t214, .int .u64 t215]), (12, 130, .agg #[.int .i64 t216, .int .u64 t217]), (13, 7, m13_)] ∧ (w'.heap[gb190]? = some (.cells #[.int .i64 a0_0, .int .i64 a0_1, .int .u64 a0_2, .int .i64 a0_3, .int .i64 a0_4, .slice (some ad213) l0_5.length c0_5] 32 (0, 0))) ∧ (w'.heap[gb197]? = some (.cells #[.int .i64 x198000_3, .int .u64 x198001_3] 30 (0, 0))) ∧ (w'.heap[gb208]? = some (.cells #[.int .i64 t206, .int .u64 t207] 30 (0, 0))) ∧ (Below w.heap.size w w') ∧ (b 13 = true → b 14 = false → w'.heap[gb218]? = some (.cells #[.int .i64 0, .int .u64 0] 30 (0, 0))) ∧ (b 13 = true → w.heap.size ≤ gb218) ∧ (b 13 = true → w.heap.size ≤ gb218) ∧ (b 13 = true → gb190 ≠ gb218) ∧ (b 13 = true → gb218 ≠ gb190) ∧ (b 13 = true → gb197 ≠ gb218) ∧ (b 13 = true → gb218 ≠ gb197) ∧ (b 13 = true → gb208 ≠ gb218) ∧ (b 13 = true → gb218 ≠ gb208) ∧ (b 14 = true → w'.heap[gb218]? = some (.cells #[.int .i64 t216, .int .u64 t217] 30 (0, 0))) ∧ (b 13 = true → (m13_ : Value) = .pointer (some ⟨gb218, 0, none⟩))) HT_.out HW_.out (by kernel_rfl) (by kernel_rfl) ?_ ?_ ?_
              ·exact ⟨0, .bool false, by simp only [putSel, Bool.false_eq_true, if_false], BK190.out, BK197.out, BK208.out, HB.out, fun h_ => absurd h_ (by decide), fun h_ => absurd h_ (by decide), fun h_ => absurd h_ (by decide), fun h_ => absurd h_ (by decide), fun h_ => absurd h_ (by decide), fun h_ => absurd h_ (by decide), fun h_ => absurd h_ (by decide), fun h_ => absurd h_ (by decide), fun h_ => absurd h_ (by decide), fun h_ => absurd h_ (by decide), fun h_ => absurd h_ (by decide)⟩
              ·skip
               clear BK190 BK197 BK208 HB
               refine steps_cons ?_ ?_
               ·rintro b a w' ⟨gb218, m13_, ha, Q_BK190, Q_BK197, Q_BK208, Q_HB, Q_BK218, Q_GW218, Q_GE218, Q_NB190_218, Q_NB218_190, Q_NB197_218, Q_NB218_197, Q_NB208_218, Q_NB218_208, Q_BK218_e14, Q_X13_⟩ hb_ hon hoff
                refine ⟨_, rfl, fun K hK => ?_⟩
                have e3 : a.tmps[3]? = some (.pointer (some ⟨gb197, 0, none⟩)) := by rw [ha]; exact (putSel_off rfl).trans rfl
                replace ha := zp.mk ha
                have BK190 := zp.mk Q_BK190
                have BK197 := zp.mk Q_BK197
                have BK208 := zp.mk Q_BK208
                have HB := zp.mk Q_HB
                have hc0_ : w'.cell? ⟨gb197, 0, none⟩ = some (.int .i64 x198000_3) := (ze BK197.out 0).trans rfl
                have hc1_ : w'.cell? ⟨gb197, 1, none⟩ = some (.int .u64 x198001_3) := (ze BK197.out 1).trans rfl
                refine value_ (w1 := w') (v := .agg #[.int .i64 x198000_3, .int .u64 x198001_3]) (by rfl) rfl ?_ ?_
                ·go_simp
                 (try simp only [i64_w])
                 try rfl
                refine hK.out _ _ ⟨gb218, m13_, (by rw [ha.out]; exact putSel_upk 0 hb_ rfl rfl rfl), Q_BK190, Q_BK197, Q_BK208, Q_HB, Q_BK218, Q_GW218, Q_GE218, Q_NB190_218, Q_NB218_190, Q_NB197_218, Q_NB218_197, Q_NB208_218, Q_NB218_208, fun h0_ => absurd ((hoff 14 (by kernel_rfl)).symm.trans h0_) (by decide), Q_X13_⟩
               refine steps_cons ?_ ?_
               ·rintro b a w' ⟨gb218, m13_, ha, Q_BK190, Q_BK197, Q_BK208, Q_HB, Q_BK218, Q_GW218, Q_GE218, Q_NB190_218, Q_NB218_190, Q_NB197_218, Q_NB218_197, Q_NB208_218, Q_NB218_208, Q_BK218_e14, Q_X13_⟩ hb_ hon hoff
                refine ⟨_, rfl, fun K hK => ?_⟩
                have e119 : a.tmps[119]? = some (.pointer (some ⟨gb190, 3, none⟩)) := by rw [ha]; exact (putSel_off rfl).trans rfl
                replace ha := zp.mk ha
                have BK190 := zp.mk Q_BK190
                have BK197 := zp.mk Q_BK197
                have BK208 := zp.mk Q_BK208
                have HB := zp.mk Q_HB
                have hc0_ : w'.cell? ⟨gb190, 0, none⟩ = some (.int .i64 a0_0) := (ze BK190.out 0).trans rfl
                have hc1_ : w'.cell? ⟨gb190, 1, none⟩ = some (.int .i64 a0_1) := (ze BK190.out 1).trans rfl
                have hc2_ : w'.cell? ⟨gb190, 2, none⟩ = some (.int .u64 a0_2) := (ze BK190.out 2).trans rfl
                have hc3_ : w'.cell? ⟨gb190, 3, none⟩ = some (.int .i64 a0_3) := (ze BK190.out 3).trans rfl
                have hc4_ : w'.cell? ⟨gb190, 4, none⟩ = some (.int .i64 a0_4) := (ze BK190.out 4).trans rfl
                have hc5_ : w'.cell? ⟨gb190, 5, none⟩ = some (.slice (some ad213) l0_5.length c0_5) := (ze BK190.out 5).trans rfl
                refine value_ (w1 := w') (v := .int .i64 a0_3) (by rfl) rfl ?_ ?_
                ·go_simp
                 (try simp only [i64_w])
                 try rfl
                refine hK.out _ _ ⟨gb218, m13_, (by rw [ha.out]; exact putSel_upk 1 hb_ rfl rfl rfl), Q_BK190, Q_BK197, Q_BK208, Q_HB, Q_BK218, Q_GW218, Q_GE218, Q_NB190_218, Q_NB218_190, Q_NB197_218, Q_NB218_197, Q_NB208_218, Q_NB218_208, fun h0_ => absurd ((hoff 14 (by kernel_rfl)).symm.trans h0_) (by decide), Q_X13_⟩
               refine steps_cons ?_ ?_
               ·rintro b a w' ⟨gb218, m13_, ha, Q_BK190, Q_BK197, Q_BK208, Q_HB, Q_BK218, Q_GW218, Q_GE218, Q_NB190_218, Q_NB218_190, Q_NB197_218, Q_NB218_197, Q_NB208_218, Q_NB218_208, Q_BK218_e14, Q_X13_⟩ hb_ hon hoff
                refine ⟨_, rfl, fun K hK => ?_⟩
                have e120 : a.tmps[120]? = some (.int .i64 a0_3) := by rw [ha]; exact putSel_on (e := (2, 120, .int .i64 a0_3)) 1 rfl rfl (hon 2 (by kernel_rfl)) rfl
                replace ha := zp.mk ha
                have BK190 := zp.mk Q_BK190
                have BK197 := zp.mk Q_BK197
                have BK208 := zp.mk Q_BK208
                have HB := zp.mk Q_HB
                refine goes_ Try.func30 (by kernel_rfl) rfl #[.int .i64 a0_3] (by rfl) rfl rfl (by first | (simp only [List.map_toArray, List.map_cons, List.map_nil, Act.eval, Array.getD_eq_getD_getElem?, Option.getD_some, e120]; done) | (simp only [List.map_toArray, List.map_cons, List.map_nil, Act.eval, Array.getD_eq_getD_getElem?, Option.getD_some, e120]; rfl)) ?_
                with_reducible refine (spec_WideOf.calls a0_3 t209 t210 _ A64.out).mono ?_
                rintro e w111 ⟨rfl, hb⟩
                refine ⟨_, rfl, ?_⟩
                replace BK190 := zp.mk (zl (zv8 BK190.out) hb)
                replace BK197 := zp.mk (zl (zv8 BK197.out) hb)
                replace BK208 := zp.mk (zl (zv8 BK208.out) hb)
                replace HB := zp.mk (zj (zv7 HB.out) hb); have z_BK218 := fun (h0_ : b 13 = true) (h1_ : b 14 = false) => (show w111.heap[gb218]? = some (.cells #[.int .i64 0, .int .u64 0] 30 (0, 0)) from by first | exact (zl (g := gb218) (o := .cells #[.int .i64 0, .int .u64 0] 30 (0, 0)) (by (with_reducible repeat (first | refine zf ?_ _ | refine zi ?_ | refine zg ?_ _)); exact (Q_BK218 h0_ h1_)) hb))
                (try clear hb)
                (try clear hb2)
                (try clear hk)
                (try clear hi)
                refine hK.out _ _ ⟨gb218, m13_, (by rw [ha.out]; exact putSel_upk 2 hb_ rfl rfl rfl), (zv8 BK190.out), (zv8 BK197.out), (zv8 BK208.out), (zv7 HB.out), z_BK218, Q_GW218, Q_GE218, Q_NB190_218, Q_NB218_190, Q_NB197_218, Q_NB218_197, Q_NB208_218, Q_NB218_208, fun h0_ => absurd ((hoff 14 (by kernel_rfl)).symm.trans h0_) (by decide), Q_X13_⟩
               refine steps_cons ?_ ?_
               ·rintro b a w' ⟨gb218, m13_, ha, Q_BK190, Q_BK197, Q_BK208, Q_HB, Q_BK218, Q_GW218, Q_GE218, Q_NB190_218, Q_NB218_190, Q_NB197_218, Q_NB218_197, Q_NB208_218, Q_NB218_208, Q_BK218_e14, Q_X13_⟩ hb_ hon hoff
                refine ⟨_, rfl, fun K hK => ?_⟩
                have e118 : a.tmps[118]? = some (.agg #[.int .i64 x198000_3, .int .u64 x198001_3]) := by rw [ha]; exact putSel_on (e := (0, 118, .agg #[.int .i64 x198000_3, .int .u64 x198001_3])) 0 rfl rfl (hon 0 (by kernel_rfl)) rfl
                have e121 : a.tmps[121]? = some (.agg #[.int .i64 t209, .int .u64 t210]) := by rw [ha]; exact putSel_on (e := (3, 121, .agg #[.int .i64 t209, .int .u64 t210])) 2 rfl rfl (hon 3 (by kernel_rfl)) rfl
                replace ha := zp.mk ha
                have BK190 := zp.mk Q_BK190
                have BK197 := zp.mk Q_BK197
                have BK208 := zp.mk Q_BK208
                have HB := zp.mk Q_HB
                refine goes_ Try.func29 (by kernel_rfl) rfl #[.agg #[.int .i64 x198000_3, .int .u64 x198001_3], .agg #[.int .i64 t209, .int .u64 t210]] (by rfl) rfl rfl (by first | (simp only [List.map_toArray, List.map_cons, List.map_nil, Act.eval, Array.getD_eq_getD_getElem?, Option.getD_some, e118, e121]; done) | (simp only [List.map_toArray, List.map_cons, List.map_nil, Act.eval, Array.getD_eq_getD_getElem?, Option.getD_some, e118, e121]; rfl)) ?_
                with_reducible refine (spec_WideAdd.calls x198000_3 x198001_3 t209 t210 t211 t212 _ A65.out).mono ?_
                rintro e w113 ⟨rfl, hb⟩
                refine ⟨_, rfl, ?_⟩
                replace BK190 := zp.mk (zl (zv8 BK190.out) hb)
                replace BK197 := zp.mk (zl (zv8 BK197.out) hb)
                replace BK208 := zp.mk (zl (zv8 BK208.out) hb)
                replace HB := zp.mk (zj (zv7 HB.out) hb); have z_BK218 := fun (h0_ : b 13 = true) (h1_ : b 14 = false) => (show w113.heap[gb218]? = some (.cells #[.int .i64 0, .int .u64 0] 30 (0, 0)) from by first | exact (zl (g := gb218) (o := .cells #[.int .i64 0, .int .u64 0] 30 (0, 0)) (by (with_reducible repeat (first | refine zf ?_ _ | refine zi ?_ | refine zg ?_ _)); exact (Q_BK218 h0_ h1_)) hb))
                (try clear hb)
                (try clear hb2)
                (try clear hk)
                (try clear hi)
                refine hK.out _ _ ⟨gb218, m13_, (by rw [ha.out]; exact putSel_upk 3 hb_ rfl rfl rfl), (zv8 BK190.out), (zv8 BK197.out), (zv8 BK208.out), (zv7 HB.out), z_BK218, Q_GW218, Q_GE218, Q_NB190_218, Q_NB218_190, Q_NB197_218, Q_NB218_197, Q_NB208_218, Q_NB218_208, fun h0_ => absurd ((hoff 14 (by kernel_rfl)).symm.trans h0_) (by decide), Q_X13_⟩
               refine steps_cons ?_ ?_
               ·rintro b a w' ⟨gb218, m13_, ha, Q_BK190, Q_BK197, Q_BK208, Q_HB, Q_BK218, Q_GW218, Q_GE218, Q_NB190_218, Q_NB218_190, Q_NB197_218, Q_NB218_197, Q_NB208_218, Q_NB218_208, Q_BK218_e14, Q_X13_⟩ hb_ hon hoff
                refine ⟨_, rfl, fun K hK => ?_⟩
                have e123 : a.tmps[123]? = some (.int .i64 (wrap64 (a0_0 - (l0_5.length : Int)))) := by rw [ha]; exact (putSel_off rfl).trans rfl
                replace ha := zp.mk ha
                have BK190 := zp.mk Q_BK190
                have BK197 := zp.mk Q_BK197
                have BK208 := zp.mk Q_BK208
                have HB := zp.mk Q_HB
                refine value_ (w1 := w') (v := .int .i64 (wrap64 ((wrap64 (a0_0 - (l0_5.length : Int))) - 1))) (by rfl) rfl ?_ ?_
                ·go_simp
                 (try simp only [i64_w])
                 try rfl
                refine hK.out _ _ ⟨gb218, m13_, (by rw [ha.out]; exact putSel_upk 4 hb_ rfl rfl rfl), Q_BK190, Q_BK197, Q_BK208, Q_HB, Q_BK218, Q_GW218, Q_GE218, Q_NB190_218, Q_NB218_190, Q_NB197_218, Q_NB218_197, Q_NB208_218, Q_NB218_208, fun h0_ => absurd ((hoff 14 (by kernel_rfl)).symm.trans h0_) (by decide), Q_X13_⟩
               refine steps_cons ?_ ?_
               ·rintro b a w' ⟨gb218, m13_, ha, Q_BK190, Q_BK197, Q_BK208, Q_HB, Q_BK218, Q_GW218, Q_GE218, Q_NB190_218, Q_NB218_190, Q_NB197_218, Q_NB218_197, Q_NB208_218, Q_NB218_208, Q_BK218_e14, Q_X13_⟩ hb_ hon hoff
                refine ⟨_, rfl, fun K hK => ?_⟩
                have e125 : a.tmps[125]? = some (.pointer (some ⟨gb190, 5, none⟩)) := by rw [ha]; exact (putSel_off rfl).trans rfl
                replace ha := zp.mk ha
                have BK190 := zp.mk Q_BK190
                have BK197 := zp.mk Q_BK197
                have BK208 := zp.mk Q_BK208
                have HB := zp.mk Q_HB
                have hc0_ : w'.cell? ⟨gb190, 0, none⟩ = some (.int .i64 a0_0) := (ze BK190.out 0).trans rfl
                have hc1_ : w'.cell? ⟨gb190, 1, none⟩ = some (.int .i64 a0_1) := (ze BK190.out 1).trans rfl
                have hc2_ : w'.cell? ⟨gb190, 2, none⟩ = some (.int .u64 a0_2) := (ze BK190.out 2).trans rfl
                have hc3_ : w'.cell? ⟨gb190, 3, none⟩ = some (.int .i64 a0_3) := (ze BK190.out 3).trans rfl
                have hc4_ : w'.cell? ⟨gb190, 4, none⟩ = some (.int .i64 a0_4) := (ze BK190.out 4).trans rfl
                have hc5_ : w'.cell? ⟨gb190, 5, none⟩ = some (.slice (some ad213) l0_5.length c0_5) := (ze BK190.out 5).trans rfl
                refine value_ (w1 := w') (v := .slice (some ad213) l0_5.length c0_5) (by rfl) rfl ?_ ?_
                ·go_simp
                 (try simp only [i64_w])
                 try rfl
                refine hK.out _ _ ⟨gb218, m13_, (by rw [ha.out]; exact putSel_upk 5 hb_ rfl rfl rfl), Q_BK190, Q_BK197, Q_BK208, Q_HB, Q_BK218, Q_GW218, Q_GE218, Q_NB190_218, Q_NB218_190, Q_NB197_218, Q_NB218_197, Q_NB208_218, Q_NB218_208, fun h0_ => absurd ((hoff 14 (by kernel_rfl)).symm.trans h0_) (by decide), Q_X13_⟩
               refine steps_cons ?_ ?_
               ·rintro b a w' ⟨gb218, m13_, ha, Q_BK190, Q_BK197, Q_BK208, Q_HB, Q_BK218, Q_GW218, Q_GE218, Q_NB190_218, Q_NB218_190, Q_NB197_218, Q_NB218_197, Q_NB208_218, Q_NB218_208, Q_BK218_e14, Q_X13_⟩ hb_ hon hoff
                refine ⟨_, rfl, fun K hK => ?_⟩
                have e126 : a.tmps[126]? = some (.slice (some ad213) l0_5.length c0_5) := by rw [ha]; exact putSel_on (e := (8, 126, .slice (some ad213) l0_5.length c0_5)) 5 rfl rfl (hon 8 (by kernel_rfl)) rfl
                replace ha := zp.mk ha
                have BK190 := zp.mk Q_BK190
                have BK197 := zp.mk Q_BK197
                have BK208 := zp.mk Q_BK208
                have HB := zp.mk Q_HB
                have hs0_ : w'.cell? ⟨ad213.block, ad213.off + 3, none⟩ = some (.int .i64 (rd l0_5 3)) := ((HB.out.cell (World.block_lt_of_cell? w _ hw213_0)).trans hw213_0)
                refine value_ (w1 := w') (v := .pointer (some (ad213.add 3))) (by rfl) rfl ?_ ?_
                ·go_simp
                 (try simp only [i64_w])
                 try rfl
                refine hK.out _ _ ⟨gb218, m13_, (by rw [ha.out]; exact putSel_upk 6 hb_ rfl rfl rfl), Q_BK190, Q_BK197, Q_BK208, Q_HB, Q_BK218, Q_GW218, Q_GE218, Q_NB190_218, Q_NB218_190, Q_NB197_218, Q_NB218_197, Q_NB208_218, Q_NB218_208, fun h0_ => absurd ((hoff 14 (by kernel_rfl)).symm.trans h0_) (by decide), Q_X13_⟩
               refine steps_cons ?_ ?_
               ·rintro b a w' ⟨gb218, m13_, ha, Q_BK190, Q_BK197, Q_BK208, Q_HB, Q_BK218, Q_GW218, Q_GE218, Q_NB190_218, Q_NB218_190, Q_NB197_218, Q_NB218_197, Q_NB208_218, Q_NB218_208, Q_BK218_e14, Q_X13_⟩ hb_ hon hoff
                refine ⟨_, rfl, fun K hK => ?_⟩
                have e127 : a.tmps[127]? = some (.pointer (some (ad213.add 3))) := by rw [ha]; exact putSel_on (e := (9, 127, .pointer (some (ad213.add 3)))) 6 rfl rfl (hon 9 (by kernel_rfl)) rfl
                replace ha := zp.mk ha
                have BK190 := zp.mk Q_BK190
                have BK197 := zp.mk Q_BK197
                have BK208 := zp.mk Q_BK208
                have HB := zp.mk Q_HB
                have hs0_ : w'.cell? ⟨ad213.block, ad213.off + 3, none⟩ = some (.int .i64 (rd l0_5 3)) := ((HB.out.cell (World.block_lt_of_cell? w _ hw213_0)).trans hw213_0)
                refine value_ (w1 := w') (v := .int .i64 (rd l0_5 3)) (by rfl) rfl ?_ ?_
                ·go_simp
                 (try simp only [i64_w])
                 try rfl
                refine hK.out _ _ ⟨gb218, m13_, (by rw [ha.out]; exact putSel_upk 7 hb_ rfl rfl rfl), Q_BK190, Q_BK197, Q_BK208, Q_HB, Q_BK218, Q_GW218, Q_GE218, Q_NB190_218, Q_NB218_190, Q_NB197_218, Q_NB218_197, Q_NB208_218, Q_NB218_208, fun h0_ => absurd ((hoff 14 (by kernel_rfl)).symm.trans h0_) (by decide), Q_X13_⟩
               refine steps_cons ?_ ?_
               ·rintro b a w' ⟨gb218, m13_, ha, Q_BK190, Q_BK197, Q_BK208, Q_HB, Q_BK218, Q_GW218, Q_GE218, Q_NB190_218, Q_NB218_190, Q_NB197_218, Q_NB218_197, Q_NB208_218, Q_NB218_208, Q_BK218_e14, Q_X13_⟩ hb_ hon hoff
                refine ⟨_, rfl, fun K hK => ?_⟩
                have e124 : a.tmps[124]? = some (.int .i64 (wrap64 ((wrap64 (a0_0 - (l0_5.length : Int))) - 1))) := by rw [ha]; exact putSel_on (e := (6, 124, .int .i64 (wrap64 ((wrap64 (a0_0 - (l0_5.length : Int))) - 1)))) 4 rfl rfl (hon 6 (by kernel_rfl)) rfl
                have e128 : a.tmps[128]? = some (.int .i64 (rd l0_5 3)) := by rw [ha]; exact putSel_on (e := (10, 128, .int .i64 (rd l0_5 3))) 7 rfl rfl (hon 10 (by kernel_rfl)) rfl
                replace ha := zp.mk ha
                have BK190 := zp.mk Q_BK190
                have BK197 := zp.mk Q_BK197
                have BK208 := zp.mk Q_BK208
                have HB := zp.mk Q_HB
                refine goes_ Try.func31 (by kernel_rfl) rfl #[.int .i64 (wrap64 ((wrap64 (a0_0 - (l0_5.length : Int))) - 1)), .int .i64 (rd l0_5 3)] (by rfl) rfl rfl (by first | (simp only [List.map_toArray, List.map_cons, List.map_nil, Act.eval, Array.getD_eq_getD_getElem?, Option.getD_some, e124, e128]; done) | (simp only [List.map_toArray, List.map_cons, List.map_nil, Act.eval, Array.getD_eq_getD_getElem?, Option.getD_some, e124, e128]; rfl)) ?_
                with_reducible refine (spec_l07Times.calls k3 (wrap64 ((wrap64 (a0_0 - (l0_5.length : Int))) - 1)) (rd l0_5 3) t214 t215 _ A67.out).mono ?_
                rintro e w114 ⟨rfl, hb⟩
                refine ⟨_, rfl, ?_⟩
                replace BK190 := zp.mk (zl (zv8 BK190.out) hb)
                replace BK197 := zp.mk (zl (zv8 BK197.out) hb)
                replace BK208 := zp.mk (zl (zv8 BK208.out) hb)
                replace HB := zp.mk (zj (zv7 HB.out) hb); have z_BK218 := fun (h0_ : b 13 = true) (h1_ : b 14 = false) => (show w114.heap[gb218]? = some (.cells #[.int .i64 0, .int .u64 0] 30 (0, 0)) from by first | exact (zl (g := gb218) (o := .cells #[.int .i64 0, .int .u64 0] 30 (0, 0)) (by (with_reducible repeat (first | refine zf ?_ _ | refine zi ?_ | refine zg ?_ _)); exact (Q_BK218 h0_ h1_)) hb))
                (try clear hb)
                (try clear hb2)
                (try clear hk)
                (try clear hi)
                refine hK.out _ _ ⟨gb218, m13_, (by rw [ha.out]; exact putSel_upk 8 hb_ rfl rfl rfl), (zv8 BK190.out), (zv8 BK197.out), (zv8 BK208.out), (zv7 HB.out), z_BK218, Q_GW218, Q_GE218, Q_NB190_218, Q_NB218_190, Q_NB197_218, Q_NB218_197, Q_NB208_218, Q_NB218_208, fun h0_ => absurd ((hoff 14 (by kernel_rfl)).symm.trans h0_) (by decide), Q_X13_⟩
               refine steps_cons ?_ ?_
               ·rintro b a w' ⟨gb218, m13_, ha, Q_BK190, Q_BK197, Q_BK208, Q_HB, Q_BK218, Q_GW218, Q_GE218, Q_NB190_218, Q_NB218_190, Q_NB197_218, Q_NB218_197, Q_NB208_218, Q_NB218_208, Q_BK218_e14, Q_X13_⟩ hb_ hon hoff
                refine ⟨_, rfl, fun K hK => ?_⟩
                have e122 : a.tmps[122]? = some (.agg #[.int .i64 t211, .int .u64 t212]) := by rw [ha]; exact putSel_on (e := (4, 122, .agg #[.int .i64 t211, .int .u64 t212])) 3 rfl rfl (hon 4 (by kernel_rfl)) rfl
                have e129 : a.tmps[129]? = some (.agg #[.int .i64 t214, .int .u64 t215]) := by rw [ha]; exact putSel_on (e := (11, 129, .agg #[.int .i64 t214, .int .u64 t215])) 8 rfl rfl (hon 11 (by kernel_rfl)) rfl
                replace ha := zp.mk ha
                have BK190 := zp.mk Q_BK190
                have BK197 := zp.mk Q_BK197
                have BK208 := zp.mk Q_BK208
                have HB := zp.mk Q_HB
                refine goes_ Try.func29 (by kernel_rfl) rfl #[.agg #[.int .i64 t211, .int .u64 t212], .agg #[.int .i64 t214, .int .u64 t215]] (by rfl) rfl rfl (by first | (simp only [List.map_toArray, List.map_cons, List.map_nil, Act.eval, Array.getD_eq_getD_getElem?, Option.getD_some, e122, e129]; done) | (simp only [List.map_toArray, List.map_cons, List.map_nil, Act.eval, Array.getD_eq_getD_getElem?, Option.getD_some, e122, e129]; rfl)) ?_
                with_reducible refine (spec_WideAdd.calls t211 t212 t214 t215 t216 t217 _ A68.out).mono ?_
                rintro e w115 ⟨rfl, hb⟩
                refine ⟨_, rfl, ?_⟩
                replace BK190 := zp.mk (zl (zv8 BK190.out) hb)
                replace BK197 := zp.mk (zl (zv8 BK197.out) hb)
                replace BK208 := zp.mk (zl (zv8 BK208.out) hb)
                replace HB := zp.mk (zj (zv7 HB.out) hb); have z_BK218 := fun (h0_ : b 13 = true) (h1_ : b 14 = false) => (show w115.heap[gb218]? = some (.cells #[.int .i64 0, .int .u64 0] 30 (0, 0)) from by first | exact (zl (g := gb218) (o := .cells #[.int .i64 0, .int .u64 0] 30 (0, 0)) (by (with_reducible repeat (first | refine zf ?_ _ | refine zi ?_ | refine zg ?_ _)); exact (Q_BK218 h0_ h1_)) hb))
                (try clear hb)
                (try clear hb2)
                (try clear hk)
                (try clear hi)
                refine hK.out _ _ ⟨gb218, m13_, (by rw [ha.out]; exact putSel_upk 9 hb_ rfl rfl rfl), (zv8 BK190.out), (zv8 BK197.out), (zv8 BK208.out), (zv7 HB.out), z_BK218, Q_GW218, Q_GE218, Q_NB190_218, Q_NB218_190, Q_NB197_218, Q_NB218_197, Q_NB208_218, Q_NB218_208, fun h0_ => absurd ((hoff 14 (by kernel_rfl)).symm.trans h0_) (by decide), Q_X13_⟩
               refine steps_cons ?_ ?_
               ·rintro b a w' ⟨gb218, m13_, ha, Q_BK190, Q_BK197, Q_BK208, Q_HB, Q_BK218, Q_GW218, Q_GE218, Q_NB190_218, Q_NB218_190, Q_NB197_218, Q_NB218_197, Q_NB208_218, Q_NB218_208, Q_BK218_e14, Q_X13_⟩ hb_ hon hoff
                refine ⟨_, rfl, fun K hK => ?_⟩
                replace ha := zp.mk ha
                have BK190 := zp.mk Q_BK190
                have BK197 := zp.mk Q_BK197
                have BK208 := zp.mk Q_BK208
                have HB := zp.mk Q_HB
                refine box_step ?hg (N := 7) ?hd (cs := #[.int .i64 0, .int .u64 0]) (t := 30) ?hr ?_; (case hd => rfl); (case hg => rfl); (case hr => first | (go_simp; done) | (go_simp; rfl))
                intro gb218 hg w111 hbox hb
                have BK218 := zp.mk (hbox)
                have GW218 := zp.mk ((zv3 (zv7 HB.out) hg))
                have GE218 := zp.mk ((zv3 (zv7 HB.out) hg))
                have NB190_218 := zp.mk ((by rw [hg]; exact Nat.ne_of_lt (blk_lt (g := gb190) (o := .cells #[.int .i64 a0_0, .int .i64 a0_1, .int .u64 a0_2, .int .i64 a0_3, .int .i64 a0_4, .slice (some ad213) l0_5.length c0_5] 32 (0, 0)) (zv8 BK190.out)) : gb190 ≠ gb218))
                have NB218_190 := zp.mk ((by rw [hg]; exact Nat.ne_of_gt (blk_lt (g := gb190) (o := .cells #[.int .i64 a0_0, .int .i64 a0_1, .int .u64 a0_2, .int .i64 a0_3, .int .i64 a0_4, .slice (some ad213) l0_5.length c0_5] 32 (0, 0)) (zv8 BK190.out)) : gb218 ≠ gb190))
                have NB197_218 := zp.mk ((by rw [hg]; exact Nat.ne_of_lt (blk_lt (g := gb197) (o := .cells #[.int .i64 x198000_3, .int .u64 x198001_3] 30 (0, 0)) (zv8 BK197.out)) : gb197 ≠ gb218))
                have NB218_197 := zp.mk ((by rw [hg]; exact Nat.ne_of_gt (blk_lt (g := gb197) (o := .cells #[.int .i64 x198000_3, .int .u64 x198001_3] 30 (0, 0)) (zv8 BK197.out)) : gb218 ≠ gb197))
                have NB208_218 := zp.mk ((by rw [hg]; exact Nat.ne_of_lt (blk_lt (g := gb208) (o := .cells #[.int .i64 t206, .int .u64 t207] 30 (0, 0)) (zv8 BK208.out)) : gb208 ≠ gb218))
                have NB218_208 := zp.mk ((by rw [hg]; exact Nat.ne_of_gt (blk_lt (g := gb208) (o := .cells #[.int .i64 t206, .int .u64 t207] 30 (0, 0)) (zv8 BK208.out)) : gb218 ≠ gb208))
                replace BK190 := zp.mk (zl (zv8 BK190.out) hb)
                replace BK197 := zp.mk (zl (zv8 BK197.out) hb)
                replace BK208 := zp.mk (zl (zv8 BK208.out) hb)
                replace HB := zp.mk (zj (zv7 HB.out) hb)
                clear hb hbox hg
                refine hK.out _ _ ⟨gb218, (.pointer (some ⟨gb218, 0, none⟩)), (by rw [ha.out]; exact putSel_upk 10 hb_ rfl rfl rfl), (zv8 BK190.out), (zv8 BK197.out), (zv8 BK208.out), (zv7 HB.out), fun _ _ => (zv8 BK218.out), fun _ => GW218.out, fun _ => GE218.out, fun _ => NB190_218.out, fun _ => NB218_190.out, fun _ => NB197_218.out, fun _ => NB218_197.out, fun _ => NB208_218.out, fun _ => NB218_208.out, fun h0_ => absurd ((hoff 14 (by kernel_rfl)).symm.trans h0_) (by decide), fun _ => rfl⟩
               refine steps_cons ?_ ?_
               ·rintro b a w' ⟨gb218, m13_, ha, Q_BK190, Q_BK197, Q_BK208, Q_HB, Q_BK218, Q_GW218, Q_GE218, Q_NB190_218, Q_NB218_190, Q_NB197_218, Q_NB218_197, Q_NB208_218, Q_NB218_208, Q_BK218_e14, Q_X13_⟩ hb_ hon hoff
                refine ⟨_, rfl, fun K hK => ?_⟩
                have e7 : a.tmps[7]? = some (m13_) := by rw [ha]; exact putSel_on (e := (13, 7, m13_)) 10 rfl rfl (hon 13 (by kernel_rfl)) rfl
                rw [Q_X13_ (hon 13 (by kernel_rfl))] at e7
                have e130 : a.tmps[130]? = some (.agg #[.int .i64 t216, .int .u64 t217]) := by rw [ha]; exact putSel_on (e := (12, 130, .agg #[.int .i64 t216, .int .u64 t217])) 9 rfl rfl (hon 12 (by kernel_rfl)) rfl
                replace ha := zp.mk ha
                have BK190 := zp.mk Q_BK190
                have BK197 := zp.mk Q_BK197
                have BK208 := zp.mk Q_BK208
                have HB := zp.mk Q_HB
                have BK218 := zp.mk (Q_BK218 (hon 13 (by kernel_rfl)) hb_)
                have GW218 := zp.mk (Q_GW218 (hon 13 (by kernel_rfl)))
                have GE218 := zp.mk (Q_GE218 (hon 13 (by kernel_rfl)))
                have NB190_218 := zp.mk (Q_NB190_218 (hon 13 (by kernel_rfl)))
                have NB218_190 := zp.mk (Q_NB218_190 (hon 13 (by kernel_rfl)))
                have NB197_218 := zp.mk (Q_NB197_218 (hon 13 (by kernel_rfl)))
                have NB218_197 := zp.mk (Q_NB218_197 (hon 13 (by kernel_rfl)))
                have NB208_218 := zp.mk (Q_NB208_218 (hon 13 (by kernel_rfl)))
                have NB218_208 := zp.mk (Q_NB218_208 (hon 13 (by kernel_rfl)))
                have hs117 : w'.cell? ⟨gb218, 0, none⟩ = some (.int .i64 0) := (ze BK218.out 0).trans rfl
                have hfs117 := zd BK218.out 0
                have hns117_0 := NB190_218.out
                have hns117_1 := NB197_218.out
                have hns117_2 := NB208_218.out
                have hms117_0 := NB218_190.out
                have hms117_1 := NB218_197.out
                have hms117_2 := NB218_208.out
                have hs118 : w'.cell? ⟨gb218, 1, none⟩ = some (.int .u64 0) := (ze BK218.out 1).trans rfl
                have hfs118 := zd BK218.out 1
                have hns118_0 := NB190_218.out
                have hns118_1 := NB197_218.out
                have hns118_2 := NB208_218.out
                have hms118_0 := NB218_190.out
                have hms118_1 := NB218_197.out
                have hms118_2 := NB218_208.out
                refine skip_ (w1 := ?_) (by rfl) rfl ?_ ?_
                rotate_left
                ·go_simp
                 rfl
                refine hK.out _ _ ⟨gb218, m13_, (by rw [ha.out]; exact putSel_none (v := undef) rfl), (by (with_reducible repeat (first | refine zf ?_ _ | refine zi ?_ | refine zg ?_ _)); refine blk_far ?_ NB190_218.out _; (with_reducible repeat (first | refine zf ?_ _ | refine zi ?_ | refine zg ?_ _)); refine blk_far ?_ NB190_218.out _; (with_reducible repeat (first | refine zf ?_ _ | refine zi ?_ | refine zg ?_ _)); exact BK190.out), (by (with_reducible repeat (first | refine zf ?_ _ | refine zi ?_ | refine zg ?_ _)); refine blk_far ?_ NB197_218.out _; (with_reducible repeat (first | refine zf ?_ _ | refine zi ?_ | refine zg ?_ _)); refine blk_far ?_ NB197_218.out _; (with_reducible repeat (first | refine zf ?_ _ | refine zi ?_ | refine zg ?_ _)); exact BK197.out), (by (with_reducible repeat (first | refine zf ?_ _ | refine zi ?_ | refine zg ?_ _)); refine blk_far ?_ NB208_218.out _; (with_reducible repeat (first | refine zf ?_ _ | refine zi ?_ | refine zg ?_ _)); refine blk_far ?_ NB208_218.out _; (with_reducible repeat (first | refine zf ?_ _ | refine zi ?_ | refine zg ?_ _)); exact BK208.out), (zv7 HB.out), fun _ h1_ => absurd ((up_self b 14).symm.trans h1_) (by decide), fun _ => GW218.out, fun _ => GE218.out, fun _ => NB190_218.out, fun _ => NB218_190.out, fun _ => NB197_218.out, fun _ => NB218_197.out, fun _ => NB208_218.out, fun _ => NB218_208.out, fun _ => (by (with_reducible repeat (first | refine zf ?_ _ | refine zi ?_ | refine zg ?_ _)); refine blk_put (cs := #[.int .i64 t216, .int .u64 0]) ?_ 1 _ rfl; (with_reducible repeat (first | refine zf ?_ _ | refine zi ?_ | refine zg ?_ _)); refine blk_put (cs := #[.int .i64 0, .int .u64 0]) ?_ 0 _ rfl; (with_reducible repeat (first | refine zf ?_ _ | refine zi ?_ | refine zg ?_ _)); exact BK218.out), Q_X13_⟩
               exact steps_nil
              rintro b a w118 hall ⟨gb218, m13_, ha, Q_BK190, Q_BK197, Q_BK208, Q_HB, Q_BK218, Q_GW218, Q_GE218, Q_NB190_218, Q_NB218_190, Q_NB197_218, Q_NB218_197, Q_NB208_218, Q_NB218_208, Q_BK218_e14, Q_X13_⟩
              clear BK190 BK197 BK208 HB
              have hb0_ := hall 0 (by kernel_rfl)
              have hb2_ := hall 2 (by kernel_rfl)
              have hb3_ := hall 3 (by kernel_rfl)
              have hb4_ := hall 4 (by kernel_rfl)
              have hb6_ := hall 6 (by kernel_rfl)
              have hb8_ := hall 8 (by kernel_rfl)
              have hb9_ := hall 9 (by kernel_rfl)
              have hb10_ := hall 10 (by kernel_rfl)
              have hb11_ := hall 11 (by kernel_rfl)
              have hb12_ := hall 12 (by kernel_rfl)
              have hb13_ := hall 13 (by kernel_rfl)
              have hb14_ := hall 14 (by kernel_rfl)
              subst ha
              obtain rfl := Q_X13_ hb13_
              simp only [putSel, hb0_, hb2_, hb3_, hb4_, hb6_, hb8_, hb9_, hb10_, hb11_, hb12_, hb13_, hb14_, if_true, Act.put, zs1, zs2, zs3]
              have BK190 := zp.mk Q_BK190
              clear Q_BK190
              have BK197 := zp.mk Q_BK197
              clear Q_BK197
              have BK208 := zp.mk Q_BK208
              clear Q_BK208
              have HB := zp.mk Q_HB
              clear Q_HB
              clear Q_BK218
              have GW218 := zp.mk (Q_GW218 hb13_)
              clear Q_GW218
              have GE218 := zp.mk (Q_GE218 hb13_)
              clear Q_GE218
              have NB190_218 := zp.mk (Q_NB190_218 hb13_)
              clear Q_NB190_218
              have NB218_190 := zp.mk (Q_NB218_190 hb13_)
              clear Q_NB218_190
              have NB197_218 := zp.mk (Q_NB197_218 hb13_)
              clear Q_NB197_218
              have NB218_197 := zp.mk (Q_NB218_197 hb13_)
              clear Q_NB218_197
              have NB208_218 := zp.mk (Q_NB208_218 hb13_)
              clear Q_NB208_218
              have NB218_208 := zp.mk (Q_NB218_208 hb13_)
              clear Q_NB218_208
              have BK218 := zp.mk (Q_BK218_e14 hb14_)
              clear Q_BK218_e14
              clear hall hb0_ hb2_ hb3_ hb4_ hb6_ hb8_ hb9_ hb10_ hb11_ hb12_ hb13_ hb14_
              have hnb119 := NB190_208.out
              have hnc119 := NB208_190.out
              have hnb120 := NB190_218.out
              have hnc120 := NB218_190.out
              have y121_0 := zt0 BK190.out
              have y121_1 := zt1 BK190.out
              have y121_2 := zt2 BK190.out
              have y121_3 := zt3 BK190.out
              have y121_4 := zt4 BK190.out
              have y121_5 := zt5 BK190.out
              have u121_0 := zd BK190.out 0
              have u121_1 := zd BK190.out 1
              have u121_2 := zd BK190.out 2
              have u121_3 := zd BK190.out 3
              have u121_4 := zd BK190.out 4
              have u121_5 := zd BK190.out 5
              have hnb122 := NB208_197.out
              have hnc122 := NB197_208.out
              have hnb123 := NB208_218.out
              have hnc123 := NB218_208.out
              have y124_0 := zt0 BK208.out
              have y124_1 := zt1 BK208.out
              have u124_0 := zd BK208.out 0
              have u124_1 := zd BK208.out 1
              try go_wp2_with (first | ((with_reducible refine zn (f := 32) rfl ?_); refine goesL_ (some 134) rfl rfl Try.func32 (by kernel_rfl) rfl #[.agg #[.int .i64 a0_1, .int .u64 a0_2], .agg #[.int .i64 t206, .int .u64 t207]] rfl (by (try simp only [List.map_toArray, List.map_cons, List.map_nil]); first | done | rfl | (simp only [List.length_drop, List.length_take]; rfl)) ?_; (with_reducible refine (spec_WideCmp.calls a0_1 a0_2 t206 t207 t219 _ A69.out).mono ?_); rintro e w125 ⟨rfl, hb⟩; refine ⟨_, rfl, ?_⟩; replace BK190 := zp.mk (zl (zv8 BK190.out) hb); replace BK197 := zp.mk (zl (zv8 BK197.out) hb); replace BK208 := zp.mk (zl (zv8 BK208.out) hb); replace BK218 := zp.mk (zl (zv8 BK218.out) hb); replace HB := zp.mk (zj (zv7 HB.out) hb); (try clear hb); (try clear hb2); (try clear hk); (try clear hi)))
              go_ret
              exact ⟨by first | rfl | (simp [errW_none, errW_some] <;> rfl) | (simp [*, errW_none, errW_some] <;> rfl), zv7 HB.out⟩
            ·rw [if_neg c66] at H
             exact absurd H (by simp)

end Go.Proofs.Ytnnahpmnkpmopaa.QFnExactAggDone
