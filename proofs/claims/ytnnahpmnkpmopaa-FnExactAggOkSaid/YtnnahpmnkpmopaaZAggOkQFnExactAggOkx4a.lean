/- Proved: calls of the program come to the answers of the plain Lean functions that stand beside them. Each contract names its conditions. (Written by a program of this session, over the printer of the kit.) -/
import Derived.Test.YtnnahpmnkpmopaaZAggOkQFnExactAggOkx0
import Derived.Test.YtnnahpmnkpmopaaZAggOkQFnExactAggOkx1
import Derived.Test.YtnnahpmnkpmopaaZAggOkQFnExactAggOkx2
import Derived.Test.YtnnahpmnkpmopaaZAggOkQFnExactAggOkx3
namespace Go.Proofs.Ytnnahpmnkpmopaa.QFnExactAggOk
open Go.RowKit Go.Proofs.YtnnahpmnkpmopaaW.PrintWords Go.Proofs.YtnnahpmnkpmopaaW.PrintLast Go.Proofs.YtnnahpmnkpmopaaW.PrintMore
attribute [local go_sem] max2_int min2_int max_two min_two max_three min_three max_four min_four   -- for this text's walks alone
set_option linter.unusedVariables false
set_option linter.unusedSimpArgs false

attribute [local go_sem high] eqA30
/-! ### spec_AggOk: function 9 -/
mutual
def spec_AggOk.j0 : Nat → Bool → Int → Int → Int → Int → Int → List Int → Option (Bool)
 | 0, _, _, _, _, _, _, _ => none
 | k + 1, x24, x167000, x167001, x167002, x167003, x167004, x167005 => if x24 = true then (some false) else (if x167000 = 0 then (if (x167001 == 0 && (x167002 == 0)) = true then (if x167003 = 0 then (some (x167004 == 0)) else (some false)) else (some false)) else ((spec_TopOf.f k x167005 ([] : List Int)).bind fun t167 => ((spec_l07Same.f k t167 x167005).bind fun t170 => (if t170 = true then (if 0 < (x167005.length : Int) then (if (rd x167005 0) = x167004 then (if 0 ≤ (wrap64 ((x167005.length : Int) - 1)) then (if (wrap64 ((x167005.length : Int) - 1)) < (x167005.length : Int) then (spec_AggOk.j1 k (decide (x167003 > (rd x167005 (wrap64 ((x167005.length : Int) - 1))))) x167000 x167001 x167002 x167003 x167004 x167005) else (none)) else (none)) else (spec_AggOk.j1 k true x167000 x167001 x167002 x167003 x167004 x167005)) else (none)) else (spec_AggOk.j1 k true x167000 x167001 x167002 x167003 x167004 x167005)))))
def spec_AggOk.j1 : Nat → Bool → Int → Int → Int → Int → Int → List Int → Option (Bool)
 | 0, _, _, _, _, _, _, _ => none
 | k + 1, x70, x167000, x167001, x167002, x167003, x167004, x167005 => if x70 = true then (some false) else (spec_AggOk.l0 k 0 x167000 x167001 x167002 x167003 x167004 x167005 0 0)
def spec_AggOk.l0 : Nat → Int → Int → Int → Int → Int → Int → List Int → Int → Int → Option (Bool)
 | 0, _, _, _, _, _, _, _, _, _ => none
 | k + 1, x4, x167000, x167001, x167002, x167003, x167004, x167005, x174000, x174001 => if x4 < (x167005.length : Int) then (if 0 ≤ x4 then ((spec_WideOf.f (rd x167005 x4)).bind fun bt175 => ((spec_WideAdd.f x174000 x174001 bt175.1 bt175.2).bind fun bt177 => (spec_AggOk.l0 k (wrap64 (x4 + 1)) x167000 x167001 x167002 x167003 x167004 x167005 bt177.1 bt177.2))) else (none)) else (if (wrap64 (x167000 - (x167005.length : Int))) = 0 then (if 0 ≤ (wrap64 ((x167005.length : Int) - 1)) then (if (wrap64 ((x167005.length : Int) - 1)) < (x167005.length : Int) then (if x167003 = (rd x167005 (wrap64 ((x167005.length : Int) - 1))) then (some (x167001 == x174000 && (x167002 == x174001))) else (some false)) else (none)) else (none)) else ((spec_l07Times.f k (wrap64 (x167000 - (x167005.length : Int))) x167003).bind fun bt180 => ((spec_WideAdd.f x174000 x174001 bt180.1 bt180.2).bind fun bt182 => ((spec_WideOf.f x167003).bind fun bt185 => ((spec_WideAdd.f x174000 x174001 bt185.1 bt185.2).bind fun bt187 => (if 3 < (x167005.length : Int) then ((spec_l07Times.f k (wrap64 ((wrap64 (x167000 - (x167005.length : Int))) - 1)) (rd x167005 3)).bind fun bt190 => ((spec_WideAdd.f bt187.1 bt187.2 bt190.1 bt190.2).bind fun bt192 => ((spec_WideCmp.f x167001 x167002 bt182.1 bt182.2).bind fun t195 => (if t195 ≥ 0 then ((spec_WideCmp.f x167001 x167002 bt192.1 bt192.2).bind fun t196 => (some (decide (t196 ≤ 0)))) else (some false))))) else (none)))))))
end
def spec_AggOk.f (k : Nat) (a0_0 : Int) (a0_1 : Int) (a0_2 : Int) (a0_3 : Int) (a0_4 : Int) (l0_5 : List Int) : Option (Bool) := if a0_0 < 0 then (spec_AggOk.j0 k true a0_0 a0_1 a0_2 a0_3 a0_4 l0_5) else (if a0_0 > 1000000 then (spec_AggOk.j0 k true a0_0 a0_1 a0_2 a0_3 a0_4 l0_5) else (spec_AggOk.j0 k ((l0_5.length : Int) != (mn a0_0 4)) a0_0 a0_1 a0_2 a0_3 a0_4 l0_5))
theorem spec_AggOk.mono_l : ∀ k, (∀ y0 y1 y2 y3 y4 y5 y6, LeO (spec_AggOk.j0 k y0 y1 y2 y3 y4 y5 y6) (spec_AggOk.j0 (k + 1) y0 y1 y2 y3 y4 y5 y6)) ∧ (∀ y0 y1 y2 y3 y4 y5 y6, LeO (spec_AggOk.j1 k y0 y1 y2 y3 y4 y5 y6) (spec_AggOk.j1 (k + 1) y0 y1 y2 y3 y4 y5 y6)) ∧ (∀ y0 y1 y2 y3 y4 y5 y6 y7 y8, LeO (spec_AggOk.l0 k y0 y1 y2 y3 y4 y5 y6 y7 y8) (spec_AggOk.l0 (k + 1) y0 y1 y2 y3 y4 y5 y6 y7 y8))
 | 0 => ⟨fun _ _ _ _ _ _ _ r h => by simp [spec_AggOk.j0] at h, fun _ _ _ _ _ _ _ r h => by simp [spec_AggOk.j1] at h, fun _ _ _ _ _ _ _ _ _ r h => by simp [spec_AggOk.l0] at h⟩
 | k + 1 => by
  obtain ⟨ih0, ih1, ih2⟩ := spec_AggOk.mono_l k
  refine ⟨?_, ?_, ?_⟩
  ·intro y0 y1 y2 y3 y4 y5 y6
   unfold spec_AggOk.j0
   repeat' first
   | (with_reducible exact ih0 _ _ _ _ _ _ _)
   | (with_reducible exact ih1 _ _ _ _ _ _ _)
   | (with_reducible exact ih2 _ _ _ _ _ _ _ _ _)
   | (with_reducible exact spec_TopOf.mono _ _ _)
   | (with_reducible exact spec_l07Same.mono _ _ _)
   | (with_reducible exact spec_l07Times.mono _ _ _)
   | (with_reducible exact LeO.refl _)
   | (with_reducible exact LeO.none _)
   | (with_reducible refine LeO.ite ?_ ?_)
   | (with_reducible refine LeO.bind ?_ (fun _ => ?_))
   | exact ih0 _ _ _ _ _ _ _
   | exact ih1 _ _ _ _ _ _ _
   | exact ih2 _ _ _ _ _ _ _ _ _
   | exact spec_TopOf.mono _ _ _
   | exact spec_l07Same.mono _ _ _
   | exact spec_l07Times.mono _ _ _
   | exact LeO.none _
   | refine LeO.ite ?_ ?_
   | refine LeO.bind ?_ (fun _ => ?_)
  ·intro y0 y1 y2 y3 y4 y5 y6
   unfold spec_AggOk.j1
   repeat' first
   | (with_reducible exact ih0 _ _ _ _ _ _ _)
   | (with_reducible exact ih1 _ _ _ _ _ _ _)
   | (with_reducible exact ih2 _ _ _ _ _ _ _ _ _)
   | (with_reducible exact spec_TopOf.mono _ _ _)
   | (with_reducible exact spec_l07Same.mono _ _ _)
   | (with_reducible exact spec_l07Times.mono _ _ _)
   | (with_reducible exact LeO.refl _)
   | (with_reducible exact LeO.none _)
   | (with_reducible refine LeO.ite ?_ ?_)
   | (with_reducible refine LeO.bind ?_ (fun _ => ?_))
   | exact ih0 _ _ _ _ _ _ _
   | exact ih1 _ _ _ _ _ _ _
   | exact ih2 _ _ _ _ _ _ _ _ _
   | exact spec_TopOf.mono _ _ _
   | exact spec_l07Same.mono _ _ _
   | exact spec_l07Times.mono _ _ _
   | exact LeO.none _
   | refine LeO.ite ?_ ?_
   | refine LeO.bind ?_ (fun _ => ?_)
  ·intro y0 y1 y2 y3 y4 y5 y6 y7 y8
   unfold spec_AggOk.l0
   repeat' first
   | (with_reducible exact ih0 _ _ _ _ _ _ _)
   | (with_reducible exact ih1 _ _ _ _ _ _ _)
   | (with_reducible exact ih2 _ _ _ _ _ _ _ _ _)
   | (with_reducible exact spec_TopOf.mono _ _ _)
   | (with_reducible exact spec_l07Same.mono _ _ _)
   | (with_reducible exact spec_l07Times.mono _ _ _)
   | (with_reducible exact LeO.refl _)
   | (with_reducible exact LeO.none _)
   | (with_reducible refine LeO.ite ?_ ?_)
   | (with_reducible refine LeO.bind ?_ (fun _ => ?_))
   | exact ih0 _ _ _ _ _ _ _
   | exact ih1 _ _ _ _ _ _ _
   | exact ih2 _ _ _ _ _ _ _ _ _
   | exact spec_TopOf.mono _ _ _
   | exact spec_l07Same.mono _ _ _
   | exact spec_l07Times.mono _ _ _
   | exact LeO.none _
   | refine LeO.ite ?_ ?_
   | refine LeO.bind ?_ (fun _ => ?_)
theorem spec_AggOk.mono : ∀ a0 a1 a2 a3 a4 a5 k, LeO (spec_AggOk.f k a0 a1 a2 a3 a4 a5) (spec_AggOk.f (k + 1) a0 a1 a2 a3 a4 a5) := by
 intro a0 a1 a2 a3 a4 a5 k
 obtain ⟨ih0, ih1, ih2⟩ := spec_AggOk.mono_l k
 unfold spec_AggOk.f
 repeat' first
   | (with_reducible exact ih0 _ _ _ _ _ _ _)
   | (with_reducible exact ih1 _ _ _ _ _ _ _)
   | (with_reducible exact ih2 _ _ _ _ _ _ _ _ _)
   | (with_reducible exact spec_TopOf.mono _ _ _)
   | (with_reducible exact spec_l07Same.mono _ _ _)
   | (with_reducible exact spec_l07Times.mono _ _ _)
   | (with_reducible exact LeO.refl _)
   | (with_reducible exact LeO.none _)
   | (with_reducible refine LeO.ite ?_ ?_)
   | (with_reducible refine LeO.bind ?_ (fun _ => ?_))
   | exact ih0 _ _ _ _ _ _ _
   | exact ih1 _ _ _ _ _ _ _
   | exact ih2 _ _ _ _ _ _ _ _ _
   | exact spec_TopOf.mono _ _ _
   | exact spec_l07Same.mono _ _ _
   | exact spec_l07Times.mono _ _ _
   | exact LeO.none _
   | refine LeO.ite ?_ ?_
   | refine LeO.bind ?_ (fun _ => ?_)
def spec_AggOk.T5 : Bool × List (List Nat × List Nat) := (true, [([], []), ([0], [0]), ([1], [1]), ([], []), ([3], [3]), ([2, 4, 2], [2, 4]), ([5], [5]), ([6, 5], [6]), ([7], [7]), ([8, 7], [7, 8]), ([9, 7], [7, 9]), ([10, 7], [7, 10]), ([7], [7]), ([12, 7], [7, 12]), ([11, 13, 7], [7, 11, 13]), ([7, 14], [7, 14]), ([15, 7], [15]), ([16], [16]), ([17, 16], [16, 17]), ([16], [16]), ([19, 16], [16, 19]), ([16], [16]), ([21, 16], [16, 21]), ([22, 16], [16, 22]), ([23, 16], [16, 23]), ([20, 24, 16], [16, 20, 24]), ([25, 16], [16, 25]), ([18, 26, 16], [16, 18, 26]), ([16, 27], [16, 27])])
def spec_AggOk.B5 : List Nat := [0, 1, 3, 0, 8, 31, 63, 127, 255, 511, 1023, 2047, 255, 4351, 16383, 32767, 65535, 131071, 262143, 131071, 655359, 131071, 2228223, 6422527, 14811135, 33161215, 66715647, 134217727, 268435455]
theorem spec_AggOk.tab5 : rtab .any (opsOf Try.f9 5) = spec_AggOk.T5 := by kernel_rfl
theorem spec_AggOk.bits5 : waitsOk spec_AggOk.T5.2 spec_AggOk.B5 = true := by kernel_rfl
def spec_AggOk.T11 : Bool × List (List Nat × List Nat) := (true, [([], []), ([], []), ([1], [1]), ([], []), ([2, 3], [2, 3]), ([4], [4]), ([5], [5]), ([0, 6, 6], [0, 6]), ([7, 7, 0, 1, 2, 3, 4, 5, 6, 7], [7])])
def spec_AggOk.B11 : List Nat := [0, 0, 2, 0, 14, 30, 62, 127, 255]
theorem spec_AggOk.tab11 : rtab .any (opsOf Try.f9 11) = spec_AggOk.T11 := by kernel_rfl
theorem spec_AggOk.bits11 : waitsOk spec_AggOk.T11.2 spec_AggOk.B11 = true := by kernel_rfl
def spec_AggOk.T14 : Bool × List (List Nat × List Nat) := (true, [([], []), ([0], [0]), ([], []), ([2], [2]), ([], []), ([4], [4]), ([5], [5]), ([6], [6]), ([3, 7], [3, 7]), ([8], [8]), ([1, 9], [1, 9]), ([10], [10]), ([11], [11]), ([12, 11], [11, 12]), ([11], [11]), ([13, 14, 11], [11, 13, 14]), ([11, 15], [11, 15]), ([16, 11, 0, 1, 2, 3, 4, 5, 6, 7, 8, 9, 10, 11, 12, 13, 14, 15, 16], [16])])
def spec_AggOk.B14 : List Nat := [0, 1, 0, 4, 0, 16, 48, 112, 252, 508, 1023, 2047, 4095, 8191, 4095, 32767, 65535, 131071]
theorem spec_AggOk.tab14 : rtab .any (opsOf Try.f9 14) = spec_AggOk.T14 := by kernel_rfl
theorem spec_AggOk.bits14 : waitsOk spec_AggOk.T14.2 spec_AggOk.B14 = true := by kernel_rfl
def spec_AggOk.T15 : Bool × List (List Nat × List Nat) := (true, [([], []), ([], []), ([], []), ([2], [2]), ([1, 3], [1, 3]), ([0, 4, 4], [0, 4]), ([], []), ([6, 5, 5, 0, 1, 2, 3, 4, 5, 6], [5, 6])])
def spec_AggOk.B15 : List Nat := [0, 0, 0, 4, 14, 31, 0, 127]
theorem spec_AggOk.tab15 : rtab .any (opsOf Try.f9 15) = spec_AggOk.T15 := by kernel_rfl
theorem spec_AggOk.bits15 : waitsOk spec_AggOk.T15.2 spec_AggOk.B15 = true := by kernel_rfl
def spec_AggOk.T16 : Bool × List (List Nat × List Nat) := (true, [([], []), ([], []), ([1], [1]), ([2], [2]), ([0, 3, 3], [0, 3]), ([], []), ([5], [5]), ([], []), ([7], [7]), ([8], [8]), ([9], [9]), ([6, 10, 4], [6, 10]), ([4, 11, 11], [4, 11]), ([], []), ([13, 12, 12, 0, 1, 2, 3, 4, 5, 6, 7, 8, 9, 10, 11, 12, 13], [12, 13])])
def spec_AggOk.B16 : List Nat := [0, 0, 2, 6, 15, 0, 32, 0, 128, 384, 896, 2047, 4095, 0, 16383]
theorem spec_AggOk.tab16 : rtab .any (opsOf Try.f9 16) = spec_AggOk.T16 := by kernel_rfl
theorem spec_AggOk.bits16 : waitsOk spec_AggOk.T16.2 spec_AggOk.B16 = true := by kernel_rfl
end Go.Proofs.Ytnnahpmnkpmopaa.QFnExactAggOk
