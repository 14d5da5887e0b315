/- Proved: calls of the program come to the answers of the plain Lean functions that stand beside them. Each contract names its conditions. (Written by a program of this session, over the printer of the kit.) -/
import Derived.Test.YtnnahpmnkpmopaaZAggJoinQFnExactAggJoinx0
import Derived.Test.YtnnahpmnkpmopaaZAggJoinQFnExactAggJoinx1
import Derived.Test.YtnnahpmnkpmopaaZAggJoinQFnExactAggJoinx3
import Derived.Test.YtnnahpmnkpmopaaZAggJoinQFnExactAggJoinx4
namespace Go.Proofs.Ytnnahpmnkpmopaa.QFnExactAggJoin
open Go.RowKit Go.Proofs.YtnnahpmnkpmopaaW.PrintWords Go.Proofs.YtnnahpmnkpmopaaW.PrintLast Go.Proofs.YtnnahpmnkpmopaaW.PrintMore
attribute [local go_sem] max2_int min2_int max_two min_two max_three min_three max_four min_four   -- for this text's walks alone
set_option linter.unusedVariables false
set_option linter.unusedSimpArgs false

attribute [local go_sem high] eqA30
/-! ### spec_AggOk: function 9 -/
mutual
def spec_AggOk.j0 : Nat → Bool → Int → Int → Int → Int → Int → List Int → Option (Bool)
 | 0, _, _, _, _, _, _, _ => none
 | k + 1, x24, x198000, x198001, x198002, x198003, x198004, x198005 => if x24 = true then (some false) else (if x198000 = 0 then (if (x198001 == 0 && (x198002 == 0)) = true then (if x198003 = 0 then (some (x198004 == 0)) else (some false)) else (some false)) else ((spec_TopOf.f k x198005 ([] : List Int)).bind fun bi => ((spec_l07Same.f k bi x198005).bind fun bP => (if bP = true then (if 0 < (x198005.length : Int) then (if (rd x198005 0) = x198004 then (if 0 ≤ (wrap64 ((x198005.length : Int) - 1)) then (if (wrap64 ((x198005.length : Int) - 1)) < (x198005.length : Int) then (spec_AggOk.j1 k (decide (x198003 > (rd x198005 (wrap64 ((x198005.length : Int) - 1))))) x198000 x198001 x198002 x198003 x198004 x198005) else (none)) else (none)) else (spec_AggOk.j1 k true x198000 x198001 x198002 x198003 x198004 x198005)) else (none)) else (spec_AggOk.j1 k true x198000 x198001 x198002 x198003 x198004 x198005)))))
def spec_AggOk.j1 : Nat → Bool → Int → Int → Int → Int → Int → List Int → Option (Bool)
 | 0, _, _, _, _, _, _, _ => none
 | k + 1, x70, x198000, x198001, x198002, x198003, x198004, x198005 => if x70 = true then (some false) else (spec_AggOk.l0 k 0 x198000 x198001 x198002 x198003 x198004 x198005 0 0)
def spec_AggOk.l0 : Nat → Int → Int → Int → Int → Int → Int → List Int → Int → Int → Option (Bool)
 | 0, _, _, _, _, _, _, _, _, _ => none
 | k + 1, x4, x198000, x198001, x198002, x198003, x198004, x198005, x205000, x205001 => if x4 < (x198005.length : Int) then (if 0 ≤ x4 then ((spec_WideOf.f (rd x198005 x4)).bind fun cX => ((spec_WideAdd.f x205000 x205001 cX.1 cX.2).bind fun bY => (spec_AggOk.l0 k (wrap64 (x4 + 1)) x198000 x198001 x198002 x198003 x198004 x198005 bY.1 bY.2))) else (none)) else (if (wrap64 (x198000 - (x198005.length : Int))) = 0 then (if 0 ≤ (wrap64 ((x198005.length : Int) - 1)) then (if (wrap64 ((x198005.length : Int) - 1)) < (x198005.length : Int) then (if x198003 = (rd x198005 (wrap64 ((x198005.length : Int) - 1))) then (some (x198001 == x205000 && (x198002 == x205001))) else (some false)) else (none)) else (none)) else ((spec_l07Times.f k (wrap64 (x198000 - (x198005.length : Int))) x198003).bind fun cQ => ((spec_WideAdd.f x205000 x205001 cQ.1 cQ.2).bind fun bT => ((spec_WideOf.f x198003).bind fun bG => ((spec_WideAdd.f x205000 x205001 bG.1 bG.2).bind fun bg => (if 3 < (x198005.length : Int) then ((spec_l07Times.f k (wrap64 ((wrap64 (x198000 - (x198005.length : Int))) - 1)) (rd x198005 3)).bind fun a8 => ((spec_WideAdd.f bg.1 bg.2 a8.1 a8.2).bind fun a3 => ((spec_WideCmp.f x198001 x198002 bT.1 bT.2).bind fun a7 => (if a7 ≥ 0 then ((spec_WideCmp.f x198001 x198002 a3.1 a3.2).bind fun ba => (some (decide (ba ≤ 0)))) else (some false))))) else (none)))))))
end
def spec_AggOk.f (k : Nat) (y : Int) (al : Int) (ak : Int) (ae : Int) (am : Int) (D : List Int) : Option (Bool) := if y < 0 then (spec_AggOk.j0 k true y al ak ae am D) else (if y > 1000000 then (spec_AggOk.j0 k true y al ak ae am D) else (spec_AggOk.j0 k ((D.length : Int) != (mn y 4)) y al ak ae am D))
def spec_AggOk.T5 : Bool × List (List Nat × List Nat) := (true, [([], []), ([0], [0]), ([1], [1]), ([], []), ([3], [3]), ([2, 4, 2], [2, 4]), ([5], [5]), ([6, 5], [6]), ([7], [7]), ([8, 7], [7, 8]), ([9, 7], [7, 9]), ([10, 7], [7, 10]), ([7], [7]), ([12, 7], [7, 12]), ([11, 13, 7], [7, 11, 13]), ([7, 14], [7, 14]), ([15, 7], [15]), ([16], [16]), ([17, 16], [16, 17]), ([16], [16]), ([19, 16], [16, 19]), ([16], [16]), ([21, 16], [16, 21]), ([22, 16], [16, 22]), ([23, 16], [16, 23]), ([20, 24, 16], [16, 20, 24]), ([25, 16], [16, 25]), ([18, 26, 16], [16, 18, 26]), ([16, 27], [16, 27])])
def spec_AggOk.B5 : List Nat := [0, 1, 3, 0, 8, 31, 63, 127, 255, 511, 1023, 2047, 255, 4351, 16383, 32767, 65535, 131071, 262143, 131071, 655359, 131071, 2228223, 6422527, 14811135, 33161215, 66715647, 134217727, 268435455]
theorem spec_AggOk.tab5 : rtab .any (opsOf Try.f9 5) = spec_AggOk.T5 := by kernel_rfl
theorem spec_AggOk.bits5 : waitsOk spec_AggOk.T5.2 spec_AggOk.B5 = true := by kernel_rfl
def spec_AggOk.T11 : Bool × List (List Nat × List Nat) := (true, [([], []), ([], []), ([1], [1]), ([], []), ([2, 3], [2, 3]), ([4], [4]), ([5], [5]), ([0, 6, 6], [0, 6]), ([7, 7, 0, 1, 2, 3, 4, 5, 6, 7], [7])])
def spec_AggOk.B11 : List Nat := [0, 0, 2, 0, 14, 30, 62, 127, 255]
theorem spec_AggOk.tab11 : rtab .any (opsOf Try.f9 11) = spec_AggOk.T11 := by kernel_rfl
theorem spec_AggOk.bits11 : waitsOk spec_AggOk.T11.2 spec_AggOk.B11 = true := by kernel_rfl
def spec_AggOk.T14 : Bool × List (List Nat × List Nat) := (true, [([], []), ([0], [0]), ([], []), ([2], [2]), ([], []), ([4], [4]), ([5], [5]), ([6], [6]), ([3, 7], [3, 7]), ([8], [8]), ([1, 9], [1, 9]), ([10], [10]), ([11], [11]), ([12, 11], [11, 12]), ([11], [11]), ([13, 14, 11], [11, 13, 14]), ([11, 15], [11, 15]), ([16, 11, 0, 1, 2, 3, 4, 5, 6, 7, 8, 9, 10, 11, 12, 13, 14, 15, 16], [16])])
def spec_AggOk.B14 : List Nat := [0, 1, 0, 4, 0, 16, 48, 112, 252, 508, 1023, 2047, 4095, 8191, 4095, 32767, 65535, 131071]
theorem spec_AggOk.tab14 : rtab .any (opsOf Try.f9 14) = spec_AggOk.T14 := by kernel_rfl
theorem spec_AggOk.bits14 : waitsOk spec_AggOk.T14.2 spec_AggOk.B14 = true := by kernel_rfl
def spec_AggOk.T15 : Bool × List (List Nat × List Nat) := (true, [([], []), ([], []), ([], []), ([2], [2]), ([1, 3], [1, 3]), ([0, 4, 4], [0, 4]), ([], []), ([6, 5, 5, 0, 1, 2, 3, 4, 5, 6], [5, 6])])
def spec_AggOk.B15 : List Nat := [0, 0, 0, 4, 14, 31, 0, 127]
theorem spec_AggOk.tab15 : rtab .any (opsOf Try.f9 15) = spec_AggOk.T15 := by kernel_rfl
theorem spec_AggOk.bits15 : waitsOk spec_AggOk.T15.2 spec_AggOk.B15 = true := by kernel_rfl
def spec_AggOk.T16 : Bool × List (List Nat × List Nat) := (true, [([], []), ([], []), ([1], [1]), ([2], [2]), ([0, 3, 3], [0, 3]), ([], []), ([5], [5]), ([], []), ([7], [7]), ([8], [8]), ([9], [9]), ([6, 10, 4], [6, 10]), ([4, 11, 11], [4, 11]), ([], []), ([13, 12, 12, 0, 1, 2, 3, 4, 5, 6, 7, 8, 9, 10, 11, 12, 13], [12, 13])])
def spec_AggOk.B16 : List Nat := [0, 0, 2, 6, 15, 0, 32, 0, 128, 384, 896, 2047, 4095, 0, 16383]
theorem spec_AggOk.tab16 : rtab .any (opsOf Try.f9 16) = spec_AggOk.T16 := by kernel_rfl
theorem spec_AggOk.bits16 : waitsOk spec_AggOk.T16.2 spec_AggOk.B16 = true := by kernel_rfl
set_option maxHeartbeats 8000000 in
set_option maxRecDepth 100000 in
theorem spec_AggOk.calls (k : Nat) (y : Int) (al : Int) (ak : Int) (ae : Int) (am : Int) (bc : Option Addr) (aH : Nat) (D : List Int) (r : Bool) (w : World) (cN : Kd.C (Kd.int .i64) w bc D.length D) (cV : D.length ≤ aH) (h : spec_AggOk.f k y al ak ae am D = some r) :
  Calls Try.prog 9 #[.agg #[.int .i64 y, .int .i64 al, .int .u64 ak, .int .i64 ae, .int .i64 am, .slice bc D.length aH]] w fun e w' => e = .returned (.bool r) ∧ Below w.heap.size w w' := by
 have kc := Try.underlying32
 have kj := Try.underlying30
 have a9 := zp.mk cN
 have bN := zp.mk cV
 clear cN cV
 have HB := zp.mk (Below.refl w.heap.size w)
 have H : (if y < 0 then (spec_AggOk.j0 k true y al ak ae am D) else (if y > 1000000 then (spec_AggOk.j0 k true y al ak ae am D) else (spec_AggOk.j0 k ((D.length : Int) != (mn y 4)) y al ak ae am D))) = some r := h
 clear h
 have dJ := zp.mk H
 clear H
 go_enter Try.func9, Try.ntmps9
 go_upto_region 1 with (first | ((with_reducible refine zo (N := 1) rfl ?_); (try (refine gate_guard (by rfl) ?_; dsimp only)); refine zm ?hg (N := 1) ?hd (cs := #[.int .i64 y, .int .i64 al, .int .u64 ak, .int .i64 ae, .int .i64 am, .slice bc D.length aH]) (t := 32) ?hr ?_; (case hd => rfl); (case hg => rfl); (case hr => first | (go_simp; done) | (go_simp; rfl)); intro ab hg w3 hbox hb; have A := zp.mk (hbox); have ie := zp.mk ((zv3 (zv6 HB.out) hg)); have h6 := zp.mk ((zv3 (zv6 HB.out) hg)); replace HB := zp.mk (zj (zv6 HB.out) hb); clear hb hbox hg))
 (try simp only [Act.put, zs1, zs2, zs3])
 go_cut [24] (fun v24 wc => ∃ (kq : Nat) (b5 : Bool), v24 = .bool b5 ∧ zp (spec_AggOk.j0 kq b5 y al ak ae am D = some r) ∧ zp (kq ≤ k) ∧ zp (wc.heap[ab]? = some (.cells #[.int .i64 y, .int .i64 al, .int .u64 ak, .int .i64 ae, .int .i64 am, (.slice bc D.length aH)] 32 (0, 0))) ∧ zp (Below w.heap.size w wc))
 case first =>
  have H := dJ.out
  clear dJ
  by_cases c4 : y < 0
  ·rw [if_pos c4] at H
   have b4 : decide (y < 0) = true := decide_eq_true c4
   clear c4
   (first | rw [b4] | (simp only [i64_w, i32_w]; rw [b4]) | skip)
   have H' := zp.mk H
   clear H
   have fh := zt0 A.out
   have eu := zt1 A.out
   have fV := zt2 A.out
   have fz := zt3 A.out
   have eV := zt4 A.out
   have eZ := zt5 A.out
   have eJ := zd A.out 0
   have eQ := zd A.out 1
   have fj := zd A.out 2
   have ev := zd A.out 3
   have fb := zd A.out 4
   have em := zd A.out 5
   go_wp2
   go_meet
   case rel => exact ⟨_, (true), (by first | rfl | (simp; done) | (simp [*]; done)), H', ⟨by first | omega | exact Nat.le_refl _⟩, ⟨zv8 A.out⟩, ⟨zv7 HB.out⟩⟩
  ·rw [if_neg c4] at H
   have b4 : decide (y < 0) = false := decide_eq_false c4
   clear c4
   (first | rw [b4] | (simp only [i64_w, i32_w]; rw [b4]) | skip)
   by_cases c6 : y > 1000000
   ·rw [if_pos c6] at H
    have dp : decide (1000000 < y) = true := decide_eq_true c6
    clear c6
    have H' := zp.mk H
    clear H
    have fv := zt0 A.out
    have e9 := zt1 A.out
    have fB := zt2 A.out
    have eD := zt3 A.out
    have eA := zt4 A.out
    have eM := zt5 A.out
    have eL := zd A.out 0
    have eO := zd A.out 1
    have fs := zd A.out 2
    have ey := zd A.out 3
    have eI := zd A.out 4
    have fu := zd A.out 5
    go_wp2
    go_meet
    case rel => exact ⟨_, (true), (by first | rfl | (simp; done) | (simp [*]; done)), H', ⟨by first | omega | exact Nat.le_refl _⟩, ⟨zv8 A.out⟩, ⟨zv7 HB.out⟩⟩
   ·rw [if_neg c6] at H
    have dp : decide (1000000 < y) = false := decide_eq_false c6
    clear c6
    obtain ⟨cR, cc⟩ : ∃ j_ : Int, (mn y 4) = j_ := ⟨_, rfl⟩
    replace H : (spec_AggOk.j0 k ((D.length : Int) != (cR)) y al ak ae am D) = some r := by first | (rw [cc] at H; exact H) | (simp only [cc] at H ⊢; exact H)
    (try (have jV : cR ≤ 4 := by (rw [← cc]; unfold mn; (repeat' split) <;> omega)))
    (try (have jn : cR ≤ 64 := by omega))
    have jK : (if 4 < y then 4 else y) = cR := cc
    have H' := zp.mk H
    clear H
    have eS := zt0 A.out
    have fd := zt1 A.out
    have fS := zt2 A.out
    have fW := zt3 A.out
    have et := zt4 A.out
    have eN := zt5 A.out
    have en := zd A.out 0
    have eo := zd A.out 1
    have fM := zd A.out 2
    have fU := zd A.out 3
    have fG := zd A.out 4
    have fo := zd A.out 5
    go_wp2
    go_meet
    case rel => exact ⟨_, (((D.length : Int) != (cR))), (by first | rfl | (simp; done) | (simp only [← cc] <;> (first | rfl | simp)) | (simp [*]; done)), H', ⟨by first | omega | exact Nat.le_refl _⟩, ⟨zv8 A.out⟩, ⟨zv7 HB.out⟩⟩
 case rest =>
  clear dJ
  try clear p2
  try clear c4
  try clear b4
  try clear c6
  try clear dp
  try clear c9
  try clear fh
  try clear eu
  try clear fV
  try clear fz
  try clear eV
  try clear eZ
  try clear fv
  try clear e9
  try clear fB
  try clear eD
  try clear eA
  try clear eM
  try clear eS
  try clear fd
  try clear fS
  try clear fW
  try clear et
  try clear eN
  try clear eJ
  try clear eQ
  try clear fj
  try clear ev
  try clear fb
  try clear em
  try clear eL
  try clear eO
  try clear fs
  try clear ey
  try clear eI
  try clear fu
  try clear en
  try clear eo
  try clear fM
  try clear fU
  try clear fG
  try clear fo
  obtain ⟨kq, b5, rfl, HA, cL, A, HB⟩ := hcut
  cases kq with
  | zero => exact absurd HA.out (by simp [spec_AggOk.j0])
  | succ kj1 =>
   have H := HA.out
   clear HA
   simp only [spec_AggOk.j0] at H
   by_cases c10 : b5 = true
   ·subst c10
    have H1 : (some false) = some r := by rw [if_pos rfl] at H; exact H
    clear H
    have H := H1
    clear H1
    obtain rfl := Option.some.inj H
    go_wp2
    go_ret
    exact ⟨by first | rfl | (simp [errW_none, errW_some] <;> rfl) | (simp [*, errW_none, errW_some] <;> rfl), zv7 HB.out⟩
   ·replace c10 := Bool.eq_false_iff.mpr c10
    subst c10
    have H1 : (if y = 0 then (if (al == 0 && (ak == 0)) = true then (if ae = 0 then (some (am == 0)) else (some false)) else (some false)) else ((spec_TopOf.f kj1 D ([] : List Int)).bind fun bi => ((spec_l07Same.f kj1 bi D).bind fun bP => (if bP = true then (if 0 < (D.length : Int) then (if (rd D 0) = am then (if 0 ≤ (wrap64 ((D.length : Int) - 1)) then (if (wrap64 ((D.length : Int) - 1)) < (D.length : Int) then (spec_AggOk.j1 kj1 (decide (ae > (rd D (wrap64 ((D.length : Int) - 1))))) y al ak ae am D) else (none)) else (none)) else (spec_AggOk.j1 kj1 true y al ak ae am D)) else (none)) else (spec_AggOk.j1 kj1 true y al ak ae am D))))) = some r := by rw [if_neg (show ¬ (false = true) by decide)] at H; exact H
    clear H
    have H := H1
    clear H1
    by_cases cz : y = 0
    ·rw [if_pos cz] at H
     have dQ : (y == 0) = true := beq_iff_eq.mpr cz
     have dW : (y != 0) = false := bne_eq_false_iff_eq.mpr cz
     clear cz
     by_cases b2 : (al == 0 && (ak == 0)) = true
     ·rw [if_pos b2] at H
      have dX : (al == 0 && (ak == 0)) = true := b2
      (try (have dO : decide (al = 0 && (ak == 0)) = true := by simpa using b2))
      (try (have d0 : (al == 0 && (ak == 0)) = true := by simpa using b2))
      clear b2
      by_cases ct : ae = 0
      ·rw [if_pos ct] at H
       have dI : (ae == 0) = true := beq_iff_eq.mpr ct
       have dL : (ae != 0) = false := bne_eq_false_iff_eq.mpr ct
       clear ct
       obtain rfl := Option.some.inj H
       have jL := zt0 A.out
       have jp := zt1 A.out
       have h2 := zt2 A.out
       have iX := zt3 A.out
       have jz := zt4 A.out
       have iD := zt5 A.out
       have i3 := zd A.out 0
       have iA := zd A.out 1
       have jw := zd A.out 2
       have h4 := zd A.out 3
       have jC := zd A.out 4
       have iC := zd A.out 5
       go_wp2
       go_ret
       exact ⟨by first | rfl | (simp [errW_none, errW_some] <;> rfl) | (simp [*, errW_none, errW_some] <;> rfl), zv7 HB.out⟩
      ·rw [if_neg ct] at H
       have dI : (ae == 0) = false := beq_eq_false_iff_ne.mpr ct
       have dL : (ae != 0) = true := bne_iff_ne.mpr ct
       obtain rfl := Option.some.inj H
       have jS := zt0 A.out
       have gU := zt1 A.out
       have j7 := zt2 A.out
       have i1 := zt3 A.out
       have j4 := zt4 A.out
       have hj := zt5 A.out
       have jF := zd A.out 0
       have jG := zd A.out 1
       have hG := zd A.out 2
       have ju := zd A.out 3
       have hN := zd A.out 4
       have g0 := zd A.out 5
       go_wp2
       go_ret
       exact ⟨by first | rfl | (simp [errW_none, errW_some] <;> rfl) | (simp [*, errW_none, errW_some] <;> rfl), zv7 HB.out⟩
     ·rw [if_neg b2] at H
      have dX : (al == 0 && (ak == 0)) = false := by simpa using b2
      (try (have dO : decide (al = 0 && (ak == 0)) = false := by simpa using b2))
      (try (have d0 : (al == 0 && (ak == 0)) = false := by simpa using b2))
      (try (have iE : ¬ (al = 0 && (ak == 0)) := by simpa using b2))
      clear b2
      obtain rfl := Option.some.inj H
      have gY := zt0 A.out
      have hJ := zt1 A.out
      have hf := zt2 A.out
      have g6 := zt3 A.out
      have jR := zt4 A.out
      have g9 := zt5 A.out
      have jy := zd A.out 0
      have hS := zd A.out 1
      have ir := zd A.out 2
      have jQ := zd A.out 3
      have jq := zd A.out 4
      have it := zd A.out 5
      go_wp2
      go_ret
      exact ⟨by first | rfl | (simp [errW_none, errW_some] <;> rfl) | (simp [*, errW_none, errW_some] <;> rfl), zv7 HB.out⟩
    ·rw [if_neg cz] at H
     have dQ : (y == 0) = false := beq_eq_false_iff_ne.mpr cz
     have dW : (y != 0) = true := bne_iff_ne.mpr cz
     have cO := zp.mk H
     clear H
     have hQ := zt0 A.out
     have jk := zt1 A.out
     have iK := zt2 A.out
     have gX := zt3 A.out
     have jg := zt4 A.out
     have h3 := zt5 A.out
     have jY := zd A.out 0
     have hD := zd A.out 1
     have iq := zd A.out 2
     have j8 := zd A.out 3
     have jE := zd A.out 4
     have i7 := zd A.out 5
     go_upto_region 5 with (fail)
     go_cut [70] (fun jZ wc => ∃ (kq : Nat) (bQ : Bool), jZ = .bool bQ ∧ zp (spec_AggOk.j1 kq bQ y al ak ae am D = some r) ∧ zp (kq ≤ kj1) ∧ zp (wc.heap[ab]? = some (.cells #[.int .i64 y, .int .i64 al, .int .u64 ak, .int .i64 ae, .int .i64 am, (.slice bc D.length aH)] 32 (0, 0))) ∧ zp (Below w.heap.size w wc))
     case first =>
      have H := cO.out
      clear cO
      replace H := zs4 H
      obtain ⟨bi, dG, H⟩ := H
      replace H : ((spec_l07Same.f kj1 bi D).bind fun bP => (if bP = true then (if 0 < (D.length : Int) then (if (rd D 0) = am then (if 0 ≤ (wrap64 ((D.length : Int) - 1)) then (if (wrap64 ((D.length : Int) - 1)) < (D.length : Int) then (spec_AggOk.j1 kj1 (decide (ae > (rd D (wrap64 ((D.length : Int) - 1))))) y al ak ae am D) else (none)) else (none)) else (spec_AggOk.j1 kj1 true y al ak ae am D)) else (none)) else (spec_AggOk.j1 kj1 true y al ak ae am D))) = some r := H
      have dg := zp.mk dG
      clear dG
      replace H := zs4 H
      obtain ⟨bP, du, H⟩ := H
      replace H : (if bP = true then (if 0 < (D.length : Int) then (if (rd D 0) = am then (if 0 ≤ (wrap64 ((D.length : Int) - 1)) then (if (wrap64 ((D.length : Int) - 1)) < (D.length : Int) then (spec_AggOk.j1 kj1 (decide (ae > (rd D (wrap64 ((D.length : Int) - 1))))) y al ak ae am D) else (none)) else (none)) else (spec_AggOk.j1 kj1 true y al ak ae am D)) else (none)) else (spec_AggOk.j1 kj1 true y al ak ae am D)) = some r := H
      have dh := zp.mk du
      clear du
      by_cases cI : bP = true
      ·subst cI
       have H1 : (if 0 < (D.length : Int) then (if (rd D 0) = am then (if 0 ≤ (wrap64 ((D.length : Int) - 1)) then (if (wrap64 ((D.length : Int) - 1)) < (D.length : Int) then (spec_AggOk.j1 kj1 (decide (ae > (rd D (wrap64 ((D.length : Int) - 1))))) y al ak ae am D) else (none)) else (none)) else (spec_AggOk.j1 kj1 true y al ak ae am D)) else (none)) = some r := by rw [if_pos rfl] at H; exact H
       clear H
       have H := H1
       clear H1
       by_cases cG : 0 < (D.length : Int)
       ·rw [if_pos cG] at H
        have da : decide (0 < (D.length : Int)) = true := decide_eq_true cG
        have j3 : decide (0 < D.length) = true := decide_eq_true (by omega)
        clear cG
        (first | rw [da] | (simp only [i64_w, i32_w]; rw [da]) | skip)
        by_cases b6 : (rd D 0) = am
        ·rw [if_pos b6] at H
         have cy : ((rd D 0) == am) = true := beq_iff_eq.mpr b6
         have cu : ((rd D 0) != am) = false := bne_eq_false_iff_eq.mpr b6
         clear b6
         obtain ⟨bj, bO⟩ : ∃ j_ : Int, (wrap64 ((D.length : Int) - 1)) = j_ := ⟨_, rfl⟩
         replace H : (if 0 ≤ (bj) then (if (bj) < (D.length : Int) then (spec_AggOk.j1 kj1 (decide (ae > (rd D (bj)))) y al ak ae am D) else (none)) else (none)) = some r := by first | (rw [bO] at H; exact H) | (simp only [bO] at H ⊢; exact H)
         (try rw [bO] at dg)
         (try rw [bO] at dh)
         have gj : (IntKind.i64.wrap ((D.length : Int) - 1)) = bj := (i64_w _).trans bO
         by_cases cE : 0 ≤ (bj)
         ·rw [if_pos cE] at H
          have jt : decide (0 ≤ (bj)) = true := decide_eq_true cE
          clear cE
          by_cases cH : (bj) < (D.length : Int)
          ·rw [if_pos cH] at H
           have i2 : decide ((bj) < (D.length : Int)) = true := decide_eq_true cH
           clear cH
           have H' := zp.mk H
           clear H
           try go_wp2
           replace A := zp.mk (zi A.out)
           replace HB := zp.mk (zb HB.out)
           have bL : 0 ≤ (0 : Int) := (by omega)
           have bM : 0 < (D.length : Int) := of_decide_eq_true (by first | (with_reducible assumption) | assumption)
           obtain ⟨bh, cM, aN⟩ := Kd.at_int a9.out 0 bL bM
           have aI := aN
           (try rw [show ((0 : Int)).toNat = 0 from rfl] at aI)
           (try rw [show 0 * 1 = 0 from rfl] at aI)
           (try rw [Addr.add_zero'] at aI)
           cases cM
           have dH : (0 < D.length) = True := eq_true (by omega)
           (try rw [show ((0 : Int)).toNat = 0 from rfl] at aN)
           (try rw [Addr.add_zero'] at aN)
           replace aN := (HB.out.cell (World.block_lt_of_cell? w _ aN)).trans aN
           replace bL := eq_true bL
           replace bM := eq_true bM
           have cY : 0 ≤ ((bj) : Int) := of_decide_eq_true (by first | (with_reducible assumption) | assumption)
           have dd : (bj) < (D.length : Int) := of_decide_eq_true (by first | (with_reducible assumption) | assumption)
           obtain ⟨d1, fO, bB⟩ := Kd.at_int a9.out (bj) cY dd
           have bo := bB
           obtain rfl : bh = d1 := (by injection fO)
           replace bB := (HB.out.cell (World.block_lt_of_cell? w _ bB)).trans bB
           replace cY := eq_true cY
           replace dd := eq_true dd
           refine start_ (n := 29) (S := fun w' => w'.cell? ⟨ab, 0, none⟩ = some (.int .i64 y) ∧ w'.cell? ⟨ab, 1, none⟩ = some (.int .i64 al) ∧ w'.cell? ⟨ab, 2, none⟩ = some (.int .u64 ak) ∧ w'.cell? ⟨ab, 3, none⟩ = some (.int .i64 ae) ∧ w'.cell? ⟨ab, 4, none⟩ = some (.int .i64 am) ∧ w'.cell? ⟨ab, 5, none⟩ = some (.slice (some bh) D.length aH) ∧ w'.cell? bh = some (.int .i64 (rd D 0)) ∧ w'.cell? (bh.add ((bj)).toNat) = some (.int .i64 (rd D (bj)))) (ds := []) (zB 29 0) (by kernel_rfl) rfl rfl ⟨(ze A.out 0).trans rfl, (ze A.out 1).trans rfl, (ze A.out 2).trans rfl, (ze A.out 3).trans rfl, (ze A.out 4).trans rfl, (ze A.out 5).trans rfl, ((HB.out.cell (World.block_lt_of_cell? w _ aI)).trans aI), ((HB.out.cell (World.block_lt_of_cell? w _ bo)).trans bo)⟩ (fun hHeld => ?_); refine with_tabW spec_AggOk.tab5 spec_AggOk.bits5 (fun HT_ HW_ => ?_)
           generalize wc.drew = ky at A HB aN bB hHeld ⊢
           refine zP 0 42 (zB 29 1) HT_ ?_
           refine zP 3 45 (zB 29 9) HT_ ?_
           refine zT 1 43 (zB 29 11) HT_ HW_ hHeld ?_
           refine zT 4 46 (zB 29 27) HT_ HW_ hHeld ?_
           refine one_ (i := 2) (N := some 44) (zB 29 31) rfl rfl (one_of HT_.out (by kernel_rfl)) (by decide) (fun K hK => ?_)
           refine goes_ Try.func19 (by kernel_rfl) rfl #[.slice (some bh) D.length aH, .slice none 0 0] (by rfl) rfl rfl (by (try simp only [List.map_toArray, List.map_cons, List.map_nil]); first | done | rfl | (simp only [List.length_drop, List.length_take]; rfl)) ?_
           refine (spec_TopOf.calls kj1 _ _ D _ _ ([] : List Int) bi _ ?side1 ?side2 ?side3 ?side4 dg.out).mono ?_
           (case side1 => repeat (first | exact (Kd.zt a9.out HB.out) | (with_reducible refine Kd.zr ?_ _) | (with_reducible refine Kd.zq ?_ _) | (with_reducible refine Kd.C_drew ?_)))
           (case side2 => exact bN.out)
           (case side3 => exact Kd.C_nil _ _)
           (case side4 => exact Nat.le_refl _)
           rintro e kC ⟨dD, rfl, b8, hb⟩
           refine ⟨_, rfl, ?_⟩
           have bd := zp.mk (Kd.R_lower b8 (zk (zv7 HB.out)))
           replace A := zp.mk (zl (zv8 A.out) hb)
           replace HB := zp.mk (zj (zv7 HB.out) hb)
           (try clear hb)
           (try clear hb2)
           (try clear hk)
           (try clear hi)
           (try clear b8)
           obtain ⟨eT, e4, dB⟩ := Kd.R_slice bd.out
           (first | subst dB | (injection dB with f1_ f2_ f3_; have dc := f1_.symm; have cP := f3_.symm; clear f1_ f2_ f3_; subst dc; subst cP))
           refine hK.out _ _ ⟨(ze A.out 0).trans rfl, (ze A.out 1).trans rfl, (ze A.out 2).trans rfl, (ze A.out 3).trans rfl, (ze A.out 4).trans rfl, (ze A.out 5).trans rfl, ((HB.out.cell (World.block_lt_of_cell? w _ aI)).trans aI), ((HB.out.cell (World.block_lt_of_cell? w _ bo)).trans bo)⟩ (fun hHeld => ?_)
           clear hK K
           refine norm_ (a' := ?_) ?_ ?_
           rotate_left
           ·show Act.put _ (some 44) _ = _
            simp only [Act.put, zs1, zs2, zs3, i64_w, i32_w]
            rfl
           refine one_ (i := 5) (N := some 47) (zB 29 63) rfl rfl (one_of HT_.out (by kernel_rfl)) (by decide) (fun K hK => ?_)
           refine goes_ Try.func28 (by kernel_rfl) rfl #[.slice eT bi.length e4, .slice (some bh) D.length aH] (by rfl) rfl rfl (by (try simp only [List.map_toArray, List.map_cons, List.map_nil]); first | done | rfl | (simp only [List.length_drop, List.length_take]; rfl)) ?_
           with_reducible refine (spec_l07Same.calls kj1 _ _ bi _ _ D true _ ?side1 ?side2 ?side3 ?side4 dh.out).mono ?_
           (case side1 => repeat (first | exact (Kd.R_reads' bd.out).2.2 | (with_reducible refine Kd.zr ?_ _) | (with_reducible refine Kd.zq ?_ _) | (with_reducible refine Kd.C_drew ?_)))
           (case side2 => exact (Kd.R_reads' bd.out).2.1)
           (case side3 => repeat (first | exact (Kd.zt a9.out HB.out) | (with_reducible refine Kd.zr ?_ _) | (with_reducible refine Kd.zq ?_ _) | (with_reducible refine Kd.C_drew ?_)))
           (case side4 => exact bN.out)
           rintro e w' ⟨rfl, ⟨nd, rfl⟩⟩
           refine ⟨_, rfl, ?_⟩
           refine hK.out _ _ ⟨(ze A.out 0).trans rfl, (ze A.out 1).trans rfl, (ze A.out 2).trans rfl, (ze A.out 3).trans rfl, (ze A.out 4).trans rfl, (ze A.out 5).trans rfl, ((HB.out.cell (World.block_lt_of_cell? w _ aI)).trans aI), ((HB.out.cell (World.block_lt_of_cell? w _ bo)).trans bo)⟩ (fun hHeld => ?_)
           clear hK K
           refine norm_ (a' := ?_) ?_ ?_
           rotate_left
           ·show Act.put _ (some 47) _ = _
            simp only [Act.put, zs1, zs2, zs3, i64_w, i32_w]
            rfl
           refine zP 6 48 (zB 29 127) HT_ ?_
           refine zP 7 49 (zB 29 255) HT_ ?_
           refine zP 8 50 (zB 29 511) HT_ ?_
           refine zP 12 54 (zB 29 4607) HT_ ?_
           refine zT 9 51 (zB 29 5119) HT_ HW_ hHeld ?_
           refine zP 10 52 (zB 29 6143) HT_ ?_
           refine zT 11 53 (zB 29 8191) HT_ HW_ hHeld ?_
           refine zT 13 55 (zB 29 16383) HT_ HW_ hHeld ?_
           refine zP 14 56 (zB 29 32767) HT_ ?_
           refine zP 15 57 (zB 29 65535) HT_ ?_
           refine zP 16 58 (zB 29 131071) HT_ ?_
           refine zP 17 59 (zB 29 262143) HT_ ?_
           refine zP 19 61 (zB 29 786431) HT_ ?_
           refine zP 21 63 (zB 29 2883583) HT_ ?_
           refine zT 18 60 (zB 29 3145727) HT_ HW_ hHeld ?_
           refine zT 20 62 (zB 29 4194303) HT_ HW_ hHeld ?_
           refine zT 22 64 (zB 29 8388607) HT_ HW_ hHeld ?_
           refine zP 23 65 (zB 29 16777215) HT_ ?_
           refine zP 24 66 (zB 29 33554431) HT_ ?_
           refine zP 25 67 (zB 29 67108863) HT_ ?_
           refine zT 26 68 (zB 29 134217727) HT_ HW_ hHeld ?_
           refine zP 27 69 (zB 29 268435455) HT_ ?_
           refine zP 28 70 (zB 29 536870911) HT_ ?_
           refine done_ (done_of HT_.out (by kernel_rfl)) ?_
           try go_wp2
           go_meet
           case rel => exact ⟨_, (decide (ae > (rd D (bj)))), (by first | rfl | (simp; done) | (simp only [← bO] <;> (first | rfl | simp)) | (simp [*]; done)), H', ⟨by have := cL.out; first | omega | exact Nat.le_refl _⟩, ⟨zv8 A.out⟩, ⟨zv7 HB.out⟩⟩
          ·rw [if_neg cH] at H
           exact absurd H (by simp)
         ·rw [if_neg cE] at H
          exact absurd H (by simp)
        ·rw [if_neg b6] at H
         have cy : ((rd D 0) == am) = false := beq_eq_false_iff_ne.mpr b6
         have cu : ((rd D 0) != am) = true := bne_iff_ne.mpr b6
         have H' := zp.mk H
         clear H
         try go_wp2
         replace A := zp.mk (zi A.out)
         replace HB := zp.mk (zb HB.out)
         have bL : 0 ≤ (0 : Int) := (by omega)
         have bM : 0 < (D.length : Int) := of_decide_eq_true (by first | (with_reducible assumption) | assumption)
         obtain ⟨bh, cM, aN⟩ := Kd.at_int a9.out 0 bL bM
         have aI := aN
         (try rw [show ((0 : Int)).toNat = 0 from rfl] at aI)
         (try rw [show 0 * 1 = 0 from rfl] at aI)
         (try rw [Addr.add_zero'] at aI)
         cases cM
         have dH : (0 < D.length) = True := eq_true (by omega)
         (try rw [show ((0 : Int)).toNat = 0 from rfl] at aN)
         (try rw [Addr.add_zero'] at aN)
         replace aN := (HB.out.cell (World.block_lt_of_cell? w _ aN)).trans aN
         replace bL := eq_true bL
         replace bM := eq_true bM
         refine start_ (n := 29) (S := fun w' => w'.cell? ⟨ab, 0, none⟩ = some (.int .i64 y) ∧ w'.cell? ⟨ab, 1, none⟩ = some (.int .i64 al) ∧ w'.cell? ⟨ab, 2, none⟩ = some (.int .u64 ak) ∧ w'.cell? ⟨ab, 3, none⟩ = some (.int .i64 ae) ∧ w'.cell? ⟨ab, 4, none⟩ = some (.int .i64 am) ∧ w'.cell? ⟨ab, 5, none⟩ = some (.slice (some bh) D.length aH) ∧ w'.cell? bh = some (.int .i64 (rd D 0))) (ds := []) (zB 29 0) (by kernel_rfl) rfl rfl ⟨(ze A.out 0).trans rfl, (ze A.out 1).trans rfl, (ze A.out 2).trans rfl, (ze A.out 3).trans rfl, (ze A.out 4).trans rfl, (ze A.out 5).trans rfl, ((HB.out.cell (World.block_lt_of_cell? w _ aI)).trans aI)⟩ (fun hHeld => ?_); refine with_tabW spec_AggOk.tab5 spec_AggOk.bits5 (fun HT_ HW_ => ?_)
         generalize wc.drew = kx at A HB aN hHeld ⊢
         refine zP 0 42 (zB 29 1) HT_ ?_
         refine zP 3 45 (zB 29 9) HT_ ?_
         refine zT 1 43 (zB 29 11) HT_ HW_ hHeld ?_
         refine zT 4 46 (zB 29 27) HT_ HW_ hHeld ?_
         refine one_ (i := 2) (N := some 44) (zB 29 31) rfl rfl (one_of HT_.out (by kernel_rfl)) (by decide) (fun K hK => ?_)
         refine goes_ Try.func19 (by kernel_rfl) rfl #[.slice (some bh) D.length aH, .slice none 0 0] (by rfl) rfl rfl (by (try simp only [List.map_toArray, List.map_cons, List.map_nil]); first | done | rfl | (simp only [List.length_drop, List.length_take]; rfl)) ?_
         refine (spec_TopOf.calls kj1 _ _ D _ _ ([] : List Int) bi _ ?side1 ?side2 ?side3 ?side4 dg.out).mono ?_
         (case side1 => repeat (first | exact (Kd.zt a9.out HB.out) | (with_reducible refine Kd.zr ?_ _) | (with_reducible refine Kd.zq ?_ _) | (with_reducible refine Kd.C_drew ?_)))
         (case side2 => exact bN.out)
         (case side3 => exact Kd.C_nil _ _)
         (case side4 => exact Nat.le_refl _)
         rintro e kt ⟨dD, rfl, b8, hb⟩
         refine ⟨_, rfl, ?_⟩
         have bd := zp.mk (Kd.R_lower b8 (zk (zv7 HB.out)))
         replace A := zp.mk (zl (zv8 A.out) hb)
         replace HB := zp.mk (zj (zv7 HB.out) hb)
         (try clear hb)
         (try clear hb2)
         (try clear hk)
         (try clear hi)
         (try clear b8)
         obtain ⟨eW, fx, dm⟩ := Kd.R_slice bd.out
         (first | subst dm | (injection dm with f1_ f2_ f3_; have dc := f1_.symm; have cP := f3_.symm; clear f1_ f2_ f3_; subst dc; subst cP))
         refine hK.out _ _ ⟨(ze A.out 0).trans rfl, (ze A.out 1).trans rfl, (ze A.out 2).trans rfl, (ze A.out 3).trans rfl, (ze A.out 4).trans rfl, (ze A.out 5).trans rfl, ((HB.out.cell (World.block_lt_of_cell? w _ aI)).trans aI)⟩ (fun hHeld => ?_)
         clear hK K
         refine norm_ (a' := ?_) ?_ ?_
         rotate_left
         ·show Act.put _ (some 44) _ = _
          simp only [Act.put, zs1, zs2, zs3, i64_w, i32_w]
          rfl
         refine one_ (i := 5) (N := some 47) (zB 29 63) rfl rfl (one_of HT_.out (by kernel_rfl)) (by decide) (fun K hK => ?_)
         refine goes_ Try.func28 (by kernel_rfl) rfl #[.slice eW bi.length fx, .slice (some bh) D.length aH] (by rfl) rfl rfl (by (try simp only [List.map_toArray, List.map_cons, List.map_nil]); first | done | rfl | (simp only [List.length_drop, List.length_take]; rfl)) ?_
         with_reducible refine (spec_l07Same.calls kj1 _ _ bi _ _ D true _ ?side1 ?side2 ?side3 ?side4 dh.out).mono ?_
         (case side1 => repeat (first | exact (Kd.R_reads' bd.out).2.2 | (with_reducible refine Kd.zr ?_ _) | (with_reducible refine Kd.zq ?_ _) | (with_reducible refine Kd.C_drew ?_)))
         (case side2 => exact (Kd.R_reads' bd.out).2.1)
         (case side3 => repeat (first | exact (Kd.zt a9.out HB.out) | (with_reducible refine Kd.zr ?_ _) | (with_reducible refine Kd.zq ?_ _) | (with_reducible refine Kd.C_drew ?_)))
         (case side4 => exact bN.out)
         rintro e w' ⟨rfl, ⟨nd, rfl⟩⟩
         refine ⟨_, rfl, ?_⟩
         refine hK.out _ _ ⟨(ze A.out 0).trans rfl, (ze A.out 1).trans rfl, (ze A.out 2).trans rfl, (ze A.out 3).trans rfl, (ze A.out 4).trans rfl, (ze A.out 5).trans rfl, ((HB.out.cell (World.block_lt_of_cell? w _ aI)).trans aI)⟩ (fun hHeld => ?_)
         clear hK K
         refine norm_ (a' := ?_) ?_ ?_
         rotate_left
         ·show Act.put _ (some 47) _ = _
          simp only [Act.put, zs1, zs2, zs3, i64_w, i32_w]
          rfl
         refine zP 6 48 (zB 29 127) HT_ ?_
         refine zP 7 49 (zB 29 255) HT_ ?_
         refine zP 8 50 (zB 29 511) HT_ ?_
         refine zP 12 54 (zB 29 4607) HT_ ?_
         refine zT 9 51 (zB 29 5119) HT_ HW_ hHeld ?_
         refine zP 10 52 (zB 29 6143) HT_ ?_
         refine zT 11 53 (zB 29 8191) HT_ HW_ hHeld ?_
         refine zT 13 55 (zB 29 16383) HT_ HW_ hHeld ?_
         refine zP 14 56 (zB 29 32767) HT_ ?_
         refine zP 15 57 (zB 29 65535) HT_ ?_
         refine zP 16 58 (zB 29 131071) HT_ ?_
         refine zU 17 59 (zB 29 262143) HT_ ?_
         refine zU 18 60 (zB 29 524287) HT_ ?_
         refine zU 19 61 (zB 29 1048575) HT_ ?_
         refine zU 20 62 (zB 29 2097151) HT_ ?_
         refine zU 21 63 (zB 29 4194303) HT_ ?_
         refine zU 22 64 (zB 29 8388607) HT_ ?_
         refine zU 23 65 (zB 29 16777215) HT_ ?_
         refine zU 24 66 (zB 29 33554431) HT_ ?_
         refine zU 25 67 (zB 29 67108863) HT_ ?_
         refine zU 26 68 (zB 29 134217727) HT_ ?_
         refine zU 27 69 (zB 29 268435455) HT_ ?_
         refine zP 28 70 (zB 29 536870911) HT_ ?_
         refine done_ (done_of HT_.out (by kernel_rfl)) ?_
         try go_wp2
         go_meet
         case rel => exact ⟨_, (true), (by first | rfl | (simp; done) | (simp [*]; done)), H', ⟨by have := cL.out; first | omega | exact Nat.le_refl _⟩, ⟨zv8 A.out⟩, ⟨zv7 HB.out⟩⟩
       ·rw [if_neg cG] at H
        exact absurd H (by simp)
      ·replace cI := Bool.eq_false_iff.mpr cI
       subst cI
       have H1 : (spec_AggOk.j1 kj1 true y al ak ae am D) = some r := by rw [if_neg (show ¬ (false = true) by decide)] at H; exact H
       clear H
       have H := H1
       clear H1
       have H' := zp.mk H
       clear H
       try go_wp2
       replace A := zp.mk (zi A.out)
       replace HB := zp.mk (zb HB.out)
       refine start_ (n := 29) (S := fun w' => w'.cell? ⟨ab, 0, none⟩ = some (.int .i64 y) ∧ w'.cell? ⟨ab, 1, none⟩ = some (.int .i64 al) ∧ w'.cell? ⟨ab, 2, none⟩ = some (.int .u64 ak) ∧ w'.cell? ⟨ab, 3, none⟩ = some (.int .i64 ae) ∧ w'.cell? ⟨ab, 4, none⟩ = some (.int .i64 am) ∧ w'.cell? ⟨ab, 5, none⟩ = some (.slice bc D.length aH)) (ds := []) (zB 29 0) (by kernel_rfl) rfl rfl ⟨(ze A.out 0).trans rfl, (ze A.out 1).trans rfl, (ze A.out 2).trans rfl, (ze A.out 3).trans rfl, (ze A.out 4).trans rfl, (ze A.out 5).trans rfl⟩ (fun hHeld => ?_); refine with_tabW spec_AggOk.tab5 spec_AggOk.bits5 (fun HT_ HW_ => ?_)
       generalize wc.drew = kA at A HB hHeld ⊢
       refine zP 0 42 (zB 29 1) HT_ ?_
       refine zP 3 45 (zB 29 9) HT_ ?_
       refine zT 1 43 (zB 29 11) HT_ HW_ hHeld ?_
       refine zT 4 46 (zB 29 27) HT_ HW_ hHeld ?_
       refine one_ (i := 2) (N := some 44) (zB 29 31) rfl rfl (one_of HT_.out (by kernel_rfl)) (by decide) (fun K hK => ?_)
       refine goes_ Try.func19 (by kernel_rfl) rfl #[.slice bc D.length aH, .slice none 0 0] (by rfl) rfl rfl (by (try simp only [List.map_toArray, List.map_cons, List.map_nil]); first | done | rfl | (simp only [List.length_drop, List.length_take]; rfl)) ?_
       refine (spec_TopOf.calls kj1 _ _ D _ _ ([] : List Int) bi _ ?side1 ?side2 ?side3 ?side4 dg.out).mono ?_
       (case side1 => repeat (first | exact (Kd.zt a9.out HB.out) | (with_reducible refine Kd.zr ?_ _) | (with_reducible refine Kd.zq ?_ _) | (with_reducible refine Kd.C_drew ?_)))
       (case side2 => exact bN.out)
       (case side3 => exact Kd.C_nil _ _)
       (case side4 => exact Nat.le_refl _)
       rintro e kD ⟨dD, rfl, b8, hb⟩
       refine ⟨_, rfl, ?_⟩
       have bd := zp.mk (Kd.R_lower b8 (zk (zv7 HB.out)))
       replace A := zp.mk (zl (zv8 A.out) hb)
       replace HB := zp.mk (zj (zv7 HB.out) hb)
       (try clear hb)
       (try clear hb2)
       (try clear hk)
       (try clear hi)
       (try clear b8)
       obtain ⟨fD, ew, dr⟩ := Kd.R_slice bd.out
       (first | subst dr | (injection dr with f1_ f2_ f3_; have dc := f1_.symm; have cP := f3_.symm; clear f1_ f2_ f3_; subst dc; subst cP))
       refine hK.out _ _ ⟨(ze A.out 0).trans rfl, (ze A.out 1).trans rfl, (ze A.out 2).trans rfl, (ze A.out 3).trans rfl, (ze A.out 4).trans rfl, (ze A.out 5).trans rfl⟩ (fun hHeld => ?_)
       clear hK K
       refine norm_ (a' := ?_) ?_ ?_
       rotate_left
       ·show Act.put _ (some 44) _ = _
        simp only [Act.put, zs1, zs2, zs3, i64_w, i32_w]
        rfl
       refine one_ (i := 5) (N := some 47) (zB 29 63) rfl rfl (one_of HT_.out (by kernel_rfl)) (by decide) (fun K hK => ?_)
       refine goes_ Try.func28 (by kernel_rfl) rfl #[.slice fD bi.length ew, .slice bc D.length aH] (by rfl) rfl rfl (by (try simp only [List.map_toArray, List.map_cons, List.map_nil]); first | done | rfl | (simp only [List.length_drop, List.length_take]; rfl)) ?_
       with_reducible refine (spec_l07Same.calls kj1 _ _ bi _ _ D false _ ?side1 ?side2 ?side3 ?side4 dh.out).mono ?_
       (case side1 => repeat (first | exact (Kd.R_reads' bd.out).2.2 | (with_reducible refine Kd.zr ?_ _) | (with_reducible refine Kd.zq ?_ _) | (with_reducible refine Kd.C_drew ?_)))
       (case side2 => exact (Kd.R_reads' bd.out).2.1)
       (case side3 => repeat (first | exact (Kd.zt a9.out HB.out) | (with_reducible refine Kd.zr ?_ _) | (with_reducible refine Kd.zq ?_ _) | (with_reducible refine Kd.C_drew ?_)))
       (case side4 => exact bN.out)
       rintro e w' ⟨rfl, ⟨nd, rfl⟩⟩
       refine ⟨_, rfl, ?_⟩
       refine hK.out _ _ ⟨(ze A.out 0).trans rfl, (ze A.out 1).trans rfl, (ze A.out 2).trans rfl, (ze A.out 3).trans rfl, (ze A.out 4).trans rfl, (ze A.out 5).trans rfl⟩ (fun hHeld => ?_)
       clear hK K
       refine norm_ (a' := ?_) ?_ ?_
       rotate_left
       ·show Act.put _ (some 47) _ = _
        simp only [Act.put, zs1, zs2, zs3, i64_w, i32_w]
        rfl
       refine zP 6 48 (zB 29 127) HT_ ?_
       refine zP 7 49 (zB 29 255) HT_ ?_
       refine zU 8 50 (zB 29 511) HT_ ?_
       refine zU 9 51 (zB 29 1023) HT_ ?_
       refine zU 10 52 (zB 29 2047) HT_ ?_
       refine zU 11 53 (zB 29 4095) HT_ ?_
       refine zU 12 54 (zB 29 8191) HT_ ?_
       refine zU 13 55 (zB 29 16383) HT_ ?_
       refine zU 14 56 (zB 29 32767) HT_ ?_
       refine zP 15 57 (zB 29 65535) HT_ ?_
       refine zP 16 58 (zB 29 131071) HT_ ?_
       refine zU 17 59 (zB 29 262143) HT_ ?_
       refine zU 18 60 (zB 29 524287) HT_ ?_
       refine zU 19 61 (zB 29 1048575) HT_ ?_
       refine zU 20 62 (zB 29 2097151) HT_ ?_
       refine zU 21 63 (zB 29 4194303) HT_ ?_
       refine zU 22 64 (zB 29 8388607) HT_ ?_
       refine zU 23 65 (zB 29 16777215) HT_ ?_
       refine zU 24 66 (zB 29 33554431) HT_ ?_
       refine zU 25 67 (zB 29 67108863) HT_ ?_
       refine zU 26 68 (zB 29 134217727) HT_ ?_
       refine zU 27 69 (zB 29 268435455) HT_ ?_
       refine zP 28 70 (zB 29 536870911) HT_ ?_
       refine done_ (done_of HT_.out (by kernel_rfl)) ?_
       try go_wp2
       go_meet
       case rel => exact ⟨_, (true), (by first | rfl | (simp; done) | (simp [*]; done)), H', ⟨by have := cL.out; first | omega | exact Nat.le_refl _⟩, ⟨zv8 A.out⟩, ⟨zv7 HB.out⟩⟩
     case rest =>
      clear cO
      try clear c1
      try clear c2
      try clear p2
      try clear q2
      try clear hx2
      try clear qi2
      try clear c19
      try clear p20
      try clear q20
      try clear hx20
      try clear qi20
      try clear cI
      try clear cG
      try clear b6
      try clear cy
      try clear cu
      try clear cE
      try clear cH
      try clear c28
      try clear aN
      try clear bL
      try clear bM
      obtain ⟨kq, bQ, rfl, HA, dt, A, HB⟩ := hcut
      cases kq with
      | zero => exact absurd HA.out (by simp [spec_AggOk.j1])
      | succ kj16 =>
       have H := HA.out
       clear HA
       simp only [spec_AggOk.j1] at H
       by_cases cU : bQ = true
       ·subst cU
        have H1 : (some false) = some r := by rw [if_pos rfl] at H; exact H
        clear H
        have H := H1
        clear H1
        obtain rfl := Option.some.inj H
        go_wp2
        go_ret
        exact ⟨by first | rfl | (simp [errW_none, errW_some] <;> rfl) | (simp [*, errW_none, errW_some] <;> rfl), zv7 HB.out⟩
       ·replace cU := Bool.eq_false_iff.mpr cU
        subst cU
        have H1 : (spec_AggOk.l0 kj16 0 y al ak ae am D 0 0) = some r := by rw [if_neg (show ¬ (false = true) by decide)] at H; exact H
        clear H
        have H := H1
        clear H1
        have H' := zp.mk H
        clear H
        go_wp2_with (first | ((with_reducible refine zo (N := 3) rfl ?_); (try (refine gate_guard (by rfl) ?_; dsimp only)); refine zm ?hg (N := 3) ?hd (cs := #[.int .i64 0, .int .u64 0]) (t := 30) ?hr ?_; (case hd => rfl); (case hg => rfl); (case hr => first | (go_simp; done) | (go_simp; rfl)); intro ap hg kv hbox hb; have B := zp.mk (hbox); have h8 := zp.mk ((zv3 (zv7 HB.out) hg)); have jj := zp.mk ((zv3 (zv7 HB.out) hg)); have aQ := zp.mk ((by rw [hg]; exact Nat.ne_of_lt (blk_lt (g := ab) (o := .cells #[.int .i64 y, .int .i64 al, .int .u64 ak, .int .i64 ae, .int .i64 am, .slice bc D.length aH] 32 (0, 0)) (zv8 A.out)) : ab ≠ ap)); have a2 := zp.mk ((by rw [hg]; exact Nat.ne_of_gt (blk_lt (g := ab) (o := .cells #[.int .i64 y, .int .i64 al, .int .u64 ak, .int .i64 ae, .int .i64 am, .slice bc D.length aH] 32 (0, 0)) (zv8 A.out)) : ap ≠ ab)); replace A := zp.mk (zl (zv8 A.out) hb); replace HB := zp.mk (zj (zv7 HB.out) hb); clear hb hbox hg; have iz := a2.out; have hv := aQ.out; have dU := zt0 B.out; have dZ := zt1 B.out; have dP := zd B.out 0; have dT := zd B.out 1))
        go_loopg [4] kj16 (fun kq v4 w' => ∃ (bb : Int) (s : Int) (l : Int), v4 = .int .i64 bb ∧ zp (spec_AggOk.l0 kq bb y al ak ae am D s l = some r) ∧ zp (kq ≤ kj16) ∧ zp (w'.heap[ab]? = some (.cells #[.int .i64 y, .int .i64 al, .int .u64 ak, .int .i64 ae, .int .i64 am, (.slice bc D.length aH)] 32 (0, 0))) ∧ zp (w'.heap[ap]? = some (.cells #[.int .i64 s, .int .u64 l] 30 (0, 0))) ∧ zp (Below w.heap.size w w'))
        case atStart => exact ⟨(0), (0), (0), (by first | rfl | (simp; done) | (simp [*]; done)), H', ⟨Nat.le_refl _⟩, ⟨by (with_reducible repeat (first | refine zf ?_ _ | refine zi ?_ | refine zg ?_ _)); refine blk_far ?_ aQ.out _; (with_reducible repeat (first | refine zf ?_ _ | refine zi ?_ | refine zg ?_ _)); refine blk_far ?_ aQ.out _; (with_reducible repeat (first | refine zf ?_ _ | refine zi ?_ | refine zg ?_ _)); exact A.out⟩, ⟨by (with_reducible repeat (first | refine zf ?_ _ | refine zi ?_ | refine zg ?_ _)); refine blk_put (cs := #[.int .i64 0, .int .u64 0]) ?_ 1 _ rfl; (with_reducible repeat (first | refine zf ?_ _ | refine zi ?_ | refine zg ?_ _)); refine blk_put (cs := #[.int .i64 0, .int .u64 0]) ?_ 0 _ rfl; (with_reducible repeat (first | refine zf ?_ _ | refine zi ?_ | refine zg ?_ _)); exact B.out⟩, ⟨zv7 HB.out⟩⟩
        case round =>
         clear H'
         try clear c1
         try clear c2
         try clear p2
         try clear q2
         try clear hx2
         try clear qi2
         try clear c3
         try clear c19
         try clear p20
         try clear q20
         try clear hx20
         try clear qi20
         try clear cI
         try clear cG
         try clear b6
         try clear cy
         try clear cu
         try clear cE
         try clear cH
         try clear c28
         try clear cU
         try clear c38
         try clear dU
         try clear dZ
         try clear dP
         try clear dT
         try clear aN
         try clear p2
         try clear p20
         try clear bL
         try clear q2
         try clear q20
         try clear bM
         obtain ⟨bb, s, l, rfl, HA, ft, A, B, HB⟩ := hrel
         cases gk with
         | zero => exact absurd HA.out (by simp [spec_AggOk.l0])
         | succ k3 =>
          have H := HA.out
          clear HA
          simp only [spec_AggOk.l0] at H
          by_cases cJ : bb < (D.length : Int)
          ·rw [if_pos cJ] at H
           have dM : decide (bb < (D.length : Int)) = true := decide_eq_true cJ
           clear cJ
           by_cases di : 0 ≤ bb
           ·rw [if_pos di] at H
            have hZ : decide (0 ≤ bb) = true := decide_eq_true di
            clear di
            replace H := zs4 H
            obtain ⟨⟨cC, cD⟩, dl, H⟩ := H
            replace H : ((spec_WideAdd.f s l cC cD).bind fun bY => (spec_AggOk.l0 k3 (wrap64 (bb + 1)) y al ak ae am D bY.1 bY.2)) = some r := H
            have h9 := zp.mk dl
            clear dl
            replace H := zs4 H
            obtain ⟨⟨cB, db⟩, dA, H⟩ := H
            replace H : (spec_AggOk.l0 k3 (wrap64 (bb + 1)) y al ak ae am D cB db) = some r := H
            have hA := zp.mk dA
            clear dA
            have H' := zp.mk H
            clear H
            have ji := aQ.out
            have hE := a2.out
            have hh := zt0 A.out
            have g4 := zt1 A.out
            have hF := zt2 A.out
            have jx := zt3 A.out
            have g3 := zt4 A.out
            have iN := zt5 A.out
            have jB := zd A.out 0
            have i5 := zd A.out 1
            have iQ := zd A.out 2
            have gW := zd A.out 3
            have jO := zd A.out 4
            have j5 := zd A.out 5
            try go_wp2
            replace A := zp.mk (zi A.out)
            replace B := zp.mk (zi B.out)
            replace HB := zp.mk (zb HB.out)
            have cT : 0 ≤ (bb : Int) := of_decide_eq_true (by first | (with_reducible assumption) | assumption)
            have cS : bb < (D.length : Int) := of_decide_eq_true (by first | (with_reducible assumption) | assumption)
            obtain ⟨de, fN, bH⟩ := Kd.at_int a9.out bb cT cS
            have bm := bH
            cases fN
            replace bH := (HB.out.cell (World.block_lt_of_cell? w _ bH)).trans bH
            replace cT := eq_true cT
            replace cS := eq_true cS
            refine start_ (n := 9) (S := fun w' => w'.cell? ⟨ap, 0, none⟩ = some (.int .i64 s) ∧ w'.cell? ⟨ap, 1, none⟩ = some (.int .u64 l) ∧ w'.cell? ⟨ab, 0, none⟩ = some (.int .i64 y) ∧ w'.cell? ⟨ab, 1, none⟩ = some (.int .i64 al) ∧ w'.cell? ⟨ab, 2, none⟩ = some (.int .u64 ak) ∧ w'.cell? ⟨ab, 3, none⟩ = some (.int .i64 ae) ∧ w'.cell? ⟨ab, 4, none⟩ = some (.int .i64 am) ∧ w'.cell? ⟨ab, 5, none⟩ = some (.slice (some de) D.length aH) ∧ w'.cell? (de.add (bb).toNat) = some (.int .i64 (rd D bb))) (ds := [8]) (zB 9 0) (by kernel_rfl) rfl rfl ⟨(ze B.out 0).trans rfl, (ze B.out 1).trans rfl, (ze A.out 0).trans rfl, (ze A.out 1).trans rfl, (ze A.out 2).trans rfl, (ze A.out 3).trans rfl, (ze A.out 4).trans rfl, (ze A.out 5).trans rfl, ((HB.out.cell (World.block_lt_of_cell? w _ bm)).trans bm)⟩ (fun hHeld => ?_); refine with_tabW spec_AggOk.tab11 spec_AggOk.bits11 (fun HT_ HW_ => ?_)
            generalize wr.drew = kz at A B HB bH hHeld ⊢
            refine zP 1 80 (zB 9 2) HT_ ?_
            refine zP 3 82 (zB 9 10) HT_ ?_
            refine zT 0 79 (zB 9 11) HT_ HW_ hHeld ?_
            refine zT 2 81 (zB 9 15) HT_ HW_ hHeld ?_
            refine zP 4 83 (zB 9 31) HT_ ?_
            refine zT 5 84 (zB 9 63) HT_ HW_ hHeld ?_
            refine one_ (i := 6) (N := some 85) (zB 9 127) rfl rfl (one_of HT_.out (by kernel_rfl)) (by decide) (fun K hK => ?_)
            refine goes_ Try.func30 (by kernel_rfl) rfl #[.int .i64 (rd D bb)] (by rfl) rfl rfl (by (try simp only [List.map_toArray, List.map_cons, List.map_nil]); first | done | rfl | (simp only [List.length_drop, List.length_take]; rfl)) ?_
            with_reducible refine (spec_WideOf.calls (rd D bb) cC cD _ h9.out).mono ?_
            rintro e kr ⟨rfl, hb⟩
            refine ⟨_, rfl, ?_⟩
            replace A := zp.mk (zl (zv8 A.out) hb)
            replace B := zp.mk (zl (zv8 B.out) hb)
            replace HB := zp.mk (zj (zv7 HB.out) hb)
            (try clear hb)
            (try clear hb2)
            (try clear hk)
            (try clear hi)
            refine hK.out _ _ ⟨(ze B.out 0).trans rfl, (ze B.out 1).trans rfl, (ze A.out 0).trans rfl, (ze A.out 1).trans rfl, (ze A.out 2).trans rfl, (ze A.out 3).trans rfl, (ze A.out 4).trans rfl, (ze A.out 5).trans rfl, ((HB.out.cell (World.block_lt_of_cell? w _ bm)).trans bm)⟩ (fun hHeld => ?_)
            clear hK K
            refine norm_ (a' := ?_) ?_ ?_
            rotate_left
            ·show Act.put _ (some 85) _ = _
             simp only [Act.put, zs1, zs2, zs3, i64_w, i32_w]
             rfl
            refine one_ (i := 7) (N := some 86) (zB 9 255) rfl rfl (one_of HT_.out (by kernel_rfl)) (by decide) (fun K hK => ?_)
            refine goes_ Try.func29 (by kernel_rfl) rfl #[.agg #[.int .i64 s, .int .u64 l], .agg #[.int .i64 cC, .int .u64 cD]] (by rfl) rfl rfl (by (try simp only [List.map_toArray, List.map_cons, List.map_nil]); first | done | rfl | (simp only [List.length_drop, List.length_take]; rfl)) ?_
            with_reducible refine (spec_WideAdd.calls s l cC cD cB db _ hA.out).mono ?_
            rintro e e0 ⟨rfl, hb⟩
            refine ⟨_, rfl, ?_⟩
            replace A := zp.mk (zl (zv8 A.out) hb)
            replace B := zp.mk (zl (zv8 B.out) hb)
            replace HB := zp.mk (zj (zv7 HB.out) hb)
            (try clear hb)
            (try clear hb2)
            (try clear hk)
            (try clear hi)
            refine hK.out _ _ ⟨(ze B.out 0).trans rfl, (ze B.out 1).trans rfl, (ze A.out 0).trans rfl, (ze A.out 1).trans rfl, (ze A.out 2).trans rfl, (ze A.out 3).trans rfl, (ze A.out 4).trans rfl, (ze A.out 5).trans rfl, ((HB.out.cell (World.block_lt_of_cell? w _ bm)).trans bm)⟩ (fun hHeld => ?_)
            clear hK K
            refine norm_ (a' := ?_) ?_ ?_
            rotate_left
            ·show Act.put _ (some 86) _ = _
             simp only [Act.put, zs1, zs2, zs3, i64_w, i32_w]
             rfl
            refine last_ (i := 8) (N := none) (zB 9 511) rfl rfl (one_of HT_.out (by kernel_rfl)) (by decide) (fun K hK => ?_)
            have km : e0.cell? ⟨ap, 0, none⟩ = some (.int .i64 s) := (ze B.out 0).trans rfl
            have ih := zd B.out 0
            have fk := aQ.out
            have fw := a2.out
            have kk : e0.cell? ⟨ap, 1, none⟩ = some (.int .u64 l) := (ze B.out 1).trans rfl
            have ka := zd B.out 1
            have fE := aQ.out
            have fC := a2.out
            refine skip_ (w1 := ?_) (by rfl) rfl ?_ ?_
            rotate_left
            ·go_simp
             rfl
            refine hK.out _ _ ?_
            clear hK K
            refine done_ (done_of HT_.out (by kernel_rfl)) ?_
            try go_wp2
            go_roundg k3
            case measure => have := cL.out; have := dt.out; have := ft.out; omega
            case rel => exact ⟨(wrap64 (bb + 1)), (cB), (db), (by first | rfl | (simp; done) | (simp [*]; done)), H', ⟨by have := cL.out; have := dt.out; have := ft.out; omega⟩, ⟨by (with_reducible repeat (first | refine zf ?_ _ | refine zi ?_ | refine zg ?_ _)); refine blk_far ?_ aQ.out _; (with_reducible repeat (first | refine zf ?_ _ | refine zi ?_ | refine zg ?_ _)); refine blk_far ?_ aQ.out _; (with_reducible repeat (first | refine zf ?_ _ | refine zi ?_ | refine zg ?_ _)); exact A.out⟩, ⟨by (with_reducible repeat (first | refine zf ?_ _ | refine zi ?_ | refine zg ?_ _)); refine blk_put (cs := #[.int .i64 cB, .int .u64 l]) ?_ 1 _ rfl; (with_reducible repeat (first | refine zf ?_ _ | refine zi ?_ | refine zg ?_ _)); refine blk_put (cs := #[.int .i64 s, .int .u64 l]) ?_ 0 _ rfl; (with_reducible repeat (first | refine zf ?_ _ | refine zi ?_ | refine zg ?_ _)); exact B.out⟩, ⟨zv7 HB.out⟩⟩
           ·rw [if_neg di] at H
            exact absurd H (by simp)
          ·rw [if_neg cJ] at H
           have dM : decide (bb < (D.length : Int)) = false := decide_eq_false cJ
           clear cJ
           by_cases cx : (wrap64 (y - (D.length : Int))) = 0
           ·rw [if_pos cx] at H
            have dK : ((wrap64 (y - (D.length : Int))) == 0) = true := beq_iff_eq.mpr cx
            have dN : ((wrap64 (y - (D.length : Int))) != 0) = false := bne_eq_false_iff_eq.mpr cx
            clear cx
            obtain ⟨a4, b3⟩ : ∃ j_ : Int, (wrap64 ((D.length : Int) - 1)) = j_ := ⟨_, rfl⟩
            replace H : (if 0 ≤ (a4) then (if (a4) < (D.length : Int) then (if ae = (rd D (a4)) then (some (al == s && (ak == l))) else (some false)) else (none)) else (none)) = some r := by first | (rw [b3] at H; exact H) | (simp only [b3] at H ⊢; exact H)
            have gR : (IntKind.i64.wrap ((D.length : Int) - 1)) = a4 := (i64_w _).trans b3
            by_cases dj : 0 ≤ (a4)
            ·rw [if_pos dj] at H
             have hB : decide (0 ≤ (a4)) = true := decide_eq_true dj
             clear dj
             by_cases dk : (a4) < (D.length : Int)
             ·rw [if_pos dk] at H
              have iU : decide ((a4) < (D.length : Int)) = true := decide_eq_true dk
              clear dk
              by_cases cv : ae = (rd D (a4))
              ·rw [if_pos cv] at H
               have dR : (ae == (rd D (a4))) = true := beq_iff_eq.mpr cv
               have dY : (ae != (rd D (a4))) = false := bne_eq_false_iff_eq.mpr cv
               clear cv
               obtain rfl := Option.some.inj H
               have jM := aQ.out
               have hH := a2.out
               have h5 := zt0 A.out
               have jr := zt1 A.out
               have jA := zt2 A.out
               have iJ := zt3 A.out
               have jN := zt4 A.out
               have jv := zt5 A.out
               have iV := zd A.out 0
               have hl := zd A.out 1
               have jd := zd A.out 2
               have hR := zd A.out 3
               have gV := zd A.out 4
               have jT := zd A.out 5
               try go_wp2
               replace A := zp.mk (zi A.out)
               replace B := zp.mk (zi B.out)
               replace HB := zp.mk (zb HB.out)
               have bV : 0 ≤ ((a4) : Int) := of_decide_eq_true (by first | (with_reducible assumption) | assumption)
               have b0 : (a4) < (D.length : Int) := of_decide_eq_true (by first | (with_reducible assumption) | assumption)
               obtain ⟨bX, cZ, a1⟩ := Kd.at_int a9.out (a4) bV b0
               have bF := a1
               cases cZ
               replace a1 := (HB.out.cell (World.block_lt_of_cell? w _ a1)).trans a1
               replace bV := eq_true bV
               replace b0 := eq_true b0
               refine start_ (n := 18) (S := fun w' => w'.cell? ⟨ab, 0, none⟩ = some (.int .i64 y) ∧ w'.cell? ⟨ab, 1, none⟩ = some (.int .i64 al) ∧ w'.cell? ⟨ab, 2, none⟩ = some (.int .u64 ak) ∧ w'.cell? ⟨ab, 3, none⟩ = some (.int .i64 ae) ∧ w'.cell? ⟨ab, 4, none⟩ = some (.int .i64 am) ∧ w'.cell? ⟨ab, 5, none⟩ = some (.slice (some bX) D.length aH) ∧ w'.cell? ⟨ap, 0, none⟩ = some (.int .i64 s) ∧ w'.cell? ⟨ap, 1, none⟩ = some (.int .u64 l) ∧ w'.cell? (bX.add ((a4)).toNat) = some (.int .i64 (rd D (a4)))) (ds := []) (zB 18 0) (by kernel_rfl) rfl rfl ⟨(ze A.out 0).trans rfl, (ze A.out 1).trans rfl, (ze A.out 2).trans rfl, (ze A.out 3).trans rfl, (ze A.out 4).trans rfl, (ze A.out 5).trans rfl, (ze B.out 0).trans rfl, (ze B.out 1).trans rfl, ((HB.out.cell (World.block_lt_of_cell? w _ bF)).trans bF)⟩ (fun hHeld => ?_); refine with_tabW spec_AggOk.tab14 spec_AggOk.bits14 (fun HT_ HW_ => ?_)
               generalize wr.drew = ku at A B HB a1 hHeld ⊢
               refine zP 0 95 (zB 18 1) HT_ ?_
               refine zP 2 97 (zB 18 5) HT_ ?_
               refine zP 4 99 (zB 18 21) HT_ ?_
               refine zT 1 96 (zB 18 23) HT_ HW_ hHeld ?_
               refine zT 3 98 (zB 18 31) HT_ HW_ hHeld ?_
               refine zT 5 100 (zB 18 63) HT_ HW_ hHeld ?_
               refine zP 6 101 (zB 18 127) HT_ ?_
               refine zP 7 102 (zB 18 255) HT_ ?_
               refine zP 8 103 (zB 18 511) HT_ ?_
               refine zT 9 104 (zB 18 1023) HT_ HW_ hHeld ?_
               refine zP 10 105 (zB 18 2047) HT_ ?_
               refine zP 11 106 (zB 18 4095) HT_ ?_
               refine zP 12 107 (zB 18 8191) HT_ ?_
               refine zT 13 108 (zB 18 16383) HT_ HW_ hHeld ?_
               refine zT 14 109 (zB 18 32767) HT_ HW_ hHeld ?_
               refine zP 15 110 (zB 18 65535) HT_ ?_
               refine zP 16 111 (zB 18 131071) HT_ ?_
               refine zP 17 2 (zB 18 262143) HT_ ?_
               refine done_ (done_of HT_.out (by kernel_rfl)) ?_
               try go_wp2
               go_ret
               exact ⟨by first | rfl | (simp [errW_none, errW_some] <;> rfl) | (simp only [← b3]; first | rfl | (simp [errW_none, errW_some] <;> rfl)) | (simp [*, errW_none, errW_some] <;> rfl), zv7 HB.out⟩
              ·rw [if_neg cv] at H
               have dR : (ae == (rd D (a4))) = false := beq_eq_false_iff_ne.mpr cv
               have dY : (ae != (rd D (a4))) = true := bne_iff_ne.mpr cv
               obtain rfl := Option.some.inj H
               have iy := aQ.out
               have iF := a2.out
               have io := zt0 A.out
               have g7 := zt1 A.out
               have hY := zt2 A.out
               have jP := zt3 A.out
               have hs := zt4 A.out
               have ib := zt5 A.out
               have i8 := zd A.out 0
               have hw := zd A.out 1
               have jD := zd A.out 2
               have ht := zd A.out 3
               have im := zd A.out 4
               have hx := zd A.out 5
               try go_wp2
               replace A := zp.mk (zi A.out)
               replace B := zp.mk (zi B.out)
               replace HB := zp.mk (zb HB.out)
               have bV : 0 ≤ ((a4) : Int) := of_decide_eq_true (by first | (with_reducible assumption) | assumption)
               have b0 : (a4) < (D.length : Int) := of_decide_eq_true (by first | (with_reducible assumption) | assumption)
               obtain ⟨bX, cZ, a1⟩ := Kd.at_int a9.out (a4) bV b0
               have bF := a1
               cases cZ
               replace a1 := (HB.out.cell (World.block_lt_of_cell? w _ a1)).trans a1
               replace bV := eq_true bV
               replace b0 := eq_true b0
               refine start_ (n := 18) (S := fun w' => w'.cell? ⟨ab, 0, none⟩ = some (.int .i64 y) ∧ w'.cell? ⟨ab, 1, none⟩ = some (.int .i64 al) ∧ w'.cell? ⟨ab, 2, none⟩ = some (.int .u64 ak) ∧ w'.cell? ⟨ab, 3, none⟩ = some (.int .i64 ae) ∧ w'.cell? ⟨ab, 4, none⟩ = some (.int .i64 am) ∧ w'.cell? ⟨ab, 5, none⟩ = some (.slice (some bX) D.length aH) ∧ w'.cell? (bX.add ((a4)).toNat) = some (.int .i64 (rd D (a4)))) (ds := []) (zB 18 0) (by kernel_rfl) rfl rfl ⟨(ze A.out 0).trans rfl, (ze A.out 1).trans rfl, (ze A.out 2).trans rfl, (ze A.out 3).trans rfl, (ze A.out 4).trans rfl, (ze A.out 5).trans rfl, ((HB.out.cell (World.block_lt_of_cell? w _ bF)).trans bF)⟩ (fun hHeld => ?_); refine with_tabW spec_AggOk.tab14 spec_AggOk.bits14 (fun HT_ HW_ => ?_)
               generalize wr.drew = kp at A B HB a1 hHeld ⊢
               refine zP 0 95 (zB 18 1) HT_ ?_
               refine zP 2 97 (zB 18 5) HT_ ?_
               refine zP 4 99 (zB 18 21) HT_ ?_
               refine zT 1 96 (zB 18 23) HT_ HW_ hHeld ?_
               refine zT 3 98 (zB 18 31) HT_ HW_ hHeld ?_
               refine zT 5 100 (zB 18 63) HT_ HW_ hHeld ?_
               refine zP 6 101 (zB 18 127) HT_ ?_
               refine zP 7 102 (zB 18 255) HT_ ?_
               refine zP 8 103 (zB 18 511) HT_ ?_
               refine zT 9 104 (zB 18 1023) HT_ HW_ hHeld ?_
               refine zP 10 105 (zB 18 2047) HT_ ?_
               refine zP 11 106 (zB 18 4095) HT_ ?_
               refine zU 12 107 (zB 18 8191) HT_ ?_
               refine zU 13 108 (zB 18 16383) HT_ ?_
               refine zU 14 109 (zB 18 32767) HT_ ?_
               refine zU 15 110 (zB 18 65535) HT_ ?_
               refine zP 16 111 (zB 18 131071) HT_ ?_
               refine zP 17 2 (zB 18 262143) HT_ ?_
               refine done_ (done_of HT_.out (by kernel_rfl)) ?_
               try go_wp2
               go_ret
               exact ⟨by first | rfl | (simp [errW_none, errW_some] <;> rfl) | (simp only [← b3]; first | rfl | (simp [errW_none, errW_some] <;> rfl)) | (simp [*, errW_none, errW_some] <;> rfl), zv7 HB.out⟩
             ·rw [if_neg dk] at H
              exact absurd H (by simp)
            ·rw [if_neg dj] at H
             exact absurd H (by simp)
           ·rw [if_neg cx] at H
            have dK : ((wrap64 (y - (D.length : Int))) == 0) = false := beq_eq_false_iff_ne.mpr cx
            have dN : ((wrap64 (y - (D.length : Int))) != 0) = true := bne_iff_ne.mpr cx
            replace H := zs4 H
            obtain ⟨⟨bv, bu⟩, dF, H⟩ := H
            replace H : ((spec_WideAdd.f s l bv bu).bind fun bT => ((spec_WideOf.f ae).bind fun bG => ((spec_WideAdd.f s l bG.1 bG.2).bind fun bg => (if 3 < (D.length : Int) then ((spec_l07Times.f k3 (wrap64 ((wrap64 (y - (D.length : Int))) - 1)) (rd D 3)).bind fun a8 => ((spec_WideAdd.f bg.1 bg.2 a8.1 a8.2).bind fun a3 => ((spec_WideCmp.f al ak bT.1 bT.2).bind fun a7 => (if a7 ≥ 0 then ((spec_WideCmp.f al ak a3.1 a3.2).bind fun ba => (some (decide (ba ≤ 0)))) else (some false))))) else (none))))) = some r := H
            have fe := zp.mk dF
            clear dF
            replace H := zs4 H
            obtain ⟨⟨aX, aZ⟩, dC, H⟩ := H
            replace H : ((spec_WideOf.f ae).bind fun bG => ((spec_WideAdd.f s l bG.1 bG.2).bind fun bg => (if 3 < (D.length : Int) then ((spec_l07Times.f k3 (wrap64 ((wrap64 (y - (D.length : Int))) - 1)) (rd D 3)).bind fun a8 => ((spec_WideAdd.f bg.1 bg.2 a8.1 a8.2).bind fun a3 => ((spec_WideCmp.f al ak aX aZ).bind fun a7 => (if a7 ≥ 0 then ((spec_WideCmp.f al ak a3.1 a3.2).bind fun ba => (some (decide (ba ≤ 0)))) else (some false))))) else (none)))) = some r := H
            have fQ := zp.mk dC
            clear dC
            replace H := zs4 H
            obtain ⟨⟨bq, bp⟩, dx, H⟩ := H
            replace H : ((spec_WideAdd.f s l bq bp).bind fun bg => (if 3 < (D.length : Int) then ((spec_l07Times.f k3 (wrap64 ((wrap64 (y - (D.length : Int))) - 1)) (rd D 3)).bind fun a8 => ((spec_WideAdd.f bg.1 bg.2 a8.1 a8.2).bind fun a3 => ((spec_WideCmp.f al ak aX aZ).bind fun a7 => (if a7 ≥ 0 then ((spec_WideCmp.f al ak a3.1 a3.2).bind fun ba => (some (decide (ba ≤ 0)))) else (some false))))) else (none))) = some r := H
            have eF := zp.mk dx
            clear dx
            replace H := zs4 H
            obtain ⟨⟨bl, bk⟩, dz, H⟩ := H
            replace H : (if 3 < (D.length : Int) then ((spec_l07Times.f k3 (wrap64 ((wrap64 (y - (D.length : Int))) - 1)) (rd D 3)).bind fun a8 => ((spec_WideAdd.f bl bk a8.1 a8.2).bind fun a3 => ((spec_WideCmp.f al ak aX aZ).bind fun a7 => (if a7 ≥ 0 then ((spec_WideCmp.f al ak a3.1 a3.2).bind fun ba => (some (decide (ba ≤ 0)))) else (some false))))) else (none)) = some r := H
            have eY := zp.mk dz
            clear dz
            by_cases df : 3 < (D.length : Int)
            ·rw [if_pos df] at H
             have iR : decide (3 < (D.length : Int)) = true := decide_eq_true df
             have hc : decide (3 < D.length) = true := decide_eq_true (by omega)
             clear df
             replace H := zs4 H
             obtain ⟨⟨bs, bn⟩, dn, H⟩ := H
             replace H : ((spec_WideAdd.f bl bk bs bn).bind fun a3 => ((spec_WideCmp.f al ak aX aZ).bind fun a7 => (if a7 ≥ 0 then ((spec_WideCmp.f al ak a3.1 a3.2).bind fun ba => (some (decide (ba ≤ 0)))) else (some false)))) = some r := H
             have ff := zp.mk dn
             clear dn
             replace H := zs4 H
             obtain ⟨⟨be, br⟩, dv, H⟩ := H
             replace H : ((spec_WideCmp.f al ak aX aZ).bind fun a7 => (if a7 ≥ 0 then ((spec_WideCmp.f al ak be br).bind fun ba => (some (decide (ba ≤ 0)))) else (some false))) = some r := H
             have eC := zp.mk dv
             clear dv
             replace H := zs4 H
             obtain ⟨a7, dq, H⟩ := H
             replace H : (if a7 ≥ 0 then ((spec_WideCmp.f al ak be br).bind fun ba => (some (decide (ba ≤ 0)))) else (some false)) = some r := H
             have fH := zp.mk dq
             clear dq
             by_cases cF : a7 ≥ 0
             ·rw [if_pos cF] at H
              have dV : decide (0 ≤ a7) = true := decide_eq_true cF
              clear cF
              replace H := zs4 H
              obtain ⟨ba, dw, H⟩ := H
              replace H : (some (decide (ba ≤ 0))) = some r := H
              have iO := zp.mk dw
              clear dw
              obtain rfl := Option.some.inj H
              have js := aQ.out
              have gZ := a2.out
              have ja := zt0 A.out
              have g2 := zt1 A.out
              have jX := zt2 A.out
              have iY := zt3 A.out
              have i4 := zt4 A.out
              have hz := zt5 A.out
              have hy := zd A.out 0
              have hI := zd A.out 1
              have iZ := zd A.out 2
              have ii := zd A.out 3
              have iI := zd A.out 4
              have iL := zd A.out 5
              try go_wp2
              replace A := zp.mk (zi A.out)
              replace B := zp.mk (zi B.out)
              replace HB := zp.mk (zb HB.out)
              refine start_ (n := 8) (S := fun w' => True) (ds := []) (zB 8 0) (by kernel_rfl) rfl rfl trivial (fun hHeld => ?_); refine with_tabW spec_AggOk.tab15 spec_AggOk.bits15 (fun HT_ HW_ => ?_)
              generalize wr.drew = kB at A B HB hHeld ⊢
              refine zP 1 113 (zB 8 2) HT_ ?_
              refine zP 2 114 (zB 8 6) HT_ ?_
              refine inv_at [0, 3, 4, 5, 6, 7] (fun cA b a w' => ∃ (u : Nat) (a5 : Value), a = putSel cA b [(0, 112, .agg #[.int .i64 s, .int .u64 l]), (3, 115, .int .i64 ae), (4, 116, .agg #[.int .i64 bv, .int .u64 bu]), (5, 117, .agg #[.int .i64 aX, .int .u64 aZ]), (6, 6, a5)] ∧ (w'.heap[ab]? = some (.cells #[.int .i64 y, .int .i64 al, .int .u64 ak, .int .i64 ae, .int .i64 am, .slice bc D.length aH] 32 (0, 0))) ∧ (w'.heap[ap]? = some (.cells #[.int .i64 s, .int .u64 l] 30 (0, 0))) ∧ (Below w.heap.size w w') ∧ (b 6 = true → b 7 = false → w'.heap[u]? = some (.cells #[.int .i64 0, .int .u64 0] 30 (0, 0))) ∧ (b 6 = true → w.heap.size ≤ u) ∧ (b 6 = true → w.heap.size ≤ u) ∧ (b 6 = true → ab ≠ u) ∧ (b 6 = true → u ≠ ab) ∧ (b 6 = true → ap ≠ u) ∧ (b 6 = true → u ≠ ap) ∧ (b 7 = true → w'.heap[u]? = some (.cells #[.int .i64 aX, .int .u64 aZ] 30 (0, 0))) ∧ (b 6 = true → (a5 : Value) = .pointer (some ⟨u, 0, none⟩))) HT_.out HW_.out (by kernel_rfl) (by kernel_rfl) ?_ ?_ ?_
              ·exact ⟨0, .bool false, by simp only [putSel, Bool.false_eq_true, if_false], A.out, B.out, HB.out, fun h_ => absurd h_ (by decide), fun h_ => absurd h_ (by decide), fun h_ => absurd h_ (by decide), fun h_ => absurd h_ (by decide), fun h_ => absurd h_ (by decide), fun h_ => absurd h_ (by decide), fun h_ => absurd h_ (by decide), fun h_ => absurd h_ (by decide), fun h_ => absurd h_ (by decide)⟩
              ·skip
               clear A B HB
               refine steps_cons ?_ ?_
               ·rintro b a w' ⟨u, a5, ha, I, G, Q_HB, J, aq, ar, ah, ai, af, ag, au, aK⟩ hb_ hon hoff
                refine ⟨_, rfl, fun K hK => ?_⟩
                have e3 : a.tmps[3]? = some (.pointer (some ⟨ap, 0, none⟩)) := by rw [ha]; exact (putSel_off rfl).trans rfl
                replace ha := zp.mk ha
                have A := zp.mk I
                have B := zp.mk G
                have HB := zp.mk Q_HB
                have bK := zt0 B.out
                have bJ := zt1 B.out
                refine value_ (w1 := w') (v := .agg #[.int .i64 s, .int .u64 l]) (by rfl) rfl ?_ ?_
                ·go_simp
                 (try simp only [i64_w])
                 try rfl
                refine hK.out _ _ ⟨u, a5, (by rw [ha.out]; exact putSel_upk 0 hb_ rfl rfl rfl), I, G, Q_HB, J, aq, ar, ah, ai, af, ag, fun an => absurd ((hoff 7 (by kernel_rfl)).symm.trans an) (by decide), aK⟩
               refine steps_cons ?_ ?_
               ·rintro b a w' ⟨u, a5, ha, I, G, Q_HB, J, aq, ar, ah, ai, af, ag, au, aK⟩ hb_ hon hoff
                refine ⟨_, rfl, fun K hK => ?_⟩
                have fy : a.tmps[114]? = some (.pointer (some ⟨ab, 3, none⟩)) := by rw [ha]; exact (putSel_off rfl).trans rfl
                replace ha := zp.mk ha
                have A := zp.mk I
                have B := zp.mk G
                have HB := zp.mk Q_HB
                have bK := zt0 A.out
                have bJ := zt1 A.out
                have co := zt2 A.out
                have cg := zt3 A.out
                have ci := zt4 A.out
                have cr := zt5 A.out
                refine value_ (w1 := w') (v := .int .i64 ae) (by rfl) rfl ?_ ?_
                ·go_simp
                 (try simp only [i64_w])
                 try rfl
                refine hK.out _ _ ⟨u, a5, (by rw [ha.out]; exact putSel_upk 1 hb_ rfl rfl rfl), I, G, Q_HB, J, aq, ar, ah, ai, af, ag, fun an => absurd ((hoff 7 (by kernel_rfl)).symm.trans an) (by decide), aK⟩
               refine steps_cons ?_ ?_
               ·rintro b a w' ⟨u, a5, ha, I, G, Q_HB, J, aq, ar, ah, ai, af, ag, au, aK⟩ hb_ hon hoff
                refine ⟨_, rfl, fun K hK => ?_⟩
                have cl : a.tmps[113]? = some (.int .i64 (wrap64 (y - (D.length : Int)))) := by rw [ha]; exact (putSel_off rfl).trans rfl
                have cd : a.tmps[115]? = some (.int .i64 ae) := by rw [ha]; exact putSel_on (e := (3, 115, .int .i64 ae)) 1 rfl rfl (hon 3 (by kernel_rfl)) rfl
                replace ha := zp.mk ha
                have A := zp.mk I
                have B := zp.mk G
                have HB := zp.mk Q_HB
                refine goes_ Try.func31 (by kernel_rfl) rfl #[.int .i64 (wrap64 (y - (D.length : Int))), .int .i64 ae] (by rfl) rfl rfl (by first | (simp only [List.map_toArray, List.map_cons, List.map_nil, Act.eval, Array.getD_eq_getD_getElem?, Option.getD_some, cl, cd]; done) | (simp only [List.map_toArray, List.map_cons, List.map_nil, Act.eval, Array.getD_eq_getD_getElem?, Option.getD_some, cl, cd]; rfl)) ?_
                with_reducible refine (spec_l07Times.calls k3 (wrap64 (y - (D.length : Int))) ae bv bu _ fe.out).mono ?_
                rintro e fA ⟨rfl, hb⟩
                refine ⟨_, rfl, ?_⟩
                replace A := zp.mk (zl (zv8 A.out) hb)
                replace B := zp.mk (zl (zv8 B.out) hb)
                replace HB := zp.mk (zj (zv7 HB.out) hb); have bf := fun (an : b 6 = true) (a6 : b 7 = false) => (show fA.heap[u]? = some (.cells #[.int .i64 0, .int .u64 0] 30 (0, 0)) from by first | exact (zl (g := u) (o := .cells #[.int .i64 0, .int .u64 0] 30 (0, 0)) (by (with_reducible repeat (first | refine zf ?_ _ | refine zi ?_ | refine zg ?_ _)); exact (J an a6)) hb))
                (try clear hb)
                (try clear hb2)
                (try clear hk)
                (try clear hi)
                refine hK.out _ _ ⟨u, a5, (by rw [ha.out]; exact putSel_upk 2 hb_ rfl rfl rfl), (zv8 A.out), (zv8 B.out), (zv7 HB.out), bf, aq, ar, ah, ai, af, ag, fun an => absurd ((hoff 7 (by kernel_rfl)).symm.trans an) (by decide), aK⟩
               refine steps_cons ?_ ?_
               ·rintro b a w' ⟨u, a5, ha, I, G, Q_HB, J, aq, ar, ah, ai, af, ag, au, aK⟩ hb_ hon hoff
                refine ⟨_, rfl, fun K hK => ?_⟩
                have cq : a.tmps[112]? = some (.agg #[.int .i64 s, .int .u64 l]) := by rw [ha]; exact putSel_on (e := (0, 112, .agg #[.int .i64 s, .int .u64 l])) 0 rfl rfl (hon 0 (by kernel_rfl)) rfl
                have cn : a.tmps[116]? = some (.agg #[.int .i64 bv, .int .u64 bu]) := by rw [ha]; exact putSel_on (e := (4, 116, .agg #[.int .i64 bv, .int .u64 bu])) 2 rfl rfl (hon 4 (by kernel_rfl)) rfl
                replace ha := zp.mk ha
                have A := zp.mk I
                have B := zp.mk G
                have HB := zp.mk Q_HB
                refine goes_ Try.func29 (by kernel_rfl) rfl #[.agg #[.int .i64 s, .int .u64 l], .agg #[.int .i64 bv, .int .u64 bu]] (by rfl) rfl rfl (by first | (simp only [List.map_toArray, List.map_cons, List.map_nil, Act.eval, Array.getD_eq_getD_getElem?, Option.getD_some, cq, cn]; done) | (simp only [List.map_toArray, List.map_cons, List.map_nil, Act.eval, Array.getD_eq_getD_getElem?, Option.getD_some, cq, cn]; rfl)) ?_
                with_reducible refine (spec_WideAdd.calls s l bv bu aX aZ _ fQ.out).mono ?_
                rintro e ij ⟨rfl, hb⟩
                refine ⟨_, rfl, ?_⟩
                replace A := zp.mk (zl (zv8 A.out) hb)
                replace B := zp.mk (zl (zv8 B.out) hb)
                replace HB := zp.mk (zj (zv7 HB.out) hb); have bf := fun (an : b 6 = true) (a6 : b 7 = false) => (show ij.heap[u]? = some (.cells #[.int .i64 0, .int .u64 0] 30 (0, 0)) from by first | exact (zl (g := u) (o := .cells #[.int .i64 0, .int .u64 0] 30 (0, 0)) (by (with_reducible repeat (first | refine zf ?_ _ | refine zi ?_ | refine zg ?_ _)); exact (J an a6)) hb))
                (try clear hb)
                (try clear hb2)
                (try clear hk)
                (try clear hi)
                refine hK.out _ _ ⟨u, a5, (by rw [ha.out]; exact putSel_upk 3 hb_ rfl rfl rfl), (zv8 A.out), (zv8 B.out), (zv7 HB.out), bf, aq, ar, ah, ai, af, ag, fun an => absurd ((hoff 7 (by kernel_rfl)).symm.trans an) (by decide), aK⟩
               refine steps_cons ?_ ?_
               ·rintro b a w' ⟨u, a5, ha, I, G, Q_HB, J, aq, ar, ah, ai, af, ag, au, aK⟩ hb_ hon hoff
                refine ⟨_, rfl, fun K hK => ?_⟩
                replace ha := zp.mk ha
                have A := zp.mk I
                have B := zp.mk G
                have HB := zp.mk Q_HB
                refine box_step ?hg (N := 6) ?hd (cs := #[.int .i64 0, .int .u64 0]) (t := 30) ?hr ?_; (case hd => rfl); (case hg => rfl); (case hr => first | (go_simp; done) | (go_simp; rfl))
                intro u hg fA hbox hb
                have q := zp.mk (hbox)
                have bx := zp.mk ((zv3 (zv7 HB.out) hg))
                have bA := zp.mk ((zv3 (zv7 HB.out) hg))
                have ax := zp.mk ((by rw [hg]; exact Nat.ne_of_lt (blk_lt (g := ab) (o := .cells #[.int .i64 y, .int .i64 al, .int .u64 ak, .int .i64 ae, .int .i64 am, .slice bc D.length aH] 32 (0, 0)) (zv8 A.out)) : ab ≠ u))
                have aA := zp.mk ((by rw [hg]; exact Nat.ne_of_gt (blk_lt (g := ab) (o := .cells #[.int .i64 y, .int .i64 al, .int .u64 ak, .int .i64 ae, .int .i64 am, .slice bc D.length aH] 32 (0, 0)) (zv8 A.out)) : u ≠ ab))
                have av := zp.mk ((by rw [hg]; exact Nat.ne_of_lt (blk_lt (g := ap) (o := .cells #[.int .i64 s, .int .u64 l] 30 (0, 0)) (zv8 B.out)) : ap ≠ u))
                have aE := zp.mk ((by rw [hg]; exact Nat.ne_of_gt (blk_lt (g := ap) (o := .cells #[.int .i64 s, .int .u64 l] 30 (0, 0)) (zv8 B.out)) : u ≠ ap))
                replace A := zp.mk (zl (zv8 A.out) hb)
                replace B := zp.mk (zl (zv8 B.out) hb)
                replace HB := zp.mk (zj (zv7 HB.out) hb)
                clear hb hbox hg
                refine hK.out _ _ ⟨u, (.pointer (some ⟨u, 0, none⟩)), (by rw [ha.out]; exact putSel_upk 4 hb_ rfl rfl rfl), (zv8 A.out), (zv8 B.out), (zv7 HB.out), fun _ _ => (zv8 q.out), fun _ => bx.out, fun _ => bA.out, fun _ => ax.out, fun _ => aA.out, fun _ => av.out, fun _ => aE.out, fun an => absurd ((hoff 7 (by kernel_rfl)).symm.trans an) (by decide), fun _ => rfl⟩
               refine steps_cons ?_ ?_
               ·rintro b a w' ⟨u, a5, ha, I, G, Q_HB, J, aq, ar, ah, ai, af, ag, au, aK⟩ hb_ hon hoff
                refine ⟨_, rfl, fun K hK => ?_⟩
                have e6 : a.tmps[6]? = some (a5) := by rw [ha]; exact putSel_on (e := (6, 6, a5)) 4 rfl rfl (hon 6 (by kernel_rfl)) rfl
                rw [aK (hon 6 (by kernel_rfl))] at e6
                have eB : a.tmps[117]? = some (.agg #[.int .i64 aX, .int .u64 aZ]) := by rw [ha]; exact putSel_on (e := (5, 117, .agg #[.int .i64 aX, .int .u64 aZ])) 3 rfl rfl (hon 5 (by kernel_rfl)) rfl
                replace ha := zp.mk ha
                have A := zp.mk I
                have B := zp.mk G
                have HB := zp.mk Q_HB
                have q := zp.mk (J (hon 6 (by kernel_rfl)) hb_)
                have bx := zp.mk (aq (hon 6 (by kernel_rfl)))
                have bA := zp.mk (ar (hon 6 (by kernel_rfl)))
                have ax := zp.mk (ah (hon 6 (by kernel_rfl)))
                have aA := zp.mk (ai (hon 6 (by kernel_rfl)))
                have av := zp.mk (af (hon 6 (by kernel_rfl)))
                have aE := zp.mk (ag (hon 6 (by kernel_rfl)))
                have kl : w'.cell? ⟨u, 0, none⟩ = some (.int .i64 0) := (ze q.out 0).trans rfl
                have g1 := zd q.out 0
                have eU := ax.out
                have fK := av.out
                have fT := aA.out
                have fp := aE.out
                have kd : w'.cell? ⟨u, 1, none⟩ = some (.int .u64 0) := (ze q.out 1).trans rfl
                have jI := zd q.out 1
                have eR := ax.out
                have fP := av.out
                have es := aA.out
                have fi := aE.out
                refine skip_ (w1 := ?_) (by rfl) rfl ?_ ?_
                rotate_left
                ·go_simp
                 rfl
                refine hK.out _ _ ⟨u, a5, (by rw [ha.out]; exact putSel_none (v := undef) rfl), (by (with_reducible repeat (first | refine zf ?_ _ | refine zi ?_ | refine zg ?_ _)); refine blk_far ?_ ax.out _; (with_reducible repeat (first | refine zf ?_ _ | refine zi ?_ | refine zg ?_ _)); refine blk_far ?_ ax.out _; (with_reducible repeat (first | refine zf ?_ _ | refine zi ?_ | refine zg ?_ _)); exact A.out), (by (with_reducible repeat (first | refine zf ?_ _ | refine zi ?_ | refine zg ?_ _)); refine blk_far ?_ av.out _; (with_reducible repeat (first | refine zf ?_ _ | refine zi ?_ | refine zg ?_ _)); refine blk_far ?_ av.out _; (with_reducible repeat (first | refine zf ?_ _ | refine zi ?_ | refine zg ?_ _)); exact B.out), (zv7 HB.out), fun _ a6 => absurd ((up_self b 7).symm.trans a6) (by decide), fun _ => bx.out, fun _ => bA.out, fun _ => ax.out, fun _ => aA.out, fun _ => av.out, fun _ => aE.out, fun _ => (by (with_reducible repeat (first | refine zf ?_ _ | refine zi ?_ | refine zg ?_ _)); refine blk_put (cs := #[.int .i64 aX, .int .u64 0]) ?_ 1 _ rfl; (with_reducible repeat (first | refine zf ?_ _ | refine zi ?_ | refine zg ?_ _)); refine blk_put (cs := #[.int .i64 0, .int .u64 0]) ?_ 0 _ rfl; (with_reducible repeat (first | refine zf ?_ _ | refine zi ?_ | refine zg ?_ _)); exact q.out), aK⟩
               exact steps_nil
              rintro b a hT hall ⟨u, a5, ha, I, G, Q_HB, J, aq, ar, ah, ai, af, ag, au, aK⟩
              clear A B HB
              have bE := hall 0 (by kernel_rfl)
              have bC := hall 3 (by kernel_rfl)
              have bD := hall 4 (by kernel_rfl)
              have cb := hall 5 (by kernel_rfl)
              have aY := hall 6 (by kernel_rfl)
              have bS := hall 7 (by kernel_rfl)
              subst ha
              obtain rfl := aK aY
              simp only [putSel, bE, bC, bD, cb, aY, bS, if_true, Act.put, zs1, zs2, zs3]
              have A := zp.mk I
              clear I
              have B := zp.mk G
              clear G
              have HB := zp.mk Q_HB
              clear Q_HB
              clear J
              have bx := zp.mk (aq aY)
              clear aq
              have bA := zp.mk (ar aY)
              clear ar
              have ax := zp.mk (ah aY)
              clear ah
              have aA := zp.mk (ai aY)
              clear ai
              have av := zp.mk (af aY)
              clear af
              have aE := zp.mk (ag aY)
              clear ag
              have q := zp.mk (au bS)
              clear au
              clear hall bE bC bD cb aY bS
              try go_wp2
              replace A := zp.mk (zi A.out)
              replace B := zp.mk (zi B.out)
              replace q := zp.mk (zi q.out)
              replace HB := zp.mk (zb HB.out)
              have bZ : 0 ≤ (3 : Int) := (by omega)
              have bW : 3 < (D.length : Int) := of_decide_eq_true (by first | (with_reducible assumption) | assumption)
              obtain ⟨aC, cK, aT⟩ := Kd.at_int a9.out 3 bZ bW
              have aU := aT
              (try rw [show ((3 : Int)).toNat = 3 from rfl] at aU)
              (try rw [show 3 * 1 = 3 from rfl] at aU)
              (try simp only [Nat.reduceMul, Nat.reduceEqDiff, Go.Addr.add, ↓reduceIte] at aU)
              cases cK
              (try simp only [show (3 : Int).toNat = 3 from rfl, Nat.reduceMul, Nat.reduceEqDiff, Go.Addr.add, ↓reduceIte] at aT)
              have dS : (3 < D.length) = True := eq_true (by omega)
              (try rw [show ((3 : Int)).toNat = 3 from rfl] at aT)
              replace aT := (HB.out.cell (World.block_lt_of_cell? w _ aT)).trans aT
              replace bZ := eq_true bZ
              replace bW := eq_true bW
              refine start_ (n := 15) (S := fun w' => True) (ds := []) (zB 15 0) (by kernel_rfl) rfl rfl trivial (fun hHeld => ?_); refine with_tabW spec_AggOk.tab16 spec_AggOk.bits16 (fun HT_ HW_ => ?_)
              generalize hT.drew = kw at A B q HB aT hHeld ⊢
              refine zP 1 119 (zB 15 2) HT_ ?_
              refine zP 5 123 (zB 15 34) HT_ ?_
              refine zP 7 125 (zB 15 162) HT_ ?_
              refine inv_at [0, 2, 3, 4, 6, 8, 9, 10, 11, 12, 13, 14] (fun cA b a w' => ∃ (Z : Nat) (ao : Value), a = putSel cA b [(0, 118, .agg #[.int .i64 s, .int .u64 l]), (2, 120, .int .i64 ae), (3, 121, .agg #[.int .i64 bq, .int .u64 bp]), (4, 122, .agg #[.int .i64 bl, .int .u64 bk]), (6, 124, .int .i64 (wrap64 ((wrap64 (y - (D.length : Int))) - 1))), (8, 126, .slice (some aC) D.length aH), (9, 127, .pointer (some (aC.add 3))), (10, 128, .int .i64 (rd D 3)), (11, 129, .agg #[.int .i64 bs, .int .u64 bn]), (12, 130, .agg #[.int .i64 be, .int .u64 br]), (13, 7, ao)] ∧ (w'.heap[ab]? = some (.cells #[.int .i64 y, .int .i64 al, .int .u64 ak, .int .i64 ae, .int .i64 am, .slice (some aC) D.length aH] 32 (0, 0))) ∧ (w'.heap[ap]? = some (.cells #[.int .i64 s, .int .u64 l] 30 (0, 0))) ∧ (w'.heap[u]? = some (.cells #[.int .i64 aX, .int .u64 aZ] 30 (0, 0))) ∧ (Below w.heap.size w w') ∧ (b 13 = true → b 14 = false → w'.heap[Z]? = some (.cells #[.int .i64 0, .int .u64 0] 30 (0, 0))) ∧ (b 13 = true → w.heap.size ≤ Z) ∧ (b 13 = true → w.heap.size ≤ Z) ∧ (b 13 = true → ab ≠ Z) ∧ (b 13 = true → Z ≠ ab) ∧ (b 13 = true → ap ≠ Z) ∧ (b 13 = true → Z ≠ ap) ∧ (b 13 = true → u ≠ Z) ∧ (b 13 = true → Z ≠ u) ∧ (b 14 = true → w'.heap[Z]? = some (.cells #[.int .i64 be, .int .u64 br] 30 (0, 0))) ∧ (b 13 = true → (ao : Value) = .pointer (some ⟨Z, 0, none⟩))) HT_.out HW_.out (by kernel_rfl) (by kernel_rfl) ?_ ?_ ?_
              ·exact ⟨0, .bool false, by simp only [putSel, Bool.false_eq_true, if_false], A.out, B.out, q.out, HB.out, fun h_ => absurd h_ (by decide), fun h_ => absurd h_ (by decide), fun h_ => absurd h_ (by decide), fun h_ => absurd h_ (by decide), fun h_ => absurd h_ (by decide), fun h_ => absurd h_ (by decide), fun h_ => absurd h_ (by decide), fun h_ => absurd h_ (by decide), fun h_ => absurd h_ (by decide), fun h_ => absurd h_ (by decide), fun h_ => absurd h_ (by decide)⟩
              ·skip
               clear A B q HB
               refine steps_cons ?_ ?_
               ·rintro b a w' ⟨Z, ao, ha, I, G, J, Q_HB, ac, aa, x, T, O, Y, X, U, W, ad, aj⟩ hb_ hon hoff
                refine ⟨_, rfl, fun K hK => ?_⟩
                have e3 : a.tmps[3]? = some (.pointer (some ⟨ap, 0, none⟩)) := by rw [ha]; exact (putSel_off rfl).trans rfl
                replace ha := zp.mk ha
                have A := zp.mk I
                have B := zp.mk G
                have q := zp.mk J
                have HB := zp.mk Q_HB
                have bK := zt0 B.out
                have bJ := zt1 B.out
                refine value_ (w1 := w') (v := .agg #[.int .i64 s, .int .u64 l]) (by rfl) rfl ?_ ?_
                ·go_simp
                 (try simp only [i64_w])
                 try rfl
                refine hK.out _ _ ⟨Z, ao, (by rw [ha.out]; exact putSel_upk 0 hb_ rfl rfl rfl), I, G, J, Q_HB, ac, aa, x, T, O, Y, X, U, W, fun an => absurd ((hoff 14 (by kernel_rfl)).symm.trans an) (by decide), aj⟩
               refine steps_cons ?_ ?_
               ·rintro b a w' ⟨Z, ao, ha, I, G, J, Q_HB, ac, aa, x, T, O, Y, X, U, W, ad, aj⟩ hb_ hon hoff
                refine ⟨_, rfl, fun K hK => ?_⟩
                have e5 : a.tmps[119]? = some (.pointer (some ⟨ab, 3, none⟩)) := by rw [ha]; exact (putSel_off rfl).trans rfl
                replace ha := zp.mk ha
                have A := zp.mk I
                have B := zp.mk G
                have q := zp.mk J
                have HB := zp.mk Q_HB
                have bK := zt0 A.out
                have bJ := zt1 A.out
                have co := zt2 A.out
                have cg := zt3 A.out
                have ci := zt4 A.out
                have cr := zt5 A.out
                refine value_ (w1 := w') (v := .int .i64 ae) (by rfl) rfl ?_ ?_
                ·go_simp
                 (try simp only [i64_w])
                 try rfl
                refine hK.out _ _ ⟨Z, ao, (by rw [ha.out]; exact putSel_upk 1 hb_ rfl rfl rfl), I, G, J, Q_HB, ac, aa, x, T, O, Y, X, U, W, fun an => absurd ((hoff 14 (by kernel_rfl)).symm.trans an) (by decide), aj⟩
               refine steps_cons ?_ ?_
               ·rintro b a w' ⟨Z, ao, ha, I, G, J, Q_HB, ac, aa, x, T, O, Y, X, U, W, ad, aj⟩ hb_ hon hoff
                refine ⟨_, rfl, fun K hK => ?_⟩
                have ck : a.tmps[120]? = some (.int .i64 ae) := by rw [ha]; exact putSel_on (e := (2, 120, .int .i64 ae)) 1 rfl rfl (hon 2 (by kernel_rfl)) rfl
                replace ha := zp.mk ha
                have A := zp.mk I
                have B := zp.mk G
                have q := zp.mk J
                have HB := zp.mk Q_HB
                refine goes_ Try.func30 (by kernel_rfl) rfl #[.int .i64 ae] (by rfl) rfl rfl (by first | (simp only [List.map_toArray, List.map_cons, List.map_nil, Act.eval, Array.getD_eq_getD_getElem?, Option.getD_some, ck]; done) | (simp only [List.map_toArray, List.map_cons, List.map_nil, Act.eval, Array.getD_eq_getD_getElem?, Option.getD_some, ck]; rfl)) ?_
                with_reducible refine (spec_WideOf.calls ae bq bp _ eF.out).mono ?_
                rintro e e2 ⟨rfl, hb⟩
                refine ⟨_, rfl, ?_⟩
                replace A := zp.mk (zl (zv8 A.out) hb)
                replace B := zp.mk (zl (zv8 B.out) hb)
                replace q := zp.mk (zl (zv8 q.out) hb)
                replace HB := zp.mk (zj (zv7 HB.out) hb); have aW := fun (an : b 13 = true) (a6 : b 14 = false) => (show e2.heap[Z]? = some (.cells #[.int .i64 0, .int .u64 0] 30 (0, 0)) from by first | exact (zl (g := Z) (o := .cells #[.int .i64 0, .int .u64 0] 30 (0, 0)) (by (with_reducible repeat (first | refine zf ?_ _ | refine zi ?_ | refine zg ?_ _)); exact (ac an a6)) hb))
                (try clear hb)
                (try clear hb2)
                (try clear hk)
                (try clear hi)
                refine hK.out _ _ ⟨Z, ao, (by rw [ha.out]; exact putSel_upk 2 hb_ rfl rfl rfl), (zv8 A.out), (zv8 B.out), (zv8 q.out), (zv7 HB.out), aW, aa, x, T, O, Y, X, U, W, fun an => absurd ((hoff 14 (by kernel_rfl)).symm.trans an) (by decide), aj⟩
               refine steps_cons ?_ ?_
               ·rintro b a w' ⟨Z, ao, ha, I, G, J, Q_HB, ac, aa, x, T, O, Y, X, U, W, ad, aj⟩ hb_ hon hoff
                refine ⟨_, rfl, fun K hK => ?_⟩
                have cp : a.tmps[118]? = some (.agg #[.int .i64 s, .int .u64 l]) := by rw [ha]; exact putSel_on (e := (0, 118, .agg #[.int .i64 s, .int .u64 l])) 0 rfl rfl (hon 0 (by kernel_rfl)) rfl
                have cm : a.tmps[121]? = some (.agg #[.int .i64 bq, .int .u64 bp]) := by rw [ha]; exact putSel_on (e := (3, 121, .agg #[.int .i64 bq, .int .u64 bp])) 2 rfl rfl (hon 3 (by kernel_rfl)) rfl
                replace ha := zp.mk ha
                have A := zp.mk I
                have B := zp.mk G
                have q := zp.mk J
                have HB := zp.mk Q_HB
                refine goes_ Try.func29 (by kernel_rfl) rfl #[.agg #[.int .i64 s, .int .u64 l], .agg #[.int .i64 bq, .int .u64 bp]] (by rfl) rfl rfl (by first | (simp only [List.map_toArray, List.map_cons, List.map_nil, Act.eval, Array.getD_eq_getD_getElem?, Option.getD_some, cp, cm]; done) | (simp only [List.map_toArray, List.map_cons, List.map_nil, Act.eval, Array.getD_eq_getD_getElem?, Option.getD_some, cp, cm]; rfl)) ?_
                with_reducible refine (spec_WideAdd.calls s l bq bp bl bk _ eY.out).mono ?_
                rintro e iv ⟨rfl, hb⟩
                refine ⟨_, rfl, ?_⟩
                replace A := zp.mk (zl (zv8 A.out) hb)
                replace B := zp.mk (zl (zv8 B.out) hb)
                replace q := zp.mk (zl (zv8 q.out) hb)
                replace HB := zp.mk (zj (zv7 HB.out) hb); have aW := fun (an : b 13 = true) (a6 : b 14 = false) => (show iv.heap[Z]? = some (.cells #[.int .i64 0, .int .u64 0] 30 (0, 0)) from by first | exact (zl (g := Z) (o := .cells #[.int .i64 0, .int .u64 0] 30 (0, 0)) (by (with_reducible repeat (first | refine zf ?_ _ | refine zi ?_ | refine zg ?_ _)); exact (ac an a6)) hb))
                (try clear hb)
                (try clear hb2)
                (try clear hk)
                (try clear hi)
                refine hK.out _ _ ⟨Z, ao, (by rw [ha.out]; exact putSel_upk 3 hb_ rfl rfl rfl), (zv8 A.out), (zv8 B.out), (zv8 q.out), (zv7 HB.out), aW, aa, x, T, O, Y, X, U, W, fun an => absurd ((hoff 14 (by kernel_rfl)).symm.trans an) (by decide), aj⟩
               refine steps_cons ?_ ?_
               ·rintro b a w' ⟨Z, ao, ha, I, G, J, Q_HB, ac, aa, x, T, O, Y, X, U, W, ad, aj⟩ hb_ hon hoff
                refine ⟨_, rfl, fun K hK => ?_⟩
                have e8 : a.tmps[123]? = some (.int .i64 (wrap64 (y - (D.length : Int)))) := by rw [ha]; exact (putSel_off rfl).trans rfl
                replace ha := zp.mk ha
                have A := zp.mk I
                have B := zp.mk G
                have q := zp.mk J
                have HB := zp.mk Q_HB
                refine value_ (w1 := w') (v := .int .i64 (wrap64 ((wrap64 (y - (D.length : Int))) - 1))) (by rfl) rfl ?_ ?_
                ·go_simp
                 (try simp only [i64_w])
                 try rfl
                refine hK.out _ _ ⟨Z, ao, (by rw [ha.out]; exact putSel_upk 4 hb_ rfl rfl rfl), I, G, J, Q_HB, ac, aa, x, T, O, Y, X, U, W, fun an => absurd ((hoff 14 (by kernel_rfl)).symm.trans an) (by decide), aj⟩
               refine steps_cons ?_ ?_
               ·rintro b a w' ⟨Z, ao, ha, I, G, J, Q_HB, ac, aa, x, T, O, Y, X, U, W, ad, aj⟩ hb_ hon hoff
                refine ⟨_, rfl, fun K hK => ?_⟩
                have fg : a.tmps[125]? = some (.pointer (some ⟨ab, 5, none⟩)) := by rw [ha]; exact (putSel_off rfl).trans rfl
                replace ha := zp.mk ha
                have A := zp.mk I
                have B := zp.mk G
                have q := zp.mk J
                have HB := zp.mk Q_HB
                have bK := zt0 A.out
                have bJ := zt1 A.out
                have co := zt2 A.out
                have cg := zt3 A.out
                have ci := zt4 A.out
                have cr := zt5 A.out
                refine value_ (w1 := w') (v := .slice (some aC) D.length aH) (by rfl) rfl ?_ ?_
                ·go_simp
                 (try simp only [i64_w])
                 try rfl
                refine hK.out _ _ ⟨Z, ao, (by rw [ha.out]; exact putSel_upk 5 hb_ rfl rfl rfl), I, G, J, Q_HB, ac, aa, x, T, O, Y, X, U, W, fun an => absurd ((hoff 14 (by kernel_rfl)).symm.trans an) (by decide), aj⟩
               refine steps_cons ?_ ?_
               ·rintro b a w' ⟨Z, ao, ha, I, G, J, Q_HB, ac, aa, x, T, O, Y, X, U, W, ad, aj⟩ hb_ hon hoff
                refine ⟨_, rfl, fun K hK => ?_⟩
                have fL : a.tmps[126]? = some (.slice (some aC) D.length aH) := by rw [ha]; exact putSel_on (e := (8, 126, .slice (some aC) D.length aH)) 5 rfl rfl (hon 8 (by kernel_rfl)) rfl
                replace ha := zp.mk ha
                have A := zp.mk I
                have B := zp.mk G
                have q := zp.mk J
                have HB := zp.mk Q_HB
                have cW : w'.cell? ⟨aC.block, aC.off + 3, none⟩ = some (.int .i64 (rd D 3)) := ((HB.out.cell (World.block_lt_of_cell? w _ aU)).trans aU)
                refine value_ (w1 := w') (v := .pointer (some (aC.add 3))) (by rfl) rfl ?_ ?_
                ·go_simp
                 (try simp only [i64_w])
                 try rfl
                refine hK.out _ _ ⟨Z, ao, (by rw [ha.out]; exact putSel_upk 6 hb_ rfl rfl rfl), I, G, J, Q_HB, ac, aa, x, T, O, Y, X, U, W, fun an => absurd ((hoff 14 (by kernel_rfl)).symm.trans an) (by decide), aj⟩
               refine steps_cons ?_ ?_
               ·rintro b a w' ⟨Z, ao, ha, I, G, J, Q_HB, ac, aa, x, T, O, Y, X, U, W, ad, aj⟩ hb_ hon hoff
                refine ⟨_, rfl, fun K hK => ?_⟩
                have ep : a.tmps[127]? = some (.pointer (some (aC.add 3))) := by rw [ha]; exact putSel_on (e := (9, 127, .pointer (some (aC.add 3)))) 6 rfl rfl (hon 9 (by kernel_rfl)) rfl
                replace ha := zp.mk ha
                have A := zp.mk I
                have B := zp.mk G
                have q := zp.mk J
                have HB := zp.mk Q_HB
                have cW : w'.cell? ⟨aC.block, aC.off + 3, none⟩ = some (.int .i64 (rd D 3)) := ((HB.out.cell (World.block_lt_of_cell? w _ aU)).trans aU)
                refine value_ (w1 := w') (v := .int .i64 (rd D 3)) (by rfl) rfl ?_ ?_
                ·go_simp
                 (try simp only [i64_w])
                 try rfl
                refine hK.out _ _ ⟨Z, ao, (by rw [ha.out]; exact putSel_upk 7 hb_ rfl rfl rfl), I, G, J, Q_HB, ac, aa, x, T, O, Y, X, U, W, fun an => absurd ((hoff 14 (by kernel_rfl)).symm.trans an) (by decide), aj⟩
               refine steps_cons ?_ ?_
               ·rintro b a w' ⟨Z, ao, ha, I, G, J, Q_HB, ac, aa, x, T, O, Y, X, U, W, ad, aj⟩ hb_ hon hoff
                refine ⟨_, rfl, fun K hK => ?_⟩
                have ca : a.tmps[124]? = some (.int .i64 (wrap64 ((wrap64 (y - (D.length : Int))) - 1))) := by rw [ha]; exact putSel_on (e := (6, 124, .int .i64 (wrap64 ((wrap64 (y - (D.length : Int))) - 1)))) 4 rfl rfl (hon 6 (by kernel_rfl)) rfl
                have cf : a.tmps[128]? = some (.int .i64 (rd D 3)) := by rw [ha]; exact putSel_on (e := (10, 128, .int .i64 (rd D 3))) 7 rfl rfl (hon 10 (by kernel_rfl)) rfl
                replace ha := zp.mk ha
                have A := zp.mk I
                have B := zp.mk G
                have q := zp.mk J
                have HB := zp.mk Q_HB
                refine goes_ Try.func31 (by kernel_rfl) rfl #[.int .i64 (wrap64 ((wrap64 (y - (D.length : Int))) - 1)), .int .i64 (rd D 3)] (by rfl) rfl rfl (by first | (simp only [List.map_toArray, List.map_cons, List.map_nil, Act.eval, Array.getD_eq_getD_getElem?, Option.getD_some, ca, cf]; done) | (simp only [List.map_toArray, List.map_cons, List.map_nil, Act.eval, Array.getD_eq_getD_getElem?, Option.getD_some, ca, cf]; rfl)) ?_
                with_reducible refine (spec_l07Times.calls k3 (wrap64 ((wrap64 (y - (D.length : Int))) - 1)) (rd D 3) bs bn _ ff.out).mono ?_
                rintro e jh ⟨rfl, hb⟩
                refine ⟨_, rfl, ?_⟩
                replace A := zp.mk (zl (zv8 A.out) hb)
                replace B := zp.mk (zl (zv8 B.out) hb)
                replace q := zp.mk (zl (zv8 q.out) hb)
                replace HB := zp.mk (zj (zv7 HB.out) hb); have aW := fun (an : b 13 = true) (a6 : b 14 = false) => (show jh.heap[Z]? = some (.cells #[.int .i64 0, .int .u64 0] 30 (0, 0)) from by first | exact (zl (g := Z) (o := .cells #[.int .i64 0, .int .u64 0] 30 (0, 0)) (by (with_reducible repeat (first | refine zf ?_ _ | refine zi ?_ | refine zg ?_ _)); exact (ac an a6)) hb))
                (try clear hb)
                (try clear hb2)
                (try clear hk)
                (try clear hi)
                refine hK.out _ _ ⟨Z, ao, (by rw [ha.out]; exact putSel_upk 8 hb_ rfl rfl rfl), (zv8 A.out), (zv8 B.out), (zv8 q.out), (zv7 HB.out), aW, aa, x, T, O, Y, X, U, W, fun an => absurd ((hoff 14 (by kernel_rfl)).symm.trans an) (by decide), aj⟩
               refine steps_cons ?_ ?_
               ·rintro b a w' ⟨Z, ao, ha, I, G, J, Q_HB, ac, aa, x, T, O, Y, X, U, W, ad, aj⟩ hb_ hon hoff
                refine ⟨_, rfl, fun K hK => ?_⟩
                have b7 : a.tmps[122]? = some (.agg #[.int .i64 bl, .int .u64 bk]) := by rw [ha]; exact putSel_on (e := (4, 122, .agg #[.int .i64 bl, .int .u64 bk])) 3 rfl rfl (hon 4 (by kernel_rfl)) rfl
                have cj : a.tmps[129]? = some (.agg #[.int .i64 bs, .int .u64 bn]) := by rw [ha]; exact putSel_on (e := (11, 129, .agg #[.int .i64 bs, .int .u64 bn])) 8 rfl rfl (hon 11 (by kernel_rfl)) rfl
                replace ha := zp.mk ha
                have A := zp.mk I
                have B := zp.mk G
                have q := zp.mk J
                have HB := zp.mk Q_HB
                refine goes_ Try.func29 (by kernel_rfl) rfl #[.agg #[.int .i64 bl, .int .u64 bk], .agg #[.int .i64 bs, .int .u64 bn]] (by rfl) rfl rfl (by first | (simp only [List.map_toArray, List.map_cons, List.map_nil, Act.eval, Array.getD_eq_getD_getElem?, Option.getD_some, b7, cj]; done) | (simp only [List.map_toArray, List.map_cons, List.map_nil, Act.eval, Array.getD_eq_getD_getElem?, Option.getD_some, b7, cj]; rfl)) ?_
                with_reducible refine (spec_WideAdd.calls bl bk bs bn be br _ eC.out).mono ?_
                rintro e ik ⟨rfl, hb⟩
                refine ⟨_, rfl, ?_⟩
                replace A := zp.mk (zl (zv8 A.out) hb)
                replace B := zp.mk (zl (zv8 B.out) hb)
                replace q := zp.mk (zl (zv8 q.out) hb)
                replace HB := zp.mk (zj (zv7 HB.out) hb); have aW := fun (an : b 13 = true) (a6 : b 14 = false) => (show ik.heap[Z]? = some (.cells #[.int .i64 0, .int .u64 0] 30 (0, 0)) from by first | exact (zl (g := Z) (o := .cells #[.int .i64 0, .int .u64 0] 30 (0, 0)) (by (with_reducible repeat (first | refine zf ?_ _ | refine zi ?_ | refine zg ?_ _)); exact (ac an a6)) hb))
                (try clear hb)
                (try clear hb2)
                (try clear hk)
                (try clear hi)
                refine hK.out _ _ ⟨Z, ao, (by rw [ha.out]; exact putSel_upk 9 hb_ rfl rfl rfl), (zv8 A.out), (zv8 B.out), (zv8 q.out), (zv7 HB.out), aW, aa, x, T, O, Y, X, U, W, fun an => absurd ((hoff 14 (by kernel_rfl)).symm.trans an) (by decide), aj⟩
               refine steps_cons ?_ ?_
               ·rintro b a w' ⟨Z, ao, ha, I, G, J, Q_HB, ac, aa, x, T, O, Y, X, U, W, ad, aj⟩ hb_ hon hoff
                refine ⟨_, rfl, fun K hK => ?_⟩
                replace ha := zp.mk ha
                have A := zp.mk I
                have B := zp.mk G
                have q := zp.mk J
                have HB := zp.mk Q_HB
                refine box_step ?hg (N := 7) ?hd (cs := #[.int .i64 0, .int .u64 0]) (t := 30) ?hr ?_; (case hd => rfl); (case hg => rfl); (case hr => first | (go_simp; done) | (go_simp; rfl))
                intro Z hg e2 hbox hb
                have aM := zp.mk (hbox)
                have bz := zp.mk ((zv3 (zv7 HB.out) hg))
                have bw := zp.mk ((zv3 (zv7 HB.out) hg))
                have aw := zp.mk ((by rw [hg]; exact Nat.ne_of_lt (blk_lt (g := ab) (o := .cells #[.int .i64 y, .int .i64 al, .int .u64 ak, .int .i64 ae, .int .i64 am, .slice (some aC) D.length aH] 32 (0, 0)) (zv8 A.out)) : ab ≠ Z))
                have aD := zp.mk ((by rw [hg]; exact Nat.ne_of_gt (blk_lt (g := ab) (o := .cells #[.int .i64 y, .int .i64 al, .int .u64 ak, .int .i64 ae, .int .i64 am, .slice (some aC) D.length aH] 32 (0, 0)) (zv8 A.out)) : Z ≠ ab))
                have az := zp.mk ((by rw [hg]; exact Nat.ne_of_lt (blk_lt (g := ap) (o := .cells #[.int .i64 s, .int .u64 l] 30 (0, 0)) (zv8 B.out)) : ap ≠ Z))
                have aJ := zp.mk ((by rw [hg]; exact Nat.ne_of_gt (blk_lt (g := ap) (o := .cells #[.int .i64 s, .int .u64 l] 30 (0, 0)) (zv8 B.out)) : Z ≠ ap))
                have ay := zp.mk ((by rw [hg]; exact Nat.ne_of_lt (blk_lt (g := u) (o := .cells #[.int .i64 aX, .int .u64 aZ] 30 (0, 0)) (zv8 q.out)) : u ≠ Z))
                have aG := zp.mk ((by rw [hg]; exact Nat.ne_of_gt (blk_lt (g := u) (o := .cells #[.int .i64 aX, .int .u64 aZ] 30 (0, 0)) (zv8 q.out)) : Z ≠ u))
                replace A := zp.mk (zl (zv8 A.out) hb)
                replace B := zp.mk (zl (zv8 B.out) hb)
                replace q := zp.mk (zl (zv8 q.out) hb)
                replace HB := zp.mk (zj (zv7 HB.out) hb)
                clear hb hbox hg
                refine hK.out _ _ ⟨Z, (.pointer (some ⟨Z, 0, none⟩)), (by rw [ha.out]; exact putSel_upk 10 hb_ rfl rfl rfl), (zv8 A.out), (zv8 B.out), (zv8 q.out), (zv7 HB.out), fun _ _ => (zv8 aM.out), fun _ => bz.out, fun _ => bw.out, fun _ => aw.out, fun _ => aD.out, fun _ => az.out, fun _ => aJ.out, fun _ => ay.out, fun _ => aG.out, fun an => absurd ((hoff 14 (by kernel_rfl)).symm.trans an) (by decide), fun _ => rfl⟩
               refine steps_cons ?_ ?_
               ·rintro b a w' ⟨Z, ao, ha, I, G, J, Q_HB, ac, aa, x, T, O, Y, X, U, W, ad, aj⟩ hb_ hon hoff
                refine ⟨_, rfl, fun K hK => ?_⟩
                have e7 : a.tmps[7]? = some (ao) := by rw [ha]; exact putSel_on (e := (13, 7, ao)) 10 rfl rfl (hon 13 (by kernel_rfl)) rfl
                rw [aj (hon 13 (by kernel_rfl))] at e7
                have fc : a.tmps[130]? = some (.agg #[.int .i64 be, .int .u64 br]) := by rw [ha]; exact putSel_on (e := (12, 130, .agg #[.int .i64 be, .int .u64 br])) 9 rfl rfl (hon 12 (by kernel_rfl)) rfl
                replace ha := zp.mk ha
                have A := zp.mk I
                have B := zp.mk G
                have q := zp.mk J
                have HB := zp.mk Q_HB
                have aM := zp.mk (ac (hon 13 (by kernel_rfl)) hb_)
                have bz := zp.mk (aa (hon 13 (by kernel_rfl)))
                have bw := zp.mk (x (hon 13 (by kernel_rfl)))
                have aw := zp.mk (T (hon 13 (by kernel_rfl)))
                have aD := zp.mk (O (hon 13 (by kernel_rfl)))
                have az := zp.mk (Y (hon 13 (by kernel_rfl)))
                have aJ := zp.mk (X (hon 13 (by kernel_rfl)))
                have ay := zp.mk (U (hon 13 (by kernel_rfl)))
                have aG := zp.mk (W (hon 13 (by kernel_rfl)))
                have kf : w'.cell? ⟨Z, 0, none⟩ = some (.int .i64 0) := (ze aM.out 0).trans rfl
                have i6 := zd aM.out 0
                have eH := aw.out
                have fq := az.out
                have eK := ay.out
                have fJ := aD.out
                have fa := aJ.out
                have fm := aG.out
                have ke : w'.cell? ⟨Z, 1, none⟩ = some (.int .u64 0) := (ze aM.out 1).trans rfl
                have hV := zd aM.out 1
                have fF := aw.out
                have fl := az.out
                have fI := ay.out
                have eP := aD.out
                have eG := aJ.out
                have e1 := aG.out
                refine skip_ (w1 := ?_) (by rfl) rfl ?_ ?_
                rotate_left
                ·go_simp
                 rfl
                refine hK.out _ _ ⟨Z, ao, (by rw [ha.out]; exact putSel_none (v := undef) rfl), (by (with_reducible repeat (first | refine zf ?_ _ | refine zi ?_ | refine zg ?_ _)); refine blk_far ?_ aw.out _; (with_reducible repeat (first | refine zf ?_ _ | refine zi ?_ | refine zg ?_ _)); refine blk_far ?_ aw.out _; (with_reducible repeat (first | refine zf ?_ _ | refine zi ?_ | refine zg ?_ _)); exact A.out), (by (with_reducible repeat (first | refine zf ?_ _ | refine zi ?_ | refine zg ?_ _)); refine blk_far ?_ az.out _; (with_reducible repeat (first | refine zf ?_ _ | refine zi ?_ | refine zg ?_ _)); refine blk_far ?_ az.out _; (with_reducible repeat (first | refine zf ?_ _ | refine zi ?_ | refine zg ?_ _)); exact B.out), (by (with_reducible repeat (first | refine zf ?_ _ | refine zi ?_ | refine zg ?_ _)); refine blk_far ?_ ay.out _; (with_reducible repeat (first | refine zf ?_ _ | refine zi ?_ | refine zg ?_ _)); refine blk_far ?_ ay.out _; (with_reducible repeat (first | refine zf ?_ _ | refine zi ?_ | refine zg ?_ _)); exact q.out), (zv7 HB.out), fun _ a6 => absurd ((up_self b 14).symm.trans a6) (by decide), fun _ => bz.out, fun _ => bw.out, fun _ => aw.out, fun _ => aD.out, fun _ => az.out, fun _ => aJ.out, fun _ => ay.out, fun _ => aG.out, fun _ => (by (with_reducible repeat (first | refine zf ?_ _ | refine zi ?_ | refine zg ?_ _)); refine blk_put (cs := #[.int .i64 be, .int .u64 0]) ?_ 1 _ rfl; (with_reducible repeat (first | refine zf ?_ _ | refine zi ?_ | refine zg ?_ _)); refine blk_put (cs := #[.int .i64 0, .int .u64 0]) ?_ 0 _ rfl; (with_reducible repeat (first | refine zf ?_ _ | refine zi ?_ | refine zg ?_ _)); exact aM.out), aj⟩
               exact steps_nil
              rintro b a ko hall ⟨Z, ao, ha, I, G, J, Q_HB, ac, aa, x, T, O, Y, X, U, W, ad, aj⟩
              clear A B q HB
              have bE := hall 0 (by kernel_rfl)
              have ch := hall 2 (by kernel_rfl)
              have bC := hall 3 (by kernel_rfl)
              have bD := hall 4 (by kernel_rfl)
              have aY := hall 6 (by kernel_rfl)
              have b9 := hall 8 (by kernel_rfl)
              have ce := hall 9 (by kernel_rfl)
              have b1 := hall 10 (by kernel_rfl)
              have bU := hall 11 (by kernel_rfl)
              have bR := hall 12 (by kernel_rfl)
              have aV := hall 13 (by kernel_rfl)
              have bI := hall 14 (by kernel_rfl)
              subst ha
              obtain rfl := aj aV
              simp only [putSel, bE, ch, bC, bD, aY, b9, ce, b1, bU, bR, aV, bI, if_true, Act.put, zs1, zs2, zs3]
              have A := zp.mk I
              clear I
              have B := zp.mk G
              clear G
              have q := zp.mk J
              clear J
              have HB := zp.mk Q_HB
              clear Q_HB
              clear ac
              have bz := zp.mk (aa aV)
              clear aa
              have bw := zp.mk (x aV)
              clear x
              have aw := zp.mk (T aV)
              clear T
              have aD := zp.mk (O aV)
              clear O
              have az := zp.mk (Y aV)
              clear Y
              have aJ := zp.mk (X aV)
              clear X
              have ay := zp.mk (U aV)
              clear U
              have aG := zp.mk (W aV)
              clear W
              have aM := zp.mk (ad bI)
              clear ad
              clear hall bE ch bC bD aY b9 ce b1 bU bR aV bI
              have h7 := ax.out
              have je := aA.out
              have j6 := aw.out
              have i0 := aD.out
              have il := zt0 A.out
              have hO := zt1 A.out
              have g8 := zt2 A.out
              have iG := zt3 A.out
              have iB := zt4 A.out
              have jo := zt5 A.out
              have hP := zd A.out 0
              have ip := zd A.out 1
              have hC := zd A.out 2
              have ia := zd A.out 3
              have ig := zd A.out 4
              have jb := zd A.out 5
              have hm := aE.out
              have ix := av.out
              have he := ay.out
              have jf := aG.out
              have hM := zt0 q.out
              have jc := zt1 q.out
              have j9 := zd q.out 0
              have iS := zd q.out 1
              try go_wp2_with (first | ((with_reducible refine zn (f := 32) rfl ?_); refine goesL_ (some 134) rfl rfl Try.func32 (by kernel_rfl) rfl #[.agg #[.int .i64 al, .int .u64 ak], .agg #[.int .i64 aX, .int .u64 aZ]] rfl (by (try simp only [List.map_toArray, List.map_cons, List.map_nil]); first | done | rfl | (simp only [List.length_drop, List.length_take]; rfl)) ?_; (with_reducible refine (spec_WideCmp.calls al ak aX aZ a7 _ fH.out).mono ?_); rintro e ks ⟨rfl, hb⟩; refine ⟨_, rfl, ?_⟩; replace A := zp.mk (zl (zv8 A.out) hb); replace B := zp.mk (zl (zv8 B.out) hb); replace q := zp.mk (zl (zv8 q.out) hb); replace aM := zp.mk (zl (zv8 aM.out) hb); replace HB := zp.mk (zj (zv7 HB.out) hb); (try clear hb); (try clear hb2); (try clear hk); (try clear hi); have hL := zt0 A.out; have i9 := zt1 A.out; have iW := zt2 A.out; have hW := zt3 A.out; have iw := zt4 A.out; have iT := zt5 A.out; have hq := zd A.out 0; have ic := zd A.out 1; have iH := zd A.out 2; have jW := zd A.out 3; have jH := zd A.out 4; have iP := zd A.out 5; have hu := aJ.out; have hX := az.out; have hU := zt0 aM.out; have iM := zt1 aM.out; have jJ := zd aM.out 0; have g5 := zd aM.out 1) | (go_at_call 32; (with_reducible refine (spec_WideCmp.calls al ak be br ba _ iO.out).mono ?_); rintro e kn ⟨rfl, hb⟩; replace A := zp.mk (zl (zv8 A.out) hb); replace B := zp.mk (zl (zv8 B.out) hb); replace q := zp.mk (zl (zv8 q.out) hb); replace aM := zp.mk (zl (zv8 aM.out) hb); replace HB := zp.mk (zj (zv7 HB.out) hb); (try clear hb); (try clear hb2); (try clear hk); (try clear hi)))
              go_ret
              exact ⟨by first | rfl | (simp [errW_none, errW_some] <;> rfl) | (simp [*, errW_none, errW_some] <;> rfl), zv7 HB.out⟩
             ·rw [if_neg cF] at H
              have dV : decide (0 ≤ a7) = false := decide_eq_false cF
              clear cF
              obtain rfl := Option.some.inj H
              have gF := aQ.out
              have gQ := a2.out
              have gT := zt0 A.out
              have gw := zt1 A.out
              have gy := zt2 A.out
              have gq := zt3 A.out
              have gf := zt4 A.out
              have fX := zt5 A.out
              have gz := zd A.out 0
              have gO := zd A.out 1
              have gc := zd A.out 2
              have gu := zd A.out 3
              have gh := zd A.out 4
              have gH := zd A.out 5
              try go_wp2
              replace A := zp.mk (zi A.out)
              replace B := zp.mk (zi B.out)
              replace HB := zp.mk (zb HB.out)
              refine start_ (n := 8) (S := fun w' => True) (ds := []) (zB 8 0) (by kernel_rfl) rfl rfl trivial (fun hHeld => ?_); refine with_tabW spec_AggOk.tab15 spec_AggOk.bits15 (fun HT_ HW_ => ?_)
              generalize wr.drew = kh at A B HB hHeld ⊢
              refine zP 1 113 (zB 8 2) HT_ ?_
              refine zP 2 114 (zB 8 6) HT_ ?_
              refine inv_at [0, 3, 4, 5, 6, 7] (fun cA b a w' => ∃ (u : Nat) (a5 : Value), a = putSel cA b [(0, 112, .agg #[.int .i64 s, .int .u64 l]), (3, 115, .int .i64 ae), (4, 116, .agg #[.int .i64 bv, .int .u64 bu]), (5, 117, .agg #[.int .i64 aX, .int .u64 aZ]), (6, 6, a5)] ∧ (w'.heap[ab]? = some (.cells #[.int .i64 y, .int .i64 al, .int .u64 ak, .int .i64 ae, .int .i64 am, .slice bc D.length aH] 32 (0, 0))) ∧ (w'.heap[ap]? = some (.cells #[.int .i64 s, .int .u64 l] 30 (0, 0))) ∧ (Below w.heap.size w w') ∧ (b 6 = true → b 7 = false → w'.heap[u]? = some (.cells #[.int .i64 0, .int .u64 0] 30 (0, 0))) ∧ (b 6 = true → w.heap.size ≤ u) ∧ (b 6 = true → w.heap.size ≤ u) ∧ (b 6 = true → ab ≠ u) ∧ (b 6 = true → u ≠ ab) ∧ (b 6 = true → ap ≠ u) ∧ (b 6 = true → u ≠ ap) ∧ (b 7 = true → w'.heap[u]? = some (.cells #[.int .i64 aX, .int .u64 aZ] 30 (0, 0))) ∧ (b 6 = true → (a5 : Value) = .pointer (some ⟨u, 0, none⟩))) HT_.out HW_.out (by kernel_rfl) (by kernel_rfl) ?_ ?_ ?_
              ·exact ⟨0, .bool false, by simp only [putSel, Bool.false_eq_true, if_false], A.out, B.out, HB.out, fun h_ => absurd h_ (by decide), fun h_ => absurd h_ (by decide), fun h_ => absurd h_ (by decide), fun h_ => absurd h_ (by decide), fun h_ => absurd h_ (by decide), fun h_ => absurd h_ (by decide), fun h_ => absurd h_ (by decide), fun h_ => absurd h_ (by decide), fun h_ => absurd h_ (by decide)⟩
              ·skip
               clear A B HB
               refine steps_cons ?_ ?_
               ·rintro b a w' ⟨u, a5, ha, I, G, Q_HB, J, aq, ar, ah, ai, af, ag, au, aK⟩ hb_ hon hoff
                refine ⟨_, rfl, fun K hK => ?_⟩
                have e3 : a.tmps[3]? = some (.pointer (some ⟨ap, 0, none⟩)) := by rw [ha]; exact (putSel_off rfl).trans rfl
                replace ha := zp.mk ha
                have A := zp.mk I
                have B := zp.mk G
                have HB := zp.mk Q_HB
                have bK := zt0 B.out
                have bJ := zt1 B.out
                refine value_ (w1 := w') (v := .agg #[.int .i64 s, .int .u64 l]) (by rfl) rfl ?_ ?_
                ·go_simp
                 (try simp only [i64_w])
                 try rfl
                refine hK.out _ _ ⟨u, a5, (by rw [ha.out]; exact putSel_upk 0 hb_ rfl rfl rfl), I, G, Q_HB, J, aq, ar, ah, ai, af, ag, fun an => absurd ((hoff 7 (by kernel_rfl)).symm.trans an) (by decide), aK⟩
               refine steps_cons ?_ ?_
               ·rintro b a w' ⟨u, a5, ha, I, G, Q_HB, J, aq, ar, ah, ai, af, ag, au, aK⟩ hb_ hon hoff
                refine ⟨_, rfl, fun K hK => ?_⟩
                have fy : a.tmps[114]? = some (.pointer (some ⟨ab, 3, none⟩)) := by rw [ha]; exact (putSel_off rfl).trans rfl
                replace ha := zp.mk ha
                have A := zp.mk I
                have B := zp.mk G
                have HB := zp.mk Q_HB
                have bK := zt0 A.out
                have bJ := zt1 A.out
                have co := zt2 A.out
                have cg := zt3 A.out
                have ci := zt4 A.out
                have cr := zt5 A.out
                refine value_ (w1 := w') (v := .int .i64 ae) (by rfl) rfl ?_ ?_
                ·go_simp
                 (try simp only [i64_w])
                 try rfl
                refine hK.out _ _ ⟨u, a5, (by rw [ha.out]; exact putSel_upk 1 hb_ rfl rfl rfl), I, G, Q_HB, J, aq, ar, ah, ai, af, ag, fun an => absurd ((hoff 7 (by kernel_rfl)).symm.trans an) (by decide), aK⟩
               refine steps_cons ?_ ?_
               ·rintro b a w' ⟨u, a5, ha, I, G, Q_HB, J, aq, ar, ah, ai, af, ag, au, aK⟩ hb_ hon hoff
                refine ⟨_, rfl, fun K hK => ?_⟩
                have cl : a.tmps[113]? = some (.int .i64 (wrap64 (y - (D.length : Int)))) := by rw [ha]; exact (putSel_off rfl).trans rfl
                have cd : a.tmps[115]? = some (.int .i64 ae) := by rw [ha]; exact putSel_on (e := (3, 115, .int .i64 ae)) 1 rfl rfl (hon 3 (by kernel_rfl)) rfl
                replace ha := zp.mk ha
                have A := zp.mk I
                have B := zp.mk G
                have HB := zp.mk Q_HB
                refine goes_ Try.func31 (by kernel_rfl) rfl #[.int .i64 (wrap64 (y - (D.length : Int))), .int .i64 ae] (by rfl) rfl rfl (by first | (simp only [List.map_toArray, List.map_cons, List.map_nil, Act.eval, Array.getD_eq_getD_getElem?, Option.getD_some, cl, cd]; done) | (simp only [List.map_toArray, List.map_cons, List.map_nil, Act.eval, Array.getD_eq_getD_getElem?, Option.getD_some, cl, cd]; rfl)) ?_
                with_reducible refine (spec_l07Times.calls k3 (wrap64 (y - (D.length : Int))) ae bv bu _ fe.out).mono ?_
                rintro e dy ⟨rfl, hb⟩
                refine ⟨_, rfl, ?_⟩
                replace A := zp.mk (zl (zv8 A.out) hb)
                replace B := zp.mk (zl (zv8 B.out) hb)
                replace HB := zp.mk (zj (zv7 HB.out) hb); have bf := fun (an : b 6 = true) (a6 : b 7 = false) => (show dy.heap[u]? = some (.cells #[.int .i64 0, .int .u64 0] 30 (0, 0)) from by first | exact (zl (g := u) (o := .cells #[.int .i64 0, .int .u64 0] 30 (0, 0)) (by (with_reducible repeat (first | refine zf ?_ _ | refine zi ?_ | refine zg ?_ _)); exact (J an a6)) hb))
                (try clear hb)
                (try clear hb2)
                (try clear hk)
                (try clear hi)
                refine hK.out _ _ ⟨u, a5, (by rw [ha.out]; exact putSel_upk 2 hb_ rfl rfl rfl), (zv8 A.out), (zv8 B.out), (zv7 HB.out), bf, aq, ar, ah, ai, af, ag, fun an => absurd ((hoff 7 (by kernel_rfl)).symm.trans an) (by decide), aK⟩
               refine steps_cons ?_ ?_
               ·rintro b a w' ⟨u, a5, ha, I, G, Q_HB, J, aq, ar, ah, ai, af, ag, au, aK⟩ hb_ hon hoff
                refine ⟨_, rfl, fun K hK => ?_⟩
                have cq : a.tmps[112]? = some (.agg #[.int .i64 s, .int .u64 l]) := by rw [ha]; exact putSel_on (e := (0, 112, .agg #[.int .i64 s, .int .u64 l])) 0 rfl rfl (hon 0 (by kernel_rfl)) rfl
                have cn : a.tmps[116]? = some (.agg #[.int .i64 bv, .int .u64 bu]) := by rw [ha]; exact putSel_on (e := (4, 116, .agg #[.int .i64 bv, .int .u64 bu])) 2 rfl rfl (hon 4 (by kernel_rfl)) rfl
                replace ha := zp.mk ha
                have A := zp.mk I
                have B := zp.mk G
                have HB := zp.mk Q_HB
                refine goes_ Try.func29 (by kernel_rfl) rfl #[.agg #[.int .i64 s, .int .u64 l], .agg #[.int .i64 bv, .int .u64 bu]] (by rfl) rfl rfl (by first | (simp only [List.map_toArray, List.map_cons, List.map_nil, Act.eval, Array.getD_eq_getD_getElem?, Option.getD_some, cq, cn]; done) | (simp only [List.map_toArray, List.map_cons, List.map_nil, Act.eval, Array.getD_eq_getD_getElem?, Option.getD_some, cq, cn]; rfl)) ?_
                with_reducible refine (spec_WideAdd.calls s l bv bu aX aZ _ fQ.out).mono ?_
                rintro e eX ⟨rfl, hb⟩
                refine ⟨_, rfl, ?_⟩
                replace A := zp.mk (zl (zv8 A.out) hb)
                replace B := zp.mk (zl (zv8 B.out) hb)
                replace HB := zp.mk (zj (zv7 HB.out) hb); have bf := fun (an : b 6 = true) (a6 : b 7 = false) => (show eX.heap[u]? = some (.cells #[.int .i64 0, .int .u64 0] 30 (0, 0)) from by first | exact (zl (g := u) (o := .cells #[.int .i64 0, .int .u64 0] 30 (0, 0)) (by (with_reducible repeat (first | refine zf ?_ _ | refine zi ?_ | refine zg ?_ _)); exact (J an a6)) hb))
                (try clear hb)
                (try clear hb2)
                (try clear hk)
                (try clear hi)
                refine hK.out _ _ ⟨u, a5, (by rw [ha.out]; exact putSel_upk 3 hb_ rfl rfl rfl), (zv8 A.out), (zv8 B.out), (zv7 HB.out), bf, aq, ar, ah, ai, af, ag, fun an => absurd ((hoff 7 (by kernel_rfl)).symm.trans an) (by decide), aK⟩
               refine steps_cons ?_ ?_
               ·rintro b a w' ⟨u, a5, ha, I, G, Q_HB, J, aq, ar, ah, ai, af, ag, au, aK⟩ hb_ hon hoff
                refine ⟨_, rfl, fun K hK => ?_⟩
                replace ha := zp.mk ha
                have A := zp.mk I
                have B := zp.mk G
                have HB := zp.mk Q_HB
                refine box_step ?hg (N := 6) ?hd (cs := #[.int .i64 0, .int .u64 0]) (t := 30) ?hr ?_; (case hd => rfl); (case hg => rfl); (case hr => first | (go_simp; done) | (go_simp; rfl))
                intro u hg dy hbox hb
                have q := zp.mk (hbox)
                have bx := zp.mk ((zv3 (zv7 HB.out) hg))
                have bA := zp.mk ((zv3 (zv7 HB.out) hg))
                have ax := zp.mk ((by rw [hg]; exact Nat.ne_of_lt (blk_lt (g := ab) (o := .cells #[.int .i64 y, .int .i64 al, .int .u64 ak, .int .i64 ae, .int .i64 am, .slice bc D.length aH] 32 (0, 0)) (zv8 A.out)) : ab ≠ u))
                have aA := zp.mk ((by rw [hg]; exact Nat.ne_of_gt (blk_lt (g := ab) (o := .cells #[.int .i64 y, .int .i64 al, .int .u64 ak, .int .i64 ae, .int .i64 am, .slice bc D.length aH] 32 (0, 0)) (zv8 A.out)) : u ≠ ab))
                have av := zp.mk ((by rw [hg]; exact Nat.ne_of_lt (blk_lt (g := ap) (o := .cells #[.int .i64 s, .int .u64 l] 30 (0, 0)) (zv8 B.out)) : ap ≠ u))
                have aE := zp.mk ((by rw [hg]; exact Nat.ne_of_gt (blk_lt (g := ap) (o := .cells #[.int .i64 s, .int .u64 l] 30 (0, 0)) (zv8 B.out)) : u ≠ ap))
                replace A := zp.mk (zl (zv8 A.out) hb)
                replace B := zp.mk (zl (zv8 B.out) hb)
                replace HB := zp.mk (zj (zv7 HB.out) hb)
                clear hb hbox hg
                refine hK.out _ _ ⟨u, (.pointer (some ⟨u, 0, none⟩)), (by rw [ha.out]; exact putSel_upk 4 hb_ rfl rfl rfl), (zv8 A.out), (zv8 B.out), (zv7 HB.out), fun _ _ => (zv8 q.out), fun _ => bx.out, fun _ => bA.out, fun _ => ax.out, fun _ => aA.out, fun _ => av.out, fun _ => aE.out, fun an => absurd ((hoff 7 (by kernel_rfl)).symm.trans an) (by decide), fun _ => rfl⟩
               refine steps_cons ?_ ?_
               ·rintro b a w' ⟨u, a5, ha, I, G, Q_HB, J, aq, ar, ah, ai, af, ag, au, aK⟩ hb_ hon hoff
                refine ⟨_, rfl, fun K hK => ?_⟩
                have e6 : a.tmps[6]? = some (a5) := by rw [ha]; exact putSel_on (e := (6, 6, a5)) 4 rfl rfl (hon 6 (by kernel_rfl)) rfl
                rw [aK (hon 6 (by kernel_rfl))] at e6
                have eB : a.tmps[117]? = some (.agg #[.int .i64 aX, .int .u64 aZ]) := by rw [ha]; exact putSel_on (e := (5, 117, .agg #[.int .i64 aX, .int .u64 aZ])) 3 rfl rfl (hon 5 (by kernel_rfl)) rfl
                replace ha := zp.mk ha
                have A := zp.mk I
                have B := zp.mk G
                have HB := zp.mk Q_HB
                have q := zp.mk (J (hon 6 (by kernel_rfl)) hb_)
                have bx := zp.mk (aq (hon 6 (by kernel_rfl)))
                have bA := zp.mk (ar (hon 6 (by kernel_rfl)))
                have ax := zp.mk (ah (hon 6 (by kernel_rfl)))
                have aA := zp.mk (ai (hon 6 (by kernel_rfl)))
                have av := zp.mk (af (hon 6 (by kernel_rfl)))
                have aE := zp.mk (ag (hon 6 (by kernel_rfl)))
                have jU : w'.cell? ⟨u, 0, none⟩ = some (.int .i64 0) := (ze q.out 0).trans rfl
                have fZ := zd q.out 0
                have ef := ax.out
                have eg := av.out
                have ec := aA.out
                have d9 := aE.out
                have jm : w'.cell? ⟨u, 1, none⟩ = some (.int .u64 0) := (ze q.out 1).trans rfl
                have gK := zd q.out 1
                have d5 := ax.out
                have d3 := av.out
                have ei := aA.out
                have ek := aE.out
                refine skip_ (w1 := ?_) (by rfl) rfl ?_ ?_
                rotate_left
                ·go_simp
                 rfl
                refine hK.out _ _ ⟨u, a5, (by rw [ha.out]; exact putSel_none (v := undef) rfl), (by (with_reducible repeat (first | refine zf ?_ _ | refine zi ?_ | refine zg ?_ _)); refine blk_far ?_ ax.out _; (with_reducible repeat (first | refine zf ?_ _ | refine zi ?_ | refine zg ?_ _)); refine blk_far ?_ ax.out _; (with_reducible repeat (first | refine zf ?_ _ | refine zi ?_ | refine zg ?_ _)); exact A.out), (by (with_reducible repeat (first | refine zf ?_ _ | refine zi ?_ | refine zg ?_ _)); refine blk_far ?_ av.out _; (with_reducible repeat (first | refine zf ?_ _ | refine zi ?_ | refine zg ?_ _)); refine blk_far ?_ av.out _; (with_reducible repeat (first | refine zf ?_ _ | refine zi ?_ | refine zg ?_ _)); exact B.out), (zv7 HB.out), fun _ a6 => absurd ((up_self b 7).symm.trans a6) (by decide), fun _ => bx.out, fun _ => bA.out, fun _ => ax.out, fun _ => aA.out, fun _ => av.out, fun _ => aE.out, fun _ => (by (with_reducible repeat (first | refine zf ?_ _ | refine zi ?_ | refine zg ?_ _)); refine blk_put (cs := #[.int .i64 aX, .int .u64 0]) ?_ 1 _ rfl; (with_reducible repeat (first | refine zf ?_ _ | refine zi ?_ | refine zg ?_ _)); refine blk_put (cs := #[.int .i64 0, .int .u64 0]) ?_ 0 _ rfl; (with_reducible repeat (first | refine zf ?_ _ | refine zi ?_ | refine zg ?_ _)); exact q.out), aK⟩
               exact steps_nil
              rintro b a er hall ⟨u, a5, ha, I, G, Q_HB, J, aq, ar, ah, ai, af, ag, au, aK⟩
              clear A B HB
              have bE := hall 0 (by kernel_rfl)
              have bC := hall 3 (by kernel_rfl)
              have bD := hall 4 (by kernel_rfl)
              have cb := hall 5 (by kernel_rfl)
              have aY := hall 6 (by kernel_rfl)
              have bS := hall 7 (by kernel_rfl)
              subst ha
              obtain rfl := aK aY
              simp only [putSel, bE, bC, bD, cb, aY, bS, if_true, Act.put, zs1, zs2, zs3]
              have A := zp.mk I
              clear I
              have B := zp.mk G
              clear G
              have HB := zp.mk Q_HB
              clear Q_HB
              clear J
              have bx := zp.mk (aq aY)
              clear aq
              have bA := zp.mk (ar aY)
              clear ar
              have ax := zp.mk (ah aY)
              clear ah
              have aA := zp.mk (ai aY)
              clear ai
              have av := zp.mk (af aY)
              clear af
              have aE := zp.mk (ag aY)
              clear ag
              have q := zp.mk (au bS)
              clear au
              clear hall bE bC bD cb aY bS
              try go_wp2
              replace A := zp.mk (zi A.out)
              replace B := zp.mk (zi B.out)
              replace q := zp.mk (zi q.out)
              replace HB := zp.mk (zb HB.out)
              have bZ : 0 ≤ (3 : Int) := (by omega)
              have bW : 3 < (D.length : Int) := of_decide_eq_true (by first | (with_reducible assumption) | assumption)
              obtain ⟨aC, cK, aT⟩ := Kd.at_int a9.out 3 bZ bW
              have aU := aT
              (try rw [show ((3 : Int)).toNat = 3 from rfl] at aU)
              (try rw [show 3 * 1 = 3 from rfl] at aU)
              (try simp only [Nat.reduceMul, Nat.reduceEqDiff, Go.Addr.add, ↓reduceIte] at aU)
              cases cK
              (try simp only [show (3 : Int).toNat = 3 from rfl, Nat.reduceMul, Nat.reduceEqDiff, Go.Addr.add, ↓reduceIte] at aT)
              have dS : (3 < D.length) = True := eq_true (by omega)
              (try rw [show ((3 : Int)).toNat = 3 from rfl] at aT)
              replace aT := (HB.out.cell (World.block_lt_of_cell? w _ aT)).trans aT
              replace bZ := eq_true bZ
              replace bW := eq_true bW
              refine start_ (n := 15) (S := fun w' => True) (ds := []) (zB 15 0) (by kernel_rfl) rfl rfl trivial (fun hHeld => ?_); refine with_tabW spec_AggOk.tab16 spec_AggOk.bits16 (fun HT_ HW_ => ?_)
              generalize er.drew = ki at A B q HB aT hHeld ⊢
              refine zP 1 119 (zB 15 2) HT_ ?_
              refine zP 5 123 (zB 15 34) HT_ ?_
              refine zP 7 125 (zB 15 162) HT_ ?_
              refine inv_at [0, 2, 3, 4, 6, 8, 9, 10, 11, 12, 13, 14] (fun cA b a w' => ∃ (Z : Nat) (ao : Value), a = putSel cA b [(0, 118, .agg #[.int .i64 s, .int .u64 l]), (2, 120, .int .i64 ae), (3, 121, .agg #[.int .i64 bq, .int .u64 bp]), (4, 122, .agg #[.int .i64 bl, .int .u64 bk]), (6, 124, .int .i64 (wrap64 ((wrap64 (y - (D.length : Int))) - 1))), (8, 126, .slice (some aC) D.length aH), (9, 127, .pointer (some (aC.add 3))), (10, 128, .int .i64 (rd D 3)), (11, 129, .agg #[.int .i64 bs, .int .u64 bn]), (12, 130, .agg #[.int .i64 be, .int .u64 br]), (13, 7, ao)] ∧ (w'.heap[ab]? = some (.cells #[.int .i64 y, .int .i64 al, .int .u64 ak, .int .i64 ae, .int .i64 am, .slice (some aC) D.length aH] 32 (0, 0))) ∧ (w'.heap[ap]? = some (.cells #[.int .i64 s, .int .u64 l] 30 (0, 0))) ∧ (w'.heap[u]? = some (.cells #[.int .i64 aX, .int .u64 aZ] 30 (0, 0))) ∧ (Below w.heap.size w w') ∧ (b 13 = true → b 14 = false → w'.heap[Z]? = some (.cells #[.int .i64 0, .int .u64 0] 30 (0, 0))) ∧ (b 13 = true → w.heap.size ≤ Z) ∧ (b 13 = true → w.heap.size ≤ Z) ∧ (b 13 = true → ab ≠ Z) ∧ (b 13 = true → Z ≠ ab) ∧ (b 13 = true → ap ≠ Z) ∧ (b 13 = true → Z ≠ ap) ∧ (b 13 = true → u ≠ Z) ∧ (b 13 = true → Z ≠ u) ∧ (b 14 = true → w'.heap[Z]? = some (.cells #[.int .i64 be, .int .u64 br] 30 (0, 0))) ∧ (b 13 = true → (ao : Value) = .pointer (some ⟨Z, 0, none⟩))) HT_.out HW_.out (by kernel_rfl) (by kernel_rfl) ?_ ?_ ?_
              ·exact ⟨0, .bool false, by simp only [putSel, Bool.false_eq_true, if_false], A.out, B.out, q.out, HB.out, fun h_ => absurd h_ (by decide), fun h_ => absurd h_ (by decide), fun h_ => absurd h_ (by decide), fun h_ => absurd h_ (by decide), fun h_ => absurd h_ (by decide), fun h_ => absurd h_ (by decide), fun h_ => absurd h_ (by decide), fun h_ => absurd h_ (by decide), fun h_ => absurd h_ (by decide), fun h_ => absurd h_ (by decide), fun h_ => absurd h_ (by decide)⟩
              ·skip
               clear A B q HB
               refine steps_cons ?_ ?_
               ·rintro b a w' ⟨Z, ao, ha, I, G, J, Q_HB, ac, aa, x, T, O, Y, X, U, W, ad, aj⟩ hb_ hon hoff
                refine ⟨_, rfl, fun K hK => ?_⟩
                have e3 : a.tmps[3]? = some (.pointer (some ⟨ap, 0, none⟩)) := by rw [ha]; exact (putSel_off rfl).trans rfl
                replace ha := zp.mk ha
                have A := zp.mk I
                have B := zp.mk G
                have q := zp.mk J
                have HB := zp.mk Q_HB
                have bK := zt0 B.out
                have bJ := zt1 B.out
                refine value_ (w1 := w') (v := .agg #[.int .i64 s, .int .u64 l]) (by rfl) rfl ?_ ?_
                ·go_simp
                 (try simp only [i64_w])
                 try rfl
                refine hK.out _ _ ⟨Z, ao, (by rw [ha.out]; exact putSel_upk 0 hb_ rfl rfl rfl), I, G, J, Q_HB, ac, aa, x, T, O, Y, X, U, W, fun an => absurd ((hoff 14 (by kernel_rfl)).symm.trans an) (by decide), aj⟩
               refine steps_cons ?_ ?_
               ·rintro b a w' ⟨Z, ao, ha, I, G, J, Q_HB, ac, aa, x, T, O, Y, X, U, W, ad, aj⟩ hb_ hon hoff
                refine ⟨_, rfl, fun K hK => ?_⟩
                have e5 : a.tmps[119]? = some (.pointer (some ⟨ab, 3, none⟩)) := by rw [ha]; exact (putSel_off rfl).trans rfl
                replace ha := zp.mk ha
                have A := zp.mk I
                have B := zp.mk G
                have q := zp.mk J
                have HB := zp.mk Q_HB
                have bK := zt0 A.out
                have bJ := zt1 A.out
                have co := zt2 A.out
                have cg := zt3 A.out
                have ci := zt4 A.out
                have cr := zt5 A.out
                refine value_ (w1 := w') (v := .int .i64 ae) (by rfl) rfl ?_ ?_
                ·go_simp
                 (try simp only [i64_w])
                 try rfl
                refine hK.out _ _ ⟨Z, ao, (by rw [ha.out]; exact putSel_upk 1 hb_ rfl rfl rfl), I, G, J, Q_HB, ac, aa, x, T, O, Y, X, U, W, fun an => absurd ((hoff 14 (by kernel_rfl)).symm.trans an) (by decide), aj⟩
               refine steps_cons ?_ ?_
               ·rintro b a w' ⟨Z, ao, ha, I, G, J, Q_HB, ac, aa, x, T, O, Y, X, U, W, ad, aj⟩ hb_ hon hoff
                refine ⟨_, rfl, fun K hK => ?_⟩
                have ck : a.tmps[120]? = some (.int .i64 ae) := by rw [ha]; exact putSel_on (e := (2, 120, .int .i64 ae)) 1 rfl rfl (hon 2 (by kernel_rfl)) rfl
                replace ha := zp.mk ha
                have A := zp.mk I
                have B := zp.mk G
                have q := zp.mk J
                have HB := zp.mk Q_HB
                refine goes_ Try.func30 (by kernel_rfl) rfl #[.int .i64 ae] (by rfl) rfl rfl (by first | (simp only [List.map_toArray, List.map_cons, List.map_nil, Act.eval, Array.getD_eq_getD_getElem?, Option.getD_some, ck]; done) | (simp only [List.map_toArray, List.map_cons, List.map_nil, Act.eval, Array.getD_eq_getD_getElem?, Option.getD_some, ck]; rfl)) ?_
                with_reducible refine (spec_WideOf.calls ae bq bp _ eF.out).mono ?_
                rintro e dE ⟨rfl, hb⟩
                refine ⟨_, rfl, ?_⟩
                replace A := zp.mk (zl (zv8 A.out) hb)
                replace B := zp.mk (zl (zv8 B.out) hb)
                replace q := zp.mk (zl (zv8 q.out) hb)
                replace HB := zp.mk (zj (zv7 HB.out) hb); have aW := fun (an : b 13 = true) (a6 : b 14 = false) => (show dE.heap[Z]? = some (.cells #[.int .i64 0, .int .u64 0] 30 (0, 0)) from by first | exact (zl (g := Z) (o := .cells #[.int .i64 0, .int .u64 0] 30 (0, 0)) (by (with_reducible repeat (first | refine zf ?_ _ | refine zi ?_ | refine zg ?_ _)); exact (ac an a6)) hb))
                (try clear hb)
                (try clear hb2)
                (try clear hk)
                (try clear hi)
                refine hK.out _ _ ⟨Z, ao, (by rw [ha.out]; exact putSel_upk 2 hb_ rfl rfl rfl), (zv8 A.out), (zv8 B.out), (zv8 q.out), (zv7 HB.out), aW, aa, x, T, O, Y, X, U, W, fun an => absurd ((hoff 14 (by kernel_rfl)).symm.trans an) (by decide), aj⟩
               refine steps_cons ?_ ?_
               ·rintro b a w' ⟨Z, ao, ha, I, G, J, Q_HB, ac, aa, x, T, O, Y, X, U, W, ad, aj⟩ hb_ hon hoff
                refine ⟨_, rfl, fun K hK => ?_⟩
                have cp : a.tmps[118]? = some (.agg #[.int .i64 s, .int .u64 l]) := by rw [ha]; exact putSel_on (e := (0, 118, .agg #[.int .i64 s, .int .u64 l])) 0 rfl rfl (hon 0 (by kernel_rfl)) rfl
                have cm : a.tmps[121]? = some (.agg #[.int .i64 bq, .int .u64 bp]) := by rw [ha]; exact putSel_on (e := (3, 121, .agg #[.int .i64 bq, .int .u64 bp])) 2 rfl rfl (hon 3 (by kernel_rfl)) rfl
                replace ha := zp.mk ha
                have A := zp.mk I
                have B := zp.mk G
                have q := zp.mk J
                have HB := zp.mk Q_HB
                refine goes_ Try.func29 (by kernel_rfl) rfl #[.agg #[.int .i64 s, .int .u64 l], .agg #[.int .i64 bq, .int .u64 bp]] (by rfl) rfl rfl (by first | (simp only [List.map_toArray, List.map_cons, List.map_nil, Act.eval, Array.getD_eq_getD_getElem?, Option.getD_some, cp, cm]; done) | (simp only [List.map_toArray, List.map_cons, List.map_nil, Act.eval, Array.getD_eq_getD_getElem?, Option.getD_some, cp, cm]; rfl)) ?_
                with_reducible refine (spec_WideAdd.calls s l bq bp bl bk _ eY.out).mono ?_
                rintro e eE ⟨rfl, hb⟩
                refine ⟨_, rfl, ?_⟩
                replace A := zp.mk (zl (zv8 A.out) hb)
                replace B := zp.mk (zl (zv8 B.out) hb)
                replace q := zp.mk (zl (zv8 q.out) hb)
                replace HB := zp.mk (zj (zv7 HB.out) hb); have aW := fun (an : b 13 = true) (a6 : b 14 = false) => (show eE.heap[Z]? = some (.cells #[.int .i64 0, .int .u64 0] 30 (0, 0)) from by first | exact (zl (g := Z) (o := .cells #[.int .i64 0, .int .u64 0] 30 (0, 0)) (by (with_reducible repeat (first | refine zf ?_ _ | refine zi ?_ | refine zg ?_ _)); exact (ac an a6)) hb))
                (try clear hb)
                (try clear hb2)
                (try clear hk)
                (try clear hi)
                refine hK.out _ _ ⟨Z, ao, (by rw [ha.out]; exact putSel_upk 3 hb_ rfl rfl rfl), (zv8 A.out), (zv8 B.out), (zv8 q.out), (zv7 HB.out), aW, aa, x, T, O, Y, X, U, W, fun an => absurd ((hoff 14 (by kernel_rfl)).symm.trans an) (by decide), aj⟩
               refine steps_cons ?_ ?_
               ·rintro b a w' ⟨Z, ao, ha, I, G, J, Q_HB, ac, aa, x, T, O, Y, X, U, W, ad, aj⟩ hb_ hon hoff
                refine ⟨_, rfl, fun K hK => ?_⟩
                have e8 : a.tmps[123]? = some (.int .i64 (wrap64 (y - (D.length : Int)))) := by rw [ha]; exact (putSel_off rfl).trans rfl
                replace ha := zp.mk ha
                have A := zp.mk I
                have B := zp.mk G
                have q := zp.mk J
                have HB := zp.mk Q_HB
                refine value_ (w1 := w') (v := .int .i64 (wrap64 ((wrap64 (y - (D.length : Int))) - 1))) (by rfl) rfl ?_ ?_
                ·go_simp
                 (try simp only [i64_w])
                 try rfl
                refine hK.out _ _ ⟨Z, ao, (by rw [ha.out]; exact putSel_upk 4 hb_ rfl rfl rfl), I, G, J, Q_HB, ac, aa, x, T, O, Y, X, U, W, fun an => absurd ((hoff 14 (by kernel_rfl)).symm.trans an) (by decide), aj⟩
               refine steps_cons ?_ ?_
               ·rintro b a w' ⟨Z, ao, ha, I, G, J, Q_HB, ac, aa, x, T, O, Y, X, U, W, ad, aj⟩ hb_ hon hoff
                refine ⟨_, rfl, fun K hK => ?_⟩
                have fg : a.tmps[125]? = some (.pointer (some ⟨ab, 5, none⟩)) := by rw [ha]; exact (putSel_off rfl).trans rfl
                replace ha := zp.mk ha
                have A := zp.mk I
                have B := zp.mk G
                have q := zp.mk J
                have HB := zp.mk Q_HB
                have bK := zt0 A.out
                have bJ := zt1 A.out
                have co := zt2 A.out
                have cg := zt3 A.out
                have ci := zt4 A.out
                have cr := zt5 A.out
                refine value_ (w1 := w') (v := .slice (some aC) D.length aH) (by rfl) rfl ?_ ?_
                ·go_simp
                 (try simp only [i64_w])
                 try rfl
                refine hK.out _ _ ⟨Z, ao, (by rw [ha.out]; exact putSel_upk 5 hb_ rfl rfl rfl), I, G, J, Q_HB, ac, aa, x, T, O, Y, X, U, W, fun an => absurd ((hoff 14 (by kernel_rfl)).symm.trans an) (by decide), aj⟩
               refine steps_cons ?_ ?_
               ·rintro b a w' ⟨Z, ao, ha, I, G, J, Q_HB, ac, aa, x, T, O, Y, X, U, W, ad, aj⟩ hb_ hon hoff
                refine ⟨_, rfl, fun K hK => ?_⟩
                have fL : a.tmps[126]? = some (.slice (some aC) D.length aH) := by rw [ha]; exact putSel_on (e := (8, 126, .slice (some aC) D.length aH)) 5 rfl rfl (hon 8 (by kernel_rfl)) rfl
                replace ha := zp.mk ha
                have A := zp.mk I
                have B := zp.mk G
                have q := zp.mk J
                have HB := zp.mk Q_HB
                have cW : w'.cell? ⟨aC.block, aC.off + 3, none⟩ = some (.int .i64 (rd D 3)) := ((HB.out.cell (World.block_lt_of_cell? w _ aU)).trans aU)
                refine value_ (w1 := w') (v := .pointer (some (aC.add 3))) (by rfl) rfl ?_ ?_
                ·go_simp
                 (try simp only [i64_w])
                 try rfl
                refine hK.out _ _ ⟨Z, ao, (by rw [ha.out]; exact putSel_upk 6 hb_ rfl rfl rfl), I, G, J, Q_HB, ac, aa, x, T, O, Y, X, U, W, fun an => absurd ((hoff 14 (by kernel_rfl)).symm.trans an) (by decide), aj⟩
               refine steps_cons ?_ ?_
               ·rintro b a w' ⟨Z, ao, ha, I, G, J, Q_HB, ac, aa, x, T, O, Y, X, U, W, ad, aj⟩ hb_ hon hoff
                refine ⟨_, rfl, fun K hK => ?_⟩
                have ep : a.tmps[127]? = some (.pointer (some (aC.add 3))) := by rw [ha]; exact putSel_on (e := (9, 127, .pointer (some (aC.add 3)))) 6 rfl rfl (hon 9 (by kernel_rfl)) rfl
                replace ha := zp.mk ha
                have A := zp.mk I
                have B := zp.mk G
                have q := zp.mk J
                have HB := zp.mk Q_HB
                have cW : w'.cell? ⟨aC.block, aC.off + 3, none⟩ = some (.int .i64 (rd D 3)) := ((HB.out.cell (World.block_lt_of_cell? w _ aU)).trans aU)
                refine value_ (w1 := w') (v := .int .i64 (rd D 3)) (by rfl) rfl ?_ ?_
                ·go_simp
                 (try simp only [i64_w])
                 try rfl
                refine hK.out _ _ ⟨Z, ao, (by rw [ha.out]; exact putSel_upk 7 hb_ rfl rfl rfl), I, G, J, Q_HB, ac, aa, x, T, O, Y, X, U, W, fun an => absurd ((hoff 14 (by kernel_rfl)).symm.trans an) (by decide), aj⟩
               refine steps_cons ?_ ?_
               ·rintro b a w' ⟨Z, ao, ha, I, G, J, Q_HB, ac, aa, x, T, O, Y, X, U, W, ad, aj⟩ hb_ hon hoff
                refine ⟨_, rfl, fun K hK => ?_⟩
                have ca : a.tmps[124]? = some (.int .i64 (wrap64 ((wrap64 (y - (D.length : Int))) - 1))) := by rw [ha]; exact putSel_on (e := (6, 124, .int .i64 (wrap64 ((wrap64 (y - (D.length : Int))) - 1)))) 4 rfl rfl (hon 6 (by kernel_rfl)) rfl
                have cf : a.tmps[128]? = some (.int .i64 (rd D 3)) := by rw [ha]; exact putSel_on (e := (10, 128, .int .i64 (rd D 3))) 7 rfl rfl (hon 10 (by kernel_rfl)) rfl
                replace ha := zp.mk ha
                have A := zp.mk I
                have B := zp.mk G
                have q := zp.mk J
                have HB := zp.mk Q_HB
                refine goes_ Try.func31 (by kernel_rfl) rfl #[.int .i64 (wrap64 ((wrap64 (y - (D.length : Int))) - 1)), .int .i64 (rd D 3)] (by rfl) rfl rfl (by first | (simp only [List.map_toArray, List.map_cons, List.map_nil, Act.eval, Array.getD_eq_getD_getElem?, Option.getD_some, ca, cf]; done) | (simp only [List.map_toArray, List.map_cons, List.map_nil, Act.eval, Array.getD_eq_getD_getElem?, Option.getD_some, ca, cf]; rfl)) ?_
                with_reducible refine (spec_l07Times.calls k3 (wrap64 ((wrap64 (y - (D.length : Int))) - 1)) (rd D 3) bs bn _ ff.out).mono ?_
                rintro e ez ⟨rfl, hb⟩
                refine ⟨_, rfl, ?_⟩
                replace A := zp.mk (zl (zv8 A.out) hb)
                replace B := zp.mk (zl (zv8 B.out) hb)
                replace q := zp.mk (zl (zv8 q.out) hb)
                replace HB := zp.mk (zj (zv7 HB.out) hb); have aW := fun (an : b 13 = true) (a6 : b 14 = false) => (show ez.heap[Z]? = some (.cells #[.int .i64 0, .int .u64 0] 30 (0, 0)) from by first | exact (zl (g := Z) (o := .cells #[.int .i64 0, .int .u64 0] 30 (0, 0)) (by (with_reducible repeat (first | refine zf ?_ _ | refine zi ?_ | refine zg ?_ _)); exact (ac an a6)) hb))
                (try clear hb)
                (try clear hb2)
                (try clear hk)
                (try clear hi)
                refine hK.out _ _ ⟨Z, ao, (by rw [ha.out]; exact putSel_upk 8 hb_ rfl rfl rfl), (zv8 A.out), (zv8 B.out), (zv8 q.out), (zv7 HB.out), aW, aa, x, T, O, Y, X, U, W, fun an => absurd ((hoff 14 (by kernel_rfl)).symm.trans an) (by decide), aj⟩
               refine steps_cons ?_ ?_
               ·rintro b a w' ⟨Z, ao, ha, I, G, J, Q_HB, ac, aa, x, T, O, Y, X, U, W, ad, aj⟩ hb_ hon hoff
                refine ⟨_, rfl, fun K hK => ?_⟩
                have b7 : a.tmps[122]? = some (.agg #[.int .i64 bl, .int .u64 bk]) := by rw [ha]; exact putSel_on (e := (4, 122, .agg #[.int .i64 bl, .int .u64 bk])) 3 rfl rfl (hon 4 (by kernel_rfl)) rfl
                have cj : a.tmps[129]? = some (.agg #[.int .i64 bs, .int .u64 bn]) := by rw [ha]; exact putSel_on (e := (11, 129, .agg #[.int .i64 bs, .int .u64 bn])) 8 rfl rfl (hon 11 (by kernel_rfl)) rfl
                replace ha := zp.mk ha
                have A := zp.mk I
                have B := zp.mk G
                have q := zp.mk J
                have HB := zp.mk Q_HB
                refine goes_ Try.func29 (by kernel_rfl) rfl #[.agg #[.int .i64 bl, .int .u64 bk], .agg #[.int .i64 bs, .int .u64 bn]] (by rfl) rfl rfl (by first | (simp only [List.map_toArray, List.map_cons, List.map_nil, Act.eval, Array.getD_eq_getD_getElem?, Option.getD_some, b7, cj]; done) | (simp only [List.map_toArray, List.map_cons, List.map_nil, Act.eval, Array.getD_eq_getD_getElem?, Option.getD_some, b7, cj]; rfl)) ?_
                with_reducible refine (spec_WideAdd.calls bl bk bs bn be br _ eC.out).mono ?_
                rintro e fR ⟨rfl, hb⟩
                refine ⟨_, rfl, ?_⟩
                replace A := zp.mk (zl (zv8 A.out) hb)
                replace B := zp.mk (zl (zv8 B.out) hb)
                replace q := zp.mk (zl (zv8 q.out) hb)
                replace HB := zp.mk (zj (zv7 HB.out) hb); have aW := fun (an : b 13 = true) (a6 : b 14 = false) => (show fR.heap[Z]? = some (.cells #[.int .i64 0, .int .u64 0] 30 (0, 0)) from by first | exact (zl (g := Z) (o := .cells #[.int .i64 0, .int .u64 0] 30 (0, 0)) (by (with_reducible repeat (first | refine zf ?_ _ | refine zi ?_ | refine zg ?_ _)); exact (ac an a6)) hb))
                (try clear hb)
                (try clear hb2)
                (try clear hk)
                (try clear hi)
                refine hK.out _ _ ⟨Z, ao, (by rw [ha.out]; exact putSel_upk 9 hb_ rfl rfl rfl), (zv8 A.out), (zv8 B.out), (zv8 q.out), (zv7 HB.out), aW, aa, x, T, O, Y, X, U, W, fun an => absurd ((hoff 14 (by kernel_rfl)).symm.trans an) (by decide), aj⟩
               refine steps_cons ?_ ?_
               ·rintro b a w' ⟨Z, ao, ha, I, G, J, Q_HB, ac, aa, x, T, O, Y, X, U, W, ad, aj⟩ hb_ hon hoff
                refine ⟨_, rfl, fun K hK => ?_⟩
                replace ha := zp.mk ha
                have A := zp.mk I
                have B := zp.mk G
                have q := zp.mk J
                have HB := zp.mk Q_HB
                refine box_step ?hg (N := 7) ?hd (cs := #[.int .i64 0, .int .u64 0]) (t := 30) ?hr ?_; (case hd => rfl); (case hg => rfl); (case hr => first | (go_simp; done) | (go_simp; rfl))
                intro Z hg dE hbox hb
                have aM := zp.mk (hbox)
                have bz := zp.mk ((zv3 (zv7 HB.out) hg))
                have bw := zp.mk ((zv3 (zv7 HB.out) hg))
                have aw := zp.mk ((by rw [hg]; exact Nat.ne_of_lt (blk_lt (g := ab) (o := .cells #[.int .i64 y, .int .i64 al, .int .u64 ak, .int .i64 ae, .int .i64 am, .slice (some aC) D.length aH] 32 (0, 0)) (zv8 A.out)) : ab ≠ Z))
                have aD := zp.mk ((by rw [hg]; exact Nat.ne_of_gt (blk_lt (g := ab) (o := .cells #[.int .i64 y, .int .i64 al, .int .u64 ak, .int .i64 ae, .int .i64 am, .slice (some aC) D.length aH] 32 (0, 0)) (zv8 A.out)) : Z ≠ ab))
                have az := zp.mk ((by rw [hg]; exact Nat.ne_of_lt (blk_lt (g := ap) (o := .cells #[.int .i64 s, .int .u64 l] 30 (0, 0)) (zv8 B.out)) : ap ≠ Z))
                have aJ := zp.mk ((by rw [hg]; exact Nat.ne_of_gt (blk_lt (g := ap) (o := .cells #[.int .i64 s, .int .u64 l] 30 (0, 0)) (zv8 B.out)) : Z ≠ ap))
                have ay := zp.mk ((by rw [hg]; exact Nat.ne_of_lt (blk_lt (g := u) (o := .cells #[.int .i64 aX, .int .u64 aZ] 30 (0, 0)) (zv8 q.out)) : u ≠ Z))
                have aG := zp.mk ((by rw [hg]; exact Nat.ne_of_gt (blk_lt (g := u) (o := .cells #[.int .i64 aX, .int .u64 aZ] 30 (0, 0)) (zv8 q.out)) : Z ≠ u))
                replace A := zp.mk (zl (zv8 A.out) hb)
                replace B := zp.mk (zl (zv8 B.out) hb)
                replace q := zp.mk (zl (zv8 q.out) hb)
                replace HB := zp.mk (zj (zv7 HB.out) hb)
                clear hb hbox hg
                refine hK.out _ _ ⟨Z, (.pointer (some ⟨Z, 0, none⟩)), (by rw [ha.out]; exact putSel_upk 10 hb_ rfl rfl rfl), (zv8 A.out), (zv8 B.out), (zv8 q.out), (zv7 HB.out), fun _ _ => (zv8 aM.out), fun _ => bz.out, fun _ => bw.out, fun _ => aw.out, fun _ => aD.out, fun _ => az.out, fun _ => aJ.out, fun _ => ay.out, fun _ => aG.out, fun an => absurd ((hoff 14 (by kernel_rfl)).symm.trans an) (by decide), fun _ => rfl⟩
               refine steps_cons ?_ ?_
               ·rintro b a w' ⟨Z, ao, ha, I, G, J, Q_HB, ac, aa, x, T, O, Y, X, U, W, ad, aj⟩ hb_ hon hoff
                refine ⟨_, rfl, fun K hK => ?_⟩
                have e7 : a.tmps[7]? = some (ao) := by rw [ha]; exact putSel_on (e := (13, 7, ao)) 10 rfl rfl (hon 13 (by kernel_rfl)) rfl
                rw [aj (hon 13 (by kernel_rfl))] at e7
                have fc : a.tmps[130]? = some (.agg #[.int .i64 be, .int .u64 br]) := by rw [ha]; exact putSel_on (e := (12, 130, .agg #[.int .i64 be, .int .u64 br])) 9 rfl rfl (hon 12 (by kernel_rfl)) rfl
                replace ha := zp.mk ha
                have A := zp.mk I
                have B := zp.mk G
                have q := zp.mk J
                have HB := zp.mk Q_HB
                have aM := zp.mk (ac (hon 13 (by kernel_rfl)) hb_)
                have bz := zp.mk (aa (hon 13 (by kernel_rfl)))
                have bw := zp.mk (x (hon 13 (by kernel_rfl)))
                have aw := zp.mk (T (hon 13 (by kernel_rfl)))
                have aD := zp.mk (O (hon 13 (by kernel_rfl)))
                have az := zp.mk (Y (hon 13 (by kernel_rfl)))
                have aJ := zp.mk (X (hon 13 (by kernel_rfl)))
                have ay := zp.mk (U (hon 13 (by kernel_rfl)))
                have aG := zp.mk (W (hon 13 (by kernel_rfl)))
                have iu : w'.cell? ⟨Z, 0, none⟩ = some (.int .i64 0) := (ze aM.out 0).trans rfl
                have gI := zd aM.out 0
                have d4 := aw.out
                have el := az.out
                have d6 := ay.out
                have ej := aD.out
                have ed := aJ.out
                have ea := aG.out
                have jl : w'.cell? ⟨Z, 1, none⟩ = some (.int .u64 0) := (ze aM.out 1).trans rfl
                have gr := zd aM.out 1
                have ee := aw.out
                have d2 := az.out
                have eb := ay.out
                have d7 := aD.out
                have eh := aJ.out
                have d8 := aG.out
                refine skip_ (w1 := ?_) (by rfl) rfl ?_ ?_
                rotate_left
                ·go_simp
                 rfl
                refine hK.out _ _ ⟨Z, ao, (by rw [ha.out]; exact putSel_none (v := undef) rfl), (by (with_reducible repeat (first | refine zf ?_ _ | refine zi ?_ | refine zg ?_ _)); refine blk_far ?_ aw.out _; (with_reducible repeat (first | refine zf ?_ _ | refine zi ?_ | refine zg ?_ _)); refine blk_far ?_ aw.out _; (with_reducible repeat (first | refine zf ?_ _ | refine zi ?_ | refine zg ?_ _)); exact A.out), (by (with_reducible repeat (first | refine zf ?_ _ | refine zi ?_ | refine zg ?_ _)); refine blk_far ?_ az.out _; (with_reducible repeat (first | refine zf ?_ _ | refine zi ?_ | refine zg ?_ _)); refine blk_far ?_ az.out _; (with_reducible repeat (first | refine zf ?_ _ | refine zi ?_ | refine zg ?_ _)); exact B.out), (by (with_reducible repeat (first | refine zf ?_ _ | refine zi ?_ | refine zg ?_ _)); refine blk_far ?_ ay.out _; (with_reducible repeat (first | refine zf ?_ _ | refine zi ?_ | refine zg ?_ _)); refine blk_far ?_ ay.out _; (with_reducible repeat (first | refine zf ?_ _ | refine zi ?_ | refine zg ?_ _)); exact q.out), (zv7 HB.out), fun _ a6 => absurd ((up_self b 14).symm.trans a6) (by decide), fun _ => bz.out, fun _ => bw.out, fun _ => aw.out, fun _ => aD.out, fun _ => az.out, fun _ => aJ.out, fun _ => ay.out, fun _ => aG.out, fun _ => (by (with_reducible repeat (first | refine zf ?_ _ | refine zi ?_ | refine zg ?_ _)); refine blk_put (cs := #[.int .i64 be, .int .u64 0]) ?_ 1 _ rfl; (with_reducible repeat (first | refine zf ?_ _ | refine zi ?_ | refine zg ?_ _)); refine blk_put (cs := #[.int .i64 0, .int .u64 0]) ?_ 0 _ rfl; (with_reducible repeat (first | refine zf ?_ _ | refine zi ?_ | refine zg ?_ _)); exact aM.out), aj⟩
               exact steps_nil
              rintro b a kg hall ⟨Z, ao, ha, I, G, J, Q_HB, ac, aa, x, T, O, Y, X, U, W, ad, aj⟩
              clear A B q HB
              have bE := hall 0 (by kernel_rfl)
              have ch := hall 2 (by kernel_rfl)
              have bC := hall 3 (by kernel_rfl)
              have bD := hall 4 (by kernel_rfl)
              have aY := hall 6 (by kernel_rfl)
              have b9 := hall 8 (by kernel_rfl)
              have ce := hall 9 (by kernel_rfl)
              have b1 := hall 10 (by kernel_rfl)
              have bU := hall 11 (by kernel_rfl)
              have bR := hall 12 (by kernel_rfl)
              have aV := hall 13 (by kernel_rfl)
              have bI := hall 14 (by kernel_rfl)
              subst ha
              obtain rfl := aj aV
              simp only [putSel, bE, ch, bC, bD, aY, b9, ce, b1, bU, bR, aV, bI, if_true, Act.put, zs1, zs2, zs3]
              have A := zp.mk I
              clear I
              have B := zp.mk G
              clear G
              have q := zp.mk J
              clear J
              have HB := zp.mk Q_HB
              clear Q_HB
              clear ac
              have bz := zp.mk (aa aV)
              clear aa
              have bw := zp.mk (x aV)
              clear x
              have aw := zp.mk (T aV)
              clear T
              have aD := zp.mk (O aV)
              clear O
              have az := zp.mk (Y aV)
              clear Y
              have aJ := zp.mk (X aV)
              clear X
              have ay := zp.mk (U aV)
              clear U
              have aG := zp.mk (W aV)
              clear W
              have aM := zp.mk (ad bI)
              clear ad
              clear hall bE ch bC bD aY b9 ce b1 bU bR aV bI
              have gA := ax.out
              have fY := aA.out
              have gn := aw.out
              have gG := aD.out
              have gN := zt0 A.out
              have gL := zt1 A.out
              have gv := zt2 A.out
              have gP := zt3 A.out
              have ga := zt4 A.out
              have gm := zt5 A.out
              have gS := zd A.out 0
              have gJ := zd A.out 1
              have gB := zd A.out 2
              have gM := zd A.out 3
              have gi := zd A.out 4
              have gp := zd A.out 5
              have ge := aE.out
              have gC := av.out
              have gE := ay.out
              have gg := aG.out
              have gl := zt0 q.out
              have gx := zt1 q.out
              have gD := zd q.out 0
              have gs := zd q.out 1
              try go_wp2_with (first | ((with_reducible refine zn (f := 32) rfl ?_); refine goesL_ (some 134) rfl rfl Try.func32 (by kernel_rfl) rfl #[.agg #[.int .i64 al, .int .u64 ak], .agg #[.int .i64 aX, .int .u64 aZ]] rfl (by (try simp only [List.map_toArray, List.map_cons, List.map_nil]); first | done | rfl | (simp only [List.length_drop, List.length_take]; rfl)) ?_; (with_reducible refine (spec_WideCmp.calls al ak aX aZ a7 _ fH.out).mono ?_); rintro e kb ⟨rfl, hb⟩; refine ⟨_, rfl, ?_⟩; replace A := zp.mk (zl (zv8 A.out) hb); replace B := zp.mk (zl (zv8 B.out) hb); replace q := zp.mk (zl (zv8 q.out) hb); replace aM := zp.mk (zl (zv8 aM.out) hb); replace HB := zp.mk (zj (zv7 HB.out) hb); (try clear hb); (try clear hb2); (try clear hk); (try clear hi)))
              go_ret
              exact ⟨by first | rfl | (simp [errW_none, errW_some] <;> rfl) | (simp [*, errW_none, errW_some] <;> rfl), zv7 HB.out⟩
            ·rw [if_neg df] at H
             exact absurd H (by simp)

end Go.Proofs.Ytnnahpmnkpmopaa.QFnExactAggJoin
