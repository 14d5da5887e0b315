/- Proved: calls of the program come to the answers of the plain Lean functions that stand beside them. Each contract names its conditions. (Written by a program of this session, over the printer of the kit.) -/
import Derived.Test.YtnnahpmnkpmopaaZAggOfQFnExactAggOfx0
import Derived.Test.YtnnahpmnkpmopaaZAggOfQFnExactAggOfx2
namespace Go.Proofs.Ytnnahpmnkpmopaa.QFnExactAggOf
open Go.RowKit Go.Proofs.YtnnahpmnkpmopaaW.PrintWords Go.Proofs.YtnnahpmnkpmopaaW.PrintLast Go.Proofs.YtnnahpmnkpmopaaW.PrintMore
attribute [local go_sem] max2_int min2_int max_two min_two max_three min_three max_four min_four   -- for this text's walks alone
set_option linter.unusedVariables false
set_option linter.unusedSimpArgs false

/-! ### spec_AggOf: function 22 -/
mutual
def spec_AggOf.j0 : Nat → List Int → Bool → Option (Int × Int × Int × Int × Int × List Int)
 | 0, _, _ => none
 | k + 1, x0, x12 => if x12 = true then (some (0, 0, 0, 0, 0, ([] : List Int))) else (if 0 < (x0.length : Int) then (spec_AggOf.l0 k x0 0 (x0.length : Int) 0 0 (rd x0 0) (rd x0 0) ([] : List Int)) else (none))
def spec_AggOf.l0 : Nat → List Int → Int → Int → Int → Int → Int → Int → List Int → Option (Int × Int × Int × Int × Int × List Int)
 | 0, _, _, _, _, _, _, _, _ => none
 | k + 1, x0, x4, x161000, x161001, x161002, x161003, x161004, x161005 => if x4 < (x0.length : Int) then (if 0 ≤ x4 then ((spec_WideOf.f (rd x0 x4)).bind fun bt162 => ((spec_WideAdd.f x161001 x161002 bt162.1 bt162.2).bind fun bt164 => (if x4 ≤ (wrap64 (x4 + 1)) then (if (wrap64 (x4 + 1)) ≤ (x0.length : Int) then ((spec_TopOf.f k x161005 ((x0.take ((wrap64 (x4 + 1)) : Int).toNat).drop (x4 : Int).toNat)).bind fun t169 => (spec_AggOf.l0 k x0 (wrap64 (x4 + 1)) x161000 bt164.1 bt164.2 (mn x161003 (rd x0 x4)) (mx x161004 (rd x0 x4)) t169)) else (none)) else (none)))) else (none)) else (some (x161000, x161001, x161002, x161003, x161004, x161005))
end
def spec_AggOf.f (k : Nat) (l0 : List Int) : Option (Int × Int × Int × Int × Int × List Int) := if (l0.length : Int) = 0 then (spec_AggOf.j0 k l0 true) else (spec_AggOf.j0 k l0 (decide ((l0.length : Int) > 1000000)))
def spec_AggOf.T3 : Bool × List (List Nat × List Nat) := (true, [([], []), ([0], [0]), ([], []), ([2], [2]), ([3], [3]), ([], []), ([5], [5]), ([6], [6]), ([1, 4, 7], [1, 4, 7]), ([], []), ([9, 8, 0, 1, 2, 3, 4, 5, 6, 7, 8, 9], [8, 9])])
def spec_AggOf.B3 : List Nat := [0, 1, 0, 4, 12, 0, 32, 96, 255, 0, 1023]
theorem spec_AggOf.tab3 : rtab .any (opsOf Try.f22 3) = spec_AggOf.T3 := by kernel_rfl
theorem spec_AggOf.bits3 : waitsOk spec_AggOf.T3.2 spec_AggOf.B3 = true := by kernel_rfl
def spec_AggOf.T7 : Bool × List (List Nat × List Nat) := (true, [([], []), ([0], [0]), ([], []), ([], []), ([2, 3], [2, 3]), ([4], [4]), ([5], [5]), ([1, 6, 6], [1, 6]), ([0, 1, 2, 3, 4, 5, 6, 7], []), ([8, 7, 7, 0, 1, 2, 3, 4, 5, 6, 7], [7, 8])])
def spec_AggOf.B7 : List Nat := [0, 1, 0, 0, 12, 28, 60, 127, 255, 511]
theorem spec_AggOf.tab7 : rtab .any (opsOf Try.f22 7) = spec_AggOf.T7 := by kernel_rfl
theorem spec_AggOf.bits7 : waitsOk spec_AggOf.T7.2 spec_AggOf.B7 = true := by kernel_rfl
def spec_AggOf.T8 : Bool × List (List Nat × List Nat) := (true, [([], []), ([0], [0]), ([], []), ([], []), ([2, 3], [2, 3]), ([4], [4]), ([1, 5], [1, 5]), ([0, 1, 2, 3, 4, 5, 6], []), ([7, 6, 0, 1, 2, 3, 4, 5, 6], [6, 7])])
def spec_AggOf.B8 : List Nat := [0, 1, 0, 0, 12, 28, 63, 127, 255]
theorem spec_AggOf.tab8 : rtab .any (opsOf Try.f22 8) = spec_AggOf.T8 := by kernel_rfl
theorem spec_AggOf.bits8 : waitsOk spec_AggOf.T8.2 spec_AggOf.B8 = true := by kernel_rfl
def spec_AggOf.T9 : Bool × List (List Nat × List Nat) := (true, [([], []), ([0], [0]), ([], []), ([], []), ([2, 3], [2, 3]), ([4], [4]), ([1, 5], [1, 5]), ([0, 1, 2, 3, 4, 5, 6], []), ([7, 6, 0, 1, 2, 3, 4, 5, 6], [6, 7])])
def spec_AggOf.B9 : List Nat := [0, 1, 0, 0, 12, 28, 63, 127, 255]
theorem spec_AggOf.tab9 : rtab .any (opsOf Try.f22 9) = spec_AggOf.T9 := by kernel_rfl
theorem spec_AggOf.bits9 : waitsOk spec_AggOf.T9.2 spec_AggOf.B9 = true := by kernel_rfl
def spec_AggOf.T10 : Bool × List (List Nat × List Nat) := (true, [([], []), ([0], [0]), ([], []), ([], []), ([], []), ([4], [4]), ([2, 3, 5], [2, 3, 5]), ([1, 6], [1, 6]), ([0, 1, 2, 3, 4, 5, 6, 7], []), ([8, 7, 7, 0, 1, 2, 3, 4, 5, 6, 7], [7, 8])])
def spec_AggOf.B10 : List Nat := [0, 1, 0, 0, 0, 16, 60, 127, 255, 511]
theorem spec_AggOf.tab10 : rtab .any (opsOf Try.f22 10) = spec_AggOf.T10 := by kernel_rfl
theorem spec_AggOf.bits10 : waitsOk spec_AggOf.T10.2 spec_AggOf.B10 = true := by kernel_rfl
set_option maxHeartbeats 8000000 in
set_option maxRecDepth 100000 in
theorem spec_AggOf.calls (k : Nat) (A0 : Option Addr) (c0 : Nat) (l0 : List Int) (r1 : Int) (r2 : Int) (r3 : Int) (r4 : Int) (r5 : Int) (r6 : List Int) (w : World) (hr0 : Kd.C (Kd.int .i64) w A0 l0.length l0) (hc0 : l0.length ≤ c0) (h : spec_AggOf.f k l0 = some (r1, r2, r3, r4, r5, r6)) :
  Calls Try.prog 22 #[.slice A0 l0.length c0] w fun e w' => ∃ v5_ : Value, e = .returned (.agg #[.int .i64 r1, .int .i64 r2, .int .u64 r3, .int .i64 r4, .int .i64 r5, v5_]) ∧ Kd.R (Kd.int .i64) 3 w' w.heap.size (fun _ => True) v5_ r6 ∧ Below w.heap.size w w' := by
 have hu32 := Try.underlying32
 have hu30 := Try.underlying30
 have HR0 := zp.mk hr0
 have HC0 := zp.mk hc0
 clear hr0 hc0
 have HB := zp.mk (Below.refl w.heap.size w)
 have H : (if (l0.length : Int) = 0 then (spec_AggOf.j0 k l0 true) else (spec_AggOf.j0 k l0 (decide ((l0.length : Int) > 1000000)))) = some (r1, r2, r3, r4, r5, r6) := h
 clear h
 have HC2 := zp.mk H
 clear H
 go_enter Try.func22, Try.ntmps22
 go_upto_region 1 with (first | ((with_reducible refine zo (N := 2) rfl ?_); (try (refine gate_guard (by rfl) ?_; dsimp only)); refine zm ?hg (N := 2) ?hd (cs := #[.int .i64 0, .int .i64 0, .int .u64 0, .int .i64 0, .int .i64 0, .slice none 0 0]) (t := 32) ?hr ?_; (case hd => rfl); (case hg => rfl); (case hr => first | (go_simp; done) | (go_simp; rfl)); intro gb157 hg w3 hbox hb; have BK157 := zp.mk (hbox); have GW157 := zp.mk ((zv3 (zv6 HB.out) hg)); have GE157 := zp.mk ((zv3 (zv6 HB.out) hg)); replace HB := zp.mk (zj (zv6 HB.out) hb); clear hb hbox hg))
 (try simp only [Act.put, zs1, zs2, zs3])
 go_cut [12] (fun v12 wc => ∃ (kq : Nat) (x12_1 : Bool), v12 = .bool x12_1 ∧ zp (spec_AggOf.j0 kq l0 x12_1 = some (r1, r2, r3, r4, r5, r6)) ∧ zp (kq ≤ k) ∧ zp (wc.heap[gb157]? = some (.cells #[.int .i64 0, .int .i64 0, .int .u64 0, .int .i64 0, .int .i64 0, (.slice none 0 0)] 32 (0, 0))) ∧ zp (Below w.heap.size w wc))
 case first =>
  have H := HC2.out
  clear HC2
  by_cases c4 : (l0.length : Int) = 0
  ·rw [if_pos c4] at H
   have c4b0 : ((l0.length : Int) == 0) = true := beq_iff_eq.mpr c4
   have c4b1 : ((l0.length : Int) != 0) = false := bne_eq_false_iff_eq.mpr c4
   clear c4
   (first | rw [c4b0] | (simp only [i64_w, i32_w]; rw [c4b0]) | skip)
   have H' := zp.mk H
   clear H
   go_wp2
   go_meet
   case rel => exact ⟨_, (true), (by first | rfl | (simp; done) | (simp [*]; done)), H', ⟨by first | omega | exact Nat.le_refl _⟩, ⟨zv8 BK157.out⟩, ⟨zv7 HB.out⟩⟩
  ·rw [if_neg c4] at H
   have c4b0 : ((l0.length : Int) == 0) = false := beq_eq_false_iff_ne.mpr c4
   have c4b1 : ((l0.length : Int) != 0) = true := bne_iff_ne.mpr c4
   have c4b2 : ¬ (l0 = []) := fun h_ => c4 (by rw [h_]; rfl)
   (first | rw [c4b0] | (simp only [i64_w, i32_w]; rw [c4b0]) | skip)
   have H' := zp.mk H
   clear H
   go_wp2
   go_meet
   case rel => exact ⟨_, (decide ((l0.length : Int) > 1000000)), (by first | rfl | (simp; done) | (simp [*]; done)), H', ⟨by first | omega | exact Nat.le_refl _⟩, ⟨zv8 BK157.out⟩, ⟨zv7 HB.out⟩⟩
 case rest =>
  clear HC2
  try clear c2
  try clear p2
  try clear c4
  try clear c4b0
  try clear c4b1
  try clear c4b2
  obtain ⟨kq, x12_1, rfl, HA, HJ1, BK157, HB⟩ := hcut
  cases kq with
  | zero => exact absurd HA.out (by simp [spec_AggOf.j0])
  | succ kj1 =>
   have H := HA.out
   clear HA
   simp only [spec_AggOf.j0] at H
   by_cases c5 : x12_1 = true
   ·subst c5
    have H1 : (some (0, 0, 0, 0, 0, ([] : List Int))) = some (r1, r2, r3, r4, r5, r6) := by rw [if_pos rfl] at H; exact H
    clear H
    have H := H1
    clear H1
    simp only [Option.some.injEq, Prod.mk.injEq] at H
    obtain ⟨rfl, rfl, rfl, rfl, rfl, rfl⟩ := H
    have y6_0 := zt0 BK157.out
    have y6_1 := zt1 BK157.out
    have y6_2 := zt2 BK157.out
    have y6_3 := zt3 BK157.out
    have y6_4 := zt4 BK157.out
    have y6_5 := zt5 BK157.out
    have u6_0 := zd BK157.out 0
    have u6_1 := zd BK157.out 1
    have u6_2 := zd BK157.out 2
    have u6_3 := zd BK157.out 3
    have u6_4 := zd BK157.out 4
    have u6_5 := zd BK157.out 5
    go_wp2
    refine bodyPost_ret (results_cell_row rfl _ _ gb157 32 #[.int .i64 0, .int .i64 0, .int .u64 0, .int .i64 0, .int .i64 0, .slice none 0 0] (0, 0) _ rfl (by (with_reducible repeat (first | refine zf ?_ _ | refine zi ?_ | refine zg ?_ _)); refine blk_put (cs := #[.int .i64 0, .int .i64 0, .int .u64 0, .int .i64 0, .int .i64 0, .slice none 0 0]) ?_ 5 _ rfl; (with_reducible repeat (first | refine zf ?_ _ | refine zi ?_ | refine zg ?_ _)); refine blk_put (cs := #[.int .i64 0, .int .i64 0, .int .u64 0, .int .i64 0, .int .i64 0, .slice none 0 0]) ?_ 4 _ rfl; (with_reducible repeat (first | refine zf ?_ _ | refine zi ?_ | refine zg ?_ _)); refine blk_put (cs := #[.int .i64 0, .int .i64 0, .int .u64 0, .int .i64 0, .int .i64 0, .slice none 0 0]) ?_ 3 _ rfl; (with_reducible repeat (first | refine zf ?_ _ | refine zi ?_ | refine zg ?_ _)); refine blk_put (cs := #[.int .i64 0, .int .i64 0, .int .u64 0, .int .i64 0, .int .i64 0, .slice none 0 0]) ?_ 2 _ rfl; (with_reducible repeat (first | refine zf ?_ _ | refine zi ?_ | refine zg ?_ _)); refine blk_put (cs := #[.int .i64 0, .int .i64 0, .int .u64 0, .int .i64 0, .int .i64 0, .slice none 0 0]) ?_ 1 _ rfl; (with_reducible repeat (first | refine zf ?_ _ | refine zi ?_ | refine zg ?_ _)); refine blk_put (cs := #[.int .i64 0, .int .i64 0, .int .u64 0, .int .i64 0, .int .i64 0, .slice none 0 0]) ?_ 0 _ rfl; (with_reducible repeat (first | refine zf ?_ _ | refine zi ?_ | refine zg ?_ _)); exact BK157.out) Try.underlying32 rfl (by kernel_rfl)) rfl ?_
    exact ⟨_, by first | rfl | (simp [errW_none, errW_some] <;> rfl) | (simp [*, errW_none, errW_some] <;> rfl), by first | exact Kd.R_nil _ _ _ _ _ | exact Kd.N_nil _ _ _ _ _ | exact Kd.V_nil _ _ _ _ _ | exact Kd.Q_nil _ _ _ _ _ | exact Kd.S_nil _ _ _ _ _, zv7 HB.out⟩
   ·replace c5 := Bool.eq_false_iff.mpr c5
    subst c5
    have H1 : (if 0 < (l0.length : Int) then (spec_AggOf.l0 kj1 l0 0 (l0.length : Int) 0 0 (rd l0 0) (rd l0 0) ([] : List Int)) else (none)) = some (r1, r2, r3, r4, r5, r6) := by rw [if_neg (show ¬ (false = true) by decide)] at H; exact H
    clear H
    have H := H1
    clear H1
    by_cases c7 : 0 < (l0.length : Int)
    ·rw [if_pos c7] at H
     have c7b0 : decide (0 < (l0.length : Int)) = true := decide_eq_true c7
     have c7b1 : decide (0 < l0.length) = true := decide_eq_true (by omega)
     clear c7
     have H' := zp.mk H
     clear H
     try go_wp2
     replace BK157 := zp.mk (zi BK157.out)
     replace HB := zp.mk (zb HB.out)
     have p158 : 0 ≤ (0 : Int) := (by omega)
     have q158 : 0 < (l0.length : Int) := of_decide_eq_true (by first | (with_reducible assumption) | assumption)
     obtain ⟨ad158, e158, hx158_0⟩ := Kd.at_int HR0.out 0 p158 q158
     have hw158_0 := hx158_0
     (try rw [show ((0 : Int)).toNat = 0 from rfl] at hw158_0)
     (try rw [show 0 * 1 = 0 from rfl] at hw158_0)
     (try rw [Addr.add_zero'] at hw158_0)
     cases e158
     have qi158 : (0 < l0.length) = True := eq_true (by omega)
     (try rw [show ((0 : Int)).toNat = 0 from rfl] at hx158_0)
     (try rw [Addr.add_zero'] at hx158_0)
     replace hx158_0 := (HB.out.cell (World.block_lt_of_cell? w _ hx158_0)).trans hx158_0
     replace p158 := eq_true p158
     replace q158 := eq_true q158
     have p159 : 0 ≤ (0 : Int) := (by omega)
     have q159 : 0 < (l0.length : Int) := of_decide_eq_true (by first | (with_reducible assumption) | assumption)
     obtain ⟨ad159, e159, hx159_0⟩ := Kd.at_int HR0.out 0 p159 q159
     have hw159_0 := hx159_0
     (try rw [show ((0 : Int)).toNat = 0 from rfl] at hw159_0)
     (try rw [show 0 * 1 = 0 from rfl] at hw159_0)
     (try rw [Addr.add_zero'] at hw159_0)
     obtain rfl : ad158 = ad159 := (by injection e159)
     have qi159 : (0 < l0.length) = True := eq_true (by omega)
     (try rw [show ((0 : Int)).toNat = 0 from rfl] at hx159_0)
     (try rw [Addr.add_zero'] at hx159_0)
     replace hx159_0 := (HB.out.cell (World.block_lt_of_cell? w _ hx159_0)).trans hx159_0
     replace p159 := eq_true p159
     replace q159 := eq_true q159
     refine start_ (n := 11) (S := fun w' => w'.cell? ad158 = some (.int .i64 (rd l0 0)) ∧ w'.cell? ad158 = some (.int .i64 (rd l0 0))) (ds := []) #[false, false, false, false, false, false, false, false, false, false, false] (by kernel_rfl) rfl rfl ⟨((HB.out.cell (World.block_lt_of_cell? w _ hw158_0)).trans hw158_0), ((HB.out.cell (World.block_lt_of_cell? w _ hw159_0)).trans hw159_0)⟩ (fun hHeld => ?_); refine with_tabW spec_AggOf.tab3 spec_AggOf.bits3 (fun HT_ HW_ => ?_)
     generalize wc.drew = w8 at BK157 HB hx158_0 hx159_0 hHeld ⊢
     refine pure_ (i := 0) (N := some 14) (v := ?_) (a' := ?_) #[true, false, false, false, false, false, false, false, false, false, false] rfl rfl (any_of HT_.out (by kernel_rfl)) (fun _ _ _ h => h) (Or.inl ⟨by rfl, ?_⟩) ?_ ?_
     rotate_left
     ·intro w'
      go_simp
      with_reducible rfl
     rotate_left
     ·simp only [Act.put, zs1, zs2, zs3, i64_w, i32_w]
      rfl
     refine pure_ (i := 1) (N := some 15) (v := ?_) (a' := ?_) #[true, true, false, false, false, false, false, false, false, false, false] rfl rfl (any_of HT_.out (by kernel_rfl)) (fun _ _ _ h => h) (Or.inl ⟨by rfl, ?_⟩) ?_ ?_
     rotate_left
     ·intro w'
      go_simp
      with_reducible rfl
     rotate_left
     ·simp only [Act.put, zs1, zs2, zs3, i64_w, i32_w]
      rfl
     refine pure_ (i := 2) (N := some 16) (v := ?_) (a' := ?_) #[true, true, true, false, false, false, false, false, false, false, false] rfl rfl (any_of HT_.out (by kernel_rfl)) (fun _ _ _ h => h) (Or.inl ⟨by rfl, ?_⟩) ?_ ?_
     rotate_left
     ·intro w'
      go_simp
      with_reducible rfl
     rotate_left
     ·simp only [Act.put, zs1, zs2, zs3, i64_w, i32_w]
      rfl
     refine pure_ (i := 3) (N := some 17) (v := ?_) (a' := ?_) #[true, true, true, true, false, false, false, false, false, false, false] rfl rfl (any_of HT_.out (by kernel_rfl)) (fun _ _ _ h => h) (Or.inl ⟨by rfl, ?_⟩) ?_ ?_
     rotate_left
     ·intro w'
      go_simp
      with_reducible rfl
     rotate_left
     ·simp only [Act.put, zs1, zs2, zs3, i64_w, i32_w]
      rfl
     refine pure_ (i := 5) (N := some 19) (v := ?_) (a' := ?_) #[true, true, true, true, false, true, false, false, false, false, false] rfl rfl (any_of HT_.out (by kernel_rfl)) (fun _ _ _ h => h) (Or.inl ⟨by rfl, ?_⟩) ?_ ?_
     rotate_left
     ·intro w'
      go_simp
      with_reducible rfl
     rotate_left
     ·simp only [Act.put, zs1, zs2, zs3, i64_w, i32_w]
      rfl
     refine pure_ (i := 6) (N := some 20) (v := ?_) (a' := ?_) #[true, true, true, true, false, true, true, false, false, false, false] rfl rfl (any_of HT_.out (by kernel_rfl)) (fun _ _ _ h => h) (Or.inl ⟨by rfl, ?_⟩) ?_ ?_
     rotate_left
     ·intro w'
      go_simp
      with_reducible rfl
     rotate_left
     ·simp only [Act.put, zs1, zs2, zs3, i64_w, i32_w]
      rfl
     refine take_ (i := 4) (N := some 18) (v := ?_) (a' := ?_) #[true, true, true, true, true, true, true, false, false, false, false] rfl rfl (take_ofW HT_.out HW_.out (by kernel_rfl)) (fun _ _ _ h => h) (Or.inl ⟨by rfl, ?_⟩) hHeld ?_ ?_
     rotate_left
     ·rintro w' ⟨s0, s1⟩
      go_simp
      with_reducible rfl
     rotate_left
     ·simp only [Act.put, zs1, zs2, zs3, i64_w, i32_w]
      rfl
     refine take_ (i := 7) (N := some 21) (v := ?_) (a' := ?_) #[true, true, true, true, true, true, true, true, false, false, false] rfl rfl (take_ofW HT_.out HW_.out (by kernel_rfl)) (fun _ _ _ h => h) (Or.inl ⟨by rfl, ?_⟩) hHeld ?_ ?_
     rotate_left
     ·rintro w' ⟨s0, s1⟩
      go_simp
      with_reducible rfl
     rotate_left
     ·simp only [Act.put, zs1, zs2, zs3, i64_w, i32_w]
      rfl
     refine pure_ (i := 8) (N := some 22) (v := ?_) (a' := ?_) #[true, true, true, true, true, true, true, true, true, false, false] rfl rfl (any_of HT_.out (by kernel_rfl)) (fun _ _ _ h => h) (Or.inl ⟨by rfl, ?_⟩) ?_ ?_
     rotate_left
     ·intro w'
      go_simp
      with_reducible rfl
     rotate_left
     ·simp only [Act.put, zs1, zs2, zs3, i64_w, i32_w]
      rfl
     refine one_ (i := 9) (N := some 3) #[true, true, true, true, true, true, true, true, true, true, false] rfl rfl (one_of HT_.out (by kernel_rfl)) (by decide) (fun K hK => ?_)
     refine box_step ?hg (N := 3) ?hd (cs := #[.int .i64 0, .int .i64 0, .int .u64 0, .int .i64 0, .int .i64 0, .slice none 0 0]) (t := 32) ?hr ?_; (case hd => rfl); (case hg => rfl); (case hr => first | (go_simp; done) | (go_simp; rfl))
     intro gb160 hg w9 hbox hb
     have BK160 := zp.mk (hbox)
     have GW160 := zp.mk ((zv3 (zv7 HB.out) hg))
     have GE160 := zp.mk ((zv3 (zv7 HB.out) hg))
     have NB157_160 := zp.mk ((by rw [hg]; exact Nat.ne_of_lt (blk_lt (g := gb157) (o := .cells #[.int .i64 0, .int .i64 0, .int .u64 0, .int .i64 0, .int .i64 0, .slice none 0 0] 32 (0, 0)) (zv8 BK157.out)) : gb157 ≠ gb160))
     have NB160_157 := zp.mk ((by rw [hg]; exact Nat.ne_of_gt (blk_lt (g := gb157) (o := .cells #[.int .i64 0, .int .i64 0, .int .u64 0, .int .i64 0, .int .i64 0, .slice none 0 0] 32 (0, 0)) (zv8 BK157.out)) : gb160 ≠ gb157))
     replace BK157 := zp.mk (zl (zv8 BK157.out) hb)
     replace HB := zp.mk (zj (zv7 HB.out) hb)
     clear hb hbox hg
     refine hK.out _ _ ⟨((HB.out.cell (World.block_lt_of_cell? w _ hw158_0)).trans hw158_0), ((HB.out.cell (World.block_lt_of_cell? w _ hw159_0)).trans hw159_0)⟩ (fun hHeld => ?_)
     clear hK K
     refine norm_ (a' := ?_) ?_ ?_
     rotate_left
     ·show Act.put _ (some 3) _ = _
      simp only [Act.put, zs1, zs2, zs3, i64_w, i32_w]
      rfl
     refine one_ (i := 10) (N := none) #[true, true, true, true, true, true, true, true, true, true, true] rfl rfl (one_of HT_.out (by kernel_rfl)) (by decide) (fun K hK => ?_)
     have hs10 : w9.cell? ⟨gb160, 0, none⟩ = some (.int .i64 0) := (ze BK160.out 0).trans rfl
     have hfs10 := zd BK160.out 0
     have hns10_0 := NB157_160.out
     have hms10_0 := NB160_157.out
     have hs11 : w9.cell? ⟨gb160, 1, none⟩ = some (.int .i64 0) := (ze BK160.out 1).trans rfl
     have hfs11 := zd BK160.out 1
     have hns11_0 := NB157_160.out
     have hms11_0 := NB160_157.out
     have hs12 : w9.cell? ⟨gb160, 2, none⟩ = some (.int .u64 0) := (ze BK160.out 2).trans rfl
     have hfs12 := zd BK160.out 2
     have hns12_0 := NB157_160.out
     have hms12_0 := NB160_157.out
     have hs13 : w9.cell? ⟨gb160, 3, none⟩ = some (.int .i64 0) := (ze BK160.out 3).trans rfl
     have hfs13 := zd BK160.out 3
     have hns13_0 := NB157_160.out
     have hms13_0 := NB160_157.out
     have hs14 : w9.cell? ⟨gb160, 4, none⟩ = some (.int .i64 0) := (ze BK160.out 4).trans rfl
     have hfs14 := zd BK160.out 4
     have hns14_0 := NB157_160.out
     have hms14_0 := NB160_157.out
     have hs15 : w9.cell? ⟨gb160, 5, none⟩ = some (.slice none 0 0) := (ze BK160.out 5).trans rfl
     have hfs15 := zd BK160.out 5
     have hns15_0 := NB157_160.out
     have hms15_0 := NB160_157.out
     refine skip_ (w1 := ?_) (by rfl) rfl ?_ ?_
     rotate_left
     ·go_simp
      rfl
     refine hK.out _ _ ⟨((cell_far (p := ⟨gb160, _, none⟩) (by first | exact Nat.ne_of_lt (Nat.lt_of_lt_of_le (by have := World.block_lt_of_cell? _ _ hw158_0; first | rwa [add_block] at this | exact this) GW160.out) | (rw [add_block]; exact Nat.ne_of_lt (Nat.lt_of_lt_of_le (by have := World.block_lt_of_cell? _ _ hw158_0; first | rwa [add_block] at this | exact this) GW160.out)) | (show (Addr.add _ _).block ≠ _; rw [add_block]; exact Nat.ne_of_lt (Nat.lt_of_lt_of_le (by have := World.block_lt_of_cell? _ _ hw158_0; first | rwa [add_block] at this | exact this) GW160.out)) | (dsimp only; exact Nat.ne_of_lt (Nat.lt_of_lt_of_le (by have := World.block_lt_of_cell? _ _ hw158_0; first | rwa [add_block] at this | exact this) GW160.out))) _).trans (((cell_far (p := ⟨gb160, _, none⟩) (by first | exact Nat.ne_of_lt (Nat.lt_of_lt_of_le (by have := World.block_lt_of_cell? _ _ hw158_0; first | rwa [add_block] at this | exact this) GW160.out) | (rw [add_block]; exact Nat.ne_of_lt (Nat.lt_of_lt_of_le (by have := World.block_lt_of_cell? _ _ hw158_0; first | rwa [add_block] at this | exact this) GW160.out)) | (show (Addr.add _ _).block ≠ _; rw [add_block]; exact Nat.ne_of_lt (Nat.lt_of_lt_of_le (by have := World.block_lt_of_cell? _ _ hw158_0; first | rwa [add_block] at this | exact this) GW160.out)) | (dsimp only; exact Nat.ne_of_lt (Nat.lt_of_lt_of_le (by have := World.block_lt_of_cell? _ _ hw158_0; first | rwa [add_block] at this | exact this) GW160.out))) _).trans (((cell_far (p := ⟨gb160, _, none⟩) (by first | exact Nat.ne_of_lt (Nat.lt_of_lt_of_le (by have := World.block_lt_of_cell? _ _ hw158_0; first | rwa [add_block] at this | exact this) GW160.out) | (rw [add_block]; exact Nat.ne_of_lt (Nat.lt_of_lt_of_le (by have := World.block_lt_of_cell? _ _ hw158_0; first | rwa [add_block] at this | exact this) GW160.out)) | (show (Addr.add _ _).block ≠ _; rw [add_block]; exact Nat.ne_of_lt (Nat.lt_of_lt_of_le (by have := World.block_lt_of_cell? _ _ hw158_0; first | rwa [add_block] at this | exact this) GW160.out)) | (dsimp only; exact Nat.ne_of_lt (Nat.lt_of_lt_of_le (by have := World.block_lt_of_cell? _ _ hw158_0; first | rwa [add_block] at this | exact this) GW160.out))) _).trans (((cell_far (p := ⟨gb160, _, none⟩) (by first | exact Nat.ne_of_lt (Nat.lt_of_lt_of_le (by have := World.block_lt_of_cell? _ _ hw158_0; first | rwa [add_block] at this | exact this) GW160.out) | (rw [add_block]; exact Nat.ne_of_lt (Nat.lt_of_lt_of_le (by have := World.block_lt_of_cell? _ _ hw158_0; first | rwa [add_block] at this | exact this) GW160.out)) | (show (Addr.add _ _).block ≠ _; rw [add_block]; exact Nat.ne_of_lt (Nat.lt_of_lt_of_le (by have := World.block_lt_of_cell? _ _ hw158_0; first | rwa [add_block] at this | exact this) GW160.out)) | (dsimp only; exact Nat.ne_of_lt (Nat.lt_of_lt_of_le (by have := World.block_lt_of_cell? _ _ hw158_0; first | rwa [add_block] at this | exact this) GW160.out))) _).trans (((cell_far (p := ⟨gb160, _, none⟩) (by first | exact Nat.ne_of_lt (Nat.lt_of_lt_of_le (by have := World.block_lt_of_cell? _ _ hw158_0; first | rwa [add_block] at this | exact this) GW160.out) | (rw [add_block]; exact Nat.ne_of_lt (Nat.lt_of_lt_of_le (by have := World.block_lt_of_cell? _ _ hw158_0; first | rwa [add_block] at this | exact this) GW160.out)) | (show (Addr.add _ _).block ≠ _; rw [add_block]; exact Nat.ne_of_lt (Nat.lt_of_lt_of_le (by have := World.block_lt_of_cell? _ _ hw158_0; first | rwa [add_block] at this | exact this) GW160.out)) | (dsimp only; exact Nat.ne_of_lt (Nat.lt_of_lt_of_le (by have := World.block_lt_of_cell? _ _ hw158_0; first | rwa [add_block] at this | exact this) GW160.out))) _).trans (((cell_far (p := ⟨gb160, _, none⟩) (by first | exact Nat.ne_of_lt (Nat.lt_of_lt_of_le (by have := World.block_lt_of_cell? _ _ hw158_0; first | rwa [add_block] at this | exact this) GW160.out) | (rw [add_block]; exact Nat.ne_of_lt (Nat.lt_of_lt_of_le (by have := World.block_lt_of_cell? _ _ hw158_0; first | rwa [add_block] at this | exact this) GW160.out)) | (show (Addr.add _ _).block ≠ _; rw [add_block]; exact Nat.ne_of_lt (Nat.lt_of_lt_of_le (by have := World.block_lt_of_cell? _ _ hw158_0; first | rwa [add_block] at this | exact this) GW160.out)) | (dsimp only; exact Nat.ne_of_lt (Nat.lt_of_lt_of_le (by have := World.block_lt_of_cell? _ _ hw158_0; first | rwa [add_block] at this | exact this) GW160.out))) _).trans (hHeld.1)))))))))))), ((cell_far (p := ⟨gb160, _, none⟩) (by first | exact Nat.ne_of_lt (Nat.lt_of_lt_of_le (by have := World.block_lt_of_cell? _ _ hw159_0; first | rwa [add_block] at this | exact this) GW160.out) | (rw [add_block]; exact Nat.ne_of_lt (Nat.lt_of_lt_of_le (by have := World.block_lt_of_cell? _ _ hw159_0; first | rwa [add_block] at this | exact this) GW160.out)) | (show (Addr.add _ _).block ≠ _; rw [add_block]; exact Nat.ne_of_lt (Nat.lt_of_lt_of_le (by have := World.block_lt_of_cell? _ _ hw159_0; first | rwa [add_block] at this | exact this) GW160.out)) | (dsimp only; exact Nat.ne_of_lt (Nat.lt_of_lt_of_le (by have := World.block_lt_of_cell? _ _ hw159_0; first | rwa [add_block] at this | exact this) GW160.out))) _).trans (((cell_far (p := ⟨gb160, _, none⟩) (by first | exact Nat.ne_of_lt (Nat.lt_of_lt_of_le (by have := World.block_lt_of_cell? _ _ hw159_0; first | rwa [add_block] at this | exact this) GW160.out) | (rw [add_block]; exact Nat.ne_of_lt (Nat.lt_of_lt_of_le (by have := World.block_lt_of_cell? _ _ hw159_0; first | rwa [add_block] at this | exact this) GW160.out)) | (show (Addr.add _ _).block ≠ _; rw [add_block]; exact Nat.ne_of_lt (Nat.lt_of_lt_of_le (by have := World.block_lt_of_cell? _ _ hw159_0; first | rwa [add_block] at this | exact this) GW160.out)) | (dsimp only; exact Nat.ne_of_lt (Nat.lt_of_lt_of_le (by have := World.block_lt_of_cell? _ _ hw159_0; first | rwa [add_block] at this | exact this) GW160.out))) _).trans (((cell_far (p := ⟨gb160, _, none⟩) (by first | exact Nat.ne_of_lt (Nat.lt_of_lt_of_le (by have := World.block_lt_of_cell? _ _ hw159_0; first | rwa [add_block] at this | exact this) GW160.out) | (rw [add_block]; exact Nat.ne_of_lt (Nat.lt_of_lt_of_le (by have := World.block_lt_of_cell? _ _ hw159_0; first | rwa [add_block] at this | exact this) GW160.out)) | (show (Addr.add _ _).block ≠ _; rw [add_block]; exact Nat.ne_of_lt (Nat.lt_of_lt_of_le (by have := World.block_lt_of_cell? _ _ hw159_0; first | rwa [add_block] at this | exact this) GW160.out)) | (dsimp only; exact Nat.ne_of_lt (Nat.lt_of_lt_of_le (by have := World.block_lt_of_cell? _ _ hw159_0; first | rwa [add_block] at this | exact this) GW160.out))) _).trans (((cell_far (p := ⟨gb160, _, none⟩) (by first | exact Nat.ne_of_lt (Nat.lt_of_lt_of_le (by have := World.block_lt_of_cell? _ _ hw159_0; first | rwa [add_block] at this | exact this) GW160.out) | (rw [add_block]; exact Nat.ne_of_lt (Nat.lt_of_lt_of_le (by have := World.block_lt_of_cell? _ _ hw159_0; first | rwa [add_block] at this | exact this) GW160.out)) | (show (Addr.add _ _).block ≠ _; rw [add_block]; exact Nat.ne_of_lt (Nat.lt_of_lt_of_le (by have := World.block_lt_of_cell? _ _ hw159_0; first | rwa [add_block] at this | exact this) GW160.out)) | (dsimp only; exact Nat.ne_of_lt (Nat.lt_of_lt_of_le (by have := World.block_lt_of_cell? _ _ hw159_0; first | rwa [add_block] at this | exact this) GW160.out))) _).trans (((cell_far (p := ⟨gb160, _, none⟩) (by first | exact Nat.ne_of_lt (Nat.lt_of_lt_of_le (by have := World.block_lt_of_cell? _ _ hw159_0; first | rwa [add_block] at this | exact this) GW160.out) | (rw [add_block]; exact Nat.ne_of_lt (Nat.lt_of_lt_of_le (by have := World.block_lt_of_cell? _ _ hw159_0; first | rwa [add_block] at this | exact this) GW160.out)) | (show (Addr.add _ _).block ≠ _; rw [add_block]; exact Nat.ne_of_lt (Nat.lt_of_lt_of_le (by have := World.block_lt_of_cell? _ _ hw159_0; first | rwa [add_block] at this | exact this) GW160.out)) | (dsimp only; exact Nat.ne_of_lt (Nat.lt_of_lt_of_le (by have := World.block_lt_of_cell? _ _ hw159_0; first | rwa [add_block] at this | exact this) GW160.out))) _).trans (((cell_far (p := ⟨gb160, _, none⟩) (by first | exact Nat.ne_of_lt (Nat.lt_of_lt_of_le (by have := World.block_lt_of_cell? _ _ hw159_0; first | rwa [add_block] at this | exact this) GW160.out) | (rw [add_block]; exact Nat.ne_of_lt (Nat.lt_of_lt_of_le (by have := World.block_lt_of_cell? _ _ hw159_0; first | rwa [add_block] at this | exact this) GW160.out)) | (show (Addr.add _ _).block ≠ _; rw [add_block]; exact Nat.ne_of_lt (Nat.lt_of_lt_of_le (by have := World.block_lt_of_cell? _ _ hw159_0; first | rwa [add_block] at this | exact this) GW160.out)) | (dsimp only; exact Nat.ne_of_lt (Nat.lt_of_lt_of_le (by have := World.block_lt_of_cell? _ _ hw159_0; first | rwa [add_block] at this | exact this) GW160.out))) _).trans (hHeld.2))))))))))))⟩ (fun hHeld => ?_)
     clear hK K
     refine done_ (done_of HT_.out (by kernel_rfl)) ?_
     try go_wp2
     go_loopg [4] kj1 (fun kq v4 w' => ∃ (x4_2 : Int) (x161001_2 : Int) (x161002_2 : Int) (x161003_2 : Int) (x161004_2 : Int) (x161005_2 : List Int) (u161005 : Value), v4 = .int .i64 x4_2 ∧ zp (spec_AggOf.l0 kq l0 x4_2 (l0.length : Int) x161001_2 x161002_2 x161003_2 x161004_2 x161005_2 = some (r1, r2, r3, r4, r5, r6)) ∧ zp (kq ≤ kj1) ∧ zp (Kd.R (Kd.int .i64) 3 w' w.heap.size (fun _ => True) u161005 x161005_2) ∧ zp (w'.heap[gb157]? = some (.cells #[.int .i64 0, .int .i64 0, .int .u64 0, .int .i64 0, .int .i64 0, (.slice none 0 0)] 32 (0, 0))) ∧ zp (w'.heap[gb160]? = some (.cells #[.int .i64 (l0.length : Int), .int .i64 x161001_2, .int .u64 x161002_2, .int .i64 x161003_2, .int .i64 x161004_2, u161005] 32 (0, 0))) ∧ zp (Below w.heap.size w w'))
     case atStart => exact ⟨(0), (0), (0), (rd l0 0), (rd l0 0), (([] : List Int)), (.slice none 0 0), (by first | rfl | (simp; done) | (simp [*]; done)), H', ⟨Nat.le_refl _⟩, ⟨by first | exact Kd.R_nil _ _ _ _ _ | exact Kd.N_nil _ _ _ _ _ | exact Kd.V_nil _ _ _ _ _ | exact Kd.Q_nil _ _ _ _ _ | exact Kd.S_nil _ _ _ _ _⟩, ⟨by (with_reducible repeat (first | refine zf ?_ _ | refine zi ?_ | refine zg ?_ _)); refine blk_far ?_ NB157_160.out _; (with_reducible repeat (first | refine zf ?_ _ | refine zi ?_ | refine zg ?_ _)); refine blk_far ?_ NB157_160.out _; (with_reducible repeat (first | refine zf ?_ _ | refine zi ?_ | refine zg ?_ _)); refine blk_far ?_ NB157_160.out _; (with_reducible repeat (first | refine zf ?_ _ | refine zi ?_ | refine zg ?_ _)); refine blk_far ?_ NB157_160.out _; (with_reducible repeat (first | refine zf ?_ _ | refine zi ?_ | refine zg ?_ _)); refine blk_far ?_ NB157_160.out _; (with_reducible repeat (first | refine zf ?_ _ | refine zi ?_ | refine zg ?_ _)); refine blk_far ?_ NB157_160.out _; (with_reducible repeat (first | refine zf ?_ _ | refine zi ?_ | refine zg ?_ _)); exact BK157.out⟩, ⟨by (with_reducible repeat (first | refine zf ?_ _ | refine zi ?_ | refine zg ?_ _)); refine blk_put (cs := #[.int .i64 (l0.length : Int), .int .i64 0, .int .u64 0, .int .i64 (rd l0 0), .int .i64 (rd l0 0), .slice none 0 0]) ?_ 5 _ rfl; (with_reducible repeat (first | refine zf ?_ _ | refine zi ?_ | refine zg ?_ _)); refine blk_put (cs := #[.int .i64 (l0.length : Int), .int .i64 0, .int .u64 0, .int .i64 (rd l0 0), .int .i64 0, .slice none 0 0]) ?_ 4 _ rfl; (with_reducible repeat (first | refine zf ?_ _ | refine zi ?_ | refine zg ?_ _)); refine blk_put (cs := #[.int .i64 (l0.length : Int), .int .i64 0, .int .u64 0, .int .i64 0, .int .i64 0, .slice none 0 0]) ?_ 3 _ rfl; (with_reducible repeat (first | refine zf ?_ _ | refine zi ?_ | refine zg ?_ _)); refine blk_put (cs := #[.int .i64 (l0.length : Int), .int .i64 0, .int .u64 0, .int .i64 0, .int .i64 0, .slice none 0 0]) ?_ 2 _ rfl; (with_reducible repeat (first | refine zf ?_ _ | refine zi ?_ | refine zg ?_ _)); refine blk_put (cs := #[.int .i64 (l0.length : Int), .int .i64 0, .int .u64 0, .int .i64 0, .int .i64 0, .slice none 0 0]) ?_ 1 _ rfl; (with_reducible repeat (first | refine zf ?_ _ | refine zi ?_ | refine zg ?_ _)); refine blk_put (cs := #[.int .i64 0, .int .i64 0, .int .u64 0, .int .i64 0, .int .i64 0, .slice none 0 0]) ?_ 0 _ rfl; (with_reducible repeat (first | refine zf ?_ _ | refine zi ?_ | refine zg ?_ _)); exact BK160.out⟩, ⟨zv7 HB.out⟩⟩
     case round =>
      clear H'
      try clear p1
      try clear q1
      try clear hx1
      try clear qi1
      try clear c2
      try clear p2
      try clear c4
      try clear c4b0
      try clear c4b1
      try clear c4b2
      try clear c5
      try clear c7
      try clear c7b0
      try clear c7b1
      try clear p15
      try clear q15
      try clear hx15
      try clear qi15
      try clear y6_0
      try clear y6_1
      try clear y6_2
      try clear y6_3
      try clear y6_4
      try clear y6_5
      try clear u6_0
      try clear u6_1
      try clear u6_2
      try clear u6_3
      try clear u6_4
      try clear u6_5
      try clear hx158_0
      try clear hx159_0
      try clear p158
      try clear p159
      try clear p2
      try clear q158
      try clear q159
      obtain ⟨x4_2, x161001_2, x161002_2, x161003_2, x161004_2, x161005_2, u161005, rfl, HA, HK2, HO_161005, BK157, BK160, HB⟩ := hrel
      cases gk with
      | zero => exact absurd HA.out (by simp [spec_AggOf.l0])
      | succ k2 =>
       have H := HA.out
       clear HA
       simp only [spec_AggOf.l0] at H
       by_cases c16 : x4_2 < (l0.length : Int)
       ·rw [if_pos c16] at H
        have c16b0 : decide (x4_2 < (l0.length : Int)) = true := decide_eq_true c16
        clear c16
        by_cases c17 : 0 ≤ x4_2
        ·rw [if_pos c17] at H
         have c17b0 : decide (0 ≤ x4_2) = true := decide_eq_true c17
         clear c17
         replace H := zs4 H
         obtain ⟨⟨t162, t163⟩, A180, H⟩ := H
         replace H : ((spec_WideAdd.f x161001_2 x161002_2 t162 t163).bind fun bt164 => (if x4_2 ≤ (wrap64 (x4_2 + 1)) then (if (wrap64 (x4_2 + 1)) ≤ (l0.length : Int) then ((spec_TopOf.f k2 x161005_2 ((l0.take ((wrap64 (x4_2 + 1)) : Int).toNat).drop (x4_2 : Int).toNat)).bind fun t169 => (spec_AggOf.l0 k2 l0 (wrap64 (x4_2 + 1)) (l0.length : Int) bt164.1 bt164.2 (mn x161003_2 (rd l0 x4_2)) (mx x161004_2 (rd l0 x4_2)) t169)) else (none)) else (none))) = some (r1, r2, r3, r4, r5, r6) := H
         have A18 := zp.mk A180
         clear A180
         replace H := zs4 H
         obtain ⟨⟨t164, t165⟩, A190, H⟩ := H
         replace H : (if x4_2 ≤ (wrap64 (x4_2 + 1)) then (if (wrap64 (x4_2 + 1)) ≤ (l0.length : Int) then ((spec_TopOf.f k2 x161005_2 ((l0.take ((wrap64 (x4_2 + 1)) : Int).toNat).drop (x4_2 : Int).toNat)).bind fun t169 => (spec_AggOf.l0 k2 l0 (wrap64 (x4_2 + 1)) (l0.length : Int) t164 t165 (mn x161003_2 (rd l0 x4_2)) (mx x161004_2 (rd l0 x4_2)) t169)) else (none)) else (none)) = some (r1, r2, r3, r4, r5, r6) := H
         have A19 := zp.mk A190
         clear A190
         obtain ⟨ji20, hji20⟩ : ∃ j_ : Int, (mn x161003_2 (rd l0 x4_2)) = j_ := ⟨_, rfl⟩
         replace H : (if x4_2 ≤ (wrap64 (x4_2 + 1)) then (if (wrap64 (x4_2 + 1)) ≤ (l0.length : Int) then ((spec_TopOf.f k2 x161005_2 ((l0.take ((wrap64 (x4_2 + 1)) : Int).toNat).drop (x4_2 : Int).toNat)).bind fun t169 => (spec_AggOf.l0 k2 l0 (wrap64 (x4_2 + 1)) (l0.length : Int) t164 t165 ji20 (mx x161004_2 (rd l0 x4_2)) t169)) else (none)) else (none)) = some (r1, r2, r3, r4, r5, r6) := by first | (rw [hji20] at H; exact H) | (simp only [hji20] at H ⊢; exact H)
         (try rw [hji20] at A18)
         (try rw [hji20] at A19)
         have hji20_ : (if (rd l0 x4_2) < x161003_2 then (rd l0 x4_2) else x161003_2) = ji20 := hji20
         obtain ⟨ji21, hji21⟩ : ∃ j_ : Int, (mx x161004_2 (rd l0 x4_2)) = j_ := ⟨_, rfl⟩
         replace H : (if x4_2 ≤ (wrap64 (x4_2 + 1)) then (if (wrap64 (x4_2 + 1)) ≤ (l0.length : Int) then ((spec_TopOf.f k2 x161005_2 ((l0.take ((wrap64 (x4_2 + 1)) : Int).toNat).drop (x4_2 : Int).toNat)).bind fun t169 => (spec_AggOf.l0 k2 l0 (wrap64 (x4_2 + 1)) (l0.length : Int) t164 t165 ji20 ji21 t169)) else (none)) else (none)) = some (r1, r2, r3, r4, r5, r6) := by first | (rw [hji21] at H; exact H) | (simp only [hji21] at H ⊢; exact H)
         (try rw [hji21] at A18)
         (try rw [hji21] at A19)
         have hji21_ : (if x161004_2 < (rd l0 x4_2) then (rd l0 x4_2) else x161004_2) = ji21 := hji21
         have c22b0 := eq_true (of_decide_eq_true (by first | (with_reducible assumption) | assumption) : 0 ≤ x4_2)
         by_cases c23 : x4_2 ≤ (wrap64 (x4_2 + 1))
         ·rw [if_pos c23] at H
          have c23b0 := eq_true c23
          have c23b1 : decide (x4_2 ≤ (wrap64 (x4_2 + 1))) = true := decide_eq_true c23
          by_cases c24 : (wrap64 (x4_2 + 1)) ≤ (l0.length : Int)
          ·rw [if_pos c24] at H
           have c24b0 := eq_true c24
           have c24b1 : decide ((wrap64 (x4_2 + 1)) ≤ (l0.length : Int)) = true := decide_eq_true c24
           replace H := zs4 H
           obtain ⟨t169, A250, H⟩ := H
           replace H : (spec_AggOf.l0 k2 l0 (wrap64 (x4_2 + 1)) (l0.length : Int) t164 t165 ji20 ji21 t169) = some (r1, r2, r3, r4, r5, r6) := H
           have A25 := zp.mk A250
           clear A250
           have H' := zp.mk H
           clear H
           try go_wp2
           replace HO_161005 := zp.mk (Kd.R_drew HO_161005.out)
           replace BK157 := zp.mk (zi BK157.out)
           replace BK160 := zp.mk (zi BK160.out)
           replace HB := zp.mk (zb HB.out)
           have p161 : 0 ≤ (x4_2 : Int) := of_decide_eq_true (by first | (with_reducible assumption) | assumption)
           have q161 : x4_2 < (l0.length : Int) := of_decide_eq_true (by first | (with_reducible assumption) | assumption)
           obtain ⟨ad161, e161, hx161_0⟩ := Kd.at_int HR0.out x4_2 p161 q161
           have hw161_0 := hx161_0
           obtain rfl : ad158 = ad161 := (by injection e161)
           replace hx161_0 := (HB.out.cell (World.block_lt_of_cell? w _ hx161_0)).trans hx161_0
           replace p161 := eq_true p161
           replace q161 := eq_true q161
           refine start_ (n := 10) (S := fun w' => w'.cell? ⟨gb160, 0, none⟩ = some (.int .i64 (l0.length : Int)) ∧ w'.cell? ⟨gb160, 1, none⟩ = some (.int .i64 x161001_2) ∧ w'.cell? ⟨gb160, 2, none⟩ = some (.int .u64 x161002_2) ∧ w'.cell? ⟨gb160, 3, none⟩ = some (.int .i64 x161003_2) ∧ w'.cell? ⟨gb160, 4, none⟩ = some (.int .i64 x161004_2) ∧ w'.cell? ⟨gb160, 5, none⟩ = some (u161005) ∧ w'.cell? (ad158.add (x4_2).toNat) = some (.int .i64 (rd l0 x4_2))) (ds := [9]) #[false, false, false, false, false, false, false, false, false, false] (by kernel_rfl) rfl rfl ⟨(ze BK160.out 0).trans rfl, (ze BK160.out 1).trans rfl, (ze BK160.out 2).trans rfl, (ze BK160.out 3).trans rfl, (ze BK160.out 4).trans rfl, (ze BK160.out 5).trans rfl, ((HB.out.cell (World.block_lt_of_cell? w _ hw161_0)).trans hw161_0)⟩ (fun hHeld => ?_); refine with_tabW spec_AggOf.tab7 spec_AggOf.bits7 (fun HT_ HW_ => ?_)
           generalize wr.drew = w26 at HO_161005 BK157 BK160 HB hx161_0 hHeld ⊢
           refine pure_ (i := 0) (N := some 29) (v := ?_) (a' := ?_) #[true, false, false, false, false, false, false, false, false, false] rfl rfl (any_of HT_.out (by kernel_rfl)) (fun _ _ _ h => h) (Or.inl ⟨by rfl, ?_⟩) ?_ ?_
           rotate_left
           ·intro w'
            go_simp
            with_reducible rfl
           rotate_left
           ·simp only [Act.put, zs1, zs2, zs3, i64_w, i32_w]
            rfl
           refine pure_ (i := 2) (N := some 31) (v := ?_) (a' := ?_) #[true, false, true, false, false, false, false, false, false, false] rfl rfl (any_of HT_.out (by kernel_rfl)) (fun _ _ _ h => h) (Or.inl ⟨by rfl, ?_⟩) ?_ ?_
           rotate_left
           ·intro w'
            go_simp
            with_reducible rfl
           rotate_left
           ·simp only [Act.put, zs1, zs2, zs3, i64_w, i32_w]
            rfl
           refine pure_ (i := 3) (N := some 32) (v := ?_) (a' := ?_) #[true, false, true, true, false, false, false, false, false, false] rfl rfl (any_of HT_.out (by kernel_rfl)) (fun _ _ _ h => h) (Or.inl ⟨by rfl, ?_⟩) ?_ ?_
           rotate_left
           ·intro w'
            go_simp
            with_reducible rfl
           rotate_left
           ·simp only [Act.put, zs1, zs2, zs3, i64_w, i32_w]
            rfl
           refine pure_ (i := 4) (N := some 33) (v := ?_) (a' := ?_) #[true, false, true, true, true, false, false, false, false, false] rfl rfl (any_of HT_.out (by kernel_rfl)) (fun _ _ _ h => h) (Or.inl ⟨by rfl, ?_⟩) ?_ ?_
           rotate_left
           ·intro w'
            go_simp
            with_reducible rfl
           rotate_left
           ·simp only [Act.put, zs1, zs2, zs3, i64_w, i32_w]
            rfl
           refine take_ (i := 1) (N := some 30) (v := ?_) (a' := ?_) #[true, true, true, true, true, false, false, false, false, false] rfl rfl (take_ofW HT_.out HW_.out (by kernel_rfl)) (fun _ _ _ h => h) (Or.inl ⟨by rfl, ?_⟩) hHeld ?_ ?_
           rotate_left
           ·rintro w' ⟨s0, s1, s2, s3, s4, s5, s6⟩
            go_simp
            with_reducible rfl
           rotate_left
           ·simp only [Act.put, zs1, zs2, zs3, i64_w, i32_w]
            rfl
           refine take_ (i := 5) (N := some 34) (v := ?_) (a' := ?_) #[true, true, true, true, true, true, false, false, false, false] rfl rfl (take_ofW HT_.out HW_.out (by kernel_rfl)) (fun _ _ _ h => h) (Or.inl ⟨by rfl, ?_⟩) hHeld ?_ ?_
           rotate_left
           ·rintro w' ⟨s0, s1, s2, s3, s4, s5, s6⟩
            go_simp
            with_reducible rfl
           rotate_left
           ·simp only [Act.put, zs1, zs2, zs3, i64_w, i32_w]
            rfl
           refine one_ (i := 6) (N := some 35) #[true, true, true, true, true, true, true, false, false, false] rfl rfl (one_of HT_.out (by kernel_rfl)) (by decide) (fun K hK => ?_)
           refine goes_ Try.func30 (by kernel_rfl) rfl #[.int .i64 (rd l0 x4_2)] (by rfl) rfl rfl (by (try simp only [List.map_toArray, List.map_cons, List.map_nil]); first | done | rfl | (simp only [List.length_drop, List.length_take]; rfl)) ?_
           with_reducible refine (spec_WideOf.calls (rd l0 x4_2) t162 t163 _ A18.out).mono ?_
           rintro e w27 ⟨rfl, hb⟩
           refine ⟨_, rfl, ?_⟩
           replace HO_161005 := zp.mk (Kd.R_below (by (with_reducible repeat (first | apply Kd.R_alloc | apply Kd.R_drewN | apply Kd.R_drew)); exact HO_161005.out) hb)
           replace BK157 := zp.mk (zl (zv8 BK157.out) hb)
           replace BK160 := zp.mk (zl (zv8 BK160.out) hb)
           replace HB := zp.mk (zj (zv7 HB.out) hb)
           (try clear hb)
           (try clear hb2)
           (try clear hk)
           (try clear hi)
           refine hK.out _ _ ⟨(ze BK160.out 0).trans rfl, (ze BK160.out 1).trans rfl, (ze BK160.out 2).trans rfl, (ze BK160.out 3).trans rfl, (ze BK160.out 4).trans rfl, (ze BK160.out 5).trans rfl, ((HB.out.cell (World.block_lt_of_cell? w _ hw161_0)).trans hw161_0)⟩ (fun hHeld => ?_)
           clear hK K
           refine norm_ (a' := ?_) ?_ ?_
           rotate_left
           ·show Act.put _ (some 35) _ = _
            simp only [Act.put, zs1, zs2, zs3, i64_w, i32_w]
            rfl
           refine one_ (i := 7) (N := some 36) #[true, true, true, true, true, true, true, true, false, false] rfl rfl (one_of HT_.out (by kernel_rfl)) (by decide) (fun K hK => ?_)
           refine goes_ Try.func29 (by kernel_rfl) rfl #[.agg #[.int .i64 x161001_2, .int .u64 x161002_2], .agg #[.int .i64 t162, .int .u64 t163]] (by rfl) rfl rfl (by (try simp only [List.map_toArray, List.map_cons, List.map_nil]); first | done | rfl | (simp only [List.length_drop, List.length_take]; rfl)) ?_
           with_reducible refine (spec_WideAdd.calls x161001_2 x161002_2 t162 t163 t164 t165 _ A19.out).mono ?_
           rintro e w28 ⟨rfl, hb⟩
           refine ⟨_, rfl, ?_⟩
           replace HO_161005 := zp.mk (Kd.R_below (by (with_reducible repeat (first | apply Kd.R_alloc | apply Kd.R_drewN | apply Kd.R_drew)); exact HO_161005.out) hb)
           replace BK157 := zp.mk (zl (zv8 BK157.out) hb)
           replace BK160 := zp.mk (zl (zv8 BK160.out) hb)
           replace HB := zp.mk (zj (zv7 HB.out) hb)
           (try clear hb)
           (try clear hb2)
           (try clear hk)
           (try clear hi)
           refine hK.out _ _ ⟨(ze BK160.out 0).trans rfl, (ze BK160.out 1).trans rfl, (ze BK160.out 2).trans rfl, (ze BK160.out 3).trans rfl, (ze BK160.out 4).trans rfl, (ze BK160.out 5).trans rfl, ((HB.out.cell (World.block_lt_of_cell? w _ hw161_0)).trans hw161_0)⟩ (fun hHeld => ?_)
           clear hK K
           refine norm_ (a' := ?_) ?_ ?_
           rotate_left
           ·show Act.put _ (some 36) _ = _
            simp only [Act.put, zs1, zs2, zs3, i64_w, i32_w]
            rfl
           refine pure_ (i := 8) (N := some 37) (v := ?_) (a' := ?_) #[true, true, true, true, true, true, true, true, true, false] rfl rfl (any_of HT_.out (by kernel_rfl)) (fun _ _ _ h => h) (Or.inl ⟨by rfl, ?_⟩) ?_ ?_
           rotate_left
           ·intro w'
            go_simp
            with_reducible rfl
           rotate_left
           ·simp only [Act.put, zs1, zs2, zs3, i64_w, i32_w]
            rfl
           refine last_ (i := 9) (N := none) #[true, true, true, true, true, true, true, true, true, true] rfl rfl (one_of HT_.out (by kernel_rfl)) (by decide) (fun K hK => ?_)
           have hs29 : w28.cell? ⟨gb160, 1, none⟩ = some (.int .i64 x161001_2) := (ze BK160.out 1).trans rfl
           have hfs29 := zd BK160.out 1
           have hns29_0 := NB157_160.out
           have hms29_0 := NB160_157.out
           have hs30 : w28.cell? ⟨gb160, 2, none⟩ = some (.int .u64 x161002_2) := (ze BK160.out 2).trans rfl
           have hfs30 := zd BK160.out 2
           have hns30_0 := NB157_160.out
           have hms30_0 := NB160_157.out
           refine skip_ (w1 := ?_) (by rfl) rfl ?_ ?_
           rotate_left
           ·go_simp
            rfl
           refine hK.out _ _ ?_
           clear hK K
           refine done_ (done_of HT_.out (by kernel_rfl)) ?_
           try go_wp2
           have n0_ : zp (Kd.R (Kd.int .i64) 3 ((w28.setCell ⟨gb160, 1, none⟩ (.int .i64 t164)).setCell ⟨gb160, 2, none⟩ (.int .u64 t165)) w.heap.size (fun _ => True) u161005 x161005_2) := ⟨by (with_reducible repeat (first | apply Kd.R_alloc | apply Kd.R_drewN | apply Kd.R_drew)); exact Kd.R_mono (Kd.R_far (p := ⟨gb160, 2, none⟩) (Kd.R_far (p := ⟨gb160, 1, none⟩) (Kd.R_types HO_161005.out BK160.out (by decide)) (fun _ hk => hk.2) (.int .i64 t164)) (fun _ hk => hk.2) (.int .u64 t165)) (fun _ hk => trivial)⟩
           have n1_ : zp (((w28.setCell ⟨gb160, 1, none⟩ (.int .i64 t164)).setCell ⟨gb160, 2, none⟩ (.int .u64 t165)).heap[gb157]? = some (.cells #[.int .i64 0, .int .i64 0, .int .u64 0, .int .i64 0, .int .i64 0, .slice none 0 0] 32 (0, 0))) := ⟨by (with_reducible repeat (first | refine zf ?_ _ | refine zi ?_ | refine zg ?_ _)); refine blk_far ?_ NB157_160.out _; (with_reducible repeat (first | refine zf ?_ _ | refine zi ?_ | refine zg ?_ _)); refine blk_far ?_ NB157_160.out _; (with_reducible repeat (first | refine zf ?_ _ | refine zi ?_ | refine zg ?_ _)); exact BK157.out⟩
           have n2_ : zp (((w28.setCell ⟨gb160, 1, none⟩ (.int .i64 t164)).setCell ⟨gb160, 2, none⟩ (.int .u64 t165)).heap[gb160]? = some (.cells #[.int .i64 (l0.length : Int), .int .i64 t164, .int .u64 t165, .int .i64 x161003_2, .int .i64 x161004_2, u161005] 32 (0, 0))) := ⟨by (with_reducible repeat (first | refine zf ?_ _ | refine zi ?_ | refine zg ?_ _)); refine blk_put (cs := #[.int .i64 (l0.length : Int), .int .i64 t164, .int .u64 x161002_2, .int .i64 x161003_2, .int .i64 x161004_2, u161005]) ?_ 2 _ rfl; (with_reducible repeat (first | refine zf ?_ _ | refine zi ?_ | refine zg ?_ _)); refine blk_put (cs := #[.int .i64 (l0.length : Int), .int .i64 x161001_2, .int .u64 x161002_2, .int .i64 x161003_2, .int .i64 x161004_2, u161005]) ?_ 1 _ rfl; (with_reducible repeat (first | refine zf ?_ _ | refine zi ?_ | refine zg ?_ _)); exact BK160.out⟩
           have n3_ : zp (Below w.heap.size w ((w28.setCell ⟨gb160, 1, none⟩ (.int .i64 t164)).setCell ⟨gb160, 2, none⟩ (.int .u64 t165))) := ⟨zv7 HB.out⟩
           (try clear HO_161005)
           (try clear BK157)
           (try clear BK160)
           (try clear HB)
           generalize ((w28.setCell ⟨gb160, 1, none⟩ (.int .i64 t164)).setCell ⟨gb160, 2, none⟩ (.int .u64 t165)) = w31 at n0_ n1_ n2_ n3_ ⊢
           have HO_161005 := n0_
           have BK157 := n1_
           have BK160 := n2_
           have HB := n3_
           clear n0_ n1_ n2_ n3_
           replace HO_161005 := zp.mk (Kd.R_drew HO_161005.out)
           replace BK157 := zp.mk (zi BK157.out)
           replace BK160 := zp.mk (zi BK160.out)
           replace HB := zp.mk (zb HB.out)
           have p166 : 0 ≤ (x4_2 : Int) := of_decide_eq_true (by first | (with_reducible assumption) | assumption)
           have q166 : x4_2 < (l0.length : Int) := of_decide_eq_true (by first | (with_reducible assumption) | assumption)
           obtain ⟨ad166, e166, hx166_0⟩ := Kd.at_int HR0.out x4_2 p166 q166
           have hw166_0 := hx166_0
           obtain rfl : ad158 = ad166 := (by injection e166)
           replace hx166_0 := (HB.out.cell (World.block_lt_of_cell? w _ hx166_0)).trans hx166_0
           replace p166 := eq_true p166
           replace q166 := eq_true q166
           refine start_ (n := 9) (S := fun w' => w'.cell? ⟨gb160, 0, none⟩ = some (.int .i64 (l0.length : Int)) ∧ w'.cell? ⟨gb160, 1, none⟩ = some (.int .i64 t164) ∧ w'.cell? ⟨gb160, 2, none⟩ = some (.int .u64 t165) ∧ w'.cell? ⟨gb160, 3, none⟩ = some (.int .i64 x161003_2) ∧ w'.cell? ⟨gb160, 4, none⟩ = some (.int .i64 x161004_2) ∧ w'.cell? ⟨gb160, 5, none⟩ = some (u161005) ∧ w'.cell? (ad158.add (x4_2).toNat) = some (.int .i64 (rd l0 x4_2))) (ds := [8]) #[false, false, false, false, false, false, false, false, false] (by kernel_rfl) rfl rfl ⟨(ze BK160.out 0).trans rfl, (ze BK160.out 1).trans rfl, (ze BK160.out 2).trans rfl, (ze BK160.out 3).trans rfl, (ze BK160.out 4).trans rfl, (ze BK160.out 5).trans rfl, ((HB.out.cell (World.block_lt_of_cell? w _ hw166_0)).trans hw166_0)⟩ (fun hHeld => ?_); refine with_tabW spec_AggOf.tab8 spec_AggOf.bits8 (fun HT_ HW_ => ?_)
           generalize w31.drew = w32 at HO_161005 BK157 BK160 HB hx166_0 hHeld ⊢
           refine pure_ (i := 0) (N := some 38) (v := ?_) (a' := ?_) #[true, false, false, false, false, false, false, false, false] rfl rfl (any_of HT_.out (by kernel_rfl)) (fun _ _ _ h => h) (Or.inl ⟨by rfl, ?_⟩) ?_ ?_
           rotate_left
           ·intro w'
            go_simp
            with_reducible rfl
           rotate_left
           ·simp only [Act.put, zs1, zs2, zs3, i64_w, i32_w]
            rfl
           refine pure_ (i := 2) (N := some 40) (v := ?_) (a' := ?_) #[true, false, true, false, false, false, false, false, false] rfl rfl (any_of HT_.out (by kernel_rfl)) (fun _ _ _ h => h) (Or.inl ⟨by rfl, ?_⟩) ?_ ?_
           rotate_left
           ·intro w'
            go_simp
            with_reducible rfl
           rotate_left
           ·simp only [Act.put, zs1, zs2, zs3, i64_w, i32_w]
            rfl
           refine pure_ (i := 3) (N := some 41) (v := ?_) (a' := ?_) #[true, false, true, true, false, false, false, false, false] rfl rfl (any_of HT_.out (by kernel_rfl)) (fun _ _ _ h => h) (Or.inl ⟨by rfl, ?_⟩) ?_ ?_
           rotate_left
           ·intro w'
            go_simp
            with_reducible rfl
           rotate_left
           ·simp only [Act.put, zs1, zs2, zs3, i64_w, i32_w]
            rfl
           refine pure_ (i := 4) (N := some 42) (v := ?_) (a' := ?_) #[true, false, true, true, true, false, false, false, false] rfl rfl (any_of HT_.out (by kernel_rfl)) (fun _ _ _ h => h) (Or.inl ⟨by rfl, ?_⟩) ?_ ?_
           rotate_left
           ·intro w'
            go_simp
            with_reducible rfl
           rotate_left
           ·simp only [Act.put, zs1, zs2, zs3, i64_w, i32_w]
            rfl
           refine take_ (i := 1) (N := some 39) (v := ?_) (a' := ?_) #[true, true, true, true, true, false, false, false, false] rfl rfl (take_ofW HT_.out HW_.out (by kernel_rfl)) (fun _ _ _ h => h) (Or.inl ⟨by rfl, ?_⟩) hHeld ?_ ?_
           rotate_left
           ·rintro w' ⟨s0, s1, s2, s3, s4, s5, s6⟩
            go_simp
            with_reducible rfl
           rotate_left
           ·simp only [Act.put, zs1, zs2, zs3, i64_w, i32_w]
            rfl
           refine take_ (i := 5) (N := some 43) (v := ?_) (a' := ?_) #[true, true, true, true, true, true, false, false, false] rfl rfl (take_ofW HT_.out HW_.out (by kernel_rfl)) (fun _ _ _ h => h) (Or.inl ⟨by rfl, ?_⟩) hHeld ?_ ?_
           rotate_left
           ·rintro w' ⟨s0, s1, s2, s3, s4, s5, s6⟩
            go_simp
            with_reducible rfl
           rotate_left
           ·simp only [Act.put, zs1, zs2, zs3, i64_w, i32_w]
            rfl
           refine pure_ (i := 6) (N := some 44) (v := ?_) (a' := ?_) #[true, true, true, true, true, true, true, false, false] rfl rfl (any_of HT_.out (by kernel_rfl)) (fun _ _ _ h => h) (Or.inl ⟨by rfl, ?_⟩) ?_ ?_
           rotate_left
           ·intro w'
            go_simp
            with_reducible rfl
           rotate_left
           ·simp only [Act.put, zs1, zs2, zs3, i64_w, i32_w]
            rfl
           refine pure_ (i := 7) (N := some 45) (v := ?_) (a' := ?_) #[true, true, true, true, true, true, true, true, false] rfl rfl (any_of HT_.out (by kernel_rfl)) (fun _ _ _ h => h) (Or.inl ⟨by rfl, ?_⟩) ?_ ?_
           rotate_left
           ·intro w'
            go_simp
            with_reducible rfl
           rotate_left
           ·simp only [Act.put, zs1, zs2, zs3, i64_w, i32_w]
            rfl
           refine last_ (i := 8) (N := none) #[true, true, true, true, true, true, true, true, true] rfl rfl (one_of HT_.out (by kernel_rfl)) (by decide) (fun K hK => ?_)
           have hs33 : w32.cell? ⟨gb160, 3, none⟩ = some (.int .i64 x161003_2) := (ze BK160.out 3).trans rfl
           have hfs33 := zd BK160.out 3
           have hns33_0 := NB157_160.out
           have hms33_0 := NB160_157.out
           refine skip_ (w1 := ?_) (by rfl) rfl ?_ ?_
           rotate_left
           ·go_simp
            rfl
           refine hK.out _ _ ?_
           clear hK K
           refine done_ (done_of HT_.out (by kernel_rfl)) ?_
           try go_wp2
           have n0_ : zp (Kd.R (Kd.int .i64) 3 (w32.setCell ⟨gb160, 3, none⟩ (.int .i64 ji20)) w.heap.size (fun _ => True) u161005 x161005_2) := ⟨by (with_reducible repeat (first | apply Kd.R_alloc | apply Kd.R_drewN | apply Kd.R_drew)); exact Kd.R_mono (Kd.R_far (p := ⟨gb160, 3, none⟩) (Kd.R_types HO_161005.out BK160.out (by decide)) (fun _ hk => hk.2) (.int .i64 ji20)) (fun _ hk => trivial)⟩
           have n1_ : zp ((w32.setCell ⟨gb160, 3, none⟩ (.int .i64 ji20)).heap[gb157]? = some (.cells #[.int .i64 0, .int .i64 0, .int .u64 0, .int .i64 0, .int .i64 0, .slice none 0 0] 32 (0, 0))) := ⟨by (with_reducible repeat (first | refine zf ?_ _ | refine zi ?_ | refine zg ?_ _)); refine blk_far ?_ NB157_160.out _; (with_reducible repeat (first | refine zf ?_ _ | refine zi ?_ | refine zg ?_ _)); exact BK157.out⟩
           have n2_ : zp ((w32.setCell ⟨gb160, 3, none⟩ (.int .i64 ji20)).heap[gb160]? = some (.cells #[.int .i64 (l0.length : Int), .int .i64 t164, .int .u64 t165, .int .i64 ji20, .int .i64 x161004_2, u161005] 32 (0, 0))) := ⟨by (with_reducible repeat (first | refine zf ?_ _ | refine zi ?_ | refine zg ?_ _)); refine blk_put (cs := #[.int .i64 (l0.length : Int), .int .i64 t164, .int .u64 t165, .int .i64 x161003_2, .int .i64 x161004_2, u161005]) ?_ 3 _ rfl; (with_reducible repeat (first | refine zf ?_ _ | refine zi ?_ | refine zg ?_ _)); exact BK160.out⟩
           have n3_ : zp (Below w.heap.size w (w32.setCell ⟨gb160, 3, none⟩ (.int .i64 ji20))) := ⟨zv7 HB.out⟩
           (try clear HO_161005)
           (try clear BK157)
           (try clear BK160)
           (try clear HB)
           generalize (w32.setCell ⟨gb160, 3, none⟩ (.int .i64 ji20)) = w34 at n0_ n1_ n2_ n3_ ⊢
           have HO_161005 := n0_
           have BK157 := n1_
           have BK160 := n2_
           have HB := n3_
           clear n0_ n1_ n2_ n3_
           replace HO_161005 := zp.mk (Kd.R_drew HO_161005.out)
           replace BK157 := zp.mk (zi BK157.out)
           replace BK160 := zp.mk (zi BK160.out)
           replace HB := zp.mk (zb HB.out)
           have p167 : 0 ≤ (x4_2 : Int) := of_decide_eq_true (by first | (with_reducible assumption) | assumption)
           have q167 : x4_2 < (l0.length : Int) := of_decide_eq_true (by first | (with_reducible assumption) | assumption)
           obtain ⟨ad167, e167, hx167_0⟩ := Kd.at_int HR0.out x4_2 p167 q167
           have hw167_0 := hx167_0
           obtain rfl : ad158 = ad167 := (by injection e167)
           replace hx167_0 := (HB.out.cell (World.block_lt_of_cell? w _ hx167_0)).trans hx167_0
           replace p167 := eq_true p167
           replace q167 := eq_true q167
           refine start_ (n := 9) (S := fun w' => w'.cell? ⟨gb160, 0, none⟩ = some (.int .i64 (l0.length : Int)) ∧ w'.cell? ⟨gb160, 1, none⟩ = some (.int .i64 t164) ∧ w'.cell? ⟨gb160, 2, none⟩ = some (.int .u64 t165) ∧ w'.cell? ⟨gb160, 3, none⟩ = some (.int .i64 ji20) ∧ w'.cell? ⟨gb160, 4, none⟩ = some (.int .i64 x161004_2) ∧ w'.cell? ⟨gb160, 5, none⟩ = some (u161005) ∧ w'.cell? (ad158.add (x4_2).toNat) = some (.int .i64 (rd l0 x4_2))) (ds := [8]) #[false, false, false, false, false, false, false, false, false] (by kernel_rfl) rfl rfl ⟨(ze BK160.out 0).trans rfl, (ze BK160.out 1).trans rfl, (ze BK160.out 2).trans rfl, (ze BK160.out 3).trans rfl, (ze BK160.out 4).trans rfl, (ze BK160.out 5).trans rfl, ((HB.out.cell (World.block_lt_of_cell? w _ hw167_0)).trans hw167_0)⟩ (fun hHeld => ?_); refine with_tabW spec_AggOf.tab9 spec_AggOf.bits9 (fun HT_ HW_ => ?_)
           generalize w34.drew = w35 at HO_161005 BK157 BK160 HB hx167_0 hHeld ⊢
           refine pure_ (i := 0) (N := some 46) (v := ?_) (a' := ?_) #[true, false, false, false, false, false, false, false, false] rfl rfl (any_of HT_.out (by kernel_rfl)) (fun _ _ _ h => h) (Or.inl ⟨by rfl, ?_⟩) ?_ ?_
           rotate_left
           ·intro w'
            go_simp
            with_reducible rfl
           rotate_left
           ·simp only [Act.put, zs1, zs2, zs3, i64_w, i32_w]
            rfl
           refine pure_ (i := 2) (N := some 48) (v := ?_) (a' := ?_) #[true, false, true, false, false, false, false, false, false] rfl rfl (any_of HT_.out (by kernel_rfl)) (fun _ _ _ h => h) (Or.inl ⟨by rfl, ?_⟩) ?_ ?_
           rotate_left
           ·intro w'
            go_simp
            with_reducible rfl
           rotate_left
           ·simp only [Act.put, zs1, zs2, zs3, i64_w, i32_w]
            rfl
           refine pure_ (i := 3) (N := some 49) (v := ?_) (a' := ?_) #[true, false, true, true, false, false, false, false, false] rfl rfl (any_of HT_.out (by kernel_rfl)) (fun _ _ _ h => h) (Or.inl ⟨by rfl, ?_⟩) ?_ ?_
           rotate_left
           ·intro w'
            go_simp
            with_reducible rfl
           rotate_left
           ·simp only [Act.put, zs1, zs2, zs3, i64_w, i32_w]
            rfl
           refine pure_ (i := 4) (N := some 50) (v := ?_) (a' := ?_) #[true, false, true, true, true, false, false, false, false] rfl rfl (any_of HT_.out (by kernel_rfl)) (fun _ _ _ h => h) (Or.inl ⟨by rfl, ?_⟩) ?_ ?_
           rotate_left
           ·intro w'
            go_simp
            with_reducible rfl
           rotate_left
           ·simp only [Act.put, zs1, zs2, zs3, i64_w, i32_w]
            rfl
           refine take_ (i := 1) (N := some 47) (v := ?_) (a' := ?_) #[true, true, true, true, true, false, false, false, false] rfl rfl (take_ofW HT_.out HW_.out (by kernel_rfl)) (fun _ _ _ h => h) (Or.inl ⟨by rfl, ?_⟩) hHeld ?_ ?_
           rotate_left
           ·rintro w' ⟨s0, s1, s2, s3, s4, s5, s6⟩
            go_simp
            with_reducible rfl
           rotate_left
           ·simp only [Act.put, zs1, zs2, zs3, i64_w, i32_w]
            rfl
           refine take_ (i := 5) (N := some 51) (v := ?_) (a' := ?_) #[true, true, true, true, true, true, false, false, false] rfl rfl (take_ofW HT_.out HW_.out (by kernel_rfl)) (fun _ _ _ h => h) (Or.inl ⟨by rfl, ?_⟩) hHeld ?_ ?_
           rotate_left
           ·rintro w' ⟨s0, s1, s2, s3, s4, s5, s6⟩
            go_simp
            with_reducible rfl
           rotate_left
           ·simp only [Act.put, zs1, zs2, zs3, i64_w, i32_w]
            rfl
           refine pure_ (i := 6) (N := some 52) (v := ?_) (a' := ?_) #[true, true, true, true, true, true, true, false, false] rfl rfl (any_of HT_.out (by kernel_rfl)) (fun _ _ _ h => h) (Or.inl ⟨by rfl, ?_⟩) ?_ ?_
           rotate_left
           ·intro w'
            go_simp
            with_reducible rfl
           rotate_left
           ·simp only [Act.put, zs1, zs2, zs3, i64_w, i32_w]
            rfl
           refine pure_ (i := 7) (N := some 53) (v := ?_) (a' := ?_) #[true, true, true, true, true, true, true, true, false] rfl rfl (any_of HT_.out (by kernel_rfl)) (fun _ _ _ h => h) (Or.inl ⟨by rfl, ?_⟩) ?_ ?_
           rotate_left
           ·intro w'
            go_simp
            with_reducible rfl
           rotate_left
           ·simp only [Act.put, zs1, zs2, zs3, i64_w, i32_w]
            rfl
           refine last_ (i := 8) (N := none) #[true, true, true, true, true, true, true, true, true] rfl rfl (one_of HT_.out (by kernel_rfl)) (by decide) (fun K hK => ?_)
           have hs36 : w35.cell? ⟨gb160, 4, none⟩ = some (.int .i64 x161004_2) := (ze BK160.out 4).trans rfl
           have hfs36 := zd BK160.out 4
           have hns36_0 := NB157_160.out
           have hms36_0 := NB160_157.out
           refine skip_ (w1 := ?_) (by rfl) rfl ?_ ?_
           rotate_left
           ·go_simp
            rfl
           refine hK.out _ _ ?_
           clear hK K
           refine done_ (done_of HT_.out (by kernel_rfl)) ?_
           try go_wp2
           have n0_ : zp (Kd.R (Kd.int .i64) 3 (w35.setCell ⟨gb160, 4, none⟩ (.int .i64 ji21)) w.heap.size (fun _ => True) u161005 x161005_2) := ⟨by (with_reducible repeat (first | apply Kd.R_alloc | apply Kd.R_drewN | apply Kd.R_drew)); exact Kd.R_mono (Kd.R_far (p := ⟨gb160, 4, none⟩) (Kd.R_types HO_161005.out BK160.out (by decide)) (fun _ hk => hk.2) (.int .i64 ji21)) (fun _ hk => trivial)⟩
           have n1_ : zp ((w35.setCell ⟨gb160, 4, none⟩ (.int .i64 ji21)).heap[gb157]? = some (.cells #[.int .i64 0, .int .i64 0, .int .u64 0, .int .i64 0, .int .i64 0, .slice none 0 0] 32 (0, 0))) := ⟨by (with_reducible repeat (first | refine zf ?_ _ | refine zi ?_ | refine zg ?_ _)); refine blk_far ?_ NB157_160.out _; (with_reducible repeat (first | refine zf ?_ _ | refine zi ?_ | refine zg ?_ _)); exact BK157.out⟩
           have n2_ : zp ((w35.setCell ⟨gb160, 4, none⟩ (.int .i64 ji21)).heap[gb160]? = some (.cells #[.int .i64 (l0.length : Int), .int .i64 t164, .int .u64 t165, .int .i64 ji20, .int .i64 ji21, u161005] 32 (0, 0))) := ⟨by (with_reducible repeat (first | refine zf ?_ _ | refine zi ?_ | refine zg ?_ _)); refine blk_put (cs := #[.int .i64 (l0.length : Int), .int .i64 t164, .int .u64 t165, .int .i64 ji20, .int .i64 x161004_2, u161005]) ?_ 4 _ rfl; (with_reducible repeat (first | refine zf ?_ _ | refine zi ?_ | refine zg ?_ _)); exact BK160.out⟩
           have n3_ : zp (Below w.heap.size w (w35.setCell ⟨gb160, 4, none⟩ (.int .i64 ji21))) := ⟨zv7 HB.out⟩
           (try clear HO_161005)
           (try clear BK157)
           (try clear BK160)
           (try clear HB)
           generalize (w35.setCell ⟨gb160, 4, none⟩ (.int .i64 ji21)) = w37 at n0_ n1_ n2_ n3_ ⊢
           have HO_161005 := n0_
           have BK157 := n1_
           have BK160 := n2_
           have HB := n3_
           clear n0_ n1_ n2_ n3_
           replace HO_161005 := zp.mk (Kd.R_drew HO_161005.out)
           replace BK157 := zp.mk (zi BK157.out)
           replace BK160 := zp.mk (zi BK160.out)
           replace HB := zp.mk (zb HB.out)
           obtain ⟨i039, hi039, _, hsz39, _⟩ := info_parts info3
           obtain ⟨A39, hcut39, hA39, hC39⟩ := print_mid_of (P := Try.prog) (Value.int .i64) 0 25 3 .i64 .i64 Try.underlying25 hi039 hsz39 (some ad158) c0 l0 x4_2 (wrap64 (x4_2 + 1)) (of_decide_eq_true (by first | (with_reducible assumption) | assumption)) (by first | omega | exact of_decide_eq_true (by first | (with_reducible assumption) | assumption)) (of_decide_eq_true (by first | (with_reducible assumption) | assumption)) HC0.out
           have HR168 := zp.mk (Kd.C_of_reads (h1 := fun _ => rfl) (hA39 _ (Kd.reads_of_C HR0.out)))
           have HC168 := zp.mk hC39
           clear hA39 hC39 hi039 hsz39
           obtain ⟨Ao40, co40, eo40⟩ := Kd.R_slice HO_161005.out
           (first | subst eo40 | (injection eo40 with f1_ f2_ f3_; have f4_ := f1_.symm; have f5_ := f3_.symm; clear f1_ f2_ f3_; subst f4_; subst f5_))
           refine start_ (n := 10) (S := fun w' => w'.cell? ⟨gb160, 0, none⟩ = some (.int .i64 (l0.length : Int)) ∧ w'.cell? ⟨gb160, 1, none⟩ = some (.int .i64 t164) ∧ w'.cell? ⟨gb160, 2, none⟩ = some (.int .u64 t165) ∧ w'.cell? ⟨gb160, 3, none⟩ = some (.int .i64 ji20) ∧ w'.cell? ⟨gb160, 4, none⟩ = some (.int .i64 ji21) ∧ w'.cell? ⟨gb160, 5, none⟩ = some (.slice Ao40 x161005_2.length co40)) (ds := [9]) #[false, false, false, false, false, false, false, false, false, false] (by kernel_rfl) rfl rfl ⟨(ze BK160.out 0).trans rfl, (ze BK160.out 1).trans rfl, (ze BK160.out 2).trans rfl, (ze BK160.out 3).trans rfl, (ze BK160.out 4).trans rfl, (ze BK160.out 5).trans rfl⟩ (fun hHeld => ?_); refine with_tabW spec_AggOf.tab10 spec_AggOf.bits10 (fun HT_ HW_ => ?_)
           generalize w37.drew = w38 at HO_161005 BK157 BK160 HB HR168 hHeld ⊢
           refine pure_ (i := 0) (N := some 54) (v := ?_) (a' := ?_) #[true, false, false, false, false, false, false, false, false, false] rfl rfl (any_of HT_.out (by kernel_rfl)) (fun _ _ _ h => h) (Or.inl ⟨by rfl, ?_⟩) ?_ ?_
           rotate_left
           ·intro w'
            go_simp
            with_reducible rfl
           rotate_left
           ·simp only [Act.put, zs1, zs2, zs3, i64_w, i32_w]
            rfl
           refine pure_ (i := 2) (N := some 56) (v := ?_) (a' := ?_) #[true, false, true, false, false, false, false, false, false, false] rfl rfl (any_of HT_.out (by kernel_rfl)) (fun _ _ _ h => h) (Or.inl ⟨by rfl, ?_⟩) ?_ ?_
           rotate_left
           ·intro w'
            go_simp
            with_reducible rfl
           rotate_left
           ·simp only [Act.put, zs1, zs2, zs3, i64_w, i32_w]
            rfl
           refine pure_ (i := 3) (N := some 57) (v := ?_) (a' := ?_) #[true, false, true, true, false, false, false, false, false, false] rfl rfl (any_of HT_.out (by kernel_rfl)) (fun _ _ _ h => h) (Or.inl ⟨by rfl, ?_⟩) ?_ ?_
           rotate_left
           ·intro w'
            go_simp
            with_reducible rfl
           rotate_left
           ·simp only [Act.put, zs1, zs2, zs3, i64_w, i32_w]
            rfl
           refine pure_ (i := 4) (N := some 58) (v := ?_) (a' := ?_) #[true, false, true, true, true, false, false, false, false, false] rfl rfl (any_of HT_.out (by kernel_rfl)) (fun _ _ _ h => h) (Or.inl ⟨by rfl, ?_⟩) ?_ ?_
           rotate_left
           ·intro w'
            go_simp
            with_reducible rfl
           rotate_left
           ·simp only [Act.put, zs1, zs2, zs3, i64_w, i32_w]
            rfl
           refine pure_ (i := 5) (N := some 59) (v := ?_) (a' := ?_) #[true, false, true, true, true, true, false, false, false, false] rfl rfl (any_of HT_.out (by kernel_rfl)) (fun _ _ _ h => h) (Or.inl ⟨by rfl, ?_⟩) ?_ ?_
           rotate_left
           ·intro w'
            go_simp
            with_reducible rfl
           rotate_left
           ·simp only [Act.put, zs1, zs2, zs3, i64_w, i32_w]
            rfl
           refine pure_ (i := 6) (N := some 60) (v := ?_) (a' := ?_) #[true, false, true, true, true, true, true, false, false, false] rfl rfl (any_of HT_.out (by kernel_rfl)) (fun _ _ _ h => h) (Or.inl ⟨by rfl, ?_⟩) ?_ ?_
           rotate_left
           ·intro w'
            go_simp
            with_reducible rfl
           rotate_left
           ·simp only [Act.put, zs1, zs2, zs3, i64_w, i32_w]
            rfl
           refine take_ (i := 1) (N := some 55) (v := ?_) (a' := ?_) #[true, true, true, true, true, true, true, false, false, false] rfl rfl (take_ofW HT_.out HW_.out (by kernel_rfl)) (fun _ _ _ h => h) (Or.inl ⟨by rfl, ?_⟩) hHeld ?_ ?_
           rotate_left
           ·rintro w' ⟨s0, s1, s2, s3, s4, s5⟩
            go_simp
            with_reducible rfl
           rotate_left
           ·simp only [Act.put, zs1, zs2, zs3, i64_w, i32_w]
            rfl
           refine one_ (i := 7) (N := some 61) #[true, true, true, true, true, true, true, true, false, false] rfl rfl (one_of HT_.out (by kernel_rfl)) (by decide) (fun K hK => ?_)
           refine goes_ Try.func19 (by kernel_rfl) rfl #[.slice Ao40 x161005_2.length co40, .slice A39 ((l0.take ((wrap64 (x4_2 + 1)) : Int).toNat).drop (x4_2 : Int).toNat).length (c0 - x4_2.toNat)] (by rfl) rfl rfl (by (try simp only [List.map_toArray, List.map_cons, List.map_nil]); first | done | (rw [show ((l0.take ((wrap64 (x4_2 + 1)) : Int).toNat).drop (x4_2 : Int).toNat).length = ((wrap64 (x4_2 + 1)).toNat - x4_2.toNat) from (by rw [List.length_drop, List.length_take]; have h_ : ((wrap64 (x4_2 + 1)) : Int) ≤ (l0.length : Int) := of_decide_eq_true (by first | (with_reducible assumption) | assumption); omega)] <;> rfl) | rfl | (simp only [List.length_drop, List.length_take]; rfl)) ?_
           with_reducible refine (spec_TopOf.calls k2 _ _ x161005_2 _ _ ((l0.take ((wrap64 (x4_2 + 1)) : Int).toNat).drop (x4_2 : Int).toNat) t169 _ ?side1 ?side2 ?side3 ?side4 A25.out).mono ?_
           (case side1 => repeat (first | exact (Kd.R_reads' HO_161005.out).2.2 | (with_reducible refine Kd.zr ?_ _) | (with_reducible refine Kd.zq ?_ _) | (with_reducible refine Kd.C_drew ?_)))
           (case side2 => exact (Kd.R_reads' HO_161005.out).2.1)
           (case side3 => repeat (first | exact (Kd.zt HR168.out HB.out) | (with_reducible refine Kd.zr ?_ _) | (with_reducible refine Kd.zq ?_ _) | (with_reducible refine Kd.C_drew ?_)))
           (case side4 => exact HC168.out)
           rintro e w41 ⟨v170, rfl, ho0, hb⟩
           refine ⟨_, rfl, ?_⟩
           have HO171 := zp.mk (Kd.R_lower (Kd.R_new' ho0 (Kd.R_lt (by (with_reducible repeat (first | apply Kd.R_alloc | apply Kd.R_drewN | apply Kd.R_drew)); exact HO_161005.out))) (zk (zv7 HB.out)))
           replace HO_161005 := zp.mk (Kd.R_elder' (by (with_reducible repeat (first | apply Kd.R_alloc | apply Kd.R_drewN | apply Kd.R_drew)); exact HO_161005.out) (Kd.R_base ho0) hb)
           replace BK157 := zp.mk (zl (zv8 BK157.out) hb)
           replace BK160 := zp.mk (zl (zv8 BK160.out) hb)
           replace HB := zp.mk (zj (zv7 HB.out) hb)
           (try clear hb)
           (try clear hb2)
           (try clear hk)
           (try clear hi)
           (try clear ho0)
           obtain ⟨Ao42, co42, eo42⟩ := Kd.R_slice HO171.out
           (first | subst eo42 | (injection eo42 with f1_ f2_ f3_; have f4_ := f1_.symm; have f5_ := f3_.symm; clear f1_ f2_ f3_; subst f4_; subst f5_))
           refine hK.out _ _ ⟨(ze BK160.out 0).trans rfl, (ze BK160.out 1).trans rfl, (ze BK160.out 2).trans rfl, (ze BK160.out 3).trans rfl, (ze BK160.out 4).trans rfl, (ze BK160.out 5).trans rfl⟩ (fun hHeld => ?_)
           clear hK K
           refine norm_ (a' := ?_) ?_ ?_
           rotate_left
           ·show Act.put _ (some 61) _ = _
            simp only [Act.put, zs1, zs2, zs3, i64_w, i32_w]
            rfl
           refine pure_ (i := 8) (N := some 62) (v := ?_) (a' := ?_) #[true, true, true, true, true, true, true, true, true, false] rfl rfl (any_of HT_.out (by kernel_rfl)) (fun _ _ _ h => h) (Or.inl ⟨by rfl, ?_⟩) ?_ ?_
           rotate_left
           ·intro w'
            go_simp
            with_reducible rfl
           rotate_left
           ·simp only [Act.put, zs1, zs2, zs3, i64_w, i32_w]
            rfl
           refine last_ (i := 9) (N := none) #[true, true, true, true, true, true, true, true, true, true] rfl rfl (one_of HT_.out (by kernel_rfl)) (by decide) (fun K hK => ?_)
           have hs43 : w41.cell? ⟨gb160, 5, none⟩ = some (.slice Ao40 x161005_2.length co40) := (ze BK160.out 5).trans rfl
           have hfs43 := zd BK160.out 5
           have hns43_0 := NB157_160.out
           have hms43_0 := NB160_157.out
           refine skip_ (w1 := ?_) (by rfl) rfl ?_ ?_
           rotate_left
           ·go_simp
            rfl
           refine hK.out _ _ ?_
           clear hK K
           refine done_ (done_of HT_.out (by kernel_rfl)) ?_
           try go_wp2
           go_roundg k2
           case measure => have := HJ1.out; have := HK2.out; omega
           case rel => exact ⟨(wrap64 (x4_2 + 1)), (t164), (t165), (ji20), (ji21), (t169), (.slice Ao42 t169.length co42), (by first | rfl | (simp; done) | (simp [*]; done)), H', ⟨by have := HJ1.out; have := HK2.out; omega⟩, ⟨by (with_reducible repeat (first | apply Kd.R_alloc | apply Kd.R_drewN | apply Kd.R_drew)); exact Kd.R_mono (Kd.R_far (p := ⟨gb160, 5, none⟩) (Kd.R_types HO171.out BK160.out (by decide)) (fun _ hk => hk.2) (.slice Ao42 t169.length co42)) (fun _ hk => trivial)⟩, ⟨by (with_reducible repeat (first | refine zf ?_ _ | refine zi ?_ | refine zg ?_ _)); refine blk_far ?_ NB157_160.out _; (with_reducible repeat (first | refine zf ?_ _ | refine zi ?_ | refine zg ?_ _)); exact BK157.out⟩, ⟨by (with_reducible repeat (first | refine zf ?_ _ | refine zi ?_ | refine zg ?_ _)); refine blk_put (cs := #[.int .i64 (l0.length : Int), .int .i64 t164, .int .u64 t165, .int .i64 ji20, .int .i64 ji21, .slice Ao40 x161005_2.length co40]) ?_ 5 _ rfl; (with_reducible repeat (first | refine zf ?_ _ | refine zi ?_ | refine zg ?_ _)); exact BK160.out⟩, ⟨zv7 HB.out⟩⟩
          ·rw [if_neg c24] at H
           exact absurd H (by simp)
         ·rw [if_neg c23] at H
          exact absurd H (by simp)
        ·rw [if_neg c17] at H
         exact absurd H (by simp)
       ·rw [if_neg c16] at H
        have c16b0 : decide (x4_2 < (l0.length : Int)) = false := decide_eq_false c16
        clear c16
        simp only [Option.some.injEq, Prod.mk.injEq] at H
        obtain ⟨rfl, rfl, rfl, rfl, rfl, rfl⟩ := H
        have hnb44 := NB160_157.out
        have hnc44 := NB157_160.out
        have y45_0 := zt0 BK160.out
        have y45_1 := zt1 BK160.out
        have y45_2 := zt2 BK160.out
        have y45_3 := zt3 BK160.out
        have y45_4 := zt4 BK160.out
        have y45_5 := zt5 BK160.out
        have u45_0 := zd BK160.out 0
        have u45_1 := zd BK160.out 1
        have u45_2 := zd BK160.out 2
        have u45_3 := zd BK160.out 3
        have u45_4 := zd BK160.out 4
        have u45_5 := zd BK160.out 5
        have y46_0 := zt0 BK157.out
        have y46_1 := zt1 BK157.out
        have y46_2 := zt2 BK157.out
        have y46_3 := zt3 BK157.out
        have y46_4 := zt4 BK157.out
        have y46_5 := zt5 BK157.out
        have u46_0 := zd BK157.out 0
        have u46_1 := zd BK157.out 1
        have u46_2 := zd BK157.out 2
        have u46_3 := zd BK157.out 3
        have u46_4 := zd BK157.out 4
        have u46_5 := zd BK157.out 5
        obtain ⟨Ao47, co47, eo47⟩ := Kd.R_slice HO_161005.out
        subst eo47
        go_wp2
        refine bodyPost_ret (results_cell_row rfl _ _ gb157 32 #[.int .i64 (l0.length : Int), .int .i64 x161001_2, .int .u64 x161002_2, .int .i64 x161003_2, .int .i64 x161004_2, .slice Ao47 x161005_2.length co47] (0, 0) _ rfl (by (with_reducible repeat (first | refine zf ?_ _ | refine zi ?_ | refine zg ?_ _)); refine blk_put (cs := #[.int .i64 (l0.length : Int), .int .i64 x161001_2, .int .u64 x161002_2, .int .i64 x161003_2, .int .i64 x161004_2, .slice none 0 0]) ?_ 5 _ rfl; (with_reducible repeat (first | refine zf ?_ _ | refine zi ?_ | refine zg ?_ _)); refine blk_put (cs := #[.int .i64 (l0.length : Int), .int .i64 x161001_2, .int .u64 x161002_2, .int .i64 x161003_2, .int .i64 0, .slice none 0 0]) ?_ 4 _ rfl; (with_reducible repeat (first | refine zf ?_ _ | refine zi ?_ | refine zg ?_ _)); refine blk_put (cs := #[.int .i64 (l0.length : Int), .int .i64 x161001_2, .int .u64 x161002_2, .int .i64 0, .int .i64 0, .slice none 0 0]) ?_ 3 _ rfl; (with_reducible repeat (first | refine zf ?_ _ | refine zi ?_ | refine zg ?_ _)); refine blk_put (cs := #[.int .i64 (l0.length : Int), .int .i64 x161001_2, .int .u64 0, .int .i64 0, .int .i64 0, .slice none 0 0]) ?_ 2 _ rfl; (with_reducible repeat (first | refine zf ?_ _ | refine zi ?_ | refine zg ?_ _)); refine blk_put (cs := #[.int .i64 (l0.length : Int), .int .i64 0, .int .u64 0, .int .i64 0, .int .i64 0, .slice none 0 0]) ?_ 1 _ rfl; (with_reducible repeat (first | refine zf ?_ _ | refine zi ?_ | refine zg ?_ _)); refine blk_put (cs := #[.int .i64 0, .int .i64 0, .int .u64 0, .int .i64 0, .int .i64 0, .slice none 0 0]) ?_ 0 _ rfl; (with_reducible repeat (first | refine zf ?_ _ | refine zi ?_ | refine zg ?_ _)); exact BK157.out) Try.underlying32 rfl (by kernel_rfl)) rfl ?_
        exact ⟨_, by first | rfl | (simp [errW_none, errW_some] <;> rfl) | (simp [*, errW_none, errW_some] <;> rfl), by (with_reducible repeat (first | apply Kd.R_alloc | apply Kd.R_drewN | apply Kd.R_drew)); exact Kd.R_mono (Kd.R_far (p := ⟨gb157, 5, none⟩) (Kd.R_far (p := ⟨gb157, 4, none⟩) (Kd.R_far (p := ⟨gb157, 3, none⟩) (Kd.R_far (p := ⟨gb157, 2, none⟩) (Kd.R_far (p := ⟨gb157, 1, none⟩) (Kd.R_far (p := ⟨gb157, 0, none⟩) (Kd.R_types HO_161005.out BK157.out (by decide)) (fun _ hk => hk.2) (.int .i64 (l0.length : Int))) (fun _ hk => hk.2) (.int .i64 x161001_2)) (fun _ hk => hk.2) (.int .u64 x161002_2)) (fun _ hk => hk.2) (.int .i64 x161003_2)) (fun _ hk => hk.2) (.int .i64 x161004_2)) (fun _ hk => hk.2) (.slice Ao47 x161005_2.length co47)) (fun _ hk => trivial), zv7 HB.out⟩
    ·rw [if_neg c7] at H
     exact absurd H (by simp)

end Go.Proofs.Ytnnahpmnkpmopaa.QFnExactAggOf
