/- Proved: calls of the program come to the answers of the plain Lean functions that stand beside them. Each contract names its conditions. (Written by a program of this session, over the printer of the kit.) -/
import Derived.Test.YtnnahpmnkpmopaaZAggJoinQFnExactAggJoinx0
namespace Go.Proofs.Ytnnahpmnkpmopaa.QFnExactAggJoin
open Go.RowKit Go.Proofs.YtnnahpmnkpmopaaW.PrintWords Go.Proofs.YtnnahpmnkpmopaaW.PrintLast Go.Proofs.YtnnahpmnkpmopaaW.PrintMore
attribute [local go_sem] max2_int min2_int max_two min_two max_three min_three max_four min_four   -- for this text's walks alone
set_option linter.unusedVariables false
set_option linter.unusedSimpArgs false

/-! ### spec_l07Same: function 28 -/
def spec_l07Same.l0 : Nat → List Int → List Int → Int → Option (Bool)
 | 0, _, _, _ => none
 | k + 1, x0, x1, x5 => if x5 < (x0.length : Int) then (if 0 ≤ x5 then (if x5 < (x1.length : Int) then (if (rd x0 x5) = (rd x1 x5) then (spec_l07Same.l0 k x0 x1 (wrap64 (x5 + 1))) else (some false)) else (none)) else (none)) else (some true)
def spec_l07Same.f (k : Nat) (l0 : List Int) (l1 : List Int) : Option (Bool) := if (l0.length : Int) = (l1.length : Int) then (spec_l07Same.l0 k l0 l1 0) else (some false)
set_option maxHeartbeats 8000000 in
set_option maxRecDepth 100000 in
theorem spec_l07Same.calls (k : Nat) (A0 : Option Addr) (c0 : Nat) (l0 : List Int) (A1 : Option Addr) (c1 : Nat) (l1 : List Int) (r : Bool) (w : World) (cE : Kd.C (Kd.int .i64) w A0 l0.length l0) (cG : l0.length ≤ c0) (cB : Kd.C (Kd.int .i64) w A1 l1.length l1) (cH : l1.length ≤ c1) (h : spec_l07Same.f k l0 l1 = some r) :
  Calls Try.prog 28 #[.slice A0 l0.length c0, .slice A1 l1.length c1] w fun e w' => e = .returned (.bool r) ∧ Drawn0 w w' := by
 have cu := zp.mk cE
 have e2 := zp.mk cG
 clear cE cG
 have ct := zp.mk cB
 have e6 := zp.mk cH
 clear cB cH
 have H : (if (l0.length : Int) = (l1.length : Int) then (spec_l07Same.l0 k l0 l1 0) else (some false)) = some r := h
 clear h
 by_cases c3 : (l0.length : Int) = (l1.length : Int)
 ·rw [if_pos c3] at H
  have aX : ((l0.length : Int) == (l1.length : Int)) = true := beq_iff_eq.mpr c3
  have bm : ((l0.length : Int) != (l1.length : Int)) = false := bne_eq_false_iff_eq.mpr c3
  have bT : (l0.length == l1.length) = true := by first | simpa using c3 | (simp at c3 ⊢; omega)
  clear c3
  have H' := zp.mk H
  clear H
  go_enter Try.func28, Try.ntmps28
  go_wp2
  repeat (go_quiet (fail); try go_wp2)
  go_loopg [5] k (fun kq v5 w' => ∃ (l : Int), v5 = .int .i64 l ∧ zp (spec_l07Same.l0 kq l0 l1 l = some r) ∧ zp (kq ≤ k) ∧ Drawn0 w w')
  case atStart => exact ⟨(0), (by first | rfl | (simp; done) | (simp [*]; done)), H', ⟨Nat.le_refl _⟩, by repeat (first | exact Drawn0.refl _ | apply Drawn0.step)⟩
  case round =>
   clear H'
   try clear c1
   try clear c2
   try clear p2
   try clear c3
   try clear aX
   try clear bm
   try clear bT
   obtain ⟨l, rfl, HA, cD, ⟨m1, rfl⟩⟩ := hrel
   cases gk with
   | zero => exact absurd HA.out (by simp [spec_l07Same.l0])
   | succ k1 =>
    have H := HA.out
    clear HA
    simp only [spec_l07Same.l0] at H
    by_cases c4 : l < (l0.length : Int)
    ·rw [if_pos c4] at H
     have bD : decide (l < (l0.length : Int)) = true := decide_eq_true c4
     clear c4
     by_cases c5 : 0 ≤ l
     ·rw [if_pos c5] at H
      have eO : decide (0 ≤ l) = true := decide_eq_true c5
      clear c5
      by_cases c6 : l < (l1.length : Int)
      ·rw [if_pos c6] at H
       have eP : decide (l < (l1.length : Int)) = true := decide_eq_true c6
       clear c6
       by_cases c7 : (rd l0 l) = (rd l1 l)
       ·rw [if_pos c7] at H
        have cy : ((rd l0 l) == (rd l1 l)) = true := beq_iff_eq.mpr c7
        have cv : ((rd l0 l) != (rd l1 l)) = false := bne_eq_false_iff_eq.mpr c7
        clear c7
        have H' := zp.mk H
        clear H
        have aV : 0 ≤ (l : Int) := of_decide_eq_true (by first | (with_reducible assumption) | assumption)
        have aU : l < (l0.length : Int) := of_decide_eq_true (by first | (with_reducible assumption) | assumption)
        obtain ⟨cm, bJ, bH⟩ := Kd.at_int cu.out l aV aU
        cases bJ
        replace aV := eq_true aV
        replace aU := eq_true aU
        have aM : 0 ≤ (l : Int) := of_decide_eq_true (by first | (with_reducible assumption) | assumption)
        have aK : l < (l1.length : Int) := of_decide_eq_true (by first | (with_reducible assumption) | assumption)
        obtain ⟨ca, bC, bG⟩ := Kd.at_int ct.out l aM aK
        cases bC
        replace aM := eq_true aM
        replace aK := eq_true aK
        go_wp2
        repeat (go_quiet (fail); try go_wp2)
        go_roundg k1
        case measure => have := cD.out; omega
        case rel => exact ⟨(wrap64 (l + 1)), (by first | rfl | (simp; done) | (simp [*]; done)), H', ⟨by have := cD.out; omega⟩, by repeat (first | exact Drawn0.refl _ | apply Drawn0.step)⟩
       ·rw [if_neg c7] at H
        have cy : ((rd l0 l) == (rd l1 l)) = false := beq_eq_false_iff_ne.mpr c7
        have cv : ((rd l0 l) != (rd l1 l)) = true := bne_iff_ne.mpr c7
        obtain rfl := Option.some.inj H
        have aV : 0 ≤ (l : Int) := of_decide_eq_true (by first | (with_reducible assumption) | assumption)
        have aU : l < (l0.length : Int) := of_decide_eq_true (by first | (with_reducible assumption) | assumption)
        obtain ⟨cm, bJ, bH⟩ := Kd.at_int cu.out l aV aU
        cases bJ
        replace aV := eq_true aV
        replace aU := eq_true aU
        have aM : 0 ≤ (l : Int) := of_decide_eq_true (by first | (with_reducible assumption) | assumption)
        have aK : l < (l1.length : Int) := of_decide_eq_true (by first | (with_reducible assumption) | assumption)
        obtain ⟨ca, bC, bG⟩ := Kd.at_int ct.out l aM aK
        cases bC
        replace aM := eq_true aM
        replace aK := eq_true aK
        go_wp2
        repeat (go_quiet (fail); try go_wp2)
        go_ret
        exact ⟨by first | rfl | (simp; done) | (simp [*]; done), by repeat (first | exact Drawn0.refl _ | apply Drawn0.step)⟩
      ·rw [if_neg c6] at H
       exact absurd H (by simp)
     ·rw [if_neg c5] at H
      exact absurd H (by simp)
    ·rw [if_neg c4] at H
     have bD : decide (l < (l0.length : Int)) = false := decide_eq_false c4
     clear c4
     obtain rfl := Option.some.inj H
     go_wp2
     repeat (go_quiet (fail); try go_wp2)
     go_ret
     exact ⟨by first | rfl | (simp; done) | (simp [*]; done), by repeat (first | exact Drawn0.refl _ | apply Drawn0.step)⟩
 ·rw [if_neg c3] at H
  have aX : ((l0.length : Int) == (l1.length : Int)) = false := beq_eq_false_iff_ne.mpr c3
  have bm : ((l0.length : Int) != (l1.length : Int)) = true := bne_iff_ne.mpr c3
  have bT : (l0.length == l1.length) = false := by first | simpa using c3 | (simp at c3 ⊢; omega)
  obtain rfl := Option.some.inj H
  go_enter Try.func28, Try.ntmps28
  go_wp2
  repeat (go_quiet (fail); try go_wp2)
  go_ret
  exact ⟨by first | rfl | (simp; done) | (simp [*]; done), by repeat (first | exact Drawn0.refl _ | apply Drawn0.step)⟩

/-! ### spec_WideAdd: function 29 -/
def spec_WideAdd.f (D : Int) (A : Int) (Y : Int) (W : Int) : Option (Int × Int) := if (IntKind.u64.wrap (A + W)) < A then (some (wrap64 (IntKind.u64.wrap ((IntKind.u64.wrap ((IntKind.u64.wrap (D)) + (IntKind.u64.wrap (Y)))) + 1)), IntKind.u64.wrap (A + W))) else (some (wrap64 (IntKind.u64.wrap ((IntKind.u64.wrap (D)) + (IntKind.u64.wrap (Y)))), IntKind.u64.wrap (A + W)))
set_option maxHeartbeats 8000000 in
set_option maxRecDepth 100000 in
theorem spec_WideAdd.calls (D : Int) (A : Int) (Y : Int) (W : Int) (r1 : Int) (r2 : Int) (w : World) (h : spec_WideAdd.f D A Y W = some (r1, r2)) :
  Calls Try.prog 29 #[.agg #[.int .i64 D, .int .u64 A], .agg #[.int .i64 Y, .int .u64 W]] w fun e w' => e = .returned (.agg #[.int .i64 r1, .int .u64 r2]) ∧ Below w.heap.size w w' := by
 have bb := Try.underlying30
 have HB := zp.mk (Below.refl w.heap.size w)
 have H : (if (IntKind.u64.wrap (A + W)) < A then (some (wrap64 (IntKind.u64.wrap ((IntKind.u64.wrap ((IntKind.u64.wrap (D)) + (IntKind.u64.wrap (Y)))) + 1)), IntKind.u64.wrap (A + W))) else (some (wrap64 (IntKind.u64.wrap ((IntKind.u64.wrap (D)) + (IntKind.u64.wrap (Y)))), IntKind.u64.wrap (A + W)))) = some (r1, r2) := h
 clear h
 by_cases c3 : (IntKind.u64.wrap (A + W)) < A
 ·rw [if_pos c3] at H
  have aX : decide ((IntKind.u64.wrap (A + W)) < A) = true := decide_eq_true c3
  clear c3
  simp only [Option.some.injEq, Prod.mk.injEq] at H
  obtain ⟨rfl, rfl⟩ := H
  go_enter Try.func29, Try.ntmps29
  go_wp2_with (first | ((with_reducible refine zo (N := 2) rfl ?_); refine zm ?hg (N := 2) ?hd (cs := #[.int .i64 D, .int .u64 A]) (t := 30) ?hr ?_; (case hd => rfl); (case hg => rfl); (case hr => first | (go_simp; done) | (go_simp; rfl)); intro aa hg w4 hbox hb; have Z := zp.mk (hbox); have cd := zp.mk ((zv3 (zv6 HB.out) hg)); have cg := zp.mk ((zv3 (zv6 HB.out) hg)); replace HB := zp.mk (zj (zv6 HB.out) hb); clear hb hbox hg) | ((with_reducible refine zo (N := 3) rfl ?_); refine zm ?hg (N := 3) ?hd (cs := #[.int .i64 Y, .int .u64 W]) (t := 30) ?hr ?_; (case hd => rfl); (case hg => rfl); (case hr => first | (go_simp; done) | (go_simp; rfl)); intro ag hg w5 hbox hb; have ab := zp.mk (hbox); have b4 := zp.mk ((zv3 (zv7 HB.out) hg)); have ce := zp.mk ((zv3 (zv7 HB.out) hg)); have aG := zp.mk ((by rw [hg]; exact Nat.ne_of_lt (blk_lt (g := aa) (o := .cells #[.int .i64 D, .int .u64 A] 30 (0, 0)) (zv8 Z.out)) : aa ≠ ag)); have aH := zp.mk ((by rw [hg]; exact Nat.ne_of_gt (blk_lt (g := aa) (o := .cells #[.int .i64 D, .int .u64 A] 30 (0, 0)) (zv8 Z.out)) : ag ≠ aa)); replace Z := zp.mk (zl (zv8 Z.out) hb); replace HB := zp.mk (zj (zv7 HB.out) hb); clear hb hbox hg) | ((with_reducible refine zo (N := 4) rfl ?_); refine zm ?hg (N := 4) ?hd (cs := #[.int .i64 0, .int .u64 0]) (t := 30) ?hr ?_; (case hd => rfl); (case hg => rfl); (case hr => first | (go_simp; done) | (go_simp; rfl)); intro am hg w6 hbox hb; have ak := zp.mk (hbox); have cl := zp.mk ((zv3 (zv7 HB.out) hg)); have b6 := zp.mk ((zv3 (zv7 HB.out) hg)); have aD := zp.mk ((by rw [hg]; exact Nat.ne_of_lt (blk_lt (g := aa) (o := .cells #[.int .i64 D, .int .u64 A] 30 (0, 0)) (zv8 Z.out)) : aa ≠ am)); have az := zp.mk ((by rw [hg]; exact Nat.ne_of_gt (blk_lt (g := aa) (o := .cells #[.int .i64 D, .int .u64 A] 30 (0, 0)) (zv8 Z.out)) : am ≠ aa)); have ay := zp.mk ((by rw [hg]; exact Nat.ne_of_lt (blk_lt (g := ag) (o := .cells #[.int .i64 Y, .int .u64 W] 30 (0, 0)) (zv8 ab.out)) : ag ≠ am)); have aE := zp.mk ((by rw [hg]; exact Nat.ne_of_gt (blk_lt (g := ag) (o := .cells #[.int .i64 Y, .int .u64 W] 30 (0, 0)) (zv8 ab.out)) : am ≠ ag)); replace Z := zp.mk (zl (zv8 Z.out) hb); replace ab := zp.mk (zl (zv8 ab.out) hb); replace HB := zp.mk (zj (zv7 HB.out) hb); clear hb hbox hg; have b2 := aG.out; have b0 := aH.out; have eS := aD.out; have eU := az.out; have cA := zt0 Z.out; have cF := zt1 Z.out; have cq := zd Z.out 0; have cr := zd Z.out 1; have du := ay.out; have dn := aE.out; have eI := zt0 ab.out; have eA := zt1 ab.out; have df := zd ab.out 0; have dx := zd ab.out 1; have dU := zt0 ak.out; have cL := zt1 ak.out; have dv := zd ak.out 0; have dL := zd ak.out 1))
  refine bodyPost_ret (results_cell_row rfl _ _ am 30 #[.int .i64 (wrap64 (IntKind.u64.wrap ((IntKind.u64.wrap ((IntKind.u64.wrap (D)) + (IntKind.u64.wrap (Y)))) + 1))), .int .u64 (IntKind.u64.wrap (A + W))] (0, 0) _ rfl (by (with_reducible repeat (first | refine zf ?_ _ | refine zi ?_ | refine zg ?_ _)); refine blk_put (cs := #[.int .i64 (wrap64 (IntKind.u64.wrap ((IntKind.u64.wrap ((IntKind.u64.wrap (D)) + (IntKind.u64.wrap (Y)))) + 1))), .int .u64 0]) ?_ 1 _ rfl; (with_reducible repeat (first | refine zf ?_ _ | refine zi ?_ | refine zg ?_ _)); refine blk_put (cs := #[.int .i64 0, .int .u64 0]) ?_ 0 _ rfl; (with_reducible repeat (first | refine zf ?_ _ | refine zi ?_ | refine zg ?_ _)); exact ak.out) Try.underlying30 rfl (by kernel_rfl)) rfl ?_
  exact ⟨by first | rfl | (simp [errW_none, errW_some] <;> rfl) | (simp [*, errW_none, errW_some] <;> rfl), zv7 HB.out⟩
 ·rw [if_neg c3] at H
  have aX : decide ((IntKind.u64.wrap (A + W)) < A) = false := decide_eq_false c3
  clear c3
  simp only [Option.some.injEq, Prod.mk.injEq] at H
  obtain ⟨rfl, rfl⟩ := H
  go_enter Try.func29, Try.ntmps29
  go_wp2_with (first | ((with_reducible refine zo (N := 2) rfl ?_); refine zm ?hg (N := 2) ?hd (cs := #[.int .i64 D, .int .u64 A]) (t := 30) ?hr ?_; (case hd => rfl); (case hg => rfl); (case hr => first | (go_simp; done) | (go_simp; rfl)); intro aa hg e9 hbox hb; have Z := zp.mk (hbox); have cd := zp.mk ((zv3 (zv6 HB.out) hg)); have cg := zp.mk ((zv3 (zv6 HB.out) hg)); replace HB := zp.mk (zj (zv6 HB.out) hb); clear hb hbox hg) | ((with_reducible refine zo (N := 3) rfl ?_); refine zm ?hg (N := 3) ?hd (cs := #[.int .i64 Y, .int .u64 W]) (t := 30) ?hr ?_; (case hd => rfl); (case hg => rfl); (case hr => first | (go_simp; done) | (go_simp; rfl)); intro ag hg fd hbox hb; have ab := zp.mk (hbox); have b4 := zp.mk ((zv3 (zv7 HB.out) hg)); have ce := zp.mk ((zv3 (zv7 HB.out) hg)); have aG := zp.mk ((by rw [hg]; exact Nat.ne_of_lt (blk_lt (g := aa) (o := .cells #[.int .i64 D, .int .u64 A] 30 (0, 0)) (zv8 Z.out)) : aa ≠ ag)); have aH := zp.mk ((by rw [hg]; exact Nat.ne_of_gt (blk_lt (g := aa) (o := .cells #[.int .i64 D, .int .u64 A] 30 (0, 0)) (zv8 Z.out)) : ag ≠ aa)); replace Z := zp.mk (zl (zv8 Z.out) hb); replace HB := zp.mk (zj (zv7 HB.out) hb); clear hb hbox hg) | ((with_reducible refine zo (N := 4) rfl ?_); refine zm ?hg (N := 4) ?hd (cs := #[.int .i64 0, .int .u64 0]) (t := 30) ?hr ?_; (case hd => rfl); (case hg => rfl); (case hr => first | (go_simp; done) | (go_simp; rfl)); intro am hg eZ hbox hb; have ak := zp.mk (hbox); have cl := zp.mk ((zv3 (zv7 HB.out) hg)); have b6 := zp.mk ((zv3 (zv7 HB.out) hg)); have aD := zp.mk ((by rw [hg]; exact Nat.ne_of_lt (blk_lt (g := aa) (o := .cells #[.int .i64 D, .int .u64 A] 30 (0, 0)) (zv8 Z.out)) : aa ≠ am)); have az := zp.mk ((by rw [hg]; exact Nat.ne_of_gt (blk_lt (g := aa) (o := .cells #[.int .i64 D, .int .u64 A] 30 (0, 0)) (zv8 Z.out)) : am ≠ aa)); have ay := zp.mk ((by rw [hg]; exact Nat.ne_of_lt (blk_lt (g := ag) (o := .cells #[.int .i64 Y, .int .u64 W] 30 (0, 0)) (zv8 ab.out)) : ag ≠ am)); have aE := zp.mk ((by rw [hg]; exact Nat.ne_of_gt (blk_lt (g := ag) (o := .cells #[.int .i64 Y, .int .u64 W] 30 (0, 0)) (zv8 ab.out)) : am ≠ ag)); replace Z := zp.mk (zl (zv8 Z.out) hb); replace ab := zp.mk (zl (zv8 ab.out) hb); replace HB := zp.mk (zj (zv7 HB.out) hb); clear hb hbox hg; have ch := aG.out; have cc := aH.out; have cn := aD.out; have co := az.out; have be := zt0 Z.out; have bi := zt1 Z.out; have bk := zd Z.out 0; have bd := zd Z.out 1; have cW := ay.out; have eJ := aE.out; have a6 := zt0 ab.out; have a7 := zt1 ab.out; have a2 := zd ab.out 0; have aZ := zd ab.out 1; have dj := zt0 ak.out; have ep := zt1 ak.out; have ee := zd ak.out 0; have cJ := zd ak.out 1))
  refine bodyPost_ret (results_cell_row rfl _ _ am 30 #[.int .i64 (wrap64 (IntKind.u64.wrap ((IntKind.u64.wrap (D)) + (IntKind.u64.wrap (Y))))), .int .u64 (IntKind.u64.wrap (A + W))] (0, 0) _ rfl (by (with_reducible repeat (first | refine zf ?_ _ | refine zi ?_ | refine zg ?_ _)); refine blk_put (cs := #[.int .i64 (wrap64 (IntKind.u64.wrap ((IntKind.u64.wrap (D)) + (IntKind.u64.wrap (Y))))), .int .u64 0]) ?_ 1 _ rfl; (with_reducible repeat (first | refine zf ?_ _ | refine zi ?_ | refine zg ?_ _)); refine blk_put (cs := #[.int .i64 0, .int .u64 0]) ?_ 0 _ rfl; (with_reducible repeat (first | refine zf ?_ _ | refine zi ?_ | refine zg ?_ _)); exact ak.out) Try.underlying30 rfl (by kernel_rfl)) rfl ?_
  exact ⟨by first | rfl | (simp [errW_none, errW_some] <;> rfl) | (simp [*, errW_none, errW_some] <;> rfl), zv7 HB.out⟩

/-! ### spec_WideOf: function 30 -/
def spec_WideOf.f (a0 : Int) : Option (Int × Int) := if a0 < 0 then (some ((-1), IntKind.u64.wrap (a0))) else (some (0, IntKind.u64.wrap (a0)))
set_option maxHeartbeats 8000000 in
set_option maxRecDepth 100000 in
theorem spec_WideOf.calls (a0 : Int) (r1 : Int) (r2 : Int) (w : World) (h : spec_WideOf.f a0 = some (r1, r2)) :
  Calls Try.prog 30 #[.int .i64 a0] w fun e w' => e = .returned (.agg #[.int .i64 r1, .int .u64 r2]) ∧ Below w.heap.size w w' := by
 have bb := Try.underlying30
 have HB := zp.mk (Below.refl w.heap.size w)
 have H : (if a0 < 0 then (some ((-1), IntKind.u64.wrap (a0))) else (some (0, IntKind.u64.wrap (a0)))) = some (r1, r2) := h
 clear h
 by_cases c2 : a0 < 0
 ·rw [if_pos c2] at H
  have cC : decide (a0 < 0) = true := decide_eq_true c2
  clear c2
  simp only [Option.some.injEq, Prod.mk.injEq] at H
  obtain ⟨rfl, rfl⟩ := H
  go_enter Try.func30, Try.ntmps30
  go_wp2_with (first | ((with_reducible refine zo (N := 2) rfl ?_); refine zm ?hg (N := 2) ?hd (cs := #[.int .i64 0, .int .u64 0]) (t := 30) ?hr ?_; (case hd => rfl); (case hg => rfl); (case hr => first | (go_simp; done) | (go_simp; rfl)); intro bj hg w3 hbox hb; have al := zp.mk (hbox); have b9 := zp.mk ((zv3 (zv6 HB.out) hg)); have b3 := zp.mk ((zv3 (zv6 HB.out) hg)); replace HB := zp.mk (zj (zv6 HB.out) hb); clear hb hbox hg; have eW := zt0 al.out; have eX := zt1 al.out; have eQ := zd al.out 0; have eT := zd al.out 1))
  refine bodyPost_ret (results_cell_row rfl _ _ bj 30 #[.int .i64 (-1), .int .u64 (IntKind.u64.wrap (a0))] (0, 0) _ rfl (by (with_reducible repeat (first | refine zf ?_ _ | refine zi ?_ | refine zg ?_ _)); refine blk_put (cs := #[.int .i64 (-1), .int .u64 0]) ?_ 1 _ rfl; (with_reducible repeat (first | refine zf ?_ _ | refine zi ?_ | refine zg ?_ _)); refine blk_put (cs := #[.int .i64 0, .int .u64 0]) ?_ 0 _ rfl; (with_reducible repeat (first | refine zf ?_ _ | refine zi ?_ | refine zg ?_ _)); exact al.out) Try.underlying30 rfl (by kernel_rfl)) rfl ?_
  exact ⟨by first | rfl | (simp [errW_none, errW_some] <;> rfl) | (simp [*, errW_none, errW_some] <;> rfl), zv7 HB.out⟩
 ·rw [if_neg c2] at H
  have cC : decide (a0 < 0) = false := decide_eq_false c2
  clear c2
  simp only [Option.some.injEq, Prod.mk.injEq] at H
  obtain ⟨rfl, rfl⟩ := H
  go_enter Try.func30, Try.ntmps30
  go_wp2_with (first | ((with_reducible refine zo (N := 2) rfl ?_); refine zm ?hg (N := 2) ?hd (cs := #[.int .i64 0, .int .u64 0]) (t := 30) ?hr ?_; (case hd => rfl); (case hg => rfl); (case hr => first | (go_simp; done) | (go_simp; rfl)); intro bj hg w5 hbox hb; have al := zp.mk (hbox); have b9 := zp.mk ((zv3 (zv6 HB.out) hg)); have b3 := zp.mk ((zv3 (zv6 HB.out) hg)); replace HB := zp.mk (zj (zv6 HB.out) hb); clear hb hbox hg; have bX := zt0 al.out; have bY := zt1 al.out; have bS := zd al.out 0; have bZ := zd al.out 1))
  refine bodyPost_ret (results_cell_row rfl _ _ bj 30 #[.int .i64 0, .int .u64 (IntKind.u64.wrap (a0))] (0, 0) _ rfl (by (with_reducible repeat (first | refine zf ?_ _ | refine zi ?_ | refine zg ?_ _)); refine blk_put (cs := #[.int .i64 0, .int .u64 0]) ?_ 1 _ rfl; (with_reducible repeat (first | refine zf ?_ _ | refine zi ?_ | refine zg ?_ _)); refine blk_put (cs := #[.int .i64 0, .int .u64 0]) ?_ 0 _ rfl; (with_reducible repeat (first | refine zf ?_ _ | refine zi ?_ | refine zg ?_ _)); exact al.out) Try.underlying30 rfl (by kernel_rfl)) rfl ?_
  exact ⟨by first | rfl | (simp [errW_none, errW_some] <;> rfl) | (simp [*, errW_none, errW_some] <;> rfl), zv7 HB.out⟩

/-! ### spec_WideNeg: function 55 -/
def spec_WideNeg.f (D : Int) (A : Int) : Option (Int × Int) := (spec_WideAdd.f (wrap64 ((-1) - D)) (IntKind.u64.wrap (18446744073709551615 - A)) 0 1).bind fun aT => (some (aT.1, aT.2))
set_option maxHeartbeats 8000000 in
set_option maxRecDepth 100000 in
theorem spec_WideNeg.calls (D : Int) (A : Int) (r1 : Int) (r2 : Int) (w : World) (h : spec_WideNeg.f D A = some (r1, r2)) :
  Calls Try.prog 55 #[.agg #[.int .i64 D, .int .u64 A]] w fun e w' => e = .returned (.agg #[.int .i64 r1, .int .u64 r2]) ∧ Below w.heap.size w w' := by
 have bb := Try.underlying30
 have HB := zp.mk (Below.refl w.heap.size w)
 have H : ((spec_WideAdd.f (wrap64 ((-1) - D)) (IntKind.u64.wrap (18446744073709551615 - A)) 0 1).bind fun aT => (some (aT.1, aT.2))) = some (r1, r2) := h
 clear h
 replace H := zs4 H
 obtain ⟨⟨br, bI⟩, cx, H⟩ := H
 replace H : (some (br, bI)) = some (r1, r2) := H
 have A2 := zp.mk cx
 clear cx
 simp only [Option.some.injEq, Prod.mk.injEq] at H
 obtain ⟨rfl, rfl⟩ := H
 go_enter Try.func55, Try.ntmps55
 go_wp2_with (first | ((with_reducible refine zo (N := 1) rfl ?_); refine zm ?hg (N := 1) ?hd (cs := #[.int .i64 D, .int .u64 A]) (t := 30) ?hr ?_; (case hd => rfl); (case hg => rfl); (case hr => first | (go_simp; done) | (go_simp; rfl)); intro aY hg w3 hbox hb; have an := zp.mk (hbox); have dZ := zp.mk ((zv3 (zv6 HB.out) hg)); have ei := zp.mk ((zv3 (zv6 HB.out) hg)); replace HB := zp.mk (zj (zv6 HB.out) hb); clear hb hbox hg) | ((with_reducible refine zo (N := 2) rfl ?_); refine zm ?hg (N := 2) ?hd (cs := #[.int .i64 0, .int .u64 0]) (t := 30) ?hr ?_; (case hd => rfl); (case hg => rfl); (case hr => first | (go_simp; done) | (go_simp; rfl)); intro bh hg w4 hbox hb; have aC := zp.mk (hbox); have dI := zp.mk ((zv3 (zv7 HB.out) hg)); have cY := zp.mk ((zv3 (zv7 HB.out) hg)); have bf := zp.mk ((by rw [hg]; exact Nat.ne_of_lt (blk_lt (g := aY) (o := .cells #[.int .i64 D, .int .u64 A] 30 (0, 0)) (zv8 an.out)) : aY ≠ bh)); have bc := zp.mk ((by rw [hg]; exact Nat.ne_of_gt (blk_lt (g := aY) (o := .cells #[.int .i64 D, .int .u64 A] 30 (0, 0)) (zv8 an.out)) : bh ≠ aY)); replace an := zp.mk (zl (zv8 an.out) hb); replace HB := zp.mk (zj (zv7 HB.out) hb); clear hb hbox hg; have eR := bf.out; have eV := bc.out; have bX := zt0 an.out; have bY := zt1 an.out; have bS := zd an.out 0; have bZ := zd an.out 1) | ((with_reducible refine zn (f := 29) rfl ?_); refine goesL_ (some 11) rfl rfl Try.func29 (by kernel_rfl) rfl #[.agg #[.int .i64 (wrap64 ((-1) - D)), .int .u64 (IntKind.u64.wrap (18446744073709551615 - A))], .agg #[.int .i64 0, .int .u64 1]] rfl (by (try simp only [List.map_toArray, List.map_cons, List.map_nil]); first | done | rfl | (simp only [List.length_drop, List.length_take]; rfl)) ?_; (with_reducible refine (spec_WideAdd.calls (wrap64 ((-1) - D)) (IntKind.u64.wrap (18446744073709551615 - A)) 0 1 br bI _ A2.out).mono ?_); rintro e w7 ⟨rfl, hb⟩; refine ⟨_, rfl, ?_⟩; replace an := zp.mk (zl (zv8 an.out) hb); replace aC := zp.mk (zl (zv8 aC.out) hb); replace HB := zp.mk (zj (zv7 HB.out) hb); (try clear hb); (try clear hb2); (try clear hk); (try clear hi); have bs := zt0 aC.out; have bw := zt1 aC.out; have bn := zd aC.out 0; have bo := zd aC.out 1))
 refine bodyPost_ret (results_cell_row rfl _ _ bh 30 #[.int .i64 br, .int .u64 bI] (0, 0) _ rfl (by (with_reducible repeat (first | refine zf ?_ _ | refine zi ?_ | refine zg ?_ _)); refine blk_put (cs := #[.int .i64 br, .int .u64 0]) ?_ 1 _ rfl; (with_reducible repeat (first | refine zf ?_ _ | refine zi ?_ | refine zg ?_ _)); refine blk_put (cs := #[.int .i64 0, .int .u64 0]) ?_ 0 _ rfl; (with_reducible repeat (first | refine zf ?_ _ | refine zi ?_ | refine zg ?_ _)); exact aC.out) Try.underlying30 rfl (by kernel_rfl)) rfl ?_
 exact ⟨by first | rfl | (simp [errW_none, errW_some] <;> rfl) | (simp [*, errW_none, errW_some] <;> rfl), zv7 HB.out⟩

/-! ### spec_l03Times: function 45 -/
mutual
def spec_l03Times.j0 : Nat → Int → Int → Int → Int → Int → Option (Int × Int)
 | 0, _, _, _, _, _ => none
 | k + 1, x7, x181000, x181001, x184000, x184001 => spec_l03Times.l0 k x7 x181000 x181001 x184000 x184001
def spec_l03Times.l0 : Nat → Int → Int → Int → Int → Int → Option (Int × Int)
 | 0, _, _, _, _, _ => none
 | k + 1, x7, x181000, x181001, x184000, x184001 => if x7 > 0 then (if (Int.tmod x7 2) = 1 then ((spec_WideAdd.f x181000 x181001 x184000 x184001).bind fun bN => ((spec_WideAdd.f x184000 x184001 x184000 x184001).bind fun aQ => (spec_l03Times.l0 k (IntKind.u64.wrap (Int.tdiv x7 2)) bN.1 bN.2 aQ.1 aQ.2))) else ((spec_WideAdd.f x184000 x184001 x184000 x184001).bind fun bA => (spec_l03Times.l0 k (IntKind.u64.wrap (Int.tdiv x7 2)) x181000 x181001 bA.1 bA.2))) else (some (x181000, x181001))
end
def spec_l03Times.f (k : Nat) (a0 : Int) (a1 : Int) : Option (Int × Int) := (spec_WideOf.f a0).bind fun ap => (if a1 < 0 then ((spec_WideNeg.f ap.1 ap.2).bind fun ar => (spec_l03Times.j0 k (IntKind.u64.wrap (-(IntKind.u64.wrap (a1)))) 0 0 ar.1 ar.2)) else (spec_l03Times.j0 k (IntKind.u64.wrap (a1)) 0 0 ap.1 ap.2))
set_option maxHeartbeats 8000000 in
set_option maxRecDepth 100000 in
theorem spec_l03Times.calls (k : Nat) (a0 : Int) (a1 : Int) (r1 : Int) (r2 : Int) (w : World) (h : spec_l03Times.f k a0 a1 = some (r1, r2)) :
  Calls Try.prog 45 #[.int .i64 a0, .int .i64 a1] w fun e w' => e = .returned (.agg #[.int .i64 r1, .int .u64 r2]) ∧ Below w.heap.size w w' := by
 have bb := Try.underlying30
 have HB := zp.mk (Below.refl w.heap.size w)
 have H : ((spec_WideOf.f a0).bind fun ap => (if a1 < 0 then ((spec_WideNeg.f ap.1 ap.2).bind fun ar => (spec_l03Times.j0 k (IntKind.u64.wrap (-(IntKind.u64.wrap (a1)))) 0 0 ar.1 ar.2)) else (spec_l03Times.j0 k (IntKind.u64.wrap (a1)) 0 0 ap.1 ap.2))) = some (r1, r2) := h
 clear h
 replace H := zs4 H
 obtain ⟨⟨av, aI⟩, bO, H⟩ := H
 replace H : (if a1 < 0 then ((spec_WideNeg.f av aI).bind fun ar => (spec_l03Times.j0 k (IntKind.u64.wrap (-(IntKind.u64.wrap (a1)))) 0 0 ar.1 ar.2)) else (spec_l03Times.j0 k (IntKind.u64.wrap (a1)) 0 0 av aI)) = some (r1, r2) := H
 have A3 := zp.mk bO
 clear bO
 have ci := zp.mk H
 clear H
 go_enter Try.func45, Try.ntmps45
 go_upto_if 14 with (first | ((with_reducible refine zo (N := 4) rfl ?_); refine zm ?hg (N := 4) ?hd (cs := #[.int .i64 0, .int .u64 0]) (t := 30) ?hr ?_; (case hd => rfl); (case hg => rfl); (case hr => first | (go_simp; done) | (go_simp; rfl)); intro af hg w5 hbox hb; have X := zp.mk (hbox); have dJ := zp.mk ((zv3 (zv6 HB.out) hg)); have dy := zp.mk ((zv3 (zv6 HB.out) hg)); replace HB := zp.mk (zj (zv6 HB.out) hb); clear hb hbox hg) | ((with_reducible refine zo (N := 5) rfl ?_); refine zm ?hg (N := 5) ?hd (cs := #[.int .i64 0, .int .u64 0]) (t := 30) ?hr ?_; (case hd => rfl); (case hg => rfl); (case hr => first | (go_simp; done) | (go_simp; rfl)); intro aj hg w6 hbox hb; have J := zp.mk (hbox); have ej := zp.mk ((zv3 (zv7 HB.out) hg)); have eN := zp.mk ((zv3 (zv7 HB.out) hg)); have ad := zp.mk ((by rw [hg]; exact Nat.ne_of_lt (blk_lt (g := af) (o := .cells #[.int .i64 0, .int .u64 0] 30 (0, 0)) (zv8 X.out)) : af ≠ aj)); have ax := zp.mk ((by rw [hg]; exact Nat.ne_of_gt (blk_lt (g := af) (o := .cells #[.int .i64 0, .int .u64 0] 30 (0, 0)) (zv8 X.out)) : aj ≠ af)); replace X := zp.mk (zl (zv8 X.out) hb); replace HB := zp.mk (zj (zv7 HB.out) hb); clear hb hbox hg; have b2 := ax.out; have b0 := ad.out; have bs := zt0 J.out; have bw := zt1 J.out; have bn := zd J.out 0; have bo := zd J.out 1) | ((with_reducible refine zn (f := 30) rfl ?_); refine goesL_ (some 10) rfl rfl Try.func30 (by kernel_rfl) rfl #[.int .i64 a0] rfl (by (try simp only [List.map_toArray, List.map_cons, List.map_nil]); first | done | rfl | (simp only [List.length_drop, List.length_take]; rfl)) ?_; (with_reducible refine (spec_WideOf.calls a0 av aI _ A3.out).mono ?_); rintro e w9 ⟨rfl, hb⟩; refine ⟨_, rfl, ?_⟩; replace X := zp.mk (zl (g := af) (o := .cells #[.int .i64 0, .int .u64 0] 30 (0, 0)) (by (with_reducible repeat (first | refine zf ?_ _ | refine zi ?_ | refine zg ?_ _)); refine blk_far ?_ ad.out _; (with_reducible repeat (first | refine zf ?_ _ | refine zi ?_ | refine zg ?_ _)); refine blk_far ?_ ad.out _; (with_reducible repeat (first | refine zf ?_ _ | refine zi ?_ | refine zg ?_ _)); exact X.out) hb); replace J := zp.mk (zl (g := aj) (o := .cells #[.int .i64 0, .int .u64 0] 30 (0, 0)) (by (with_reducible repeat (first | refine zf ?_ _ | refine zi ?_ | refine zg ?_ _)); refine blk_put (cs := #[.int .i64 0, .int .u64 0]) ?_ 1 _ rfl; (with_reducible repeat (first | refine zf ?_ _ | refine zi ?_ | refine zg ?_ _)); refine blk_put (cs := #[.int .i64 0, .int .u64 0]) ?_ 0 _ rfl; (with_reducible repeat (first | refine zf ?_ _ | refine zi ?_ | refine zg ?_ _)); exact J.out) hb); replace HB := zp.mk (zj (zv7 HB.out) hb); (try clear hb); (try clear hb2); (try clear hk); (try clear hi)) | ((with_reducible refine zo (N := 6) rfl ?_); refine zm ?hg (N := 6) ?hd (cs := #[.int .i64 0, .int .u64 0]) (t := 30) ?hr ?_; (case hd => rfl); (case hg => rfl); (case hr => first | (go_simp; done) | (go_simp; rfl)); intro au hg e0 hbox hb; have B := zp.mk (hbox); have dX := zp.mk ((zv3 (zv7 HB.out) hg)); have dW := zp.mk ((zv3 (zv7 HB.out) hg)); have U := zp.mk ((by rw [hg]; exact Nat.ne_of_lt (blk_lt (g := af) (o := .cells #[.int .i64 0, .int .u64 0] 30 (0, 0)) (zv8 X.out)) : af ≠ au)); have ai := zp.mk ((by rw [hg]; exact Nat.ne_of_gt (blk_lt (g := af) (o := .cells #[.int .i64 0, .int .u64 0] 30 (0, 0)) (zv8 X.out)) : au ≠ af)); have T := zp.mk ((by rw [hg]; exact Nat.ne_of_lt (blk_lt (g := aj) (o := .cells #[.int .i64 0, .int .u64 0] 30 (0, 0)) (zv8 J.out)) : aj ≠ au)); have ac := zp.mk ((by rw [hg]; exact Nat.ne_of_gt (blk_lt (g := aj) (o := .cells #[.int .i64 0, .int .u64 0] 30 (0, 0)) (zv8 J.out)) : au ≠ aj)); replace X := zp.mk (zl (zv8 X.out) hb); replace J := zp.mk (zl (zv8 J.out) hb); replace HB := zp.mk (zj (zv7 HB.out) hb); clear hb hbox hg; have eK := ai.out; have cI := U.out; have el := ac.out; have d3 := T.out; have bM := zt0 B.out; have bP := zt1 B.out; have bK := zd B.out 0; have bE := zd B.out 1))
 (try simp only [Act.put, zs1, zs2, zs3])
 go_cut [7] (fun v7 wc => ∃ (kq : Nat) (bv : Int) (aq : Int) (ao : Int), v7 = .int .u64 bv ∧ zp (spec_l03Times.j0 kq bv 0 0 aq ao = some (r1, r2)) ∧ zp (kq ≤ k) ∧ zp (wc.heap[af]? = some (.cells #[.int .i64 0, .int .u64 0] 30 (0, 0))) ∧ zp (wc.heap[aj]? = some (.cells #[.int .i64 0, .int .u64 0] 30 (0, 0))) ∧ zp (wc.heap[au]? = some (.cells #[.int .i64 aq, .int .u64 ao] 30 (0, 0))) ∧ zp (Below w.heap.size w wc))
 case first =>
  have H := ci.out
  clear ci
  by_cases a9 : a1 < 0
  ·rw [if_pos a9] at H
   have aw : decide (a1 < 0) = true := decide_eq_true a9
   clear a9
   (first | rw [aw] | (simp only [i64_w, i32_w]; rw [aw]) | skip)
   replace H := zs4 H
   obtain ⟨⟨bx, bL⟩, bV, H⟩ := H
   replace H : (spec_l03Times.j0 k (IntKind.u64.wrap (-(IntKind.u64.wrap (a1)))) 0 0 bx bL) = some (r1, r2) := H
   have d5 := zp.mk bV
   clear bV
   have H' := zp.mk H
   clear H
   have ch := ai.out
   have cc := U.out
   have cn := ac.out
   have co := T.out
   have be := zt0 B.out
   have bi := zt1 B.out
   have bk := zd B.out 0
   have bd := zd B.out 1
   go_wp2_with (first | ((with_reducible refine zn (f := 55) rfl ?_); refine goesL_ (some 16) rfl rfl Try.func55 (by kernel_rfl) rfl #[.agg #[.int .i64 av, .int .u64 aI]] rfl (by (try simp only [List.map_toArray, List.map_cons, List.map_nil]); first | done | rfl | (simp only [List.length_drop, List.length_take]; rfl)) ?_; (with_reducible refine (spec_WideNeg.calls av aI bx bL _ d5.out).mono ?_); rintro e ff ⟨rfl, hb⟩; refine ⟨_, rfl, ?_⟩; replace X := zp.mk (zl (g := af) (o := .cells #[.int .i64 0, .int .u64 0] 30 (0, 0)) (by (with_reducible repeat (first | refine zf ?_ _ | refine zi ?_ | refine zg ?_ _)); refine blk_far ?_ U.out _; (with_reducible repeat (first | refine zf ?_ _ | refine zi ?_ | refine zg ?_ _)); refine blk_far ?_ U.out _; (with_reducible repeat (first | refine zf ?_ _ | refine zi ?_ | refine zg ?_ _)); exact X.out) hb); replace J := zp.mk (zl (g := aj) (o := .cells #[.int .i64 0, .int .u64 0] 30 (0, 0)) (by (with_reducible repeat (first | refine zf ?_ _ | refine zi ?_ | refine zg ?_ _)); refine blk_far ?_ T.out _; (with_reducible repeat (first | refine zf ?_ _ | refine zi ?_ | refine zg ?_ _)); refine blk_far ?_ T.out _; (with_reducible repeat (first | refine zf ?_ _ | refine zi ?_ | refine zg ?_ _)); exact J.out) hb); replace B := zp.mk (zl (g := au) (o := .cells #[.int .i64 av, .int .u64 aI] 30 (0, 0)) (by (with_reducible repeat (first | refine zf ?_ _ | refine zi ?_ | refine zg ?_ _)); refine blk_put (cs := #[.int .i64 av, .int .u64 0]) ?_ 1 _ rfl; (with_reducible repeat (first | refine zf ?_ _ | refine zi ?_ | refine zg ?_ _)); refine blk_put (cs := #[.int .i64 0, .int .u64 0]) ?_ 0 _ rfl; (with_reducible repeat (first | refine zf ?_ _ | refine zi ?_ | refine zg ?_ _)); exact B.out) hb); replace HB := zp.mk (zj (zv7 HB.out) hb); (try clear hb); (try clear hb2); (try clear hk); (try clear hi); have a6 := zt0 B.out; have a7 := zt1 B.out; have a2 := zd B.out 0; have aZ := zd B.out 1))
   go_meet
   case rel => exact ⟨_, (IntKind.u64.wrap (-(IntKind.u64.wrap (a1)))), (bx), (bL), (by first | rfl | (simp; done) | (simp [*]; done)), H', ⟨by first | omega | exact Nat.le_refl _⟩, ⟨by (with_reducible repeat (first | refine zf ?_ _ | refine zi ?_ | refine zg ?_ _)); refine blk_far ?_ U.out _; (with_reducible repeat (first | refine zf ?_ _ | refine zi ?_ | refine zg ?_ _)); refine blk_far ?_ U.out _; (with_reducible repeat (first | refine zf ?_ _ | refine zi ?_ | refine zg ?_ _)); exact X.out⟩, ⟨by (with_reducible repeat (first | refine zf ?_ _ | refine zi ?_ | refine zg ?_ _)); refine blk_far ?_ T.out _; (with_reducible repeat (first | refine zf ?_ _ | refine zi ?_ | refine zg ?_ _)); refine blk_far ?_ T.out _; (with_reducible repeat (first | refine zf ?_ _ | refine zi ?_ | refine zg ?_ _)); exact J.out⟩, ⟨by (with_reducible repeat (first | refine zf ?_ _ | refine zi ?_ | refine zg ?_ _)); refine blk_put (cs := #[.int .i64 bx, .int .u64 aI]) ?_ 1 _ rfl; (with_reducible repeat (first | refine zf ?_ _ | refine zi ?_ | refine zg ?_ _)); refine blk_put (cs := #[.int .i64 av, .int .u64 aI]) ?_ 0 _ rfl; (with_reducible repeat (first | refine zf ?_ _ | refine zi ?_ | refine zg ?_ _)); exact B.out⟩, ⟨zv7 HB.out⟩⟩
  ·rw [if_neg a9] at H
   have aw : decide (a1 < 0) = false := decide_eq_false a9
   clear a9
   (first | rw [aw] | (simp only [i64_w, i32_w]; rw [aw]) | skip)
   have H' := zp.mk H
   clear H
   go_wp2
   go_meet
   case rel => exact ⟨_, (IntKind.u64.wrap (a1)), (av), (aI), (by first | rfl | (simp; done) | (simp [*]; done)), H', ⟨by first | omega | exact Nat.le_refl _⟩, ⟨by (with_reducible repeat (first | refine zf ?_ _ | refine zi ?_ | refine zg ?_ _)); refine blk_far ?_ U.out _; (with_reducible repeat (first | refine zf ?_ _ | refine zi ?_ | refine zg ?_ _)); refine blk_far ?_ U.out _; (with_reducible repeat (first | refine zf ?_ _ | refine zi ?_ | refine zg ?_ _)); exact X.out⟩, ⟨by (with_reducible repeat (first | refine zf ?_ _ | refine zi ?_ | refine zg ?_ _)); refine blk_far ?_ T.out _; (with_reducible repeat (first | refine zf ?_ _ | refine zi ?_ | refine zg ?_ _)); refine blk_far ?_ T.out _; (with_reducible repeat (first | refine zf ?_ _ | refine zi ?_ | refine zg ?_ _)); exact J.out⟩, ⟨by (with_reducible repeat (first | refine zf ?_ _ | refine zi ?_ | refine zg ?_ _)); refine blk_put (cs := #[.int .i64 av, .int .u64 0]) ?_ 1 _ rfl; (with_reducible repeat (first | refine zf ?_ _ | refine zi ?_ | refine zg ?_ _)); refine blk_put (cs := #[.int .i64 0, .int .u64 0]) ?_ 0 _ rfl; (with_reducible repeat (first | refine zf ?_ _ | refine zi ?_ | refine zg ?_ _)); exact B.out⟩, ⟨zv7 HB.out⟩⟩
 case rest =>
  clear ci
  try clear c1
  try clear p2
  try clear c3
  try clear c4
  try clear c5
  try clear c7
  try clear c11
  try clear c12
  try clear a9
  try clear aw
  try clear c16
  try clear c17
  try clear bM
  try clear bP
  try clear be
  try clear bi
  try clear a6
  try clear a7
  try clear bs
  try clear bw
  try clear bK
  try clear bE
  try clear bk
  try clear bd
  try clear a2
  try clear aZ
  try clear bn
  try clear bo
  obtain ⟨kq, bv, aq, ao, rfl, HA, bQ, X, J, B, HB⟩ := hcut
  cases kq with
  | zero => exact absurd HA.out (by simp [spec_l03Times.j0])
  | succ kj3 =>
   have H := HA.out
   clear HA
   simp only [spec_l03Times.j0] at H
   have H' := zp.mk H
   clear H
   go_wp2
   go_loopg [7] kj3 (fun kq v7 w' => ∃ (ah : Int) (x : Int) (u : Int) (O : Int) (I : Int), v7 = .int .u64 ah ∧ zp (spec_l03Times.l0 kq ah x u O I = some (r1, r2)) ∧ zp (kq ≤ kj3) ∧ zp (w'.heap[af]? = some (.cells #[.int .i64 0, .int .u64 0] 30 (0, 0))) ∧ zp (w'.heap[aj]? = some (.cells #[.int .i64 x, .int .u64 u] 30 (0, 0))) ∧ zp (w'.heap[au]? = some (.cells #[.int .i64 O, .int .u64 I] 30 (0, 0))) ∧ zp (Below w.heap.size w w'))
   case atStart => exact ⟨(bv), (0), (0), (aq), (ao), (by first | rfl | (simp; done) | (simp [*]; done)), H', ⟨Nat.le_refl _⟩, ⟨zv8 X.out⟩, ⟨zv8 J.out⟩, ⟨zv8 B.out⟩, ⟨zv7 HB.out⟩⟩
   case round =>
    clear H'
    try clear c1
    try clear p2
    try clear c3
    try clear c4
    try clear c5
    try clear c7
    try clear c11
    try clear c12
    try clear a9
    try clear aw
    try clear c16
    try clear c17
    try clear bM
    try clear bP
    try clear be
    try clear bi
    try clear a6
    try clear a7
    try clear bs
    try clear bw
    try clear bK
    try clear bE
    try clear bk
    try clear bd
    try clear a2
    try clear aZ
    try clear bn
    try clear bo
    try clear p2
    obtain ⟨ah, x, u, O, I, rfl, HA, bR, X, J, B, HB⟩ := hrel
    cases gk with
    | zero => exact absurd HA.out (by simp [spec_l03Times.l0])
    | succ k2 =>
     have H := HA.out
     clear HA
     simp only [spec_l03Times.l0] at H
     by_cases aJ : ah > 0
     ·rw [if_pos aJ] at H
      have bl : decide (0 < ah) = true := decide_eq_true aJ
      clear aJ
      by_cases bg : (Int.tmod ah 2) = 1
      ·rw [if_pos bg] at H
       have ck : ((Int.tmod ah 2) == 1) = true := beq_iff_eq.mpr bg
       have cp : ((Int.tmod ah 2) != 1) = false := bne_eq_false_iff_eq.mpr bg
       clear bg
       replace H := zs4 H
       obtain ⟨⟨aW, ba⟩, bW, H⟩ := H
       replace H : ((spec_WideAdd.f O I O I).bind fun aQ => (spec_l03Times.l0 k2 (IntKind.u64.wrap (Int.tdiv ah 2)) aW ba aQ.1 aQ.2)) = some (r1, r2) := H
       have d9 := zp.mk bW
       clear bW
       replace H := zs4 H
       obtain ⟨⟨bp, bB⟩, bU, H⟩ := H
       replace H : (spec_l03Times.l0 k2 (IntKind.u64.wrap (Int.tdiv ah 2)) aW ba bp bB) = some (r1, r2) := H
       have de := zp.mk bU
       clear bU
       have H' := zp.mk H
       clear H
       have dr := ax.out
       have dV := ad.out
       have eC := T.out
       have cU := ac.out
       have d0 := zt0 J.out
       have dO := zt1 J.out
       have cX := zd J.out 0
       have dC := zd J.out 1
       have dB := ai.out
       have eH := U.out
       have dp := zt0 B.out
       have eL := zt1 B.out
       have eD := zd B.out 0
       have dR := zd B.out 1
       go_wp2_with (first | ((with_reducible refine zn (f := 29) rfl ?_); refine goesL_ (some 26) rfl rfl Try.func29 (by kernel_rfl) rfl #[.agg #[.int .i64 x, .int .u64 u], .agg #[.int .i64 O, .int .u64 I]] rfl (by (try simp only [List.map_toArray, List.map_cons, List.map_nil]); first | done | rfl | (simp only [List.length_drop, List.length_take]; rfl)) ?_; (with_reducible refine (spec_WideAdd.calls x u O I aW ba _ d9.out).mono ?_); rintro e e1 ⟨rfl, hb⟩; refine ⟨_, rfl, ?_⟩; replace X := zp.mk (zl (zv8 X.out) hb); replace J := zp.mk (zl (zv8 J.out) hb); replace B := zp.mk (zl (zv8 B.out) hb); replace HB := zp.mk (zj (zv7 HB.out) hb); (try clear hb); (try clear hb2); (try clear hk); (try clear hi); have b5 := zt0 J.out; have cf := zt1 J.out; have cj := zd J.out 0; have cb := zd J.out 1; have dd := zt0 B.out; have dK := zt1 B.out; have eu := zd B.out 0; have d6 := zd B.out 1) | ((with_reducible refine zn (f := 29) rfl ?_); refine goesL_ (some 29) rfl rfl Try.func29 (by kernel_rfl) rfl #[.agg #[.int .i64 O, .int .u64 I], .agg #[.int .i64 O, .int .u64 I]] rfl (by (try simp only [List.map_toArray, List.map_cons, List.map_nil]); first | done | rfl | (simp only [List.length_drop, List.length_take]; rfl)) ?_; (with_reducible refine (spec_WideAdd.calls O I O I bp bB _ de.out).mono ?_); rintro e fa ⟨rfl, hb⟩; refine ⟨_, rfl, ?_⟩; replace X := zp.mk (zl (g := af) (o := .cells #[.int .i64 0, .int .u64 0] 30 (0, 0)) (by (with_reducible repeat (first | refine zf ?_ _ | refine zi ?_ | refine zg ?_ _)); refine blk_far ?_ ad.out _; (with_reducible repeat (first | refine zf ?_ _ | refine zi ?_ | refine zg ?_ _)); refine blk_far ?_ ad.out _; (with_reducible repeat (first | refine zf ?_ _ | refine zi ?_ | refine zg ?_ _)); exact X.out) hb); replace J := zp.mk (zl (g := aj) (o := .cells #[.int .i64 aW, .int .u64 ba] 30 (0, 0)) (by (with_reducible repeat (first | refine zf ?_ _ | refine zi ?_ | refine zg ?_ _)); refine blk_put (cs := #[.int .i64 aW, .int .u64 u]) ?_ 1 _ rfl; (with_reducible repeat (first | refine zf ?_ _ | refine zi ?_ | refine zg ?_ _)); refine blk_put (cs := #[.int .i64 x, .int .u64 u]) ?_ 0 _ rfl; (with_reducible repeat (first | refine zf ?_ _ | refine zi ?_ | refine zg ?_ _)); exact J.out) hb); replace B := zp.mk (zl (g := au) (o := .cells #[.int .i64 O, .int .u64 I] 30 (0, 0)) (by (with_reducible repeat (first | refine zf ?_ _ | refine zi ?_ | refine zg ?_ _)); refine blk_far ?_ ac.out _; (with_reducible repeat (first | refine zf ?_ _ | refine zi ?_ | refine zg ?_ _)); refine blk_far ?_ ac.out _; (with_reducible repeat (first | refine zf ?_ _ | refine zi ?_ | refine zg ?_ _)); exact B.out) hb); replace HB := zp.mk (zj (zv7 HB.out) hb); (try clear hb); (try clear hb2); (try clear hk); (try clear hi); have dP := zt0 B.out; have dA := zt1 B.out; have dc := zd B.out 0; have es := zd B.out 1))
       go_roundg k2
       case measure => have := bQ.out; have := bR.out; omega
       case rel => exact ⟨(IntKind.u64.wrap (Int.tdiv ah 2)), (aW), (ba), (bp), (bB), (by first | rfl | (simp; done) | (simp [*]; done)), H', ⟨by have := bQ.out; have := bR.out; omega⟩, ⟨by (with_reducible repeat (first | refine zf ?_ _ | refine zi ?_ | refine zg ?_ _)); refine blk_far ?_ U.out _; (with_reducible repeat (first | refine zf ?_ _ | refine zi ?_ | refine zg ?_ _)); refine blk_far ?_ U.out _; (with_reducible repeat (first | refine zf ?_ _ | refine zi ?_ | refine zg ?_ _)); exact X.out⟩, ⟨by (with_reducible repeat (first | refine zf ?_ _ | refine zi ?_ | refine zg ?_ _)); refine blk_far ?_ T.out _; (with_reducible repeat (first | refine zf ?_ _ | refine zi ?_ | refine zg ?_ _)); refine blk_far ?_ T.out _; (with_reducible repeat (first | refine zf ?_ _ | refine zi ?_ | refine zg ?_ _)); exact J.out⟩, ⟨by (with_reducible repeat (first | refine zf ?_ _ | refine zi ?_ | refine zg ?_ _)); refine blk_put (cs := #[.int .i64 bp, .int .u64 I]) ?_ 1 _ rfl; (with_reducible repeat (first | refine zf ?_ _ | refine zi ?_ | refine zg ?_ _)); refine blk_put (cs := #[.int .i64 O, .int .u64 I]) ?_ 0 _ rfl; (with_reducible repeat (first | refine zf ?_ _ | refine zi ?_ | refine zg ?_ _)); exact B.out⟩, ⟨zv7 HB.out⟩⟩
      ·rw [if_neg bg] at H
       have ck : ((Int.tmod ah 2) == 1) = false := beq_eq_false_iff_ne.mpr bg
       have cp : ((Int.tmod ah 2) != 1) = true := bne_iff_ne.mpr bg
       replace H := zs4 H
       obtain ⟨⟨bu, bz⟩, b1, H⟩ := H
       replace H : (spec_l03Times.l0 k2 (IntKind.u64.wrap (Int.tdiv ah 2)) x u bu bz) = some (r1, r2) := H
       have dG := zp.mk b1
       clear b1
       have H' := zp.mk H
       clear H
       have d8 := ai.out
       have di := U.out
       have dg := ac.out
       have dt := T.out
       have dH := zt0 B.out
       have dm := zt1 B.out
       have eG := zd B.out 0
       have ez := zd B.out 1
       go_wp2_with (first | ((with_reducible refine zn (f := 29) rfl ?_); refine goesL_ (some 29) rfl rfl Try.func29 (by kernel_rfl) rfl #[.agg #[.int .i64 O, .int .u64 I], .agg #[.int .i64 O, .int .u64 I]] rfl (by (try simp only [List.map_toArray, List.map_cons, List.map_nil]); first | done | rfl | (simp only [List.length_drop, List.length_take]; rfl)) ?_; (with_reducible refine (spec_WideAdd.calls O I O I bu bz _ dG.out).mono ?_); rintro e eY ⟨rfl, hb⟩; refine ⟨_, rfl, ?_⟩; replace X := zp.mk (zl (zv8 X.out) hb); replace J := zp.mk (zl (zv8 J.out) hb); replace B := zp.mk (zl (zv8 B.out) hb); replace HB := zp.mk (zj (zv7 HB.out) hb); (try clear hb); (try clear hb2); (try clear hk); (try clear hi); have eM := zt0 B.out; have dz := zt1 B.out; have eB := zd B.out 0; have d7 := zd B.out 1))
       go_roundg k2
       case measure => have := bQ.out; have := bR.out; omega
       case rel => exact ⟨(IntKind.u64.wrap (Int.tdiv ah 2)), (x), (u), (bu), (bz), (by first | rfl | (simp; done) | (simp [*]; done)), H', ⟨by have := bQ.out; have := bR.out; omega⟩, ⟨by (with_reducible repeat (first | refine zf ?_ _ | refine zi ?_ | refine zg ?_ _)); refine blk_far ?_ U.out _; (with_reducible repeat (first | refine zf ?_ _ | refine zi ?_ | refine zg ?_ _)); refine blk_far ?_ U.out _; (with_reducible repeat (first | refine zf ?_ _ | refine zi ?_ | refine zg ?_ _)); exact X.out⟩, ⟨by (with_reducible repeat (first | refine zf ?_ _ | refine zi ?_ | refine zg ?_ _)); refine blk_far ?_ T.out _; (with_reducible repeat (first | refine zf ?_ _ | refine zi ?_ | refine zg ?_ _)); refine blk_far ?_ T.out _; (with_reducible repeat (first | refine zf ?_ _ | refine zi ?_ | refine zg ?_ _)); exact J.out⟩, ⟨by (with_reducible repeat (first | refine zf ?_ _ | refine zi ?_ | refine zg ?_ _)); refine blk_put (cs := #[.int .i64 bu, .int .u64 I]) ?_ 1 _ rfl; (with_reducible repeat (first | refine zf ?_ _ | refine zi ?_ | refine zg ?_ _)); refine blk_put (cs := #[.int .i64 O, .int .u64 I]) ?_ 0 _ rfl; (with_reducible repeat (first | refine zf ?_ _ | refine zi ?_ | refine zg ?_ _)); exact B.out⟩, ⟨zv7 HB.out⟩⟩
     ·rw [if_neg aJ] at H
      have bl : decide (0 < ah) = false := decide_eq_false aJ
      clear aJ
      simp only [Option.some.injEq, Prod.mk.injEq] at H
      obtain ⟨rfl, rfl⟩ := H
      have eF := ax.out
      have cS := ad.out
      have d4 := T.out
      have ed := ac.out
      have ew := zt0 J.out
      have dS := zt1 J.out
      have dY := zd J.out 0
      have cV := zd J.out 1
      have ea := U.out
      have dk := ai.out
      have da := zt0 X.out
      have cN := zt1 X.out
      have eh := zd X.out 0
      have d2 := zd X.out 1
      go_wp2
      refine bodyPost_ret (results_cell_row rfl _ _ af 30 #[.int .i64 x, .int .u64 u] (0, 0) _ rfl (by (with_reducible repeat (first | refine zf ?_ _ | refine zi ?_ | refine zg ?_ _)); refine blk_put (cs := #[.int .i64 x, .int .u64 0]) ?_ 1 _ rfl; (with_reducible repeat (first | refine zf ?_ _ | refine zi ?_ | refine zg ?_ _)); refine blk_put (cs := #[.int .i64 0, .int .u64 0]) ?_ 0 _ rfl; (with_reducible repeat (first | refine zf ?_ _ | refine zi ?_ | refine zg ?_ _)); exact X.out) Try.underlying30 rfl (by kernel_rfl)) rfl ?_
      exact ⟨by first | rfl | (simp [errW_none, errW_some] <;> rfl) | (simp [*, errW_none, errW_some] <;> rfl), zv7 HB.out⟩

/-! ### spec_l07Times: function 31 -/
def spec_l07Times.f (k : Nat) (a0 : Int) (a1 : Int) : Option (Int × Int) := (spec_l03Times.f k a0 a1).bind fun aN => (some (aN.1, aN.2))
set_option maxHeartbeats 8000000 in
set_option maxRecDepth 100000 in
theorem spec_l07Times.calls (k : Nat) (a0 : Int) (a1 : Int) (r1 : Int) (r2 : Int) (w : World) (h : spec_l07Times.f k a0 a1 = some (r1, r2)) :
  Calls Try.prog 31 #[.int .i64 a0, .int .i64 a1] w fun e w' => e = .returned (.agg #[.int .i64 r1, .int .u64 r2]) ∧ Below w.heap.size w w' := by
 have bb := Try.underlying30
 have HB := zp.mk (Below.refl w.heap.size w)
 have H : ((spec_l03Times.f k a0 a1).bind fun aN => (some (aN.1, aN.2))) = some (r1, r2) := h
 clear h
 replace H := zs4 H
 obtain ⟨⟨bq, bF⟩, bO, H⟩ := H
 replace H : (some (bq, bF)) = some (r1, r2) := H
 have A3 := zp.mk bO
 clear bO
 simp only [Option.some.injEq, Prod.mk.injEq] at H
 obtain ⟨rfl, rfl⟩ := H
 go_enter Try.func31, Try.ntmps31
 go_wp2_with (first | ((with_reducible refine zo (N := 4) rfl ?_); refine zm ?hg (N := 4) ?hd (cs := #[.int .i64 0, .int .u64 0]) (t := 30) ?hr ?_; (case hd => rfl); (case hg => rfl); (case hr => first | (go_simp; done) | (go_simp; rfl)); intro b8 hg w4 hbox hb; have aA := zp.mk (hbox); have dQ := zp.mk ((zv3 (zv6 HB.out) hg)); have dw := zp.mk ((zv3 (zv6 HB.out) hg)); replace HB := zp.mk (zj (zv6 HB.out) hb); clear hb hbox hg) | ((with_reducible refine zn (f := 45) rfl ?_); refine goesL_ (some 7) rfl rfl Try.func45 (by kernel_rfl) rfl #[.int .i64 a0, .int .i64 a1] rfl (by (try simp only [List.map_toArray, List.map_cons, List.map_nil]); first | done | rfl | (simp only [List.length_drop, List.length_take]; rfl)) ?_; (with_reducible refine (spec_l03Times.calls k a0 a1 bq bF _ A3.out).mono ?_); rintro e w5 ⟨rfl, hb⟩; refine ⟨_, rfl, ?_⟩; replace aA := zp.mk (zl (zv8 aA.out) hb); replace HB := zp.mk (zj (zv7 HB.out) hb); (try clear hb); (try clear hb2); (try clear hk); (try clear hi); have bX := zt0 aA.out; have bY := zt1 aA.out; have bS := zd aA.out 0; have bZ := zd aA.out 1))
 refine bodyPost_ret (results_cell_row rfl _ _ b8 30 #[.int .i64 bq, .int .u64 bF] (0, 0) _ rfl (by (with_reducible repeat (first | refine zf ?_ _ | refine zi ?_ | refine zg ?_ _)); refine blk_put (cs := #[.int .i64 bq, .int .u64 0]) ?_ 1 _ rfl; (with_reducible repeat (first | refine zf ?_ _ | refine zi ?_ | refine zg ?_ _)); refine blk_put (cs := #[.int .i64 0, .int .u64 0]) ?_ 0 _ rfl; (with_reducible repeat (first | refine zf ?_ _ | refine zi ?_ | refine zg ?_ _)); exact aA.out) Try.underlying30 rfl (by kernel_rfl)) rfl ?_
 exact ⟨by first | rfl | (simp [errW_none, errW_some] <;> rfl) | (simp [*, errW_none, errW_some] <;> rfl), zv7 HB.out⟩

/-! ### spec_WideCmp: function 32 -/
def spec_WideCmp.f (D : Int) (A : Int) (Y : Int) (W : Int) : Option (Int) := if D = Y then (if A = W then (some 0) else (if A < W then (some (-1)) else (some 1))) else (if D < Y then (some (-1)) else (some 1))
set_option maxHeartbeats 8000000 in
set_option maxRecDepth 100000 in
theorem spec_WideCmp.calls (D : Int) (A : Int) (Y : Int) (W : Int) (r : Int) (w : World) (h : spec_WideCmp.f D A Y W = some r) :
  Calls Try.prog 32 #[.agg #[.int .i64 D, .int .u64 A], .agg #[.int .i64 Y, .int .u64 W]] w fun e w' => e = .returned (.int .i64 r) ∧ Below w.heap.size w w' := by
 have bb := Try.underlying30
 have HB := zp.mk (Below.refl w.heap.size w)
 have H : (if D = Y then (if A = W then (some 0) else (if A < W then (some (-1)) else (some 1))) else (if D < Y then (some (-1)) else (some 1))) = some r := h
 clear h
 by_cases c3 : D = Y
 ·rw [if_pos c3] at H
  have aX : (D == Y) = true := beq_iff_eq.mpr c3
  have bm : (D != Y) = false := bne_eq_false_iff_eq.mpr c3
  clear c3
  by_cases c4 : A = W
  ·rw [if_pos c4] at H
   have bD : (A == W) = true := beq_iff_eq.mpr c4
   have cz : (A != W) = false := bne_eq_false_iff_eq.mpr c4
   clear c4
   obtain rfl := Option.some.inj H
   go_enter Try.func32, Try.ntmps32
   go_wp2_with (first | ((with_reducible refine zo (N := 2) rfl ?_); refine zm ?hg (N := 2) ?hd (cs := #[.int .i64 D, .int .u64 A]) (t := 30) ?hr ?_; (case hd => rfl); (case hg => rfl); (case hr => first | (go_simp; done) | (go_simp; rfl)); intro q hg w5 hbox hb; have G := zp.mk (hbox); have a5 := zp.mk ((zv3 (zv6 HB.out) hg)); have a8 := zp.mk ((zv3 (zv6 HB.out) hg)); replace HB := zp.mk (zj (zv6 HB.out) hb); clear hb hbox hg) | ((with_reducible refine zo (N := 3) rfl ?_); refine zm ?hg (N := 3) ?hd (cs := #[.int .i64 Y, .int .u64 W]) (t := 30) ?hr ?_; (case hd => rfl); (case hg => rfl); (case hr => first | (go_simp; done) | (go_simp; rfl)); intro ae hg w6 hbox hb; have s := zp.mk (hbox); have a4 := zp.mk ((zv3 (zv7 HB.out) hg)); have a3 := zp.mk ((zv3 (zv7 HB.out) hg)); have z := zp.mk ((by rw [hg]; exact Nat.ne_of_lt (blk_lt (g := q) (o := .cells #[.int .i64 D, .int .u64 A] 30 (0, 0)) (zv8 G.out)) : q ≠ ae)); have y := zp.mk ((by rw [hg]; exact Nat.ne_of_gt (blk_lt (g := q) (o := .cells #[.int .i64 D, .int .u64 A] 30 (0, 0)) (zv8 G.out)) : ae ≠ q)); replace G := zp.mk (zl (zv8 G.out) hb); replace HB := zp.mk (zj (zv7 HB.out) hb); clear hb hbox hg; have b2 := z.out; have b0 := y.out; have bs := zt0 G.out; have bw := zt1 G.out; have bn := zd G.out 0; have bo := zd G.out 1; have cA := zt0 s.out; have cF := zt1 s.out; have cq := zd s.out 0; have cr := zd s.out 1))
   go_ret
   exact ⟨by first | rfl | (simp [errW_none, errW_some] <;> rfl) | (simp [*, errW_none, errW_some] <;> rfl), zv7 HB.out⟩
  ·rw [if_neg c4] at H
   have bD : (A == W) = false := beq_eq_false_iff_ne.mpr c4
   have cz : (A != W) = true := bne_iff_ne.mpr c4
   by_cases c10 : A < W
   ·rw [if_pos c10] at H
    have b7 : decide (A < W) = true := decide_eq_true c10
    clear c10
    obtain rfl := Option.some.inj H
    go_enter Try.func32, Try.ntmps32
    go_wp2_with (first | ((with_reducible refine zo (N := 2) rfl ?_); refine zm ?hg (N := 2) ?hd (cs := #[.int .i64 D, .int .u64 A]) (t := 30) ?hr ?_; (case hd => rfl); (case hg => rfl); (case hr => first | (go_simp; done) | (go_simp; rfl)); intro q hg e5 hbox hb; have G := zp.mk (hbox); have a5 := zp.mk ((zv3 (zv6 HB.out) hg)); have a8 := zp.mk ((zv3 (zv6 HB.out) hg)); replace HB := zp.mk (zj (zv6 HB.out) hb); clear hb hbox hg) | ((with_reducible refine zo (N := 3) rfl ?_); refine zm ?hg (N := 3) ?hd (cs := #[.int .i64 Y, .int .u64 W]) (t := 30) ?hr ?_; (case hd => rfl); (case hg => rfl); (case hr => first | (go_simp; done) | (go_simp; rfl)); intro ae hg e3 hbox hb; have s := zp.mk (hbox); have a4 := zp.mk ((zv3 (zv7 HB.out) hg)); have a3 := zp.mk ((zv3 (zv7 HB.out) hg)); have z := zp.mk ((by rw [hg]; exact Nat.ne_of_lt (blk_lt (g := q) (o := .cells #[.int .i64 D, .int .u64 A] 30 (0, 0)) (zv8 G.out)) : q ≠ ae)); have y := zp.mk ((by rw [hg]; exact Nat.ne_of_gt (blk_lt (g := q) (o := .cells #[.int .i64 D, .int .u64 A] 30 (0, 0)) (zv8 G.out)) : ae ≠ q)); replace G := zp.mk (zl (zv8 G.out) hb); replace HB := zp.mk (zj (zv7 HB.out) hb); clear hb hbox hg; have et := z.out; have cO := y.out; have ev := zt0 G.out; have ec := zt1 G.out; have d1 := zd G.out 0; have dT := zd G.out 1; have ey := zt0 s.out; have cK := zt1 s.out; have en := zd s.out 0; have eo := zd s.out 1))
    go_ret
    exact ⟨by first | rfl | (simp [errW_none, errW_some] <;> rfl) | (simp [*, errW_none, errW_some] <;> rfl), zv7 HB.out⟩
   ·rw [if_neg c10] at H
    have b7 : decide (A < W) = false := decide_eq_false c10
    clear c10
    obtain rfl := Option.some.inj H
    go_enter Try.func32, Try.ntmps32
    go_wp2_with (first | ((with_reducible refine zo (N := 2) rfl ?_); refine zm ?hg (N := 2) ?hd (cs := #[.int .i64 D, .int .u64 A]) (t := 30) ?hr ?_; (case hd => rfl); (case hg => rfl); (case hr => first | (go_simp; done) | (go_simp; rfl)); intro q hg e8 hbox hb; have G := zp.mk (hbox); have a5 := zp.mk ((zv3 (zv6 HB.out) hg)); have a8 := zp.mk ((zv3 (zv6 HB.out) hg)); replace HB := zp.mk (zj (zv6 HB.out) hb); clear hb hbox hg) | ((with_reducible refine zo (N := 3) rfl ?_); refine zm ?hg (N := 3) ?hd (cs := #[.int .i64 Y, .int .u64 W]) (t := 30) ?hr ?_; (case hd => rfl); (case hg => rfl); (case hr => first | (go_simp; done) | (go_simp; rfl)); intro ae hg e7 hbox hb; have s := zp.mk (hbox); have a4 := zp.mk ((zv3 (zv7 HB.out) hg)); have a3 := zp.mk ((zv3 (zv7 HB.out) hg)); have z := zp.mk ((by rw [hg]; exact Nat.ne_of_lt (blk_lt (g := q) (o := .cells #[.int .i64 D, .int .u64 A] 30 (0, 0)) (zv8 G.out)) : q ≠ ae)); have y := zp.mk ((by rw [hg]; exact Nat.ne_of_gt (blk_lt (g := q) (o := .cells #[.int .i64 D, .int .u64 A] 30 (0, 0)) (zv8 G.out)) : ae ≠ q)); replace G := zp.mk (zl (zv8 G.out) hb); replace HB := zp.mk (zj (zv7 HB.out) hb); clear hb hbox hg; have cZ := z.out; have cT := y.out; have db := zt0 G.out; have dN := zt1 G.out; have dF := zd G.out 0; have dq := zd G.out 1; have a6 := zt0 s.out; have a7 := zt1 s.out; have a2 := zd s.out 0; have aZ := zd s.out 1))
    go_ret
    exact ⟨by first | rfl | (simp [errW_none, errW_some] <;> rfl) | (simp [*, errW_none, errW_some] <;> rfl), zv7 HB.out⟩
 ·rw [if_neg c3] at H
  have aX : (D == Y) = false := beq_eq_false_iff_ne.mpr c3
  have bm : (D != Y) = true := bne_iff_ne.mpr c3
  by_cases aJ : D < Y
  ·rw [if_pos aJ] at H
   have bl : decide (D < Y) = true := decide_eq_true aJ
   clear aJ
   obtain rfl := Option.some.inj H
   go_enter Try.func32, Try.ntmps32
   go_wp2_with (first | ((with_reducible refine zo (N := 2) rfl ?_); refine zm ?hg (N := 2) ?hd (cs := #[.int .i64 D, .int .u64 A]) (t := 30) ?hr ?_; (case hd => rfl); (case hg => rfl); (case hr => first | (go_simp; done) | (go_simp; rfl)); intro q hg fb hbox hb; have G := zp.mk (hbox); have a5 := zp.mk ((zv3 (zv6 HB.out) hg)); have a8 := zp.mk ((zv3 (zv6 HB.out) hg)); replace HB := zp.mk (zj (zv6 HB.out) hb); clear hb hbox hg) | ((with_reducible refine zo (N := 3) rfl ?_); refine zm ?hg (N := 3) ?hd (cs := #[.int .i64 Y, .int .u64 W]) (t := 30) ?hr ?_; (case hd => rfl); (case hg => rfl); (case hr => first | (go_simp; done) | (go_simp; rfl)); intro ae hg fe hbox hb; have s := zp.mk (hbox); have a4 := zp.mk ((zv3 (zv7 HB.out) hg)); have a3 := zp.mk ((zv3 (zv7 HB.out) hg)); have z := zp.mk ((by rw [hg]; exact Nat.ne_of_lt (blk_lt (g := q) (o := .cells #[.int .i64 D, .int .u64 A] 30 (0, 0)) (zv8 G.out)) : q ≠ ae)); have y := zp.mk ((by rw [hg]; exact Nat.ne_of_gt (blk_lt (g := q) (o := .cells #[.int .i64 D, .int .u64 A] 30 (0, 0)) (zv8 G.out)) : ae ≠ q)); replace G := zp.mk (zl (zv8 G.out) hb); replace HB := zp.mk (zj (zv7 HB.out) hb); clear hb hbox hg; have eb := z.out; have dl := y.out; have dE := zt0 G.out; have cP := zt1 G.out; have dD := zd G.out 0; have er := zd G.out 1; have dh := zt0 s.out; have ef := zt1 s.out; have cR := zd s.out 0; have eg := zd s.out 1))
   go_ret
   exact ⟨by first | rfl | (simp [errW_none, errW_some] <;> rfl) | (simp [*, errW_none, errW_some] <;> rfl), zv7 HB.out⟩
  ·rw [if_neg aJ] at H
   have bl : decide (D < Y) = false := decide_eq_false aJ
   clear aJ
   obtain rfl := Option.some.inj H
   go_enter Try.func32, Try.ntmps32
   go_wp2_with (first | ((with_reducible refine zo (N := 2) rfl ?_); refine zm ?hg (N := 2) ?hd (cs := #[.int .i64 D, .int .u64 A]) (t := 30) ?hr ?_; (case hd => rfl); (case hg => rfl); (case hr => first | (go_simp; done) | (go_simp; rfl)); intro q hg e4 hbox hb; have G := zp.mk (hbox); have a5 := zp.mk ((zv3 (zv6 HB.out) hg)); have a8 := zp.mk ((zv3 (zv6 HB.out) hg)); replace HB := zp.mk (zj (zv6 HB.out) hb); clear hb hbox hg) | ((with_reducible refine zo (N := 3) rfl ?_); refine zm ?hg (N := 3) ?hd (cs := #[.int .i64 Y, .int .u64 W]) (t := 30) ?hr ?_; (case hd => rfl); (case hg => rfl); (case hr => first | (go_simp; done) | (go_simp; rfl)); intro ae hg fc hbox hb; have s := zp.mk (hbox); have a4 := zp.mk ((zv3 (zv7 HB.out) hg)); have a3 := zp.mk ((zv3 (zv7 HB.out) hg)); have z := zp.mk ((by rw [hg]; exact Nat.ne_of_lt (blk_lt (g := q) (o := .cells #[.int .i64 D, .int .u64 A] 30 (0, 0)) (zv8 G.out)) : q ≠ ae)); have y := zp.mk ((by rw [hg]; exact Nat.ne_of_gt (blk_lt (g := q) (o := .cells #[.int .i64 D, .int .u64 A] 30 (0, 0)) (zv8 G.out)) : ae ≠ q)); replace G := zp.mk (zl (zv8 G.out) hb); replace HB := zp.mk (zj (zv7 HB.out) hb); clear hb hbox hg; have em := z.out; have ek := y.out; have cM := zt0 G.out; have dM := zt1 G.out; have cQ := zd G.out 0; have eE := zd G.out 1; have b5 := zt0 s.out; have cf := zt1 s.out; have cj := zd s.out 0; have cb := zd s.out 1))
   go_ret
   exact ⟨by first | rfl | (simp [errW_none, errW_some] <;> rfl) | (simp [*, errW_none, errW_some] <;> rfl), zv7 HB.out⟩

end Go.Proofs.Ytnnahpmnkpmopaa.QFnExactAggJoin
