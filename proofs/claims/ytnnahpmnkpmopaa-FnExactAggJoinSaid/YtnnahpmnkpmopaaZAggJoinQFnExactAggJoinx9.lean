/- Proved: calls of the program come to the answers of the plain Lean functions that stand beside them. Each contract names its conditions. (Written by a program of this session, over the printer of the kit.) -/
import Derived.Test.YtnnahpmnkpmopaaZAggJoinQFnExactAggJoinx0
import Derived.Test.YtnnahpmnkpmopaaZAggJoinQFnExactAggJoinx6
namespace Go.Proofs.Ytnnahpmnkpmopaa.QFnExactAggJoin
open Go.RowKit Go.Proofs.YtnnahpmnkpmopaaW.PrintWords Go.Proofs.YtnnahpmnkpmopaaW.PrintLast Go.Proofs.YtnnahpmnkpmopaaW.PrintMore
attribute [local go_sem] max2_int min2_int max_two min_two max_three min_three max_four min_four   -- for this text's walks alone
set_option linter.unusedVariables false
set_option linter.unusedSimpArgs false

/-! ### slices_Clone_int_int: function 58 -/
theorem slices_Clone_int_int.info : (Try.prog.info? 3).map (fun i => (i.zero, i.size, i.bytes)) = some (some (.int .i64 0), 1, 8) := by kernel_rfl
def slices_Clone_int_int.f (l0 : List (Int)) : Option (List (Int)) := if l0.length * 8 ≤ 140737488355328 then some l0 else none
set_option maxHeartbeats 2000000 in
set_option maxRecDepth 100000 in
theorem slices_Clone_int_int.calls (A0 : Option Addr) (c0 : Nat) (l0 : List (Int)) (r : List (Int)) (w : World) (an : Kd.C (Kd.int .i64) w A0 l0.length l0) (aA : l0.length ≤ c0) (h : slices_Clone_int_int.f l0 = some r) :
  Calls Try.prog 58 #[.slice A0 l0.length c0] w fun e w' => ∃ aj : Value, e = .returned (aj) ∧ Kd.R (Kd.int .i64) 3 w' w.heap.size (fun _ => True) aj r ∧ Below w.heap.size w w' := by
 have q := fun (w : World) (a : Option Addr) (n c n' c' : Nat) => Lib.run_eql_slice_nil (P := Try.prog) w _ _ a n c n' c' Try.underlying25
 unfold slices_Clone_int_int.f at h
 by_cases hl : l0.length * 8 ≤ 140737488355328
 rotate_left
 ·rw [if_neg hl] at h
  cases h
 rw [if_pos hl] at h
 obtain rfl := Option.some.inj h
 clear h
 cases A0 with
 | none =>
  have h0 : l0 = [] := by
   rcases Nat.eq_zero_or_pos l0.length with h0 | h0
   ·exact List.eq_nil_of_length_eq_zero h0
   ·obtain ⟨ad, e, _⟩ := an.2.2 h0
    cases e
  subst h0
  clear an aA hl
  go_enter Try.func58, Try.ntmps58
  go_wp2
  go_ret
  exact ⟨_, rfl, Kd.R_nil _ _ _ _ _, Below.refl _ _⟩
 | some ad =>
  have ap := zp.mk an
  have LM := zp.mk hl
  have HB := zp.mk (Below.refl w.heap.size w)
  clear an aA hl
  have hu := Try.underlying25
  go_enter Try.func58, Try.ntmps58
  go_wp2_with (first | ((with_reducible refine zo (N := 5) rfl ?_); refine Kd.R_lit (Kd.int .i64) _ 3 ?hg (N := 5) ?hd (xs := ([] : List (Int))) (inner := []) (ok := fun _ => True) (okp := fun _ => True) ?hr ?hp (fun _ hk => hk) trivial (Below.refl _ _) (Nat.le_refl _) (by simp) ?_; (case hd => rfl); (case hg => rfl); (case hr => first | (go_simp; done) | (go_simp; rfl)); (case hp => exact (Reps.none _ _)); intro v1 w1 bZ hb hg_ hnew_; clear hg_ hnew_; have HO := zp.mk (Kd.R_lower bZ (zk (zv6 HB.out))); replace HB := zp.mk (zj (zv6 HB.out) hb); clear hb bZ) | ((with_reducible refine gate_builtin (b := .append) (xs := #[.tmp 5, .tmp 6]) rfl ?_); at_builtin; refine Kd.R_append_rows (Kd.int .i64) (w0 := w) w.heap.size rfl (.tmp 5) (.tmp 6) 25 3 (.int .i64 0) 8 rfl Try.underlying25 slices_Clone_int_int.info rfl (by decide) (by omega) v1 [] l0 _ _ _ (fun _ => True) (fun _ => False) rfl rfl ?aO ?aR (fun _ _ h => h) (fun _ h => h.elim) ?aF ?aB ?aS ?aL ?_; (case aR => repeat (first | exact (Kd.zt ap.out HB.out) | (with_reducible refine Kd.zr ?_ _) | (with_reducible refine Kd.zq ?_ _) | (with_reducible refine Kd.C_drew ?_))); (case aB => exact (zv6 HB.out)); (case aF => exact (fun _ _ => trivial)); (case aO => exact (by (with_reducible repeat (first | apply Kd.R_alloc | apply Kd.R_drewN | apply Kd.R_drew)); exact HO.out)); (case aS => exact (zk (zv6 HB.out))); (case aL => have := LM.out; simp; omega); intro v2 w2 ho hb hg hat; replace HB := zp.mk (hb); replace HO := zp.mk (ho); clear ho hb hg hat))
  go_ret
  have h5 := HO.out
  rw [List.nil_append] at h5
  exact ⟨_, rfl, h5, HB.out⟩

/-! ### impl_topOf: function 41 -/
def impl_topOf.f (l0 : List Int) : Option (List Int) := if l0.length * 8 ≤ 140737488355328 then some ((l0.mergeSort (fun x y => decide (x ≤ y))).reverse.take 4) else none
set_option maxHeartbeats 2000000 in
set_option maxRecDepth 100000 in
theorem impl_topOf.calls (A0 : Option Addr) (c0 : Nat) (l0 : List (Int)) (r : List (Int)) (w : World) (an : Kd.C (Kd.int .i64) w A0 l0.length l0) (aA : l0.length ≤ c0) (h : impl_topOf.f l0 = some r) :
  Calls Try.prog 41 #[.slice A0 l0.length c0] w fun e w' => ∃ aj : Value, e = .returned (aj) ∧ Kd.R (Kd.int .i64) 3 w' w.heap.size (fun _ => True) aj r ∧ Below w.heap.size w w' := by
 unfold impl_topOf.f at h
 by_cases hl : l0.length * 8 ≤ 140737488355328
 rotate_left
 ·rw [if_neg hl] at h
  cases h
 rw [if_pos hl] at h
 obtain ⟨ms, hms⟩ : ∃ ms, ms = l0.mergeSort (fun x y => decide (x ≤ y)) := ⟨_, rfl⟩
 have hml : ms.length = l0.length := by rw [hms]; exact List.length_mergeSort _
 obtain ⟨rs, hrs⟩ : ∃ rs, rs = ms.reverse := ⟨_, rfl⟩
 have hrl : ms.length = rs.length := by rw [hrs, List.length_reverse]
 rw [← hms, ← hrs] at h
 have h := Option.some.inj h
 obtain ⟨ji, hji⟩ : ∃ j : Int, min (rs.length : Int) 4 = j := ⟨_, rfl⟩
 have cm : (if (4 : Int) < (rs.length : Int) then (4 : Int) else (rs.length : Int)) = ji := by split <;> omega
 have bI : 0 ≤ ji := by omega
 have bF : ji ≤ rs.length := by omega
 have hjr : rs.take ji.toNat = r := by
  rw [← h]
  by_cases c : (4 : Int) < (rs.length : Int)
  ·rw [show ji = 4 by omega]; rfl
  ·rw [show ji = (rs.length : Int) by omega, Int.toNat_natCast, List.take_of_length_le (Nat.le_refl _), List.take_of_length_le (by omega)]
 have hread := Kd.reads_of_C (d := (0 : Int)) an
 have hc : 0 < l0.length → ∃ ad, A0 = some ad ∧ ∀ j, j < l0.length → w.cell? (ad.add j) = some (.int .i64 (l0[j]?.getD 0)) := fun h0 => by
  obtain ⟨ad, e, hcell⟩ := hread.2.2 h0
  exact ⟨ad, e, fun j hj => by rw [hcell j hj, List.getD_eq_getElem?_getD]⟩
 have cS := Iter.sorted_calls A0 c0 l0 w hl hc
 rw [← hms] at cS
 have HL := zp.mk (show rs.length * 8 ≤ 140737488355328 by omega)
 have HML := zp.mk hml
 have HRL := zp.mk hrl
 have HRS := zp.mk hrs
 have HJR := zp.mk hjr
 obtain ⟨i0, hi0, _, bn, _⟩ := info_parts slices_Clone_int_int.info
 have ch := zp.mk hi0
 have HSZ := zp.mk bn
 have HJ := zp.mk (And.intro bI bF)
 clear hread hc an aA h hl hms hml hrl hrs hjr hi0 bn bI bF
 go_enter Try.func41, Try.ntmps41
 go_wp2_with (first
  | (go_at_call 60; refine (Iter.values_calls A0 l0.length c0 w).mono ?_; rintro e w1 ⟨rfl, rfl⟩)
  | (go_at_call 59; refine cS.mono ?_; rintro e w2 ⟨v, rfl, hrow, aG⟩; clear cS; rw [← HML.out] at hrow; have hrev := Iter.reverse_calls v ms w.heap.size w2 (by have := HL.out; have := HRL.out; omega) hrow; clear hrow; have ci := zp.mk aG; clear aG)
  | (go_at_call 61; refine hrev.mono ?_; rintro e w3 ⟨rfl, al, bU⟩; clear hrev; rw [← HRS.out, HRL.out] at al; obtain ⟨A3, c3, rfl⟩ := own_slice al; have b6 := zp.mk (Kd.R_of_own (enc := Value.int .i64) (h1 := fun _ => rfl) (ok := fun _ => True) al (fun _ _ => trivial)); have hrd := (Kd.R_reads' b6.out).2; have bV := zp.mk (And.intro al bU); obtain ⟨hcut, hA, hC⟩ := print_take_of (P := Try.prog) (Value.int .i64) 0 25 3 .i64 Try.underlying25 ch.out HSZ.out A3 c3 rs ji HJ.out.1 HJ.out.2 hrd.1; have bP := Kd.C_of_reads (h1 := fun _ => rfl) (hA _ (Kd.reads_of_C hrd.2)); have hcl := slices_Clone_int_int.calls A3 c3 (rs.take ji.toNat) r w3 bP hC (by unfold slices_Clone_int_int.f; rw [HJR.out, if_pos (by rw [← HJR.out, List.length_take]; have := HL.out; omega)]); rw [show (rs.take ji.toNat).length = ji.toNat by (rw [List.length_take]; have := HJ.out; omega)] at hcl hcut; clear hA hC hrd al bU bP)
  | (go_at_call 58; refine hcl.mono ?_; rintro e w4 ⟨v4, rfl, ca, cf⟩))
 go_ret
 have aG := ci.out
 have bz : Below w.heap.size w w3 := aG.grown bV.out.2 aG.size (fun k hk => own_base bV.out.1 k hk)
 exact ⟨_, rfl, Kd.R_lower ca bz.size, bz.trans (cf.mono bz.size)⟩

/-! ### slices_Grow_int_int: function 62 -/
theorem slices_Grow_int_int.info : (Try.prog.info? 3).map (fun i => (i.zero, i.size, i.bytes)) = some (some (.int .i64 0), 1, 8) := by kernel_rfl
def slices_Grow_int_int.f (l0 : List Int) (a1 : Int) : Option (List Int) := if l0 = [] ∧ 0 ≤ a1 ∧ a1 * 8 ≤ 140737488355328 then some [] else none
theorem slices_Grow_int_int.calls (A0 : Option Addr) (c0 : Nat) (l0 : List (Int)) (a1 : Int) (r : List (Int)) (w : World) (cl : Kd.C (Kd.int .i64) w A0 l0.length l0) (cx : l0.length ≤ c0) (h : slices_Grow_int_int.f l0 a1 = some r) (hA : A0 = none) (hz : c0 = 0) :
  Calls Try.prog 62 #[.slice A0 l0.length c0, .int .i64 a1] w fun e w' => ∃ aj : Value, e = .returned (aj) ∧ Kd.R (Kd.int .i64) 3 w' w.heap.size (fun _ => True) aj r ∧ Below w.heap.size w w' := by
 unfold slices_Grow_int_int.f at h
 by_cases hl : l0 = [] ∧ 0 ≤ a1 ∧ a1 * 8 ≤ 140737488355328
 rotate_left
 ·rw [if_neg hl] at h
  cases h
 rw [if_pos hl] at h
 obtain rfl := Option.some.inj h
 obtain ⟨rfl, h0, h1⟩ := hl
 obtain ⟨n, rfl⟩ : ∃ n : Nat, a1 = n := ⟨a1.toNat, by omega⟩
 subst hA hz
 obtain ⟨i0, hi0, ce, bO, b9⟩ := info_parts slices_Grow_int_int.info
 by_cases hn : n = 0
 ·subst hn
  refine (Any8.slices_Grow_room Try.growA none 0 0 0 w (by omega) (by omega) (by omega) (by omega)).mono ?_
  rintro e w' ⟨rfl, rfl⟩
  exact ⟨_, rfl, Kd.R_nil _ _ _ _ _, Below.refl _ _⟩
 ·refine (Any8.slices_Grow_grow Try.growA i0 (.int .i64 0) hi0 ce (by rw [bO]; omega) none 0 0 n [] w (by omega) (by omega) (by rw [b9]; omega) (by omega) (by rw [bO]; rfl) (fun _ => rfl) (fun a e => by cases e)).mono ?_
  rintro e w' ⟨rfl, rfl⟩
  refine ⟨_, rfl, ?_, zc (below_drew (Below.refl _ _)) _⟩
  refine Kd.R_of_own (enc := Value.int .i64) (h1 := fun _ => rfl) (xs := ([] : List Int)) ⟨rfl, .inr ⟨w.heap.size, _, _, rfl, Nat.le_refl _, World.alloc_heap_new _ _, Nat.zero_le _, ?_, ?_, rfl⟩⟩ (fun _ _ => trivial)
  ·exact grownCap_le_maxLen w _ _ _ (by unfold maxLen; omega)
  ·have hg := grownCap_ge w (0 + n) 0 (Try.growA_ren.t 25)
   simp only [Nat.zero_add] at hg
   simp only [Builtin.zeroCells, Value.cells, Array.size_append, Array.size_map, Array.size_range]
   simp
   omega

/-! ### slices_Concat_int_int: function 42 -/
mutual
def slices_Concat_int_int.l0 : Nat → List (List Int) → Int → List (List Int) → Int → Int → Option (List Int)
 | 0, _, _, _, _, _ => none
 | k + 1, x0, x3, x9, x10, x11 => if x11 < x10 then (if 0 ≤ x11 then (if x11 < (x9.length : Int) then (if (wrap64 (x3 + ((rd_L3 x9 x11).length : Int))) < 0 then (none) else (slices_Concat_int_int.l0 k x0 (wrap64 (x3 + ((rd_L3 x9 x11).length : Int))) x9 x10 (wrap64 (x11 + 1)))) else (none)) else (none)) else ((slices_Grow_int_int.f ([] : List Int) x3).bind fun au => (slices_Concat_int_int.l1 k au x0 (x0.length : Int) 0))
def slices_Concat_int_int.l1 : Nat → List Int → List (List Int) → Int → Int → Option (List Int)
 | 0, _, _, _, _ => none
 | k + 1, x6, x25, x26, x27 => if x27 < x26 then (if 0 ≤ x27 then (if x27 < (x25.length : Int) then (if x6.length + (rd_L3 x25 x27).length < 17592186044416 then (slices_Concat_int_int.l1 k (x6 ++ (rd_L3 x25 x27)) x25 x26 (wrap64 (x27 + 1))) else (none)) else (none)) else (none)) else (some x6)
end
def slices_Concat_int_int.f (k : Nat) (l0 : List (List Int)) : Option (List Int) := slices_Concat_int_int.l0 k l0 0 l0 (l0.length : Int) 0
set_option maxHeartbeats 8000000 in
set_option maxRecDepth 100000 in
theorem slices_Concat_int_int.calls (k : Nat) (A0 : Option Addr) (c0 : Nat) (l0 : List (List Int)) (r : List Int) (w : World) (an : Kd.C (Kd.slice 3 (Kd.int .i64)) w A0 l0.length l0) (aA : l0.length ≤ c0) (h : slices_Concat_int_int.f k l0 = some r) :
  Calls Try.prog 42 #[.slice A0 l0.length c0] w fun e w' => ∃ aj : Value, e = .returned (aj) ∧ Kd.R (Kd.int .i64) 3 w' w.heap.size (fun _ => True) aj r ∧ Below w.heap.size w w' := by
 have ap := zp.mk an
 have bx := zp.mk aA
 clear an aA
 have HB := zp.mk (Below.refl w.heap.size w)
 have H : (slices_Concat_int_int.l0 k l0 0 l0 (l0.length : Int) 0) = some r := h
 clear h
 have H' := zp.mk H
 clear H
 go_enter Try.func42, Try.ntmps42
 go_wp2
 go_loopg [3, 11] k (fun kq v3 b5 w' => ∃ (ai : Int) (G : Int), v3 = .int .i64 ai ∧ b5 = .int .i64 G ∧ zp (slices_Concat_int_int.l0 kq l0 ai l0 (l0.length : Int) G = some r) ∧ zp (kq ≤ k) ∧ zp (Below w.heap.size w w'))
 case atStart => exact ⟨(0), (0), (by first | rfl | (simp; done) | (simp [*]; done)), (by first | rfl | (simp; done) | (simp [*]; done)), H', ⟨Nat.le_refl _⟩, ⟨zv6 HB.out⟩⟩
 case round =>
  clear H'
  obtain ⟨ai, G, rfl, rfl, HA, bk, HB⟩ := hrel
  cases gk with
  | zero => exact absurd HA.out (by simp [slices_Concat_int_int.l0])
  | succ k1 =>
   have H := HA.out
   clear HA
   simp only [slices_Concat_int_int.l0] at H
   by_cases c2 : G < (l0.length : Int)
   ·rw [if_pos c2] at H
    have bo : decide (G < (l0.length : Int)) = true := decide_eq_true c2
    clear c2
    by_cases c3 : 0 ≤ G
    ·rw [if_pos c3] at H
     have bK : decide (0 ≤ G) = true := decide_eq_true c3
     clear c3
     by_cases c4 : G < (l0.length : Int)
     ·rw [if_pos c4] at H
      have bN : decide (G < (l0.length : Int)) = true := decide_eq_true c4
      clear c4
      by_cases c5 : (wrap64 (ai + ((rd_L3 l0 G).length : Int))) < 0
      ·rw [if_pos c5] at H
       exact absurd H (by simp)
      ·rw [if_neg c5] at H
       have bE : decide ((wrap64 (ai + ((rd_L3 l0 G).length : Int))) < 0) = false := decide_eq_false c5
       clear c5
       have H' := zp.mk H
       clear H
       have aD : 0 ≤ (G : Int) := of_decide_eq_true (by first | (with_reducible assumption) | assumption)
       have aE : G < (l0.length : Int) := of_decide_eq_true (by first | (with_reducible assumption) | assumption)
       obtain ⟨cj, b1, b4, bX, ah, aq, av⟩ := at_L3 ap.out G aD aE
       cases bX
       replace ah := (HB.out.cell (World.block_lt_of_cell? w _ ah)).trans ah
       have bR := zp.mk av
       have b0 := zp.mk aq
       clear av aq
       replace aD := eq_true aD
       replace aE := eq_true aE
       go_wp2
       go_roundg k1
       case measure => have := bk.out; omega
       case rel => exact ⟨(wrap64 (ai + ((rd_L3 l0 G).length : Int))), (wrap64 (G + 1)), (by first | rfl | (simp; done) | (simp [*]; done)), (by first | rfl | (simp; done) | (simp [*]; done)), H', ⟨by have := bk.out; omega⟩, ⟨zv6 HB.out⟩⟩
     ·rw [if_neg c4] at H
      exact absurd H (by simp)
    ·rw [if_neg c3] at H
     exact absurd H (by simp)
   ·rw [if_neg c2] at H
    have bo : decide (G < (l0.length : Int)) = false := decide_eq_false c2
    clear c2
    replace H := zs4 H
    obtain ⟨au, bL, H⟩ := H
    replace H : (slices_Concat_int_int.l1 k1 au l0 (l0.length : Int) 0) = some r := H
    have A6 := zp.mk bL
    clear bL
    have H' := zp.mk H
    clear H
    go_wp2_with (first | ((with_reducible refine zn (f := 62) rfl ?_); refine goesL_ (some 24) rfl rfl Try.func62 (by kernel_rfl) rfl #[.slice none 0 0, .int .i64 ai] rfl (by (try simp only [List.map_toArray, List.map_cons, List.map_nil]); first | done | rfl | (simp only [List.length_drop, List.length_take]; rfl)) ?_; (refine (slices_Grow_int_int.calls _ _ ([] : List Int) ai au _ ?side1 ?side2 A6.out rfl rfl).mono ?_); (case side1 => exact Kd.C_nil _ _); (case side2 => exact Nat.le_refl _); rintro e w7 ⟨cu, rfl, bG, hb⟩; refine ⟨_, rfl, ?_⟩; have bu := zp.mk (Kd.R_lower bG (zk (zv6 HB.out))); replace HB := zp.mk (zj (zv6 HB.out) hb); (try clear hb); (try clear aG); (try clear hk); (try clear hi); (try clear bG)))
    go_loopg [6, 27] k1 (fun kq v6 cg w' => ∃ (ao : List Int) (D : Int), cg = .int .i64 D ∧ zp (slices_Concat_int_int.l1 kq ao l0 (l0.length : Int) D = some r) ∧ zp (kq ≤ k1) ∧ zp (Kd.R (Kd.int .i64) 3 w' w.heap.size (fun _ => True) v6 ao) ∧ zp (Below w.heap.size w w'))
    case atStart => exact ⟨(au), (0), (by first | rfl | (simp; done) | (simp [*]; done)), H', ⟨Nat.le_refl _⟩, ⟨by (with_reducible repeat (first | apply Kd.R_alloc | apply Kd.R_drewN | apply Kd.R_drew)); exact bu.out⟩, ⟨zv6 HB.out⟩⟩
    case round =>
     clear H'
     try clear c2
     try clear bo
     try clear p2
     try clear q2
     try clear hx2
     try clear c3
     try clear bK
     try clear c4
     try clear bN
     try clear c5
     try clear bE
     try clear c6
     try clear p6
     try clear ah
     try clear aD
     try clear aE
     obtain ⟨ao, D, rfl, HA, bW, bc, HB⟩ := hrel
     cases gk with
     | zero => exact absurd HA.out (by simp [slices_Concat_int_int.l1])
     | succ k2 =>
      have H := HA.out
      clear HA
      simp only [slices_Concat_int_int.l1] at H
      by_cases c8 : D < (l0.length : Int)
      ·rw [if_pos c8] at H
       have bS : decide (D < (l0.length : Int)) = true := decide_eq_true c8
       clear c8
       by_cases c9 : 0 ≤ D
       ·rw [if_pos c9] at H
        have cq : decide (0 ≤ D) = true := decide_eq_true c9
        clear c9
        by_cases c10 : D < (l0.length : Int)
        ·rw [if_pos c10] at H
         have b7 : decide (D < (l0.length : Int)) = true := decide_eq_true c10
         clear c10
         by_cases bl : ao.length + (rd_L3 l0 D).length < 17592186044416
         ·rw [if_pos bl] at H
          have bq := zp.mk bl
          clear bl
          obtain ⟨bp, ak⟩ : ∃ y_ : List Int, y_ = (ao ++ (rd_L3 l0 D)) := ⟨_, rfl⟩
          replace H : (slices_Concat_int_int.l1 k2 bp l0 (l0.length : Int) (wrap64 (D + 1))) = some r := by first | (rw [ak]; with_reducible exact H) | (have bC := (Option.bind_some _ _).symm.trans H; rw [ak]; with_reducible exact bC) | (have bC := (Option.bind_some _ _).symm.trans H; with_reducible exact bC) | with_reducible exact H | (rw [ak]; exact H) | exact H
          have bv := zp.mk ak
          clear ak
          have H' := zp.mk H
          clear H
          have a3 : 0 ≤ (D : Int) := of_decide_eq_true (by first | (with_reducible assumption) | assumption)
          have a5 : D < (l0.length : Int) := of_decide_eq_true (by first | (with_reducible assumption) | assumption)
          obtain ⟨b8, b3, b2, bY, am, ar, aw⟩ := at_L3 ap.out D a3 a5
          cases bY
          replace am := (HB.out.cell (World.block_lt_of_cell? w _ am)).trans am
          have bi := zp.mk aw
          have bM := zp.mk ar
          clear aw ar
          replace a3 := eq_true a3
          replace a5 := eq_true a5
          go_wp2_with (first | ((with_reducible refine gate_builtin (b := .append) (xs := #[.tmp 31, .tmp 32]) rfl ?_); at_builtin; refine Kd.R_append_rows (Kd.int .i64) (w0 := w) w.heap.size rfl (.tmp 31) (.tmp 32) 25 3 (.int .i64 0) 8 rfl Try.underlying25 info3 rfl (by decide) (by omega) u6 ao (rd_L3 l0 D) _ _ _ (fun _ => True) (fun _ => False) rfl rfl ?aO ?aR (fun _ _ h => h) (fun _ h => h.elim) ?aF ?aB ?aS ?aL ?_; (case aR => repeat (first | exact (Kd.zt bi.out HB.out) | (with_reducible refine Kd.zr ?_ _) | (with_reducible refine Kd.zq ?_ _) | (with_reducible refine Kd.C_drew ?_))); (case aB => exact (zv6 HB.out)); (case aF => exact (fun _ _ => trivial)); (case aO => exact (by (with_reducible repeat (first | apply Kd.R_alloc | apply Kd.R_drewN | apply Kd.R_drew)); exact bc.out)); (case aS => exact (zk (zv6 HB.out))); (case aL => have := bq.out; omega); intro cp cy ho hb hg hat; rw [← bv.out] at ho; have bT := zp.mk (hb); have bH := zp.mk (ho); clear HB; clear bc; have HB := bT; have bw := bH; clear bT bH; clear ho hb hg hat))
          go_roundg k2
          case measure => have := bk.out; have := bW.out; omega
          case rel => exact ⟨(bp), (wrap64 (D + 1)), (by first | rfl | (simp; done) | (simp [*]; done)), H', ⟨by have := bk.out; have := bW.out; omega⟩, ⟨by (with_reducible repeat (first | apply Kd.R_alloc | apply Kd.R_drewN | apply Kd.R_drew)); exact bw.out⟩, ⟨zv6 HB.out⟩⟩
         ·rw [if_neg bl] at H
          exact absurd H (by simp)
        ·rw [if_neg c10] at H
         exact absurd H (by simp)
       ·rw [if_neg c9] at H
        exact absurd H (by simp)
      ·rw [if_neg c8] at H
       have bS : decide (D < (l0.length : Int)) = false := decide_eq_false c8
       clear c8
       obtain rfl := Option.some.inj H
       go_wp2
       go_ret
       exact ⟨_, by first | rfl | (simp [errW_none, errW_some] <;> rfl) | (simp [*, errW_none, errW_some] <;> rfl), by (with_reducible repeat (first | apply Kd.R_alloc | apply Kd.R_drewN | apply Kd.R_drew)); exact bc.out, zv6 HB.out⟩

/-! ### impl_joined: function 44 -/
def impl_joined.f (k : Nat) (X : Int) (aa : Int) (l : Int) (ag : Int) (ae : Int) (A : List Int) (Y : Int) (z : Int) (ab : Int) (ac : Int) (af : Int) (B : List Int) : Option (Int × Int × Int × Int × Int × List Int) := if X = 0 then ((slices_Clone_int_int.f B).bind fun t => some (Y, z, ab, ac, af, t)) else (if Y > 0 then ((impl_WideAdd.f aa l z ab).bind fun s => (slices_Concat_int_int.f k [A, B]).bind fun c => (impl_topOf.f c).bind fun t => some (wrap64 (X + Y), s.1, s.2, mn ag ac, mx ae af, t)) else ((slices_Clone_int_int.f A).bind fun t => some (X, aa, l, ag, ae, t)))
theorem impl_joined.facts {W : World} {g : Nat} {x0 x1 x2 x3 x4 x5 : Value} (h : W.heap[g]? = some (.cells #[x0, x1, x2, x3, x4, x5] 32 (0, 0))) :
  (W.cell? ⟨g, 0, none⟩ = some x0 ∧ W.cell? ⟨g, 1, none⟩ = some x1 ∧ W.cell? ⟨g, 2, none⟩ = some x2 ∧ W.cell? ⟨g, 3, none⟩ = some x3 ∧ W.cell? ⟨g, 4, none⟩ = some x4 ∧ W.cell? ⟨g, 5, none⟩ = some x5) ∧
  (W.frozen? ⟨g, 0, none⟩ = false ∧ W.frozen? ⟨g, 1, none⟩ = false ∧ W.frozen? ⟨g, 2, none⟩ = false ∧ W.frozen? ⟨g, 3, none⟩ = false ∧ W.frozen? ⟨g, 4, none⟩ = false ∧ W.frozen? ⟨g, 5, none⟩ = false) :=
 ⟨⟨(ze h 0).trans rfl, (ze h 1).trans rfl, (ze h 2).trans rfl, (ze h 3).trans rfl, (ze h 4).trans rfl, (ze h 5).trans rfl⟩, zd h 0, zd h 1, zd h 2, zd h 3, zd h 4, zd h 5⟩
theorem impl_joined.put {W : World} {g : Nat} {cs : Array Value} (h : W.heap[g]? = some (.cells cs 32 (0, 0))) (o : Nat) (x : Value) : (W.setCell ⟨g, o, none⟩ x).heap[g]? = some (.cells (cs.setIfInBounds o x) 32 (0, 0)) := heap_setCell_same W g o cs 32 x h
theorem impl_joined.far {W : World} {g q : Nat} {o : Obj} (h : W.heap[q]? = some o) (hne : q ≠ g) (i : Nat) (x : Value) : (W.setCell ⟨g, i, none⟩ x).heap[q]? = some o := by
 rw [heap_setCell_other W ⟨g, i, none⟩ q x (by first | exact hne | exact fun e => hne e.symm)]
 exact h
theorem impl_joined.swap {w w3 : World} {ga gb gz : Nat} {A0 A1 A2 A3 A4 A5 B0 B1 B2 B3 B4 B5 C0 C1 C2 C3 C4 C5 : Value} {Z : Obj} (ha : w3.heap[ga]? = some (.cells #[A0, A1, A2, A3, A4, A5] 32 (0, 0))) (hz : w3.heap[gz]? = some Z) (n1 : ga ≠ gb) (n2 : gz ≠ ga) (n3 : gz ≠ gb) (hb : Below w.heap.size w w3) (h1 : w.heap.size ≤ ga) (h2 : w.heap.size ≤ gb) (W : World)
  (hW : W = ((((((((((((w3.setCell ⟨ga, 0, none⟩ B0).setCell ⟨ga, 1, none⟩ B1).setCell ⟨ga, 2, none⟩ B2).setCell ⟨ga, 3, none⟩ B3).setCell ⟨ga, 4, none⟩ B4).setCell ⟨ga, 5, none⟩ B5).setCell ⟨gb, 0, none⟩ C0).setCell ⟨gb, 1, none⟩ C1).setCell ⟨gb, 2, none⟩ C2).setCell ⟨gb, 3, none⟩ C3).setCell ⟨gb, 4, none⟩ C4).setCell ⟨gb, 5, none⟩ C5)) : W.heap[ga]? = some (.cells #[B0, B1, B2, B3, B4, B5] 32 (0, 0)) ∧ W.heap[gz]? = some Z ∧ Below w.heap.size w W := by
 subst hW
 refine ⟨?_, ?_, ?_⟩
 ·iterate 6 refine impl_joined.far ?_ n1 _ _
  exact (impl_joined.put (impl_joined.put (impl_joined.put (impl_joined.put (impl_joined.put (impl_joined.put ha 0 B0) 1 B1) 2 B2) 3 B3) 4 B4) 5 B5).trans rfl
 ·iterate 6 refine impl_joined.far ?_ n3 _ _
  iterate 6 refine impl_joined.far ?_ n2 _ _
  exact hz
 ·iterate 6 refine zh ?_ h2
  iterate 6 refine zh ?_ h1
  exact hb
theorem impl_joined.last {w4 : World} {ga gz : Nat} {Z0 Z1 Z2 Z3 Z4 Z5 V x0 x1 x2 x3 x4 : Value} (hz : w4.heap[gz]? = some (.cells #[Z0, Z1, Z2, Z3, Z4, Z5] 32 (0, 0))) (n2 : gz ≠ ga) :
  (((((((w4.setCell ⟨ga, 5, none⟩ V).setCell ⟨gz, 0, none⟩ x0).setCell ⟨gz, 1, none⟩ x1).setCell ⟨gz, 2, none⟩ x2).setCell ⟨gz, 3, none⟩ x3).setCell ⟨gz, 4, none⟩ x4).setCell ⟨gz, 5, none⟩ V).heap[gz]? = some (.cells #[x0, x1, x2, x3, x4, V] 32 (0, 0)) :=
 (impl_joined.put (impl_joined.put (impl_joined.put (impl_joined.put (impl_joined.put (impl_joined.put (impl_joined.far hz n2 5 V) 0 x0) 1 x1) 2 x2) 3 x3) 4 x4) 5 V).trans rfl
theorem impl_joined.fill {w w4 : World} {ga gb gz : Nat} {Z0 Z1 Z2 Z3 Z4 Z5 x0 x1 x2 x3 x4 x5 : Value} {OA OB : Obj} (hz : w4.heap[gz]? = some (.cells #[Z0, Z1, Z2, Z3, Z4, Z5] 32 (0, 0))) (ha : w4.heap[ga]? = some OA) (hb : w4.heap[gb]? = some OB) (n1 : ga ≠ gz) (n2 : gb ≠ gz) (hB : Below w.heap.size w w4) (h1 : w.heap.size ≤ gz) (W : World) (hW : W = ((((((w4.setCell ⟨gz, 0, none⟩ x0).setCell ⟨gz, 1, none⟩ x1).setCell ⟨gz, 2, none⟩ x2).setCell ⟨gz, 3, none⟩ x3).setCell ⟨gz, 4, none⟩ x4).setCell ⟨gz, 5, none⟩ x5)) :
  W.heap[gz]? = some (.cells #[x0, x1, x2, x3, x4, x5] 32 (0, 0)) ∧ W.heap[ga]? = some OA ∧ W.heap[gb]? = some OB ∧ Below w.heap.size w W := by
 subst hW
 refine ⟨(impl_joined.put (impl_joined.put (impl_joined.put (impl_joined.put (impl_joined.put (impl_joined.put hz 0 x0) 1 x1) 2 x2) 3 x3) 4 x4) 5 x5).trans rfl, ?_, ?_, ?_⟩
 ·iterate 6 refine impl_joined.far ?_ n1 _ _
  exact ha
 ·iterate 6 refine impl_joined.far ?_ n2 _ _
  exact hb
 ·iterate 6 refine zh ?_ h1
  exact hB
def impl_joined.T4 : Bool × List (List Nat × List Nat) := (true, [([], []), ([0], [0]), ([], []), ([2], [2]), ([1, 3], [1, 3]), ([], []), ([5], [5]), ([], []), ([7], [7]), ([6, 8], [6, 8]), ([], []), ([10], [10]), ([], []), ([12], [12]), ([11, 13], [11, 13]), ([], []), ([15], [15]), ([], []), ([17], [17]), ([16, 18], [16, 18]), ([], []), ([20], [20]), ([], []), ([22], [22]), ([21, 23], [21, 23]), ([24, 9], [24]), ([25, 25], [25]), ([4, 9, 14, 19, 26], [4, 9, 14, 19, 26]), ([27, 26, 0, 1, 2, 3, 4, 5, 6, 7, 8, 9, 10, 11, 12, 13, 14, 15, 16, 17, 18, 19, 20, 21, 22, 23, 24, 25, 26, 27], [27])])
def impl_joined.B4 : List Nat := [0, 1, 0, 4, 15, 0, 32, 0, 128, 480, 0, 1024, 0, 4096, 15360, 0, 32768, 0, 131072, 491520, 0, 1048576, 0, 4194304, 15728640, 32506848, 66061280, 134217727, 268435455]
theorem impl_joined.tab4 : rtab .any (opsOf Try.f44 4) = impl_joined.T4 := by kernel_rfl
theorem impl_joined.bits4 : waitsOk impl_joined.T4.2 impl_joined.B4 = true := by kernel_rfl
set_option maxHeartbeats 4000000 in
set_option maxRecDepth 100000 in
theorem impl_joined.calls (k : Nat) (X : Int) (aa : Int) (l : Int) (ag : Int) (ae : Int) (J : Option Addr) (U : Nat) (A : List Int) (Y : Int) (z : Int) (ab : Int) (ac : Int) (af : Int) (T : Option Addr) (O : Nat) (B : List Int) (r1 : Int) (r2 : Int) (r3 : Int) (r4 : Int) (r5 : Int) (r6 : List Int) (w : World) (aK : Kd.C (Kd.int .i64) w J A.length A) (aZ : A.length ≤ U) (aI : Kd.C (Kd.int .i64) w T B.length B) (bf : B.length ≤ O) (h : impl_joined.f k X aa l ag ae A Y z ab ac af B = some (r1, r2, r3, r4, r5, r6)) :
  Calls Try.prog 44 #[.agg #[.int .i64 X, .int .i64 aa, .int .u64 l, .int .i64 ag, .int .i64 ae, .slice J A.length U], .agg #[.int .i64 Y, .int .i64 z, .int .u64 ab, .int .i64 ac, .int .i64 af, .slice T B.length O]] w fun e w' => ∃ bJ : Value, e = .returned (.agg #[.int .i64 r1, .int .i64 r2, .int .u64 r3, .int .i64 r4, .int .i64 r5, bJ]) ∧ Kd.R (Kd.int .i64) 3 w' w.heap.size (fun _ => True) bJ r6 ∧ Below w.heap.size w w' := by
 have cn := Try.underlying32
 have cr := Try.underlying30
 have ap := zp.mk aK
 have bx := zp.mk aZ
 have br := zp.mk aI
 have bQ := zp.mk bf
 have HB := zp.mk (Below.refl w.heap.size w)
 have H := zp.mk h
 clear aK aZ aI bf h
 unfold impl_joined.f at H
 have hcase : X = 0 ∨ (¬ X = 0 ∧ ¬ Y > 0) ∨ (¬ X = 0 ∧ Y > 0) := by omega
 have hcase := zp.mk hcase
 go_enter Try.func44, Try.ntmps44
 go_wp2_with (first
  | ((with_reducible refine zo (N := 2) rfl ?_); refine zm ?hg (N := 2) ?hd (cs := #[.int .i64 X, .int .i64 aa, .int .u64 l, .int .i64 ag, .int .i64 ae, .slice J A.length U]) (t := 32) ?hr ?_; (case hd => rfl); (case hg => rfl); (case hr => first | (go_simp; done) | (go_simp; rfl)); intro ga hga w1 hbox hb; have GA := zp.mk hga; have BA := zp.mk hbox; have B1 := zp.mk hb; clear hga hbox hb)
  | ((with_reducible refine zo (N := 3) rfl ?_); refine zm ?hg (N := 3) ?hd (cs := #[.int .i64 Y, .int .i64 z, .int .u64 ab, .int .i64 ac, .int .i64 af, .slice T B.length O]) (t := 32) ?hr ?_; (case hd => rfl); (case hg => rfl); (case hr => first | (go_simp; done) | (go_simp; rfl)); intro gb hgb w2 hbox hb; have GB := zp.mk hgb; have BB := zp.mk hbox; have B2 := zp.mk hb; clear hgb hbox hb)
  | ((with_reducible refine zo (N := 4) rfl ?_); refine zm ?hg (N := 4) ?hd (cs := #[.int .i64 0, .int .i64 0, .int .u64 0, .int .i64 0, .int .i64 0, .slice none 0 0]) (t := 32) ?hr ?_; (case hd => rfl); (case hg => rfl); (case hr => first | (go_simp; done) | (go_simp; rfl)); intro gz hgz w3 hbox hb; have GZ := zp.mk hgz; have BZ := zp.mk hbox; have B3 := zp.mk hb; clear hgz hbox hb; refine zp.out ?_))
 refine ⟨?_⟩
 have n1 : ga < gb := by have := blk_lt BA.out; have := GB.out; omega
 have n2 : gb < gz := by have := blk_lt BB.out; have := GZ.out; omega
 have hga := GA.out
 have bs : Below w.heap.size w w2 := B1.out.trans (B2.out.mono B1.out.size)
 have bm : Below w.heap.size w w3 := bs.trans (B3.out.mono bs.size)
 have BKB := zp.mk ((B3.out.block gb (blk_lt BB.out)).trans BB.out)
 have BKA := zp.mk ((B3.out.block ga (by have := blk_lt BB.out; omega)).trans ((B2.out.block ga (blk_lt BA.out)).trans BA.out))
 have BKZ := zp.mk BZ.out
 have HRA := zp.mk (Kd.zt ap.out bm)
 have HRB := zp.mk (Kd.zt br.out bm)
 have I := zp.mk bm
 have NAB : ga ≠ gb := by omega
 have NAZ : ga ≠ gz := by omega
 have NBZ : gb ≠ gz := by omega
 have NBA : gb ≠ ga := by omega
 have NZA : gz ≠ ga := by omega
 have NZB : gz ≠ gb := by omega
 have HGA := zp.mk (show w.heap.size ≤ ga by omega)
 have HGZ := zp.mk (show w.heap.size ≤ gz by omega)
 have HGB := zp.mk (show w.heap.size ≤ gb by omega)
 clear bs bm BA BB BZ B1 B2 B3 GA GB GZ hga n1 n2 HB
 obtain ⟨⟨az, aY, a9, bh, aJ, aN⟩, aM, aU, aH, aT, a4, a6⟩ := impl_joined.facts BKA.out
 obtain ⟨⟨ax, aW, ba, aX, a2, be⟩, bb, aV, a7, bg, a8, bd⟩ := impl_joined.facts BKB.out
 rcases hcase.out with c | ⟨c1, c2⟩ | ⟨c1, c2⟩
 ·have cb : (X == 0) = true := beq_iff_eq.mpr c
  have h := H.out
  rw [if_pos c] at h
  obtain ⟨t, ht, h⟩ := zs4 h
  simp only [Option.some.injEq, Prod.mk.injEq] at h
  obtain ⟨h1, h2, h3, h4, h5, rfl⟩ := h
  have HT := zp.mk ht
  have E1 := zp.mk h1
  have E2 := zp.mk h2
  have E3 := zp.mk h3
  have E4 := zp.mk h4
  have E5 := zp.mk h5
  clear ht c hcase H h1 h2 h3 h4 h5
  go_wp2_with (go_at_call 58; obtain ⟨s1, s2, s3⟩ := impl_joined.swap (w := w) (gb := gb) (B0 := .int .i64 Y) (B1 := .int .i64 z) (B2 := .int .u64 ab) (B3 := .int .i64 ac) (B4 := .int .i64 af) (B5 := .slice T B.length O) (C0 := .int .i64 X) (C1 := .int .i64 aa) (C2 := .int .u64 l) (C3 := .int .i64 ag) (C4 := .int .i64 ae) (C5 := .slice J A.length U) BKA.out BKZ.out NAB NZA NZB I.out HGA.out HGB.out _ rfl; refine (slices_Clone_int_int.calls T O B t _ (Kd.zt br.out s3) bQ.out HT.out).mono ?_; rintro e w4 ⟨v, rfl, ho, hb⟩; obtain ⟨Ao, co, rfl⟩ := Kd.R_slice ho; obtain ⟨x5, aQ⟩ : ∃ x5, w4.heap[ga]? = some (.cells #[.int .i64 r1, .int .i64 r2, .int .u64 r3, .int .i64 r4, .int .i64 r5, x5] 32 (0, 0)) := ⟨_, (hb.block ga (blk_lt s1)).trans (by rw [← E1.out, ← E2.out, ← E3.out, ← E4.out, ← E5.out]; exact s1)⟩; have ay := (hb.block gz (blk_lt s2)).trans s2; have bA := zp.mk (s3.trans (hb.mono s3.size)); have bD := zp.mk (Kd.R_lower (base' := w.heap.size) (Kd.R_mono (ok' := fun k_ => k_ ≠ ga ∧ k_ ≠ gz) (Kd.R_bound ho) (fun k_ hk => ⟨by have := hk.2.1; have := blk_lt s1; omega, by have := hk.2.1; have := blk_lt s2; omega⟩)) s3.size); clear az aY a9 bh aJ aN aM aU aH aT a4 a6 ax aW ba aX a2 be bb aV a7 bg a8 bd ho hb; obtain ⟨⟨az, aY, a9, bh, aJ, aN⟩, aM, aU, aH, aT, a4, a6⟩ := impl_joined.facts aQ; obtain ⟨⟨ax, aW, ba, aX, a2, be⟩, bb, aV, a7, bg, a8, bd⟩ := impl_joined.facts ay; have bB := zp.mk ay; clear s1 s2 s3 aQ ay)
  refine bodyPost_ret (results_cell_row rfl _ _ gz 32 #[.int .i64 r1, .int .i64 r2, .int .u64 r3, .int .i64 r4, .int .i64 r5, .slice Ao t.length co] (0, 0) _ rfl (impl_joined.last bB.out NZA) Try.underlying32 rfl (by kernel_rfl)) rfl ?_
  refine ⟨_, rfl, ?_, ?_⟩
  ·refine Kd.R_mono (ok := fun k_ => k_ ≠ ga ∧ k_ ≠ gz) ?_ (fun _ _ => trivial)
   iterate 6 refine Kd.R_far (p := ⟨gz, _, none⟩) ?_ (fun _ hk => hk.2) _
   exact Kd.R_far (p := ⟨ga, 5, none⟩) bD.out (fun _ hk => hk.1) _
  ·iterate 6 refine zh ?_ HGZ.out
   refine zh ?_ HGA.out
   exact bA.out
 ·have cb : (X == 0) = false := beq_eq_false_iff_ne.mpr (by omega)
  have cd : decide (0 < Y) = false := decide_eq_false (by omega)
  have h := H.out
  rw [if_neg (by omega), if_neg (by omega)] at h
  obtain ⟨t, ht, h⟩ := zs4 h
  simp only [Option.some.injEq, Prod.mk.injEq] at h
  obtain ⟨h1, h2, h3, h4, h5, rfl⟩ := h
  have HT := zp.mk ht
  have E1 := zp.mk h1
  have E2 := zp.mk h2
  have E3 := zp.mk h3
  have E4 := zp.mk h4
  have E5 := zp.mk h5
  clear ht hcase H h1 h2 h3 h4 h5
  go_wp2_with (go_at_call 58; have s1 := BKA.out; have s2 := BKZ.out; have s3 := I.out; refine (slices_Clone_int_int.calls J U A t _ (Kd.zt ap.out s3) bx.out HT.out).mono ?_; rintro e w4 ⟨v, rfl, ho, hb⟩; obtain ⟨Ao, co, rfl⟩ := Kd.R_slice ho; obtain ⟨x5, aQ⟩ : ∃ x5, w4.heap[ga]? = some (.cells #[.int .i64 r1, .int .i64 r2, .int .u64 r3, .int .i64 r4, .int .i64 r5, x5] 32 (0, 0)) := ⟨_, (hb.block ga (blk_lt s1)).trans (by rw [← E1.out, ← E2.out, ← E3.out, ← E4.out, ← E5.out]; exact s1)⟩; have ay := (hb.block gz (blk_lt s2)).trans s2; have bA := zp.mk (s3.trans (hb.mono s3.size)); have bD := zp.mk (Kd.R_lower (base' := w.heap.size) (Kd.R_mono (ok' := fun k_ => k_ ≠ ga ∧ k_ ≠ gz) (Kd.R_bound ho) (fun k_ hk => ⟨by have := hk.2.1; have := blk_lt s1; omega, by have := hk.2.1; have := blk_lt s2; omega⟩)) s3.size); clear az aY a9 bh aJ aN aM aU aH aT a4 a6 ax aW ba aX a2 be bb aV a7 bg a8 bd ho hb; obtain ⟨⟨az, aY, a9, bh, aJ, aN⟩, aM, aU, aH, aT, a4, a6⟩ := impl_joined.facts aQ; obtain ⟨⟨ax, aW, ba, aX, a2, be⟩, bb, aV, a7, bg, a8, bd⟩ := impl_joined.facts ay; have bB := zp.mk ay; clear s1 s2 s3 aQ ay)
  refine bodyPost_ret (results_cell_row rfl _ _ gz 32 #[.int .i64 r1, .int .i64 r2, .int .u64 r3, .int .i64 r4, .int .i64 r5, .slice Ao t.length co] (0, 0) _ rfl (impl_joined.last bB.out NZA) Try.underlying32 rfl (by kernel_rfl)) rfl ?_
  refine ⟨_, rfl, ?_, ?_⟩
  ·refine Kd.R_mono (ok := fun k_ => k_ ≠ ga ∧ k_ ≠ gz) ?_ (fun _ _ => trivial)
   iterate 6 refine Kd.R_far (p := ⟨gz, _, none⟩) ?_ (fun _ hk => hk.2) _
   exact Kd.R_far (p := ⟨ga, 5, none⟩) bD.out (fun _ hk => hk.1) _
  ·iterate 6 refine zh ?_ HGZ.out
   refine zh ?_ HGA.out
   exact bA.out
 ·have cb : (X == 0) = false := beq_eq_false_iff_ne.mpr (by omega)
  have cd : decide (0 < Y) = true := decide_eq_true (by omega)
  have h := H.out
  rw [if_neg (by omega), if_pos (by omega)] at h
  obtain ⟨⟨s1, s2⟩, hs, h⟩ := zs4 h
  obtain ⟨c, hc, h⟩ := zs4 h
  obtain ⟨t, ht, h⟩ := zs4 h
  simp only [Option.some.injEq, Prod.mk.injEq] at h
  obtain ⟨h1, rfl, rfl, h4, h5, rfl⟩ := h
  have HS := zp.mk hs
  have HCC := zp.mk hc
  have HT := zp.mk ht
  have cv : (if ac < ag then ac else ag) = r4 := h4
  have ck : (if ae < af then af else ae) = r5 := h5
  have E1 := zp.mk h1
  clear hs hc ht hcase H h1 h4 h5
  clear az aY a9 bh aJ aN aM aU aH aT a4 a6 ax aW ba aX a2 be bb aV a7 bg a8 bd
  have hy := impl_joined.facts BKA.out
  have hz := impl_joined.facts BKB.out
  obtain ⟨⟨az, -⟩, -⟩ := hy
  obtain ⟨⟨ax, -⟩, -⟩ := hz
  go_wp2
  have BKA : zp (w3.drew.heap[ga]? = some (.cells #[.int .i64 X, .int .i64 aa, .int .u64 l, .int .i64 ag, .int .i64 ae, .slice J A.length U] 32 (0, 0))) := ⟨BKA.out⟩
  have BKB : zp (w3.drew.heap[gb]? = some (.cells #[.int .i64 Y, .int .i64 z, .int .u64 ab, .int .i64 ac, .int .i64 af, .slice T B.length O] 32 (0, 0))) := ⟨BKB.out⟩
  have BKZ : zp (w3.drew.heap[gz]? = some (.cells #[.int .i64 0, .int .i64 0, .int .u64 0, .int .i64 0, .int .i64 0, .slice none 0 0] 32 (0, 0))) := ⟨BKZ.out⟩
  have I := zp.mk (zb I.out)
  clear az ax
  refine start_ (n := 29) (S := fun w' => (w'.cell? ⟨ga, 0, none⟩ = some (.int .i64 X) ∧ w'.cell? ⟨ga, 1, none⟩ = some (.int .i64 aa) ∧ w'.cell? ⟨ga, 2, none⟩ = some (.int .u64 l) ∧ w'.cell? ⟨ga, 3, none⟩ = some (.int .i64 ag) ∧ w'.cell? ⟨ga, 4, none⟩ = some (.int .i64 ae) ∧ w'.cell? ⟨ga, 5, none⟩ = some (.slice J A.length U)) ∧ (w'.cell? ⟨gb, 0, none⟩ = some (.int .i64 Y) ∧ w'.cell? ⟨gb, 1, none⟩ = some (.int .i64 z) ∧ w'.cell? ⟨gb, 2, none⟩ = some (.int .u64 ab) ∧ w'.cell? ⟨gb, 3, none⟩ = some (.int .i64 ac) ∧ w'.cell? ⟨gb, 4, none⟩ = some (.int .i64 af) ∧ w'.cell? ⟨gb, 5, none⟩ = some (.slice T B.length O))) (ds := []) (zB 29 0) (by kernel_rfl) rfl rfl ⟨(impl_joined.facts BKA.out).1, (impl_joined.facts BKB.out).1⟩ (fun hHeld => ?_)
  refine with_tabW impl_joined.tab4 impl_joined.bits4 (fun HT_ HW_ => ?_)
  clear HRA HRB
  generalize w3.drew = w4 at BKA BKB BKZ I hHeld ⊢
  refine zP 0 15 (zB 29 1) HT_ ?_
  refine zT 1 16 (zB 29 3) HT_ HW_ hHeld ?_
  refine zP 2 17 (zB 29 7) HT_ ?_
  refine zT 3 18 (zB 29 15) HT_ HW_ hHeld ?_
  refine zP 4 19 (zB 29 31) HT_ ?_
  refine zP 5 20 (zB 29 63) HT_ ?_
  refine zT 6 21 (zB 29 127) HT_ HW_ hHeld ?_
  refine zP 7 22 (zB 29 255) HT_ ?_
  refine zT 8 23 (zB 29 511) HT_ HW_ hHeld ?_
  refine zP 10 25 (zB 29 1535) HT_ ?_
  refine zT 11 26 (zB 29 3583) HT_ HW_ hHeld ?_
  refine zP 12 27 (zB 29 7679) HT_ ?_
  refine zT 13 28 (zB 29 15871) HT_ HW_ hHeld ?_
  refine zP 14 29 (zB 29 32255) HT_ ?_
  refine zP 15 30 (zB 29 65023) HT_ ?_
  refine zT 16 31 (zB 29 130559) HT_ HW_ hHeld ?_
  refine zP 17 32 (zB 29 261631) HT_ ?_
  refine zT 18 33 (zB 29 523775) HT_ HW_ hHeld ?_
  refine zP 19 34 (zB 29 1048063) HT_ ?_
  refine zP 20 35 (zB 29 2096639) HT_ ?_
  refine zT 21 36 (zB 29 4193791) HT_ HW_ hHeld ?_
  refine zP 22 37 (zB 29 8388095) HT_ ?_
  refine zT 23 38 (zB 29 16776703) HT_ HW_ hHeld ?_
  refine join_ (σ := Nat) 4 (zB 29 33554431) (fun s_ => [(24, .agg #[.int .i64 s1, .int .u64 s2]), (39, .slice (some ⟨s_, 0, none⟩) 2 2)]) (fun s_ w' => ((w'.cell? ⟨ga, 0, none⟩ = some (.int .i64 X) ∧ w'.cell? ⟨ga, 1, none⟩ = some (.int .i64 aa) ∧ w'.cell? ⟨ga, 2, none⟩ = some (.int .u64 l) ∧ w'.cell? ⟨ga, 3, none⟩ = some (.int .i64 ag) ∧ w'.cell? ⟨ga, 4, none⟩ = some (.int .i64 ae) ∧ w'.cell? ⟨ga, 5, none⟩ = some (.slice J A.length U)) ∧ (w'.cell? ⟨gb, 0, none⟩ = some (.int .i64 Y) ∧ w'.cell? ⟨gb, 1, none⟩ = some (.int .i64 z) ∧ w'.cell? ⟨gb, 2, none⟩ = some (.int .u64 ab) ∧ w'.cell? ⟨gb, 3, none⟩ = some (.int .i64 ac) ∧ w'.cell? ⟨gb, 4, none⟩ = some (.int .i64 af) ∧ w'.cell? ⟨gb, 5, none⟩ = some (.slice T B.length O))) ∧ (w'.heap[s_]? = some (.cells #[.slice J A.length U, .slice T B.length O] 25 (0, 0))) ∧ (w'.heap[ga]? = some (.cells #[.int .i64 X, .int .i64 aa, .int .u64 l, .int .i64 ag, .int .i64 ae, .slice J A.length U] 32 (0, 0))) ∧ (w'.heap[gb]? = some (.cells #[.int .i64 Y, .int .i64 z, .int .u64 ab, .int .i64 ac, .int .i64 af, .slice T B.length O] 32 (0, 0))) ∧ (w'.heap[gz]? = some (.cells #[.int .i64 0, .int .i64 0, .int .u64 0, .int .i64 0, .int .i64 0, .slice none 0 0] 32 (0, 0))) ∧ Below w.heap.size w w') ?_ ?_
  rotate_left
  ·intro hCont
   refine two_ (i := 9) (j := 24) (Ni := some 24) (Nj := some 39) (zB 29 16777215) (zB 29 33553919) rfl rfl rfl rfl (two_of HT_.out (by kernel_rfl)) (by decide) (by decide) (fun K hK => ?_) (fun K hK => ?_)
   ·skip
    refine goes_ Try.func47 (by kernel_rfl) rfl #[.agg #[.int .i64 aa, .int .u64 l], .agg #[.int .i64 z, .int .u64 ab]] (by rfl) rfl rfl (by (try simp only [List.map_toArray, List.map_cons, List.map_nil]); first | done | rfl | (simp only [List.length_drop, List.length_take]; rfl)) ?_
    refine (impl_WideAdd.calls aa l z ab s1 s2 _ HS.out).mono ?_
    rintro e w5 ⟨rfl, hb⟩
    refine ⟨_, rfl, ?_⟩
    replace BKA := zp.mk ((hb.block ga (blk_lt BKA.out)).trans BKA.out)
    replace BKB := zp.mk ((hb.block gb (blk_lt BKB.out)).trans BKB.out)
    replace BKZ := zp.mk ((hb.block gz (blk_lt BKZ.out)).trans BKZ.out)
    replace I := zp.mk (I.out.trans (hb.mono I.out.size))
    clear hb
    refine hK.out _ _ ⟨(impl_joined.facts BKA.out).1, (impl_joined.facts BKB.out).1⟩ (fun hHeld => ?_)
    clear hK K
    refine norm_ (a' := ?_) ?_ ?_
    rotate_left
    ·show Act.put _ (some 24) _ = _
     simp only [Act.put, zs1, zs2, zs3, i64_w, i32_w]
     rfl
    refine one_ (i := 24) (N := some 39) (zB 29 33554431) rfl rfl (one_of HT_.out (by kernel_rfl)) (by decide) (fun K hK => ?_)
    refine event_step (v := .slice (some ⟨w5.heap.size, 0, none⟩) 2 2) (w1 := w5.alloc (.cells #[.slice J A.length U, .slice T B.length O] 25 (0, 0))) rfl ?_ ?_
    ·first | (go_simp; done) | (go_simp; rfl)
    have BKS := zp.mk (blk_new w5 (.cells #[.slice J A.length U, .slice T B.length O] 25 (0, 0)))
    have hb : Below w5.heap.size w5 (w5.alloc (.cells #[.slice J A.length U, .slice T B.length O] 25 (0, 0))) := zc (Below.refl _ _) _
    obtain ⟨s, hs⟩ : ∃ s, s = w5.heap.size := ⟨_, rfl⟩
    rw [← hs] at BKS ⊢
    generalize w5.alloc (.cells #[.slice J A.length U, .slice T B.length O] 25 (0, 0)) = w6 at hb BKS ⊢
    replace BKA := zp.mk ((hb.block ga (blk_lt BKA.out)).trans BKA.out)
    replace BKB := zp.mk ((hb.block gb (blk_lt BKB.out)).trans BKB.out)
    replace BKZ := zp.mk ((hb.block gz (blk_lt BKZ.out)).trans BKZ.out)
    replace I := zp.mk (I.out.trans (hb.mono I.out.size))
    clear hb hs
    refine hK.out _ _ ⟨(impl_joined.facts BKA.out).1, (impl_joined.facts BKB.out).1⟩ (fun hHeld => ?_)
    clear hK K
    refine norm_ (a' := ?_) ?_ ?_
    rotate_left
    ·show Act.put _ (some 39) _ = _
     simp only [Act.put, zs1, zs2, zs3, i64_w, i32_w]
     rfl
    exact norm_ (by simp only [putAll, Act.put, zs1, zs2, zs3]) (hCont s _ ⟨hHeld, BKS.out, BKA.out, BKB.out, BKZ.out, I.out⟩)
   ·skip
    refine event_step (v := .slice (some ⟨w4.heap.size, 0, none⟩) 2 2) (w1 := w4.alloc (.cells #[.slice J A.length U, .slice T B.length O] 25 (0, 0))) rfl ?_ ?_
    ·first | (go_simp; done) | (go_simp; rfl)
    have BKS := zp.mk (blk_new w4 (.cells #[.slice J A.length U, .slice T B.length O] 25 (0, 0)))
    have hb : Below w4.heap.size w4 (w4.alloc (.cells #[.slice J A.length U, .slice T B.length O] 25 (0, 0))) := zc (Below.refl _ _) _
    obtain ⟨s, hs⟩ : ∃ s, s = w4.heap.size := ⟨_, rfl⟩
    rw [← hs] at BKS ⊢
    generalize w4.alloc (.cells #[.slice J A.length U, .slice T B.length O] 25 (0, 0)) = w6 at hb BKS ⊢
    replace BKA := zp.mk ((hb.block ga (blk_lt BKA.out)).trans BKA.out)
    replace BKB := zp.mk ((hb.block gb (blk_lt BKB.out)).trans BKB.out)
    replace BKZ := zp.mk ((hb.block gz (blk_lt BKZ.out)).trans BKZ.out)
    replace I := zp.mk (I.out.trans (hb.mono I.out.size))
    clear hb hs
    refine hK.out _ _ ⟨(impl_joined.facts BKA.out).1, (impl_joined.facts BKB.out).1⟩ (fun hHeld => ?_)
    clear hK K
    refine norm_ (a' := ?_) ?_ ?_
    rotate_left
    ·show Act.put _ (some 39) _ = _
     simp only [Act.put, zs1, zs2, zs3, i64_w, i32_w]
     rfl
    refine one_ (i := 9) (N := some 24) (zB 29 33554431) rfl rfl (one_of HT_.out (by kernel_rfl)) (by decide) (fun K hK => ?_)
    refine goes_ Try.func47 (by kernel_rfl) rfl #[.agg #[.int .i64 aa, .int .u64 l], .agg #[.int .i64 z, .int .u64 ab]] (by rfl) rfl rfl (by (try simp only [List.map_toArray, List.map_cons, List.map_nil]); first | done | rfl | (simp only [List.length_drop, List.length_take]; rfl)) ?_
    refine (impl_WideAdd.calls aa l z ab s1 s2 _ HS.out).mono ?_
    rintro e w5 ⟨rfl, hb⟩
    refine ⟨_, rfl, ?_⟩
    replace BKA := zp.mk ((hb.block ga (blk_lt BKA.out)).trans BKA.out)
    replace BKB := zp.mk ((hb.block gb (blk_lt BKB.out)).trans BKB.out)
    replace BKZ := zp.mk ((hb.block gz (blk_lt BKZ.out)).trans BKZ.out)
    replace BKS := zp.mk ((hb.block s (blk_lt BKS.out)).trans BKS.out)
    replace I := zp.mk (I.out.trans (hb.mono I.out.size))
    clear hb
    refine hK.out _ _ ⟨(impl_joined.facts BKA.out).1, (impl_joined.facts BKB.out).1⟩ (fun hHeld => ?_)
    clear hK K
    refine norm_ (a' := ?_) ?_ ?_
    rotate_left
    ·show Act.put _ (some 24) _ = _
     simp only [Act.put, zs1, zs2, zs3, i64_w, i32_w]
     rfl
    exact norm_ (by simp only [putAll, Act.put, zs1, zs2, zs3]) (hCont s _ ⟨hHeld, BKS.out, BKA.out, BKB.out, BKZ.out, I.out⟩)
  rintro s w7 ⟨hHeld, h1, h2, h3, h4, h5⟩
  have BKS := zp.mk h1
  replace BKA := zp.mk h2
  replace BKB := zp.mk h3
  replace BKZ := zp.mk h4
  replace I := zp.mk h5
  clear h1 h2 h3 h4 h5
  refine norm_ (a' := ?_) ?_ ?_
  rotate_left
  ·simp only [putAll, Act.put, zs1, zs2, zs3]
   rfl
  have HCR : Kd.C (Kd.slice 3 (Kd.int .i64)) w7 (some ⟨s, 0, none⟩) 2 [A, B] := by
   refine ⟨rfl, by omega, fun _ => ⟨_, rfl, fun j p hj => ?_⟩⟩
   match j, hj with
   | 0, hj => injection hj with hj; subst hj; exact ⟨_, rfl, ⟨J, U, rfl, bx.out, Kd.zt ap.out I.out⟩, fun i u hu => by (cases i with | zero => (rw [Addr.add_lit]; exact (ze BKS.out 0).trans hu) | succ i => simp at hu)⟩
   | 1, hj => injection hj with hj; subst hj; exact ⟨_, rfl, ⟨T, O, rfl, bQ.out, Kd.zt br.out I.out⟩, fun i u hu => by (cases i with | zero => (rw [Addr.add_lit]; exact (ze BKS.out 1).trans hu) | succ i => simp at hu)⟩
   | j + 2, hj => simp at hj
  refine one_ (i := 25) (N := some 40) (zB 29 67108863) rfl rfl (one_of HT_.out (by kernel_rfl)) (by decide) (fun K hK => ?_)
  refine goes_ Try.func42 (by kernel_rfl) rfl #[.slice (some ⟨s, 0, none⟩) 2 2] (by rfl) rfl rfl (by (try simp only [List.map_toArray, List.map_cons, List.map_nil]); first | done | rfl | (simp only [List.length_drop, List.length_take]; rfl)) ?_
  refine (slices_Concat_int_int.calls k (some ⟨s, 0, none⟩) 2 [A, B] c w7 HCR (Nat.le_refl 2) HCC.out).mono ?_
  rintro e w8 ⟨v, rfl, ho, hb⟩
  obtain ⟨Ac, cc, rfl⟩ := Kd.R_slice ho
  refine ⟨_, rfl, ?_⟩
  have HOC := zp.mk ho
  clear HCR ho
  replace BKA := zp.mk ((hb.block ga (blk_lt BKA.out)).trans BKA.out)
  replace BKB := zp.mk ((hb.block gb (blk_lt BKB.out)).trans BKB.out)
  replace BKZ := zp.mk ((hb.block gz (blk_lt BKZ.out)).trans BKZ.out)
  replace I := zp.mk (I.out.trans (hb.mono I.out.size))
  clear hb BKS
  refine hK.out _ _ ⟨(impl_joined.facts BKA.out).1, (impl_joined.facts BKB.out).1⟩ (fun hHeld => ?_)
  clear hK K
  refine norm_ (a' := ?_) ?_ ?_
  rotate_left
  ·show Act.put _ (some 40) _ = _
   simp only [Act.put, zs1, zs2, zs3, i64_w, i32_w]
   rfl
  refine one_ (i := 26) (N := some 41) (zB 29 134217727) rfl rfl (one_of HT_.out (by kernel_rfl)) (by decide) (fun K hK => ?_)
  refine goes_ Try.func41 (by kernel_rfl) rfl #[.slice Ac c.length cc] (by rfl) rfl rfl (by (try simp only [List.map_toArray, List.map_cons, List.map_nil]); first | done | rfl | (simp only [List.length_drop, List.length_take]; rfl)) ?_
  refine (impl_topOf.calls Ac cc c t w8 (Kd.R_reads' HOC.out).2.2 (Kd.R_reads' HOC.out).2.1 HT.out).mono ?_
  rintro e w9 ⟨v, rfl, ho, hb⟩
  obtain ⟨At, ct, rfl⟩ := Kd.R_slice ho
  refine ⟨_, rfl, ?_⟩
  have hzl := blk_lt BKZ.out
  have HOT := zp.mk (Kd.R_lower (base' := w.heap.size) (Kd.R_mono (ok' := fun k_ => k_ ≠ gz) (Kd.R_bound ho) (fun k_ hk => by have := hk.2.1; omega)) I.out.size)
  clear ho HOC hzl
  replace BKA := zp.mk ((hb.block ga (blk_lt BKA.out)).trans BKA.out)
  replace BKB := zp.mk ((hb.block gb (blk_lt BKB.out)).trans BKB.out)
  replace BKZ := zp.mk ((hb.block gz (blk_lt BKZ.out)).trans BKZ.out)
  replace I := zp.mk (I.out.trans (hb.mono I.out.size))
  clear hb
  refine hK.out _ _ ⟨(impl_joined.facts BKA.out).1, (impl_joined.facts BKB.out).1⟩ (fun hHeld => ?_)
  clear hK K
  refine norm_ (a' := ?_) ?_ ?_
  rotate_left
  ·show Act.put _ (some 41) _ = _
   simp only [Act.put, zs1, zs2, zs3, i64_w, i32_w]
   rfl
  refine zP 27 42 (zB 29 268435455) HT_ ?_
  refine one_ (i := 28) (N := none) (zB 29 536870911) rfl rfl (one_of HT_.out (by kernel_rfl)) (by decide) (fun K hK => ?_)
  obtain ⟨⟨z0, z1, z2, z3, z4, z5⟩, u0, u1, u2, u3, u4, u5⟩ := impl_joined.facts BKZ.out
  rw [if_pos (by rfl)]
  unfold Oper.wp
  go_simp
  rw [E1.out]
  obtain ⟨bj, aC⟩ : ∃ bj, bj = ((((((w9.setCell ⟨gz, 0, none⟩ (.int .i64 r1)).setCell ⟨gz, 1, none⟩ (.int .i64 s1)).setCell ⟨gz, 2, none⟩ (.int .u64 s2)).setCell ⟨gz, 3, none⟩ (.int .i64 r4)).setCell ⟨gz, 4, none⟩ (.int .i64 r5)).setCell ⟨gz, 5, none⟩ (.slice At t.length ct)) := ⟨_, rfl⟩
  rw [← aC]
  obtain ⟨hzz, haa, hbb, hBB⟩ := impl_joined.fill BKZ.out BKA.out BKB.out NAZ NBZ I.out HGZ.out bj aC
  have hRR : Kd.R (Kd.int .i64) 3 bj w.heap.size (fun k_ => k_ ≠ gz) (.slice At t.length ct) t := by
   rw [aC]
   iterate 6 refine Kd.R_far (p := ⟨gz, _, none⟩) ?_ (fun _ hk => hk) _
   exact HOT.out
  have HZ := zp.mk hzz
  have HR := zp.mk hRR
  have HBB := zp.mk hBB
  refine hK.out _ _ ⟨(impl_joined.facts haa).1, (impl_joined.facts hbb).1⟩ (fun hHeld => ?_)
  clear hK K aC hzz haa hbb hBB hRR
  refine done_ (done_of HT_.out (by kernel_rfl)) ?_
  go_wp2
  refine bodyPost_ret (results_cell_row rfl _ _ gz 32 #[.int .i64 r1, .int .i64 s1, .int .u64 s2, .int .i64 r4, .int .i64 r5, .slice At t.length ct] (0, 0) _ rfl HZ.out Try.underlying32 rfl (by kernel_rfl)) rfl ?_
  exact ⟨_, rfl, Kd.R_mono HR.out (fun _ _ => trivial), HBB.out⟩

end Go.Proofs.Ytnnahpmnkpmopaa.QFnExactAggJoin
