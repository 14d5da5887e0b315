/- Proved: calls of the program come to the answers of the plain Lean functions that stand beside them. Each contract names its conditions. (Written by a program of this session, over the printer of the kit.) -/
import Derived.Test.YtnnahpmnkpmopaaZTopOfQFnExactTopOfx0
import Derived.Test.YtnnahpmnkpmopaaZTopOfQFnExactTopOfx1
import Derived.Test.YtnnahpmnkpmopaaZTopOfQFnExactTopOfx2
namespace Go.Proofs.Ytnnahpmnkpmopaa.QFnExactTopOf
open Go.RowKit Go.Proofs.YtnnahpmnkpmopaaW.PrintWords Go.Proofs.YtnnahpmnkpmopaaW.PrintLast Go.Proofs.YtnnahpmnkpmopaaW.PrintMore
attribute [local go_sem] max2_int min2_int max_two min_two max_three min_three max_four min_four   -- for this text's walks alone
set_option linter.unusedVariables false
set_option linter.unusedSimpArgs false

/-! ### laws_toIntS: function 20 -/
def laws_toIntS.l0 : Nat → List Int → List Int → Int → Option (List Int)
 | 0, _, _, _ => none
 | k + 1, x0, x3, x4 => if x4 < (x0.length : Int) then (if 0 ≤ x4 then (if x4 < (x3.length : Int) then (laws_toIntS.l0 k x0 (x3.set (x4 : Int).toNat (rd x0 x4)) (wrap64 (x4 + 1))) else (none)) else (none)) else (some x3)
def laws_toIntS.f (k : Nat) (l0 : List Int) : Option (List Int) := if 0 ≤ (l0.length : Int) then (if ((l0.length : Int) : Int).toNat ≤ 35184372088832 then (laws_toIntS.l0 k l0 (List.replicate ((l0.length : Int) : Int).toNat 0) 0) else (none)) else (none)
set_option maxHeartbeats 8000000 in
set_option maxRecDepth 100000 in
theorem laws_toIntS.calls (k : Nat) (A0 : Option Addr) (c0 : Nat) (l0 : List Int) (r : List Int) (w : World) (hr0 : Kd.C (Kd.int .i64) w A0 l0.length l0) (hc0 : l0.length ≤ c0) (h : laws_toIntS.f k l0 = some r) :
  Calls Try.prog 20 #[.slice A0 l0.length c0] w fun e w' => ∃ v0_ : Value, e = .returned (v0_) ∧ Kd.R (Kd.int .i64) 3 w' w.heap.size (fun _ => True) v0_ r ∧ Below w.heap.size w w' := by
 have HR0 := zp.mk hr0
 have HC0 := zp.mk hc0
 clear hr0 hc0
 have HB := zp.mk (Below.refl w.heap.size w)
 have H : (if 0 ≤ (l0.length : Int) then (if ((l0.length : Int) : Int).toNat ≤ 35184372088832 then (laws_toIntS.l0 k l0 (List.replicate ((l0.length : Int) : Int).toNat 0) 0) else (none)) else (none)) = some r := h
 clear h
 by_cases c2 : 0 ≤ (l0.length : Int)
 ·rw [if_pos c2] at H
  have c2b0 := eq_true c2
  have c2b1 : decide (0 ≤ (l0.length : Int)) = true := decide_eq_true c2
  clear c2
  by_cases c3 : ((l0.length : Int) : Int).toNat ≤ 35184372088832
  ·rw [if_pos c3] at H
   have c3b0 := eq_true c3
   have c3b1 : decide (((l0.length : Int) : Int).toNat ≤ 35184372088832) = true := decide_eq_true c3
   clear c3
   obtain ⟨y140, hy140⟩ : ∃ y_ : List Int, y_ = (List.replicate ((l0.length : Int) : Int).toNat 0) := ⟨_, rfl⟩
   replace H : (laws_toIntS.l0 k l0 y140 0) = some r := by first | (rw [hy140]; with_reducible exact H) | (have H2_ := (Option.bind_some _ _).symm.trans H; rw [hy140]; with_reducible exact H2_) | (have H2_ := (Option.bind_some _ _).symm.trans H; with_reducible exact H2_) | with_reducible exact H | (rw [hy140]; exact H) | exact H
   have Ny140 := zp.mk hy140
   clear hy140
   have H' := zp.mk H
   clear H
   go_enter Try.func20, Try.ntmps20
   go_wp2_with (first | ((with_reducible refine zo (N := 7) rfl ?_); refine Kd.R_make (Kd.int .i64) _ 3 rfl (N := 7) rfl 25 _ _ rfl (l0.length : Int) rfl rfl Try.underlying25 (.int .i64 0) 8 info3 rfl (by decide) (by omega) 0 (ok := fun _ => True) (okp := fun _ => True) rfl (fun _ hk => hk) trivial (of_decide_eq_true (by first | (with_reducible assumption) | assumption)) (Nat.le_trans (Nat.mul_le_mul_right _ (of_decide_eq_true (by first | (with_reducible assumption) | assumption) : (l0.length : Int).toNat ≤ 35184372088832)) (by omega)) (Below.refl _ _) (Nat.le_refl _) ?_; intro v141 w4 ho5 hb hg_ hnew_; clear hg_ hnew_; (first | rw [← Ny140.out] at ho5 | (simp only [Int.reduceToNat] at ho5; rw [← Ny140.out] at ho5)); have HO142 := zp.mk (Kd.R_lower ho5 (zk (zv6 HB.out))); replace HB := zp.mk (zj (zv6 HB.out) hb); clear hb ho5))
   go_loopg [4] k (fun kq v4 w' => ∃ (x3_1 : List Int) (x4_1 : Int), v4 = .int .i64 x4_1 ∧ zp (laws_toIntS.l0 kq l0 x3_1 x4_1 = some r) ∧ zp (kq ≤ k) ∧ zp (Kd.R (Kd.int .i64) 3 w' w.heap.size (fun _ => True) v141 x3_1) ∧ zp (Below w.heap.size w w'))
   case atStart => exact ⟨(y140), (0), (by first | rfl | (simp; done) | (simp [*]; done)), H', ⟨Nat.le_refl _⟩, ⟨by (with_reducible repeat (first | apply Kd.R_alloc | apply Kd.R_drewN | apply Kd.R_drew)); exact HO142.out⟩, ⟨zv6 HB.out⟩⟩
   case round =>
    clear H'
    try clear c2
    try clear c2b0
    try clear c2b1
    try clear p2
    try clear c3
    try clear c3b0
    try clear c3b1
    obtain ⟨x3_1, x4_1, rfl, HA, HK1, HO_3, HB⟩ := hrel
    cases gk with
    | zero => exact absurd HA.out (by simp [laws_toIntS.l0])
    | succ k1 =>
     have H := HA.out
     clear HA
     simp only [laws_toIntS.l0] at H
     by_cases c6 : x4_1 < (l0.length : Int)
     ·rw [if_pos c6] at H
      have c6b0 : decide (x4_1 < (l0.length : Int)) = true := decide_eq_true c6
      clear c6
      by_cases c7 : 0 ≤ x4_1
      ·rw [if_pos c7] at H
       have c7b0 : decide (0 ≤ x4_1) = true := decide_eq_true c7
       clear c7
       by_cases c8 : x4_1 < (x3_1.length : Int)
       ·rw [if_pos c8] at H
        have c8b0 : decide (x4_1 < (x3_1.length : Int)) = true := decide_eq_true c8
        clear c8
        obtain ⟨y144, hy144⟩ : ∃ y_ : List Int, y_ = (x3_1.set (x4_1 : Int).toNat (rd l0 x4_1)) := ⟨_, rfl⟩
        replace H : (laws_toIntS.l0 k1 l0 y144 (wrap64 (x4_1 + 1))) = some r := by first | (rw [hy144]; with_reducible exact H) | (have H2_ := (Option.bind_some _ _).symm.trans H; rw [hy144]; with_reducible exact H2_) | (have H2_ := (Option.bind_some _ _).symm.trans H; with_reducible exact H2_) | with_reducible exact H | (rw [hy144]; exact H) | exact H
        have Ny144 := zp.mk hy144
        clear hy144
        have H' := zp.mk H
        clear H
        have p143 : 0 ≤ (x4_1 : Int) := of_decide_eq_true (by first | (with_reducible assumption) | assumption)
        have q143 : x4_1 < (l0.length : Int) := of_decide_eq_true (by first | (with_reducible assumption) | assumption)
        obtain ⟨ad143, e143, hx143_0⟩ := Kd.at_int HR0.out x4_1 p143 q143
        cases e143
        replace hx143_0 := (HB.out.cell (World.block_lt_of_cell? w _ hx143_0)).trans hx143_0
        replace p143 := eq_true p143
        replace q143 := eq_true q143
        have p9 : 0 ≤ (x4_1 : Int) := of_decide_eq_true (by first | (with_reducible assumption) | assumption)
        have q9 : (x4_1 : Int) < ((x3_1.length : Int) : Int) := of_decide_eq_true (by first | (with_reducible assumption) | assumption)
        obtain ⟨go9, co9, eo9, gb9, gl9, cl9, HG9⟩ := Kd.R_form HO_3.out (by omega)
        (first | cases eo9 | (injection eo9 with ea_ en_ ec_; (first | subst ea_ | (injection ea_ with ea_; subst ea_)); subst ec_; clear en_))
        have GB9 := zp.mk gb9
        have GG9 := zp.mk HG9
        clear gb9 gl9 HG9
        obtain ⟨hx9_0, hf9_0⟩ := Kd.R_celln 0 HO_3.out (x4_1 : Int) p9 q9
        replace p9 := eq_true p9
        replace q9 := eq_true q9
        have HP10 := Kd.R_putg HO_3.out (x4_1 : Int) (rd l0 x4_1)
        go_wp2_with (first | ((with_reducible refine gate_store (t := 3) (p := 20) rfl ?_); refine store_event (t := 3) (p := 20) (v := ?vo_w11) (w1 := (wr.setCell ⟨go9, (x4_1 : Int).toNat, none⟩ (.int .i64 (rd l0 x4_1)))) ?hg ?ho ?hn ?hr ?_; (case ho => rfl); (case hg => rfl); (case hn => rfl); (case hr => first | (go_simp; done) | (go_simp; rfl)); intro w11 hw; have hg : wr.grownBy w11 (some go9) := (by rw [hw]; exact HP10.2); have hp_ : Kd.R (Kd.int .i64) 3 w11 w.heap.size (fun _ => True) (.slice (some ⟨go9, 0, none⟩) x3_1.length co9) y144 := (by rw [hw, Ny144.out]; exact HP10.1); clear HP10; replace HO_3 := zp.mk (hp_); replace HB := zp.mk ((by rw [hw]; exact zh (HB.out) GB9.out : Below w.heap.size w w11)); clear hg hw hp_))
        go_roundg k1
        case measure => have := HK1.out; omega
        case rel => exact ⟨(y144), (wrap64 (x4_1 + 1)), (by first | rfl | (simp; done) | (simp [*]; done)), H', ⟨by have := HK1.out; omega⟩, ⟨by (with_reducible repeat (first | apply Kd.R_alloc | apply Kd.R_drewN | apply Kd.R_drew)); exact HO_3.out⟩, ⟨zv6 HB.out⟩⟩
       ·rw [if_neg c8] at H
        exact absurd H (by simp)
      ·rw [if_neg c7] at H
       exact absurd H (by simp)
     ·rw [if_neg c6] at H
      have c6b0 : decide (x4_1 < (l0.length : Int)) = false := decide_eq_false c6
      clear c6
      obtain rfl := Option.some.inj H
      go_wp2
      go_ret
      exact ⟨_, by first | rfl | (simp [errW_none, errW_some] <;> rfl) | (simp [*, errW_none, errW_some] <;> rfl), by (with_reducible repeat (first | apply Kd.R_alloc | apply Kd.R_drewN | apply Kd.R_drew)); exact HO_3.out, zv6 HB.out⟩
  ·rw [if_neg c3] at H
   exact absurd H (by simp)
 ·rw [if_neg c2] at H
  exact absurd H (by simp)

/-! ### slices_Clone_int_int: function 58 -/
theorem slices_Clone_int_int.info : (Try.prog.info? 3).map (fun i => (i.zero, i.size, i.bytes)) = some (some (.int .i64 0), 1, 8) := by kernel_rfl
def slices_Clone_int_int.f (l0 : List (Int)) : Option (List (Int)) := if l0.length * 8 ≤ 140737488355328 then some l0 else none
set_option maxHeartbeats 2000000 in
set_option maxRecDepth 100000 in
theorem slices_Clone_int_int.calls (A0 : Option Addr) (c0 : Nat) (l0 : List (Int)) (r : List (Int)) (w : World) (hr0 : Kd.C (Kd.int .i64) w A0 l0.length l0) (hc0 : l0.length ≤ c0) (h : slices_Clone_int_int.f l0 = some r) :
  Calls Try.prog 58 #[.slice A0 l0.length c0] w fun e w' => ∃ v0_ : Value, e = .returned (v0_) ∧ Kd.R (Kd.int .i64) 3 w' w.heap.size (fun _ => True) v0_ r ∧ Below w.heap.size w w' := by
 have q := fun (w : World) (a : Option Addr) (n c n' c' : Nat) => Lib.run_eql_slice_nil (P := Try.prog) w _ _ a n c n' c' Try.underlying25
 unfold slices_Clone_int_int.f at h
 by_cases hl : l0.length * 8 ≤ 140737488355328
 rotate_left
 ·rw [if_neg hl] at h
  cases h
 rw [if_pos hl] at h
 obtain rfl := Option.some.inj h
 clear h
 cases A0 with
 | none =>
  have h0 : l0 = [] := by
   rcases Nat.eq_zero_or_pos l0.length with h0 | h0
   ·exact List.eq_nil_of_length_eq_zero h0
   ·obtain ⟨ad, e, _⟩ := hr0.2.2 h0
    cases e
  subst h0
  clear hr0 hc0 hl
  go_enter Try.func58, Try.ntmps58
  go_wp2
  go_ret
  exact ⟨_, rfl, Kd.R_nil _ _ _ _ _, Below.refl _ _⟩
 | some ad =>
  have HR0 := zp.mk hr0
  have LM := zp.mk hl
  have HB := zp.mk (Below.refl w.heap.size w)
  clear hr0 hc0 hl
  have hu := Try.underlying25
  go_enter Try.func58, Try.ntmps58
  go_wp2_with (first | ((with_reducible refine zo (N := 5) rfl ?_); refine Kd.R_lit (Kd.int .i64) _ 3 ?hg (N := 5) ?hd (xs := ([] : List (Int))) (inner := []) (ok := fun _ => True) (okp := fun _ => True) ?hr ?hp (fun _ hk => hk) trivial (Below.refl _ _) (Nat.le_refl _) (by simp) ?_; (case hd => rfl); (case hg => rfl); (case hr => first | (go_simp; done) | (go_simp; rfl)); (case hp => exact (Reps.none _ _)); intro v1 w1 ho5 hb hg_ hnew_; clear hg_ hnew_; have HO := zp.mk (Kd.R_lower ho5 (zk (zv6 HB.out))); replace HB := zp.mk (zj (zv6 HB.out) hb); clear hb ho5) | ((with_reducible refine gate_builtin (b := .append) (xs := #[.tmp 5, .tmp 6]) rfl ?_); at_builtin; refine Kd.R_append_rows (Kd.int .i64) (w0 := w) w.heap.size rfl (.tmp 5) (.tmp 6) 25 3 (.int .i64 0) 8 rfl Try.underlying25 slices_Clone_int_int.info rfl (by decide) (by omega) v1 [] l0 _ _ _ (fun _ => True) (fun _ => False) rfl rfl ?aO ?aR (fun _ _ h => h) (fun _ h => h.elim) ?aF ?aB ?aS ?aL ?_; (case aR => repeat (first | exact (Kd.zt HR0.out HB.out) | (with_reducible refine Kd.zr ?_ _) | (with_reducible refine Kd.zq ?_ _) | (with_reducible refine Kd.C_drew ?_))); (case aB => exact (zv6 HB.out)); (case aF => exact (fun _ _ => trivial)); (case aO => exact (by (with_reducible repeat (first | apply Kd.R_alloc | apply Kd.R_drewN | apply Kd.R_drew)); exact HO.out)); (case aS => exact (zk (zv6 HB.out))); (case aL => have := LM.out; simp; omega); intro v2 w2 ho hb hg hat; replace HB := zp.mk (hb); replace HO := zp.mk (ho); clear ho hb hg hat))
  go_ret
  have h5 := HO.out
  rw [List.nil_append] at h5
  exact ⟨_, rfl, h5, HB.out⟩

/-! ### impl_topOf: function 41 -/
def impl_topOf.f (l0 : List Int) : Option (List Int) := if l0.length * 8 ≤ 140737488355328 then some ((l0.mergeSort (fun x y => decide (x ≤ y))).reverse.take 4) else none
set_option maxHeartbeats 2000000 in
set_option maxRecDepth 100000 in
theorem impl_topOf.calls (A0 : Option Addr) (c0 : Nat) (l0 : List (Int)) (r : List (Int)) (w : World) (hr0 : Kd.C (Kd.int .i64) w A0 l0.length l0) (hc0 : l0.length ≤ c0) (h : impl_topOf.f l0 = some r) :
  Calls Try.prog 41 #[.slice A0 l0.length c0] w fun e w' => ∃ v0_ : Value, e = .returned (v0_) ∧ Kd.R (Kd.int .i64) 3 w' w.heap.size (fun _ => True) v0_ r ∧ Below w.heap.size w w' := by
 unfold impl_topOf.f at h
 by_cases hl : l0.length * 8 ≤ 140737488355328
 rotate_left
 ·rw [if_neg hl] at h
  cases h
 rw [if_pos hl] at h
 obtain ⟨ms, hms⟩ : ∃ ms, ms = l0.mergeSort (fun x y => decide (x ≤ y)) := ⟨_, rfl⟩
 have hml : ms.length = l0.length := by rw [hms]; exact List.length_mergeSort _
 obtain ⟨rs, hrs⟩ : ∃ rs, rs = ms.reverse := ⟨_, rfl⟩
 have hrl : ms.length = rs.length := by rw [hrs, List.length_reverse]
 rw [← hms, ← hrs] at h
 have h := Option.some.inj h
 obtain ⟨ji, hji⟩ : ∃ j : Int, min (rs.length : Int) 4 = j := ⟨_, rfl⟩
 have hji2 : (if (4 : Int) < (rs.length : Int) then (4 : Int) else (rs.length : Int)) = ji := by split <;> omega
 have hj0 : 0 ≤ ji := by omega
 have hj1 : ji ≤ rs.length := by omega
 have hjr : rs.take ji.toNat = r := by
  rw [← h]
  by_cases c : (4 : Int) < (rs.length : Int)
  ·rw [show ji = 4 by omega]; rfl
  ·rw [show ji = (rs.length : Int) by omega, Int.toNat_natCast, List.take_of_length_le (Nat.le_refl _), List.take_of_length_le (by omega)]
 have hread := Kd.reads_of_C (d := (0 : Int)) hr0
 have hc : 0 < l0.length → ∃ ad, A0 = some ad ∧ ∀ j, j < l0.length → w.cell? (ad.add j) = some (.int .i64 (l0[j]?.getD 0)) := fun h0 => by
  obtain ⟨ad, e, hcell⟩ := hread.2.2 h0
  exact ⟨ad, e, fun j hj => by rw [hcell j hj, List.getD_eq_getElem?_getD]⟩
 have cS := Iter.sorted_calls A0 c0 l0 w hl hc
 rw [← hms] at cS
 have HL := zp.mk (show rs.length * 8 ≤ 140737488355328 by omega)
 have HML := zp.mk hml
 have HRL := zp.mk hrl
 have HRS := zp.mk hrs
 have HJR := zp.mk hjr
 obtain ⟨i0, hi0, _, hsz0, _⟩ := info_parts slices_Clone_int_int.info
 have HI0 := zp.mk hi0
 have HSZ := zp.mk hsz0
 have HJ := zp.mk (And.intro hj0 hj1)
 clear hread hc hr0 hc0 h hl hms hml hrl hrs hjr hi0 hsz0 hj0 hj1
 go_enter Try.func41, Try.ntmps41
 go_wp2_with (first
  | (go_at_call 60; refine (Iter.values_calls A0 l0.length c0 w).mono ?_; rintro e w1 ⟨rfl, rfl⟩)
  | (go_at_call 59; refine cS.mono ?_; rintro e w2 ⟨v, rfl, hrow, hb2⟩; clear cS; rw [← HML.out] at hrow; have hrev := Iter.reverse_calls v ms w.heap.size w2 (by have := HL.out; have := HRL.out; omega) hrow; clear hrow; have HB2 := zp.mk hb2; clear hb2)
  | (go_at_call 61; refine hrev.mono ?_; rintro e w3 ⟨rfl, hrow3, hg3⟩; clear hrev; rw [← HRS.out, HRL.out] at hrow3; obtain ⟨A3, c3, rfl⟩ := own_slice hrow3; have HR3 := zp.mk (Kd.R_of_own (enc := Value.int .i64) (h1 := fun _ => rfl) (ok := fun _ => True) hrow3 (fun _ _ => trivial)); have hrd := (Kd.R_reads' HR3.out).2; have HG3 := zp.mk (And.intro hrow3 hg3); obtain ⟨hcut, hA, hC⟩ := print_take_of (P := Try.prog) (Value.int .i64) 0 25 3 .i64 Try.underlying25 HI0.out HSZ.out A3 c3 rs ji HJ.out.1 HJ.out.2 hrd.1; have hk3 := Kd.C_of_reads (h1 := fun _ => rfl) (hA _ (Kd.reads_of_C hrd.2)); have hcl := slices_Clone_int_int.calls A3 c3 (rs.take ji.toNat) r w3 hk3 hC (by unfold slices_Clone_int_int.f; rw [HJR.out, if_pos (by rw [← HJR.out, List.length_take]; have := HL.out; omega)]); rw [show (rs.take ji.toNat).length = ji.toNat by (rw [List.length_take]; have := HJ.out; omega)] at hcl hcut; clear hA hC hrd hrow3 hg3 hk3)
  | (go_at_call 58; refine hcl.mono ?_; rintro e w4 ⟨v4, rfl, ho4, hb4⟩))
 go_ret
 have hb2 := HB2.out
 have hb3 : Below w.heap.size w w3 := hb2.grown HG3.out.2 hb2.size (fun k hk => own_base HG3.out.1 k hk)
 exact ⟨_, rfl, Kd.R_lower ho4 hb3.size, hb3.trans (hb4.mono hb3.size)⟩

/-! ### slices_Grow_int_int: function 62 -/
theorem slices_Grow_int_int.info : (Try.prog.info? 3).map (fun i => (i.zero, i.size, i.bytes)) = some (some (.int .i64 0), 1, 8) := by kernel_rfl
def slices_Grow_int_int.f (l0 : List Int) (a1 : Int) : Option (List Int) := if l0 = [] ∧ 0 ≤ a1 ∧ a1 * 8 ≤ 140737488355328 then some [] else none
theorem slices_Grow_int_int.calls (A0 : Option Addr) (c0 : Nat) (l0 : List (Int)) (a1 : Int) (r : List (Int)) (w : World) (_hr0 : Kd.C (Kd.int .i64) w A0 l0.length l0) (_hc0 : l0.length ≤ c0) (h : slices_Grow_int_int.f l0 a1 = some r) (hA : A0 = none) (hz : c0 = 0) :
  Calls Try.prog 62 #[.slice A0 l0.length c0, .int .i64 a1] w fun e w' => ∃ v0_ : Value, e = .returned (v0_) ∧ Kd.R (Kd.int .i64) 3 w' w.heap.size (fun _ => True) v0_ r ∧ Below w.heap.size w w' := by
 unfold slices_Grow_int_int.f at h
 by_cases hl : l0 = [] ∧ 0 ≤ a1 ∧ a1 * 8 ≤ 140737488355328
 rotate_left
 ·rw [if_neg hl] at h
  cases h
 rw [if_pos hl] at h
 obtain rfl := Option.some.inj h
 obtain ⟨rfl, h0, h1⟩ := hl
 obtain ⟨n, rfl⟩ : ∃ n : Nat, a1 = n := ⟨a1.toNat, by omega⟩
 subst hA hz
 obtain ⟨i0, hi0, hz0, hs0, hb0⟩ := info_parts slices_Grow_int_int.info
 by_cases hn : n = 0
 ·subst hn
  refine (Any8.slices_Grow_room Try.growA none 0 0 0 w (by omega) (by omega) (by omega) (by omega)).mono ?_
  rintro e w' ⟨rfl, rfl⟩
  exact ⟨_, rfl, Kd.R_nil _ _ _ _ _, Below.refl _ _⟩
 ·refine (Any8.slices_Grow_grow Try.growA i0 (.int .i64 0) hi0 hz0 (by rw [hs0]; omega) none 0 0 n [] w (by omega) (by omega) (by rw [hb0]; omega) (by omega) (by rw [hs0]; rfl) (fun _ => rfl) (fun a e => by cases e)).mono ?_
  rintro e w' ⟨rfl, rfl⟩
  refine ⟨_, rfl, ?_, zc (below_drew (Below.refl _ _)) _⟩
  refine Kd.R_of_own (enc := Value.int .i64) (h1 := fun _ => rfl) (xs := ([] : List Int)) ⟨rfl, .inr ⟨w.heap.size, _, _, rfl, Nat.le_refl _, World.alloc_heap_new _ _, Nat.zero_le _, ?_, ?_, rfl⟩⟩ (fun _ _ => trivial)
  ·exact grownCap_le_maxLen w _ _ _ (by unfold maxLen; omega)
  ·have hg := grownCap_ge w (0 + n) 0 (Try.growA_ren.t 25)
   simp only [Nat.zero_add] at hg
   simp only [Builtin.zeroCells, Value.cells, Array.size_append, Array.size_map, Array.size_range]
   simp
   omega

/-! ### slices_Concat_int_int: function 42 -/
mutual
def slices_Concat_int_int.l0 : Nat → List (List Int) → Int → List (List Int) → Int → Int → Option (List Int)
 | 0, _, _, _, _, _ => none
 | k + 1, x0, x3, x9, x10, x11 => if x11 < x10 then (if 0 ≤ x11 then (if x11 < (x9.length : Int) then (if (wrap64 (x3 + ((rd_L1 x9 x11).length : Int))) < 0 then (none) else (slices_Concat_int_int.l0 k x0 (wrap64 (x3 + ((rd_L1 x9 x11).length : Int))) x9 x10 (wrap64 (x11 + 1)))) else (none)) else (none)) else ((slices_Grow_int_int.f ([] : List Int) x3).bind fun t146 => (slices_Concat_int_int.l1 k t146 x0 (x0.length : Int) 0))
def slices_Concat_int_int.l1 : Nat → List Int → List (List Int) → Int → Int → Option (List Int)
 | 0, _, _, _, _ => none
 | k + 1, x6, x25, x26, x27 => if x27 < x26 then (if 0 ≤ x27 then (if x27 < (x25.length : Int) then (if x6.length + (rd_L1 x25 x27).length < 17592186044416 then (slices_Concat_int_int.l1 k (x6 ++ (rd_L1 x25 x27)) x25 x26 (wrap64 (x27 + 1))) else (none)) else (none)) else (none)) else (some x6)
end
def slices_Concat_int_int.f (k : Nat) (l0 : List (List Int)) : Option (List Int) := slices_Concat_int_int.l0 k l0 0 l0 (l0.length : Int) 0
set_option maxHeartbeats 8000000 in
set_option maxRecDepth 100000 in
theorem slices_Concat_int_int.calls (k : Nat) (A0 : Option Addr) (c0 : Nat) (l0 : List (List Int)) (r : List Int) (w : World) (hr0 : Kd.C (Kd.slice 3 (Kd.int .i64)) w A0 l0.length l0) (hc0 : l0.length ≤ c0) (h : slices_Concat_int_int.f k l0 = some r) :
  Calls Try.prog 42 #[.slice A0 l0.length c0] w fun e w' => ∃ v0_ : Value, e = .returned (v0_) ∧ Kd.R (Kd.int .i64) 3 w' w.heap.size (fun _ => True) v0_ r ∧ Below w.heap.size w w' := by
 have HR0 := zp.mk hr0
 have HC0 := zp.mk hc0
 clear hr0 hc0
 have HB := zp.mk (Below.refl w.heap.size w)
 have H : (slices_Concat_int_int.l0 k l0 0 l0 (l0.length : Int) 0) = some r := h
 clear h
 have H' := zp.mk H
 clear H
 go_enter Try.func42, Try.ntmps42
 go_wp2
 go_loopg [3, 11] k (fun kq v3 v11 w' => ∃ (x3_1 : Int) (x11_1 : Int), v3 = .int .i64 x3_1 ∧ v11 = .int .i64 x11_1 ∧ zp (slices_Concat_int_int.l0 kq l0 x3_1 l0 (l0.length : Int) x11_1 = some r) ∧ zp (kq ≤ k) ∧ zp (Below w.heap.size w w'))
 case atStart => exact ⟨(0), (0), (by first | rfl | (simp; done) | (simp [*]; done)), (by first | rfl | (simp; done) | (simp [*]; done)), H', ⟨Nat.le_refl _⟩, ⟨zv6 HB.out⟩⟩
 case round =>
  clear H'
  obtain ⟨x3_1, x11_1, rfl, rfl, HA, HK1, HB⟩ := hrel
  cases gk with
  | zero => exact absurd HA.out (by simp [slices_Concat_int_int.l0])
  | succ k1 =>
   have H := HA.out
   clear HA
   simp only [slices_Concat_int_int.l0] at H
   by_cases c2 : x11_1 < (l0.length : Int)
   ·rw [if_pos c2] at H
    have c2b0 : decide (x11_1 < (l0.length : Int)) = true := decide_eq_true c2
    clear c2
    by_cases c3 : 0 ≤ x11_1
    ·rw [if_pos c3] at H
     have c3b0 : decide (0 ≤ x11_1) = true := decide_eq_true c3
     clear c3
     by_cases c4 : x11_1 < (l0.length : Int)
     ·rw [if_pos c4] at H
      have c4b0 : decide (x11_1 < (l0.length : Int)) = true := decide_eq_true c4
      clear c4
      by_cases c5 : (wrap64 (x3_1 + ((rd_L1 l0 x11_1).length : Int))) < 0
      ·rw [if_pos c5] at H
       exact absurd H (by simp)
      ·rw [if_neg c5] at H
       have c5b0 : decide ((wrap64 (x3_1 + ((rd_L1 l0 x11_1).length : Int))) < 0) = false := decide_eq_false c5
       clear c5
       have H' := zp.mk H
       clear H
       have p145 : 0 ≤ (x11_1 : Int) := of_decide_eq_true (by first | (with_reducible assumption) | assumption)
       have q145 : x11_1 < (l0.length : Int) := of_decide_eq_true (by first | (with_reducible assumption) | assumption)
       obtain ⟨ad145, A145_0, c145_0, e145, hx145_0, hl145_0, hi145_0⟩ := at_L1 HR0.out x11_1 p145 q145
       cases e145
       replace hx145_0 := (HB.out.cell (World.block_lt_of_cell? w _ hx145_0)).trans hx145_0
       have HR145_0 := zp.mk hi145_0
       have HC145_0 := zp.mk hl145_0
       clear hi145_0 hl145_0
       replace p145 := eq_true p145
       replace q145 := eq_true q145
       go_wp2
       go_roundg k1
       case measure => have := HK1.out; omega
       case rel => exact ⟨(wrap64 (x3_1 + ((rd_L1 l0 x11_1).length : Int))), (wrap64 (x11_1 + 1)), (by first | rfl | (simp; done) | (simp [*]; done)), (by first | rfl | (simp; done) | (simp [*]; done)), H', ⟨by have := HK1.out; omega⟩, ⟨zv6 HB.out⟩⟩
     ·rw [if_neg c4] at H
      exact absurd H (by simp)
    ·rw [if_neg c3] at H
     exact absurd H (by simp)
   ·rw [if_neg c2] at H
    have c2b0 : decide (x11_1 < (l0.length : Int)) = false := decide_eq_false c2
    clear c2
    replace H := zs4 H
    obtain ⟨t146, A60, H⟩ := H
    replace H : (slices_Concat_int_int.l1 k1 t146 l0 (l0.length : Int) 0) = some r := H
    have A6 := zp.mk A60
    clear A60
    have H' := zp.mk H
    clear H
    go_wp2_with (first | ((with_reducible refine zn (f := 62) rfl ?_); refine goesL_ (some 24) rfl rfl Try.func62 (by kernel_rfl) rfl #[.slice none 0 0, .int .i64 x3_1] rfl (by (try simp only [List.map_toArray, List.map_cons, List.map_nil]); first | done | rfl | (simp only [List.length_drop, List.length_take]; rfl)) ?_; (refine (slices_Grow_int_int.calls _ _ ([] : List Int) x3_1 t146 _ ?side1 ?side2 A6.out rfl rfl).mono ?_); (case side1 => exact Kd.C_nil _ _); (case side2 => exact Nat.le_refl _); rintro e w7 ⟨v147, rfl, ho0, hb⟩; refine ⟨_, rfl, ?_⟩; have HO148 := zp.mk (Kd.R_lower ho0 (zk (zv6 HB.out))); replace HB := zp.mk (zj (zv6 HB.out) hb); (try clear hb); (try clear hb2); (try clear hk); (try clear hi); (try clear ho0)))
    go_loopg [6, 27] k1 (fun kq v6 v27 w' => ∃ (x6_2 : List Int) (x27_2 : Int), v27 = .int .i64 x27_2 ∧ zp (slices_Concat_int_int.l1 kq x6_2 l0 (l0.length : Int) x27_2 = some r) ∧ zp (kq ≤ k1) ∧ zp (Kd.R (Kd.int .i64) 3 w' w.heap.size (fun _ => True) v6 x6_2) ∧ zp (Below w.heap.size w w'))
    case atStart => exact ⟨(t146), (0), (by first | rfl | (simp; done) | (simp [*]; done)), H', ⟨Nat.le_refl _⟩, ⟨by (with_reducible repeat (first | apply Kd.R_alloc | apply Kd.R_drewN | apply Kd.R_drew)); exact HO148.out⟩, ⟨zv6 HB.out⟩⟩
    case round =>
     clear H'
     try clear c1
     try clear p1
     try clear q1
     try clear hx1
     try clear c2
     try clear c2b0
     try clear p2
     try clear c3
     try clear c3b0
     try clear c4
     try clear c4b0
     try clear c5
     try clear c5b0
     try clear c6
     try clear p6
     try clear hx145_0
     try clear p145
     try clear q145
     obtain ⟨x6_2, x27_2, rfl, HA, HK2, HO_6, HB⟩ := hrel
     cases gk with
     | zero => exact absurd HA.out (by simp [slices_Concat_int_int.l1])
     | succ k2 =>
      have H := HA.out
      clear HA
      simp only [slices_Concat_int_int.l1] at H
      by_cases c8 : x27_2 < (l0.length : Int)
      ·rw [if_pos c8] at H
       have c8b0 : decide (x27_2 < (l0.length : Int)) = true := decide_eq_true c8
       clear c8
       by_cases c9 : 0 ≤ x27_2
       ·rw [if_pos c9] at H
        have c9b0 : decide (0 ≤ x27_2) = true := decide_eq_true c9
        clear c9
        by_cases c10 : x27_2 < (l0.length : Int)
        ·rw [if_pos c10] at H
         have c10b0 : decide (x27_2 < (l0.length : Int)) = true := decide_eq_true c10
         clear c10
         by_cases c11 : x6_2.length + (rd_L1 l0 x27_2).length < 17592186044416
         ·rw [if_pos c11] at H
          have LMc11 := zp.mk c11
          clear c11
          obtain ⟨y150, hy150⟩ : ∃ y_ : List Int, y_ = (x6_2 ++ (rd_L1 l0 x27_2)) := ⟨_, rfl⟩
          replace H : (slices_Concat_int_int.l1 k2 y150 l0 (l0.length : Int) (wrap64 (x27_2 + 1))) = some r := by first | (rw [hy150]; with_reducible exact H) | (have H2_ := (Option.bind_some _ _).symm.trans H; rw [hy150]; with_reducible exact H2_) | (have H2_ := (Option.bind_some _ _).symm.trans H; with_reducible exact H2_) | with_reducible exact H | (rw [hy150]; exact H) | exact H
          have Ny150 := zp.mk hy150
          clear hy150
          have H' := zp.mk H
          clear H
          have p149 : 0 ≤ (x27_2 : Int) := of_decide_eq_true (by first | (with_reducible assumption) | assumption)
          have q149 : x27_2 < (l0.length : Int) := of_decide_eq_true (by first | (with_reducible assumption) | assumption)
          obtain ⟨ad149, A149_0, c149_0, e149, hx149_0, hl149_0, hi149_0⟩ := at_L1 HR0.out x27_2 p149 q149
          cases e149
          replace hx149_0 := (HB.out.cell (World.block_lt_of_cell? w _ hx149_0)).trans hx149_0
          have HR149_0 := zp.mk hi149_0
          have HC149_0 := zp.mk hl149_0
          clear hi149_0 hl149_0
          replace p149 := eq_true p149
          replace q149 := eq_true q149
          go_wp2_with (first | ((with_reducible refine gate_builtin (b := .append) (xs := #[.tmp 31, .tmp 32]) rfl ?_); at_builtin; refine Kd.R_append_rows (Kd.int .i64) (w0 := w) w.heap.size rfl (.tmp 31) (.tmp 32) 25 3 (.int .i64 0) 8 rfl Try.underlying25 info3 rfl (by decide) (by omega) u6 x6_2 (rd_L1 l0 x27_2) _ _ _ (fun _ => True) (fun _ => False) rfl rfl ?aO ?aR (fun _ _ h => h) (fun _ h => h.elim) ?aF ?aB ?aS ?aL ?_; (case aR => repeat (first | exact (Kd.zt HR149_0.out HB.out) | (with_reducible refine Kd.zr ?_ _) | (with_reducible refine Kd.zq ?_ _) | (with_reducible refine Kd.C_drew ?_))); (case aB => exact (zv6 HB.out)); (case aF => exact (fun _ _ => trivial)); (case aO => exact (by (with_reducible repeat (first | apply Kd.R_alloc | apply Kd.R_drewN | apply Kd.R_drew)); exact HO_6.out)); (case aS => exact (zk (zv6 HB.out))); (case aL => have := LMc11.out; omega); intro v151 w12 ho hb hg hat; rw [← Ny150.out] at ho; have n0_ := zp.mk (hb); have n1_ := zp.mk (ho); clear HB; clear HO_6; have HB := n0_; have HO152 := n1_; clear n0_ n1_; clear ho hb hg hat))
          go_roundg k2
          case measure => have := HK1.out; have := HK2.out; omega
          case rel => exact ⟨(y150), (wrap64 (x27_2 + 1)), (by first | rfl | (simp; done) | (simp [*]; done)), H', ⟨by have := HK1.out; have := HK2.out; omega⟩, ⟨by (with_reducible repeat (first | apply Kd.R_alloc | apply Kd.R_drewN | apply Kd.R_drew)); exact HO152.out⟩, ⟨zv6 HB.out⟩⟩
         ·rw [if_neg c11] at H
          exact absurd H (by simp)
        ·rw [if_neg c10] at H
         exact absurd H (by simp)
       ·rw [if_neg c9] at H
        exact absurd H (by simp)
      ·rw [if_neg c8] at H
       have c8b0 : decide (x27_2 < (l0.length : Int)) = false := decide_eq_false c8
       clear c8
       obtain rfl := Option.some.inj H
       go_wp2
       go_ret
       exact ⟨_, by first | rfl | (simp [errW_none, errW_some] <;> rfl) | (simp [*, errW_none, errW_some] <;> rfl), by (with_reducible repeat (first | apply Kd.R_alloc | apply Kd.R_drewN | apply Kd.R_drew)); exact HO_6.out, zv6 HB.out⟩

/-! ### impl_TopOf: function 21 -/
def impl_TopOf.f (k : Nat) (l0 : List Int) (l1 : List Int) : Option (List Int) := (slices_Concat_int_int.f k (([l0, l1] : List (List Int)))).bind fun t156 => ((impl_topOf.f t156).bind fun t159 => (some t159))
set_option maxHeartbeats 8000000 in
set_option maxRecDepth 100000 in
theorem impl_TopOf.calls (k : Nat) (P0_ : Nat → Prop) (A0 : Option Addr) (c0 : Nat) (l0 : List Int) (P1_ : Nat → Prop) (A1 : Option Addr) (c1 : Nat) (l1 : List Int) (r : List Int) (w : World) (hs0 : Kd.V (Kd.int .i64) 3 w w.heap.size (fun k_ => P0_ k_) (.slice A0 l0.length c0) l0) (hs1 : Kd.V (Kd.int .i64) 3 w w.heap.size (fun k_ => P1_ k_) (.slice A1 l1.length c1) l1) (h : impl_TopOf.f k l0 l1 = some r) :
  Calls Try.prog 21 #[.slice A0 l0.length c0, .slice A1 l1.length c1] w fun e w' => ∃ v0_ : Value, e = .returned (v0_) ∧ Kd.R (Kd.int .i64) 3 w' w.heap.size (fun k_ => (w.heap.size ≤ k_)) v0_ r ∧ Below w.heap.size w w' := by
 have HO0 := zp.mk (show Kd.V (Kd.int .i64) 3 w w.heap.size (fun k_ => ((P0_ k_ ∨ P1_ k_) ∨ w.heap.size ≤ k_)) (.slice A0 l0.length c0) l0 from Kd.V_mono hs0 (fun k_ hk => .inl (.inl hk)))
 have HO1 := zp.mk (show Kd.V (Kd.int .i64) 3 w w.heap.size (fun k_ => ((P0_ k_ ∨ P1_ k_) ∨ w.heap.size ≤ k_)) (.slice A1 l1.length c1) l1 from Kd.V_mono hs1 (fun k_ hk => .inl (.inr hk)))
 have HB := zp.mk (Below.refl w.heap.size w)
 have H : ((slices_Concat_int_int.f k (([l0, l1] : List (List Int)))).bind fun t156 => ((impl_topOf.f t156).bind fun t159 => (some t159))) = some r := h
 clear h
 obtain ⟨y153, hy153⟩ : ∃ y_ : List (List Int), y_ = (([l0, l1] : List (List Int))) := ⟨_, rfl⟩
 replace H : ((slices_Concat_int_int.f k y153).bind fun t156 => ((impl_topOf.f t156).bind fun t159 => (some t159))) = some r := by first | (rw [hy153]; with_reducible exact H) | (have H2_ := (Option.bind_some _ _).symm.trans H; rw [hy153]; with_reducible exact H2_) | (have H2_ := (Option.bind_some _ _).symm.trans H; with_reducible exact H2_) | with_reducible exact H | (rw [hy153]; exact H) | exact H
 have Ny153 := zp.mk hy153
 clear hy153
 replace H := zs4 H
 obtain ⟨t156, A30, H⟩ := H
 replace H : ((impl_topOf.f t156).bind fun t159 => (some t159)) = some r := H
 have A3 := zp.mk A30
 clear A30
 replace H := zs4 H
 obtain ⟨t159, A40, H⟩ := H
 replace H : (some t159) = some r := H
 have A4 := zp.mk A40
 clear A40
 obtain rfl := Option.some.inj H
 go_enter Try.func21, Try.ntmps21
 go_wp2_with (first | ((with_reducible refine zo (N := 7) rfl ?_); refine Kd.N_lit (Kd.slice 3 (Kd.int .i64)) _ 25 ?hg (N' := 7) ?hd (xs := ([l0, l1] : List (List Int))) (inner := [.slice A0 l0.length c0, .slice A1 l1.length c1]) (ok := (fun k_ => ((P0_ k_ ∨ P1_ k_) ∨ w.heap.size ≤ k_))) (okp := (fun k_ => ((P0_ k_ ∨ P1_ k_) ∨ w.heap.size ≤ k_))) ?hr ?hp (fun _ hk => hk) ((show ∀ k_, w.heap.size ≤ k_ → (fun k_ => ((P0_ k_ ∨ P1_ k_) ∨ w.heap.size ≤ k_)) k_ from fun k_ hk => (.inr (Nat.le_trans (zk (zv6 HB.out)) hk))) _ (Nat.le_refl _)) (Below.refl _ _) (Nat.le_refl _) (by simp) ?_; (case hd => rfl); (case hg => rfl); (case hr => first | (go_simp; done) | (go_simp; rfl)); (case hp => exact (Reps.one (show Kd.FK (Kd.slice 3 (Kd.int .i64)) _ _ l0 [.slice A0 l0.length c0] from (Kd.FK_slice_mk (Kd.V_reads' (Kd.V_mono (ok' := (fun k_ => ((P0_ k_ ∨ P1_ k_) ∨ w.heap.size ≤ k_))) (HO0.out) (fun k_ hk => hk))).2.1 (Kd.V_F (Kd.V_mono (ok' := (fun k_ => ((P0_ k_ ∨ P1_ k_) ∨ w.heap.size ≤ k_))) (HO0.out) (fun k_ hk => hk))))) (Reps.one (show Kd.FK (Kd.slice 3 (Kd.int .i64)) _ _ l1 [.slice A1 l1.length c1] from (Kd.FK_slice_mk (Kd.V_reads' (Kd.V_mono (ok' := (fun k_ => ((P0_ k_ ∨ P1_ k_) ∨ w.heap.size ≤ k_))) (HO1.out) (fun k_ hk => hk))).2.1 (Kd.V_F (Kd.V_mono (ok' := (fun k_ => ((P0_ k_ ∨ P1_ k_) ∨ w.heap.size ≤ k_))) (HO1.out) (fun k_ hk => hk))))) (Reps.none _ _)))); intro v154 w5 ho6 hb hg_ hnew_; clear hg_ hnew_; (first | rw [← Ny153.out] at ho6 | (simp only [Int.reduceToNat] at ho6; rw [← Ny153.out] at ho6)); have HO155 := zp.mk (Kd.N_lower ho6 (zk (zv6 HB.out))); replace HO0 := zp.mk (Kd.V_elder' (by (with_reducible repeat (first | apply Kd.V_alloc | apply Kd.V_drewN | apply Kd.V_drew)); exact HO0.out) (Kd.N_base ho6) hb); replace HO1 := zp.mk (Kd.V_elder' (by (with_reducible repeat (first | apply Kd.V_alloc | apply Kd.V_drewN | apply Kd.V_drew)); exact HO1.out) (Kd.N_base ho6) hb); replace HB := zp.mk (zj (zv6 HB.out) hb); clear hb ho6; obtain ⟨Ao7, co7, eo7⟩ := Kd.N_slice HO155.out; subst eo7) | ((with_reducible refine zn (f := 42) rfl ?_); refine goesL_ (some 8) rfl rfl Try.func42 (by kernel_rfl) rfl #[.slice Ao7 y153.length co7] rfl (by (try simp only [List.map_toArray, List.map_cons, List.map_nil]); first | done | rfl | (simp only [List.length_drop, List.length_take]; rfl)) ?_; (with_reducible refine (slices_Concat_int_int.calls k _ _ y153 t156 _ ?side1 ?side2 A3.out).mono ?_); (case side1 => repeat (first | exact (Kd.N_reads' HO155.out).2.2 | (with_reducible refine Kd.zr ?_ _) | (with_reducible refine Kd.zq ?_ _) | (with_reducible refine Kd.C_drew ?_))); (case side2 => exact (Kd.N_reads' HO155.out).2.1); rintro e w8 ⟨v157, rfl, ho0, hb⟩; refine ⟨_, rfl, ?_⟩; have HO158 := zp.mk (Kd.R_lower (Kd.R_newM (M := fun k_ => (w.heap.size ≤ k_)) ho0 (zk (zv6 HB.out)) (fun k_ h_ => h_)) (zk (zv6 HB.out))); replace HO0 := zp.mk (Kd.V_elder' (by (with_reducible repeat (first | apply Kd.V_alloc | apply Kd.V_drewN | apply Kd.V_drew)); exact HO0.out) (Kd.R_base ho0) hb); replace HO1 := zp.mk (Kd.V_elder' (by (with_reducible repeat (first | apply Kd.V_alloc | apply Kd.V_drewN | apply Kd.V_drew)); exact HO1.out) (Kd.R_base ho0) hb); replace HO155 := zp.mk (Kd.N_elder' (by (with_reducible repeat (first | apply Kd.N_alloc | apply Kd.N_drewN | apply Kd.N_drew)); exact HO155.out) (Kd.R_base ho0) hb); replace HB := zp.mk (zj (zv6 HB.out) hb); (try clear hb); (try clear hb2); (try clear hk); (try clear hi); (try clear ho0); obtain ⟨Ao9, co9, eo9⟩ := Kd.R_slice HO158.out; subst eo9) | ((with_reducible refine zn (f := 41) rfl ?_); refine goesL_ (some 9) rfl rfl Try.func41 (by kernel_rfl) rfl #[.slice Ao9 t156.length co9] rfl (by (try simp only [List.map_toArray, List.map_cons, List.map_nil]); first | done | rfl | (simp only [List.length_drop, List.length_take]; rfl)) ?_; (with_reducible refine (impl_topOf.calls _ _ t156 t159 _ ?side1 ?side2 A4.out).mono ?_); (case side1 => repeat (first | exact (Kd.R_reads' HO158.out).2.2 | (with_reducible refine Kd.zr ?_ _) | (with_reducible refine Kd.zq ?_ _) | (with_reducible refine Kd.C_drew ?_))); (case side2 => exact (Kd.R_reads' HO158.out).2.1); rintro e w10 ⟨v160, rfl, ho0, hb⟩; refine ⟨_, rfl, ?_⟩; have HO161 := zp.mk (Kd.R_lower (Kd.R_new' (Kd.R_newM (M := fun k_ => (w.heap.size ≤ k_)) ho0 (zk (zv6 HB.out)) (fun k_ h_ => h_)) (Kd.R_lt (by (with_reducible repeat (first | apply Kd.R_alloc | apply Kd.R_drewN | apply Kd.R_drew)); exact HO158.out))) (zk (zv6 HB.out))); replace HO0 := zp.mk (Kd.V_elder' (by (with_reducible repeat (first | apply Kd.V_alloc | apply Kd.V_drewN | apply Kd.V_drew)); exact HO0.out) (Kd.R_base ho0) hb); replace HO1 := zp.mk (Kd.V_elder' (by (with_reducible repeat (first | apply Kd.V_alloc | apply Kd.V_drewN | apply Kd.V_drew)); exact HO1.out) (Kd.R_base ho0) hb); replace HO155 := zp.mk (Kd.N_elder' (by (with_reducible repeat (first | apply Kd.N_alloc | apply Kd.N_drewN | apply Kd.N_drew)); exact HO155.out) (Kd.R_base ho0) hb); replace HO158 := zp.mk (Kd.R_elder' (by (with_reducible repeat (first | apply Kd.R_alloc | apply Kd.R_drewN | apply Kd.R_drew)); exact HO158.out) (Kd.R_base ho0) hb); replace HB := zp.mk (zj (zv6 HB.out) hb); (try clear hb); (try clear hb2); (try clear hk); (try clear hi); (try clear ho0)))
 go_ret
 exact ⟨_, by first | rfl | (simp [errW_none, errW_some] <;> rfl) | (simp [*, errW_none, errW_some] <;> rfl), by (with_reducible repeat (first | apply Kd.R_alloc | apply Kd.R_drewN | apply Kd.R_drew)); exact Kd.R_mono HO161.out (fun _ hk => hk.1.1), zv6 HB.out⟩

/-! ### laws_FnExactTopOf: function 5 -/
def laws_FnExactTopOf.j0 : Nat → List Int → List Int → List Int → List Int → Bool → Option (Bool)
 | 0, _, _, _, _, _ => none
 | k + 1, x0, x1, x5, x8, x58 => if x58 = true then (some false) else ((laws_markIntS.f k x8 1).bind fun bt194 => ((laws_heldIntS.f k bt194.2 1).bind fun t196 => (if t196 < 0 then (some false) else (if t196 = bt194.1 then ((laws_toIntS.f k x0).bind fun t197 => ((laws_toIntS.f k x1).bind fun t200 => ((impl_TopOf.f k t197 t200).bind fun t203 => ((laws_eqIntS.f k t203 x5).bind fun t206 => (if t206 = true then ((laws_heldIntS.f k bt194.2 1).bind fun t207 => (if t207 < 0 then (some false) else (if t207 = bt194.1 then (some true) else (some false)))) else (some false)))))) else (some false)))))
def laws_FnExactTopOf.f (k : Nat) (l0 : List Int) (l1 : List Int) : Option (Bool) := if (l0.length : Int) > 1048576 then (some true) else (if (l1.length : Int) > 1048576 then (some true) else ((laws_toIntS.f k l0).bind fun t162 => ((laws_toIntS.f k l1).bind fun t165 => ((spec_TopOf.f k t162 t165).bind fun t168 => ((laws_toIntS.f k l0).bind fun t171 => ((laws_toIntS.f k l1).bind fun t174 => ((impl_TopOf.f k t171 t174).bind fun t177 => ((laws_eqIntS.f k t177 t168).bind fun t180 => (if t180 = true then ((laws_toIntS.f k l0).bind fun t181 => ((laws_eqIntS.f k t171 t181).bind fun t184 => (if t184 = true then ((laws_toIntS.f k l1).bind fun t185 => ((laws_eqIntS.f k t174 t185).bind fun t188 => (if t188 = true then ((laws_markIntS.f k t171 1).bind fun bt189 => ((laws_markIntS.f k t174 bt189.1).bind fun bt191 => (if bt191.1 < 0 then (laws_FnExactTopOf.j0 k l0 l1 t168 t177 true) else ((laws_eqIntS.f k t177 t168).bind fun t193 => (laws_FnExactTopOf.j0 k l0 l1 t168 t177 (!t193)))))) else (some false)))) else (some false)))) else (some false))))))))))
set_option maxHeartbeats 8000000 in
set_option maxRecDepth 100000 in
theorem laws_FnExactTopOf.calls (k : Nat) (A0 : Option Addr) (c0 : Nat) (l0 : List Int) (A1 : Option Addr) (c1 : Nat) (l1 : List Int) (r : Bool) (w : World) (hr0 : Kd.C (Kd.int .i64) w A0 l0.length l0) (hc0 : l0.length ≤ c0) (hr1 : Kd.C (Kd.int .i64) w A1 l1.length l1) (hc1 : l1.length ≤ c1) (hr_ : r = true) (h : laws_FnExactTopOf.f k l0 l1 = some r) :
  Calls Try.prog 5 #[.slice A0 l0.length c0, .slice A1 l1.length c1] w fun e w' => e = .returned (.bool r) ∧ Below w.heap.size w w' := by
 have HR0 := zp.mk hr0
 have HC0 := zp.mk hc0
 clear hr0 hc0
 have HR1 := zp.mk hr1
 have HC1 := zp.mk hc1
 clear hr1 hc1
 have HB := zp.mk (Below.refl w.heap.size w)
 have H : (if (l0.length : Int) > 1048576 then (some true) else (if (l1.length : Int) > 1048576 then (some true) else ((laws_toIntS.f k l0).bind fun t162 => ((laws_toIntS.f k l1).bind fun t165 => ((spec_TopOf.f k t162 t165).bind fun t168 => ((laws_toIntS.f k l0).bind fun t171 => ((laws_toIntS.f k l1).bind fun t174 => ((impl_TopOf.f k t171 t174).bind fun t177 => ((laws_eqIntS.f k t177 t168).bind fun t180 => (if t180 = true then ((laws_toIntS.f k l0).bind fun t181 => ((laws_eqIntS.f k t171 t181).bind fun t184 => (if t184 = true then ((laws_toIntS.f k l1).bind fun t185 => ((laws_eqIntS.f k t174 t185).bind fun t188 => (if t188 = true then ((laws_markIntS.f k t171 1).bind fun bt189 => ((laws_markIntS.f k t174 bt189.1).bind fun bt191 => (if bt191.1 < 0 then (laws_FnExactTopOf.j0 k l0 l1 t168 t177 true) else ((laws_eqIntS.f k t177 t168).bind fun t193 => (laws_FnExactTopOf.j0 k l0 l1 t168 t177 (!t193)))))) else (some false)))) else (some false)))) else (some false))))))))))) = some r := h
 clear h
 by_cases c3 : (l0.length : Int) > 1048576
 ·rw [if_pos c3] at H
  have c3b0 : decide (1048576 < (l0.length : Int)) = true := decide_eq_true c3
  have c3b1 : decide (1048576 < l0.length) = true := decide_eq_true (by omega)
  clear c3
  obtain rfl := Option.some.inj H
  go_enter Try.func5, Try.ntmps5
  go_wp2
  go_ret
  exact ⟨by first | rfl | (simp [errW_none, errW_some] <;> rfl) | (simp [*, errW_none, errW_some] <;> rfl), zv6 HB.out⟩
 ·rw [if_neg c3] at H
  have c3b0 : decide (1048576 < (l0.length : Int)) = false := decide_eq_false c3
  have c3b1 : decide (1048576 < l0.length) = false := decide_eq_false (by omega)
  clear c3
  by_cases c4 : (l1.length : Int) > 1048576
  ·rw [if_pos c4] at H
   have c4b0 : decide (1048576 < (l1.length : Int)) = true := decide_eq_true c4
   have c4b1 : decide (1048576 < l1.length) = true := decide_eq_true (by omega)
   clear c4
   obtain rfl := Option.some.inj H
   go_enter Try.func5, Try.ntmps5
   go_wp2
   go_ret
   exact ⟨by first | rfl | (simp [errW_none, errW_some] <;> rfl) | (simp [*, errW_none, errW_some] <;> rfl), zv6 HB.out⟩
  ·rw [if_neg c4] at H
   have c4b0 : decide (1048576 < (l1.length : Int)) = false := decide_eq_false c4
   have c4b1 : decide (1048576 < l1.length) = false := decide_eq_false (by omega)
   clear c4
   replace H := zs4 H
   obtain ⟨t162, A50, H⟩ := H
   replace H : ((laws_toIntS.f k l1).bind fun t165 => ((spec_TopOf.f k t162 t165).bind fun t168 => ((laws_toIntS.f k l0).bind fun t171 => ((laws_toIntS.f k l1).bind fun t174 => ((impl_TopOf.f k t171 t174).bind fun t177 => ((laws_eqIntS.f k t177 t168).bind fun t180 => (if t180 = true then ((laws_toIntS.f k l0).bind fun t181 => ((laws_eqIntS.f k t171 t181).bind fun t184 => (if t184 = true then ((laws_toIntS.f k l1).bind fun t185 => ((laws_eqIntS.f k t174 t185).bind fun t188 => (if t188 = true then ((laws_markIntS.f k t171 1).bind fun bt189 => ((laws_markIntS.f k t174 bt189.1).bind fun bt191 => (if bt191.1 < 0 then (laws_FnExactTopOf.j0 k l0 l1 t168 t177 true) else ((laws_eqIntS.f k t177 t168).bind fun t193 => (laws_FnExactTopOf.j0 k l0 l1 t168 t177 (!t193)))))) else (some false)))) else (some false)))) else (some false)))))))) = some r := H
   have A5 := zp.mk A50
   clear A50
   replace H := zs4 H
   obtain ⟨t165, A60, H⟩ := H
   replace H : ((spec_TopOf.f k t162 t165).bind fun t168 => ((laws_toIntS.f k l0).bind fun t171 => ((laws_toIntS.f k l1).bind fun t174 => ((impl_TopOf.f k t171 t174).bind fun t177 => ((laws_eqIntS.f k t177 t168).bind fun t180 => (if t180 = true then ((laws_toIntS.f k l0).bind fun t181 => ((laws_eqIntS.f k t171 t181).bind fun t184 => (if t184 = true then ((laws_toIntS.f k l1).bind fun t185 => ((laws_eqIntS.f k t174 t185).bind fun t188 => (if t188 = true then ((laws_markIntS.f k t171 1).bind fun bt189 => ((laws_markIntS.f k t174 bt189.1).bind fun bt191 => (if bt191.1 < 0 then (laws_FnExactTopOf.j0 k l0 l1 t168 t177 true) else ((laws_eqIntS.f k t177 t168).bind fun t193 => (laws_FnExactTopOf.j0 k l0 l1 t168 t177 (!t193)))))) else (some false)))) else (some false)))) else (some false))))))) = some r := H
   have A6 := zp.mk A60
   clear A60
   replace H := zs4 H
   obtain ⟨t168, A70, H⟩ := H
   replace H : ((laws_toIntS.f k l0).bind fun t171 => ((laws_toIntS.f k l1).bind fun t174 => ((impl_TopOf.f k t171 t174).bind fun t177 => ((laws_eqIntS.f k t177 t168).bind fun t180 => (if t180 = true then ((laws_toIntS.f k l0).bind fun t181 => ((laws_eqIntS.f k t171 t181).bind fun t184 => (if t184 = true then ((laws_toIntS.f k l1).bind fun t185 => ((laws_eqIntS.f k t174 t185).bind fun t188 => (if t188 = true then ((laws_markIntS.f k t171 1).bind fun bt189 => ((laws_markIntS.f k t174 bt189.1).bind fun bt191 => (if bt191.1 < 0 then (laws_FnExactTopOf.j0 k l0 l1 t168 t177 true) else ((laws_eqIntS.f k t177 t168).bind fun t193 => (laws_FnExactTopOf.j0 k l0 l1 t168 t177 (!t193)))))) else (some false)))) else (some false)))) else (some false)))))) = some r := H
   have A7 := zp.mk A70
   clear A70
   replace H := zs4 H
   obtain ⟨t171, A80, H⟩ := H
   replace H : ((laws_toIntS.f k l1).bind fun t174 => ((impl_TopOf.f k t171 t174).bind fun t177 => ((laws_eqIntS.f k t177 t168).bind fun t180 => (if t180 = true then ((laws_toIntS.f k l0).bind fun t181 => ((laws_eqIntS.f k t171 t181).bind fun t184 => (if t184 = true then ((laws_toIntS.f k l1).bind fun t185 => ((laws_eqIntS.f k t174 t185).bind fun t188 => (if t188 = true then ((laws_markIntS.f k t171 1).bind fun bt189 => ((laws_markIntS.f k t174 bt189.1).bind fun bt191 => (if bt191.1 < 0 then (laws_FnExactTopOf.j0 k l0 l1 t168 t177 true) else ((laws_eqIntS.f k t177 t168).bind fun t193 => (laws_FnExactTopOf.j0 k l0 l1 t168 t177 (!t193)))))) else (some false)))) else (some false)))) else (some false))))) = some r := H
   have A8 := zp.mk A80
   clear A80
   replace H := zs4 H
   obtain ⟨t174, A90, H⟩ := H
   replace H : ((impl_TopOf.f k t171 t174).bind fun t177 => ((laws_eqIntS.f k t177 t168).bind fun t180 => (if t180 = true then ((laws_toIntS.f k l0).bind fun t181 => ((laws_eqIntS.f k t171 t181).bind fun t184 => (if t184 = true then ((laws_toIntS.f k l1).bind fun t185 => ((laws_eqIntS.f k t174 t185).bind fun t188 => (if t188 = true then ((laws_markIntS.f k t171 1).bind fun bt189 => ((laws_markIntS.f k t174 bt189.1).bind fun bt191 => (if bt191.1 < 0 then (laws_FnExactTopOf.j0 k l0 l1 t168 t177 true) else ((laws_eqIntS.f k t177 t168).bind fun t193 => (laws_FnExactTopOf.j0 k l0 l1 t168 t177 (!t193)))))) else (some false)))) else (some false)))) else (some false)))) = some r := H
   have A9 := zp.mk A90
   clear A90
   replace H := zs4 H
   obtain ⟨t177, A100, H⟩ := H
   replace H : ((laws_eqIntS.f k t177 t168).bind fun t180 => (if t180 = true then ((laws_toIntS.f k l0).bind fun t181 => ((laws_eqIntS.f k t171 t181).bind fun t184 => (if t184 = true then ((laws_toIntS.f k l1).bind fun t185 => ((laws_eqIntS.f k t174 t185).bind fun t188 => (if t188 = true then ((laws_markIntS.f k t171 1).bind fun bt189 => ((laws_markIntS.f k t174 bt189.1).bind fun bt191 => (if bt191.1 < 0 then (laws_FnExactTopOf.j0 k l0 l1 t168 t177 true) else ((laws_eqIntS.f k t177 t168).bind fun t193 => (laws_FnExactTopOf.j0 k l0 l1 t168 t177 (!t193)))))) else (some false)))) else (some false)))) else (some false))) = some r := H
   have A10 := zp.mk A100
   clear A100
   replace H := zs4 H
   obtain ⟨t180, A110, H⟩ := H
   replace H : (if t180 = true then ((laws_toIntS.f k l0).bind fun t181 => ((laws_eqIntS.f k t171 t181).bind fun t184 => (if t184 = true then ((laws_toIntS.f k l1).bind fun t185 => ((laws_eqIntS.f k t174 t185).bind fun t188 => (if t188 = true then ((laws_markIntS.f k t171 1).bind fun bt189 => ((laws_markIntS.f k t174 bt189.1).bind fun bt191 => (if bt191.1 < 0 then (laws_FnExactTopOf.j0 k l0 l1 t168 t177 true) else ((laws_eqIntS.f k t177 t168).bind fun t193 => (laws_FnExactTopOf.j0 k l0 l1 t168 t177 (!t193)))))) else (some false)))) else (some false)))) else (some false)) = some r := H
   have A11 := zp.mk A110
   clear A110
   by_cases c12 : t180 = true
   ·subst c12
    have H1 : ((laws_toIntS.f k l0).bind fun t181 => ((laws_eqIntS.f k t171 t181).bind fun t184 => (if t184 = true then ((laws_toIntS.f k l1).bind fun t185 => ((laws_eqIntS.f k t174 t185).bind fun t188 => (if t188 = true then ((laws_markIntS.f k t171 1).bind fun bt189 => ((laws_markIntS.f k t174 bt189.1).bind fun bt191 => (if bt191.1 < 0 then (laws_FnExactTopOf.j0 k l0 l1 t168 t177 true) else ((laws_eqIntS.f k t177 t168).bind fun t193 => (laws_FnExactTopOf.j0 k l0 l1 t168 t177 (!t193)))))) else (some false)))) else (some false)))) = some r := by rw [if_pos rfl] at H; exact H
    clear H
    have H := H1
    clear H1
    replace H := zs4 H
    obtain ⟨t181, A130, H⟩ := H
    replace H : ((laws_eqIntS.f k t171 t181).bind fun t184 => (if t184 = true then ((laws_toIntS.f k l1).bind fun t185 => ((laws_eqIntS.f k t174 t185).bind fun t188 => (if t188 = true then ((laws_markIntS.f k t171 1).bind fun bt189 => ((laws_markIntS.f k t174 bt189.1).bind fun bt191 => (if bt191.1 < 0 then (laws_FnExactTopOf.j0 k l0 l1 t168 t177 true) else ((laws_eqIntS.f k t177 t168).bind fun t193 => (laws_FnExactTopOf.j0 k l0 l1 t168 t177 (!t193)))))) else (some false)))) else (some false))) = some r := H
    have A13 := zp.mk A130
    clear A130
    replace H := zs4 H
    obtain ⟨t184, A140, H⟩ := H
    replace H : (if t184 = true then ((laws_toIntS.f k l1).bind fun t185 => ((laws_eqIntS.f k t174 t185).bind fun t188 => (if t188 = true then ((laws_markIntS.f k t171 1).bind fun bt189 => ((laws_markIntS.f k t174 bt189.1).bind fun bt191 => (if bt191.1 < 0 then (laws_FnExactTopOf.j0 k l0 l1 t168 t177 true) else ((laws_eqIntS.f k t177 t168).bind fun t193 => (laws_FnExactTopOf.j0 k l0 l1 t168 t177 (!t193)))))) else (some false)))) else (some false)) = some r := H
    have A14 := zp.mk A140
    clear A140
    by_cases c15 : t184 = true
    ·subst c15
     have H1 : ((laws_toIntS.f k l1).bind fun t185 => ((laws_eqIntS.f k t174 t185).bind fun t188 => (if t188 = true then ((laws_markIntS.f k t171 1).bind fun bt189 => ((laws_markIntS.f k t174 bt189.1).bind fun bt191 => (if bt191.1 < 0 then (laws_FnExactTopOf.j0 k l0 l1 t168 t177 true) else ((laws_eqIntS.f k t177 t168).bind fun t193 => (laws_FnExactTopOf.j0 k l0 l1 t168 t177 (!t193)))))) else (some false)))) = some r := by rw [if_pos rfl] at H; exact H
     clear H
     have H := H1
     clear H1
     replace H := zs4 H
     obtain ⟨t185, A160, H⟩ := H
     replace H : ((laws_eqIntS.f k t174 t185).bind fun t188 => (if t188 = true then ((laws_markIntS.f k t171 1).bind fun bt189 => ((laws_markIntS.f k t174 bt189.1).bind fun bt191 => (if bt191.1 < 0 then (laws_FnExactTopOf.j0 k l0 l1 t168 t177 true) else ((laws_eqIntS.f k t177 t168).bind fun t193 => (laws_FnExactTopOf.j0 k l0 l1 t168 t177 (!t193)))))) else (some false))) = some r := H
     have A16 := zp.mk A160
     clear A160
     replace H := zs4 H
     obtain ⟨t188, A170, H⟩ := H
     replace H : (if t188 = true then ((laws_markIntS.f k t171 1).bind fun bt189 => ((laws_markIntS.f k t174 bt189.1).bind fun bt191 => (if bt191.1 < 0 then (laws_FnExactTopOf.j0 k l0 l1 t168 t177 true) else ((laws_eqIntS.f k t177 t168).bind fun t193 => (laws_FnExactTopOf.j0 k l0 l1 t168 t177 (!t193)))))) else (some false)) = some r := H
     have A17 := zp.mk A170
     clear A170
     by_cases c18 : t188 = true
     ·subst c18
      have H1 : ((laws_markIntS.f k t171 1).bind fun bt189 => ((laws_markIntS.f k t174 bt189.1).bind fun bt191 => (if bt191.1 < 0 then (laws_FnExactTopOf.j0 k l0 l1 t168 t177 true) else ((laws_eqIntS.f k t177 t168).bind fun t193 => (laws_FnExactTopOf.j0 k l0 l1 t168 t177 (!t193)))))) = some r := by rw [if_pos rfl] at H; exact H
      clear H
      have H := H1
      clear H1
      replace H := zs4 H
      obtain ⟨⟨t189, t190⟩, A190, H⟩ := H
      replace H : ((laws_markIntS.f k t174 t189).bind fun bt191 => (if bt191.1 < 0 then (laws_FnExactTopOf.j0 k l0 l1 t168 t177 true) else ((laws_eqIntS.f k t177 t168).bind fun t193 => (laws_FnExactTopOf.j0 k l0 l1 t168 t177 (!t193))))) = some r := H
      have A19 := zp.mk A190
      clear A190
      replace H := zs4 H
      obtain ⟨⟨t191, t192⟩, A200, H⟩ := H
      replace H : (if t191 < 0 then (laws_FnExactTopOf.j0 k l0 l1 t168 t177 true) else ((laws_eqIntS.f k t177 t168).bind fun t193 => (laws_FnExactTopOf.j0 k l0 l1 t168 t177 (!t193)))) = some r := H
      have A20 := zp.mk A200
      clear A200
      have HC21 := zp.mk H
      clear H
      go_enter Try.func5, Try.ntmps5
      go_upto_region 18 with (first | ((with_reducible refine zn (f := 20) rfl ?_); refine goesL_ (some 20) rfl rfl Try.func20 (by kernel_rfl) rfl #[.slice A0 l0.length c0] rfl (by (try simp only [List.map_toArray, List.map_cons, List.map_nil]); first | done | rfl | (simp only [List.length_drop, List.length_take]; rfl)) ?_; (with_reducible refine (laws_toIntS.calls k _ _ l0 t162 _ ?side1 ?side2 A5.out).mono ?_); (case side1 => repeat (first | exact HR0.out | (with_reducible refine Kd.zr ?_ _) | (with_reducible refine Kd.zq ?_ _) | (with_reducible refine Kd.C_drew ?_))); (case side2 => exact HC0.out); rintro e w22 ⟨v163, rfl, ho0, hb⟩; refine ⟨_, rfl, ?_⟩; have HO164 := zp.mk (Kd.R_lower ho0 (zk (zv6 HB.out))); replace HB := zp.mk (zj (zv6 HB.out) hb); (try clear hb); (try clear hb2); (try clear hk); (try clear hi); (try clear ho0)) | ((with_reducible refine zn (f := 20) rfl ?_); refine goesL_ (some 22) rfl rfl Try.func20 (by kernel_rfl) rfl #[.slice A1 l1.length c1] rfl (by (try simp only [List.map_toArray, List.map_cons, List.map_nil]); first | done | rfl | (simp only [List.length_drop, List.length_take]; rfl)) ?_; (with_reducible refine (laws_toIntS.calls k _ _ l1 t165 _ ?side1 ?side2 A6.out).mono ?_); (case side1 => repeat (first | exact (Kd.zt HR1.out HB.out) | (with_reducible refine Kd.zr ?_ _) | (with_reducible refine Kd.zq ?_ _) | (with_reducible refine Kd.C_drew ?_))); (case side2 => exact HC1.out); rintro e w23 ⟨v166, rfl, ho0, hb⟩; refine ⟨_, rfl, ?_⟩; have HO167 := zp.mk (Kd.R_lower (Kd.R_new' ho0 (Kd.R_lt (by (with_reducible repeat (first | apply Kd.R_alloc | apply Kd.R_drewN | apply Kd.R_drew)); exact HO164.out))) (zk (zv6 HB.out))); replace HO164 := zp.mk (Kd.R_elder' (by (with_reducible repeat (first | apply Kd.R_alloc | apply Kd.R_drewN | apply Kd.R_drew)); exact HO164.out) (Kd.R_base ho0) hb); replace HB := zp.mk (zj (zv6 HB.out) hb); (try clear hb); (try clear hb2); (try clear hk); (try clear hi); (try clear ho0); obtain ⟨Ao24, co24, eo24⟩ := Kd.R_slice HO164.out; subst eo24; obtain ⟨Ao25, co25, eo25⟩ := Kd.R_slice HO167.out; subst eo25) | ((with_reducible refine zn (f := 19) rfl ?_); refine goesL_ (some 23) rfl rfl Try.func19 (by kernel_rfl) rfl #[.slice Ao24 t162.length co24, .slice Ao25 t165.length co25] rfl (by (try simp only [List.map_toArray, List.map_cons, List.map_nil]); first | done | rfl | (simp only [List.length_drop, List.length_take]; rfl)) ?_; (with_reducible refine (spec_TopOf.calls k _ _ t162 _ _ t165 t168 _ ?side1 ?side2 ?side3 ?side4 A7.out).mono ?_); (case side1 => repeat (first | exact (Kd.R_reads' HO164.out).2.2 | (with_reducible refine Kd.zr ?_ _) | (with_reducible refine Kd.zq ?_ _) | (with_reducible refine Kd.C_drew ?_))); (case side2 => exact (Kd.R_reads' HO164.out).2.1); (case side3 => repeat (first | exact (Kd.R_reads' HO167.out).2.2 | (with_reducible refine Kd.zr ?_ _) | (with_reducible refine Kd.zq ?_ _) | (with_reducible refine Kd.C_drew ?_))); (case side4 => exact (Kd.R_reads' HO167.out).2.1); rintro e w26 ⟨v169, rfl, ho0, hb⟩; refine ⟨_, rfl, ?_⟩; have HO170 := zp.mk (Kd.R_lower (Kd.R_new' (Kd.R_new' ho0 (Kd.R_lt (by (with_reducible repeat (first | apply Kd.R_alloc | apply Kd.R_drewN | apply Kd.R_drew)); exact HO164.out))) (Kd.R_lt (by (with_reducible repeat (first | apply Kd.R_alloc | apply Kd.R_drewN | apply Kd.R_drew)); exact HO167.out))) (zk (zv6 HB.out))); replace HO164 := zp.mk (Kd.R_elder' (by (with_reducible repeat (first | apply Kd.R_alloc | apply Kd.R_drewN | apply Kd.R_drew)); exact HO164.out) (Kd.R_base ho0) hb); replace HO167 := zp.mk (Kd.R_elder' (by (with_reducible repeat (first | apply Kd.R_alloc | apply Kd.R_drewN | apply Kd.R_drew)); exact HO167.out) (Kd.R_base ho0) hb); replace HB := zp.mk (zj (zv6 HB.out) hb); (try clear hb); (try clear hb2); (try clear hk); (try clear hi); (try clear ho0)) | ((with_reducible refine zn (f := 20) rfl ?_); refine goesL_ (some 25) rfl rfl Try.func20 (by kernel_rfl) rfl #[.slice A0 l0.length c0] rfl (by (try simp only [List.map_toArray, List.map_cons, List.map_nil]); first | done | rfl | (simp only [List.length_drop, List.length_take]; rfl)) ?_; (with_reducible refine (laws_toIntS.calls k _ _ l0 t171 _ ?side1 ?side2 A8.out).mono ?_); (case side1 => repeat (first | exact (Kd.zt HR0.out HB.out) | (with_reducible refine Kd.zr ?_ _) | (with_reducible refine Kd.zq ?_ _) | (with_reducible refine Kd.C_drew ?_))); (case side2 => exact HC0.out); rintro e w27 ⟨v172, rfl, ho0, hb⟩; refine ⟨_, rfl, ?_⟩; have HO173 := zp.mk (Kd.R_lower (Kd.R_new' (Kd.R_new' (Kd.R_new' ho0 (Kd.R_lt (by (with_reducible repeat (first | apply Kd.R_alloc | apply Kd.R_drewN | apply Kd.R_drew)); exact HO164.out))) (Kd.R_lt (by (with_reducible repeat (first | apply Kd.R_alloc | apply Kd.R_drewN | apply Kd.R_drew)); exact HO167.out))) (Kd.R_lt (by (with_reducible repeat (first | apply Kd.R_alloc | apply Kd.R_drewN | apply Kd.R_drew)); exact HO170.out))) (zk (zv6 HB.out))); replace HO164 := zp.mk (Kd.R_elder' (by (with_reducible repeat (first | apply Kd.R_alloc | apply Kd.R_drewN | apply Kd.R_drew)); exact HO164.out) (Kd.R_base ho0) hb); replace HO167 := zp.mk (Kd.R_elder' (by (with_reducible repeat (first | apply Kd.R_alloc | apply Kd.R_drewN | apply Kd.R_drew)); exact HO167.out) (Kd.R_base ho0) hb); replace HO170 := zp.mk (Kd.R_elder' (by (with_reducible repeat (first | apply Kd.R_alloc | apply Kd.R_drewN | apply Kd.R_drew)); exact HO170.out) (Kd.R_base ho0) hb); replace HB := zp.mk (zj (zv6 HB.out) hb); (try clear hb); (try clear hb2); (try clear hk); (try clear hi); (try clear ho0)) | ((with_reducible refine zn (f := 20) rfl ?_); refine goesL_ (some 27) rfl rfl Try.func20 (by kernel_rfl) rfl #[.slice A1 l1.length c1] rfl (by (try simp only [List.map_toArray, List.map_cons, List.map_nil]); first | done | rfl | (simp only [List.length_drop, List.length_take]; rfl)) ?_; (with_reducible refine (laws_toIntS.calls k _ _ l1 t174 _ ?side1 ?side2 A9.out).mono ?_); (case side1 => repeat (first | exact (Kd.zt HR1.out HB.out) | (with_reducible refine Kd.zr ?_ _) | (with_reducible refine Kd.zq ?_ _) | (with_reducible refine Kd.C_drew ?_))); (case side2 => exact HC1.out); rintro e w28 ⟨v175, rfl, ho0, hb⟩; refine ⟨_, rfl, ?_⟩; have HO176 := zp.mk (Kd.R_lower (Kd.R_new' (Kd.R_new' (Kd.R_new' (Kd.R_new' ho0 (Kd.R_lt (by (with_reducible repeat (first | apply Kd.R_alloc | apply Kd.R_drewN | apply Kd.R_drew)); exact HO164.out))) (Kd.R_lt (by (with_reducible repeat (first | apply Kd.R_alloc | apply Kd.R_drewN | apply Kd.R_drew)); exact HO167.out))) (Kd.R_lt (by (with_reducible repeat (first | apply Kd.R_alloc | apply Kd.R_drewN | apply Kd.R_drew)); exact HO170.out))) (Kd.R_lt (by (with_reducible repeat (first | apply Kd.R_alloc | apply Kd.R_drewN | apply Kd.R_drew)); exact HO173.out))) (zk (zv6 HB.out))); replace HO164 := zp.mk (Kd.R_elder' (by (with_reducible repeat (first | apply Kd.R_alloc | apply Kd.R_drewN | apply Kd.R_drew)); exact HO164.out) (Kd.R_base ho0) hb); replace HO167 := zp.mk (Kd.R_elder' (by (with_reducible repeat (first | apply Kd.R_alloc | apply Kd.R_drewN | apply Kd.R_drew)); exact HO167.out) (Kd.R_base ho0) hb); replace HO170 := zp.mk (Kd.R_elder' (by (with_reducible repeat (first | apply Kd.R_alloc | apply Kd.R_drewN | apply Kd.R_drew)); exact HO170.out) (Kd.R_base ho0) hb); replace HO173 := zp.mk (Kd.R_elder' (by (with_reducible repeat (first | apply Kd.R_alloc | apply Kd.R_drewN | apply Kd.R_drew)); exact HO173.out) (Kd.R_base ho0) hb); replace HB := zp.mk (zj (zv6 HB.out) hb); (try clear hb); (try clear hb2); (try clear hk); (try clear hi); (try clear ho0); obtain ⟨Ao29, co29, eo29⟩ := Kd.R_slice HO173.out; subst eo29; obtain ⟨Ao30, co30, eo30⟩ := Kd.R_slice HO176.out; subst eo30) | ((with_reducible refine zn (f := 21) rfl ?_); refine goesL_ (some 30) rfl rfl Try.func21 (by kernel_rfl) rfl #[.slice Ao29 t171.length co29, .slice Ao30 t174.length co30] rfl (by (try simp only [List.map_toArray, List.map_cons, List.map_nil]); first | done | rfl | (simp only [List.length_drop, List.length_take]; rfl)) ?_; (with_reducible refine (impl_TopOf.calls k (fun k_ => some k_ = (.slice Ao29 t171.length co29 : Value).ownBlock) _ _ t171 (fun k_ => some k_ = (.slice Ao30 t174.length co30 : Value).ownBlock) _ _ t174 t177 _ ?side1 ?side2 A10.out).mono ?_); (case side1 => exact Kd.R_V (Kd.R_tight rfl (HO173.out))); (case side2 => exact Kd.R_V (Kd.R_tight rfl (HO176.out))); rintro e w31 ⟨v178, rfl, ho0, hb⟩; refine ⟨_, rfl, ?_⟩; have HO179 := zp.mk (Kd.R_lower (Kd.R_new' (Kd.R_new' (Kd.R_new' (Kd.R_new' (Kd.R_new' (Kd.R_mono (ok' := fun k_ => True) ho0 (fun _ hk_ => trivial)) (Kd.R_lt (by (with_reducible repeat (first | apply Kd.R_alloc | apply Kd.R_drewN | apply Kd.R_drew)); exact HO164.out))) (Kd.R_lt (by (with_reducible repeat (first | apply Kd.R_alloc | apply Kd.R_drewN | apply Kd.R_drew)); exact HO167.out))) (Kd.R_lt (by (with_reducible repeat (first | apply Kd.R_alloc | apply Kd.R_drewN | apply Kd.R_drew)); exact HO170.out))) (Kd.R_lt (by (with_reducible repeat (first | apply Kd.R_alloc | apply Kd.R_drewN | apply Kd.R_drew)); exact HO173.out))) (Kd.R_lt (by (with_reducible repeat (first | apply Kd.R_alloc | apply Kd.R_drewN | apply Kd.R_drew)); exact HO176.out))) (zk (zv6 HB.out))); replace HO164 := zp.mk (Kd.R_elder' (by (with_reducible repeat (first | apply Kd.R_alloc | apply Kd.R_drewN | apply Kd.R_drew)); exact HO164.out) (Kd.R_base ho0) hb); replace HO167 := zp.mk (Kd.R_elder' (by (with_reducible repeat (first | apply Kd.R_alloc | apply Kd.R_drewN | apply Kd.R_drew)); exact HO167.out) (Kd.R_base ho0) hb); replace HO170 := zp.mk (Kd.R_elder' (by (with_reducible repeat (first | apply Kd.R_alloc | apply Kd.R_drewN | apply Kd.R_drew)); exact HO170.out) (Kd.R_base ho0) hb); replace HO173 := zp.mk (Kd.R_elder' (by (with_reducible repeat (first | apply Kd.R_alloc | apply Kd.R_drewN | apply Kd.R_drew)); exact HO173.out) (Kd.R_base ho0) hb); replace HO176 := zp.mk (Kd.R_elder' (by (with_reducible repeat (first | apply Kd.R_alloc | apply Kd.R_drewN | apply Kd.R_drew)); exact HO176.out) (Kd.R_base ho0) hb); replace HB := zp.mk (zj (zv6 HB.out) hb); (try clear hb); (try clear hb2); (try clear hk); (try clear hi); (try clear ho0); obtain ⟨Ao32, co32, eo32⟩ := Kd.R_slice HO179.out; subst eo32; obtain ⟨Ao33, co33, eo33⟩ := Kd.R_slice HO170.out; subst eo33) | ((with_reducible refine zn (f := 15) rfl ?_); refine goesL_ (some 33) rfl rfl Try.func15 (by kernel_rfl) rfl #[.slice Ao32 t177.length co32, .slice Ao33 t168.length co33] rfl (by (try simp only [List.map_toArray, List.map_cons, List.map_nil]); first | done | rfl | (simp only [List.length_drop, List.length_take]; rfl)) ?_; (with_reducible refine (laws_eqIntS.calls k _ _ t177 _ _ t168 true _ ?side1 ?side2 ?side3 ?side4 A11.out).mono ?_); (case side1 => repeat (first | exact (Kd.R_reads' HO179.out).2.2 | (with_reducible refine Kd.zr ?_ _) | (with_reducible refine Kd.zq ?_ _) | (with_reducible refine Kd.C_drew ?_))); (case side2 => exact (Kd.R_reads' HO179.out).2.1); (case side3 => repeat (first | exact (Kd.R_reads' HO170.out).2.2 | (with_reducible refine Kd.zr ?_ _) | (with_reducible refine Kd.zq ?_ _) | (with_reducible refine Kd.C_drew ?_))); (case side4 => exact (Kd.R_reads' HO170.out).2.1); rintro e w' ⟨rfl, ⟨nd, rfl⟩⟩; refine ⟨_, rfl, ?_⟩) | ((with_reducible refine zn (f := 20) rfl ?_); refine goesL_ (some 37) rfl rfl Try.func20 (by kernel_rfl) rfl #[.slice A0 l0.length c0] rfl (by (try simp only [List.map_toArray, List.map_cons, List.map_nil]); first | done | rfl | (simp only [List.length_drop, List.length_take]; rfl)) ?_; (with_reducible refine (laws_toIntS.calls k _ _ l0 t181 _ ?side1 ?side2 A13.out).mono ?_); (case side1 => repeat (first | exact (Kd.zt HR0.out (zv6 HB.out)) | (with_reducible refine Kd.zr ?_ _) | (with_reducible refine Kd.zq ?_ _) | (with_reducible refine Kd.C_drew ?_))); (case side2 => exact HC0.out); rintro e w34 ⟨v182, rfl, ho0, hb⟩; refine ⟨_, rfl, ?_⟩; have HO183 := zp.mk (Kd.R_lower (Kd.R_new' (Kd.R_new' (Kd.R_new' (Kd.R_new' (Kd.R_new' (Kd.R_new' ho0 (Kd.R_lt (by (with_reducible repeat (first | apply Kd.R_alloc | apply Kd.R_drewN | apply Kd.R_drew)); exact HO164.out))) (Kd.R_lt (by (with_reducible repeat (first | apply Kd.R_alloc | apply Kd.R_drewN | apply Kd.R_drew)); exact HO167.out))) (Kd.R_lt (by (with_reducible repeat (first | apply Kd.R_alloc | apply Kd.R_drewN | apply Kd.R_drew)); exact HO170.out))) (Kd.R_lt (by (with_reducible repeat (first | apply Kd.R_alloc | apply Kd.R_drewN | apply Kd.R_drew)); exact HO173.out))) (Kd.R_lt (by (with_reducible repeat (first | apply Kd.R_alloc | apply Kd.R_drewN | apply Kd.R_drew)); exact HO176.out))) (Kd.R_lt (by (with_reducible repeat (first | apply Kd.R_alloc | apply Kd.R_drewN | apply Kd.R_drew)); exact HO179.out))) (zk (zv6 HB.out))); replace HO164 := zp.mk (Kd.R_elder' (by (with_reducible repeat (first | apply Kd.R_alloc | apply Kd.R_drewN | apply Kd.R_drew)); exact HO164.out) (Kd.R_base ho0) hb); replace HO167 := zp.mk (Kd.R_elder' (by (with_reducible repeat (first | apply Kd.R_alloc | apply Kd.R_drewN | apply Kd.R_drew)); exact HO167.out) (Kd.R_base ho0) hb); replace HO170 := zp.mk (Kd.R_elder' (by (with_reducible repeat (first | apply Kd.R_alloc | apply Kd.R_drewN | apply Kd.R_drew)); exact HO170.out) (Kd.R_base ho0) hb); replace HO173 := zp.mk (Kd.R_elder' (by (with_reducible repeat (first | apply Kd.R_alloc | apply Kd.R_drewN | apply Kd.R_drew)); exact HO173.out) (Kd.R_base ho0) hb); replace HO176 := zp.mk (Kd.R_elder' (by (with_reducible repeat (first | apply Kd.R_alloc | apply Kd.R_drewN | apply Kd.R_drew)); exact HO176.out) (Kd.R_base ho0) hb); replace HO179 := zp.mk (Kd.R_elder' (by (with_reducible repeat (first | apply Kd.R_alloc | apply Kd.R_drewN | apply Kd.R_drew)); exact HO179.out) (Kd.R_base ho0) hb); replace HB := zp.mk (zj (zv6 HB.out) hb); (try clear hb); (try clear hb2); (try clear hk); (try clear hi); (try clear ho0); obtain ⟨Ao35, co35, eo35⟩ := Kd.R_slice HO183.out; subst eo35) | ((with_reducible refine zn (f := 15) rfl ?_); refine goesL_ (some 38) rfl rfl Try.func15 (by kernel_rfl) rfl #[.slice Ao29 t171.length co29, .slice Ao35 t181.length co35] rfl (by (try simp only [List.map_toArray, List.map_cons, List.map_nil]); first | done | rfl | (simp only [List.length_drop, List.length_take]; rfl)) ?_; (with_reducible refine (laws_eqIntS.calls k _ _ t171 _ _ t181 true _ ?side1 ?side2 ?side3 ?side4 A14.out).mono ?_); (case side1 => repeat (first | exact (Kd.R_reads' HO173.out).2.2 | (with_reducible refine Kd.zr ?_ _) | (with_reducible refine Kd.zq ?_ _) | (with_reducible refine Kd.C_drew ?_))); (case side2 => exact (Kd.R_reads' HO173.out).2.1); (case side3 => repeat (first | exact (Kd.R_reads' HO183.out).2.2 | (with_reducible refine Kd.zr ?_ _) | (with_reducible refine Kd.zq ?_ _) | (with_reducible refine Kd.C_drew ?_))); (case side4 => exact (Kd.R_reads' HO183.out).2.1); rintro e w' ⟨rfl, ⟨nd, rfl⟩⟩; refine ⟨_, rfl, ?_⟩) | ((with_reducible refine zn (f := 20) rfl ?_); refine goesL_ (some 42) rfl rfl Try.func20 (by kernel_rfl) rfl #[.slice A1 l1.length c1] rfl (by (try simp only [List.map_toArray, List.map_cons, List.map_nil]); first | done | rfl | (simp only [List.length_drop, List.length_take]; rfl)) ?_; (with_reducible refine (laws_toIntS.calls k _ _ l1 t185 _ ?side1 ?side2 A16.out).mono ?_); (case side1 => repeat (first | exact (Kd.zt HR1.out (zv6 HB.out)) | (with_reducible refine Kd.zr ?_ _) | (with_reducible refine Kd.zq ?_ _) | (with_reducible refine Kd.C_drew ?_))); (case side2 => exact HC1.out); rintro e w36 ⟨v186, rfl, ho0, hb⟩; refine ⟨_, rfl, ?_⟩; have HO187 := zp.mk (Kd.R_lower (Kd.R_new' (Kd.R_new' (Kd.R_new' (Kd.R_new' (Kd.R_new' (Kd.R_new' (Kd.R_new' ho0 (Kd.R_lt (by (with_reducible repeat (first | apply Kd.R_alloc | apply Kd.R_drewN | apply Kd.R_drew)); exact HO164.out))) (Kd.R_lt (by (with_reducible repeat (first | apply Kd.R_alloc | apply Kd.R_drewN | apply Kd.R_drew)); exact HO167.out))) (Kd.R_lt (by (with_reducible repeat (first | apply Kd.R_alloc | apply Kd.R_drewN | apply Kd.R_drew)); exact HO170.out))) (Kd.R_lt (by (with_reducible repeat (first | apply Kd.R_alloc | apply Kd.R_drewN | apply Kd.R_drew)); exact HO173.out))) (Kd.R_lt (by (with_reducible repeat (first | apply Kd.R_alloc | apply Kd.R_drewN | apply Kd.R_drew)); exact HO176.out))) (Kd.R_lt (by (with_reducible repeat (first | apply Kd.R_alloc | apply Kd.R_drewN | apply Kd.R_drew)); exact HO179.out))) (Kd.R_lt (by (with_reducible repeat (first | apply Kd.R_alloc | apply Kd.R_drewN | apply Kd.R_drew)); exact HO183.out))) (zk (zv6 HB.out))); replace HO164 := zp.mk (Kd.R_elder' (by (with_reducible repeat (first | apply Kd.R_alloc | apply Kd.R_drewN | apply Kd.R_drew)); exact HO164.out) (Kd.R_base ho0) hb); replace HO167 := zp.mk (Kd.R_elder' (by (with_reducible repeat (first | apply Kd.R_alloc | apply Kd.R_drewN | apply Kd.R_drew)); exact HO167.out) (Kd.R_base ho0) hb); replace HO170 := zp.mk (Kd.R_elder' (by (with_reducible repeat (first | apply Kd.R_alloc | apply Kd.R_drewN | apply Kd.R_drew)); exact HO170.out) (Kd.R_base ho0) hb); replace HO173 := zp.mk (Kd.R_elder' (by (with_reducible repeat (first | apply Kd.R_alloc | apply Kd.R_drewN | apply Kd.R_drew)); exact HO173.out) (Kd.R_base ho0) hb); replace HO176 := zp.mk (Kd.R_elder' (by (with_reducible repeat (first | apply Kd.R_alloc | apply Kd.R_drewN | apply Kd.R_drew)); exact HO176.out) (Kd.R_base ho0) hb); replace HO179 := zp.mk (Kd.R_elder' (by (with_reducible repeat (first | apply Kd.R_alloc | apply Kd.R_drewN | apply Kd.R_drew)); exact HO179.out) (Kd.R_base ho0) hb); replace HO183 := zp.mk (Kd.R_elder' (by (with_reducible repeat (first | apply Kd.R_alloc | apply Kd.R_drewN | apply Kd.R_drew)); exact HO183.out) (Kd.R_base ho0) hb); replace HB := zp.mk (zj (zv6 HB.out) hb); (try clear hb); (try clear hb2); (try clear hk); (try clear hi); (try clear ho0); obtain ⟨Ao37, co37, eo37⟩ := Kd.R_slice HO187.out; subst eo37) | ((with_reducible refine zn (f := 15) rfl ?_); refine goesL_ (some 43) rfl rfl Try.func15 (by kernel_rfl) rfl #[.slice Ao30 t174.length co30, .slice Ao37 t185.length co37] rfl (by (try simp only [List.map_toArray, List.map_cons, List.map_nil]); first | done | rfl | (simp only [List.length_drop, List.length_take]; rfl)) ?_; (with_reducible refine (laws_eqIntS.calls k _ _ t174 _ _ t185 true _ ?side1 ?side2 ?side3 ?side4 A17.out).mono ?_); (case side1 => repeat (first | exact (Kd.R_reads' HO176.out).2.2 | (with_reducible refine Kd.zr ?_ _) | (with_reducible refine Kd.zq ?_ _) | (with_reducible refine Kd.C_drew ?_))); (case side2 => exact (Kd.R_reads' HO176.out).2.1); (case side3 => repeat (first | exact (Kd.R_reads' HO187.out).2.2 | (with_reducible refine Kd.zr ?_ _) | (with_reducible refine Kd.zq ?_ _) | (with_reducible refine Kd.C_drew ?_))); (case side4 => exact (Kd.R_reads' HO187.out).2.1); rintro e w' ⟨rfl, ⟨nd, rfl⟩⟩; refine ⟨_, rfl, ?_⟩) | ((with_reducible refine zn (f := 17) rfl ?_); refine goesL_ (some 47) rfl rfl Try.func17 (by kernel_rfl) rfl #[.slice Ao29 t171.length co29, .int .i64 1] rfl (by (try simp only [List.map_toArray, List.map_cons, List.map_nil]); first | done | rfl | (simp only [List.length_drop, List.length_take]; rfl)) ?_; (with_reducible refine (laws_markIntS.calls k (fun k_ => some k_ = (.slice Ao29 t171.length co29 : Value).ownBlock) (.slice Ao29 t171.length co29) t171 1 t189 t190 w _ ?side1 ?side2 A19.out).mono ?_); (case side1 => repeat (first | (with_reducible first | exact HB.out | apply zc | apply za | apply zb) | exact HB.out)); (case side2 => exact Kd.R_tight rfl HO173.out); rintro e w38 ⟨rfl, hy0, hb, hkp⟩; refine ⟨_, rfl, ?_⟩; replace HO164 := zp.mk (Kd.R_mono (ok' := fun k_ => some k_ ≠ (.slice Ao25 t165.length co25 : Value).ownBlock ∧ some k_ ≠ (.slice Ao33 t168.length co33 : Value).ownBlock ∧ some k_ ≠ (.slice Ao29 t171.length co29 : Value).ownBlock ∧ some k_ ≠ (.slice Ao30 t174.length co30 : Value).ownBlock ∧ some k_ ≠ (.slice Ao32 t177.length co32 : Value).ownBlock ∧ some k_ ≠ (.slice Ao35 t181.length co35 : Value).ownBlock ∧ some k_ ≠ (.slice Ao37 t185.length co37 : Value).ownBlock) (Kd.R_keptB (HO164.out) hkp (fun k_ hk_ hs_ => (hk_.1.1.1.1.2) hs_)) (fun k_ hk_ => ⟨hk_.1.1.1.1.1.1.1.2, hk_.1.1.1.1.1.1.2, hk_.1.1.1.1.1.2, hk_.1.1.1.1.2, hk_.1.1.1.2, hk_.1.1.2, hk_.1.2⟩)); replace HO167 := zp.mk (Kd.R_mono (ok' := fun k_ => some k_ ≠ (.slice Ao24 t162.length co24 : Value).ownBlock ∧ some k_ ≠ (.slice Ao33 t168.length co33 : Value).ownBlock ∧ some k_ ≠ (.slice Ao29 t171.length co29 : Value).ownBlock ∧ some k_ ≠ (.slice Ao30 t174.length co30 : Value).ownBlock ∧ some k_ ≠ (.slice Ao32 t177.length co32 : Value).ownBlock ∧ some k_ ≠ (.slice Ao35 t181.length co35 : Value).ownBlock ∧ some k_ ≠ (.slice Ao37 t185.length co37 : Value).ownBlock) (Kd.R_keptB (HO167.out) hkp (fun k_ hk_ hs_ => (hk_.1.1.1.1.2) hs_)) (fun k_ hk_ => ⟨hk_.1.1.1.1.1.1.1.2, hk_.1.1.1.1.1.1.2, hk_.1.1.1.1.1.2, hk_.1.1.1.1.2, hk_.1.1.1.2, hk_.1.1.2, hk_.1.2⟩)); replace HO170 := zp.mk (Kd.R_mono (ok' := fun k_ => some k_ ≠ (.slice Ao24 t162.length co24 : Value).ownBlock ∧ some k_ ≠ (.slice Ao25 t165.length co25 : Value).ownBlock ∧ some k_ ≠ (.slice Ao29 t171.length co29 : Value).ownBlock ∧ some k_ ≠ (.slice Ao30 t174.length co30 : Value).ownBlock ∧ some k_ ≠ (.slice Ao32 t177.length co32 : Value).ownBlock ∧ some k_ ≠ (.slice Ao35 t181.length co35 : Value).ownBlock ∧ some k_ ≠ (.slice Ao37 t185.length co37 : Value).ownBlock) (Kd.R_keptB (HO170.out) hkp (fun k_ hk_ hs_ => (hk_.1.1.1.1.2) hs_)) (fun k_ hk_ => ⟨hk_.1.1.1.1.1.1.1.2, hk_.1.1.1.1.1.1.2, hk_.1.1.1.1.1.2, hk_.1.1.1.1.2, hk_.1.1.1.2, hk_.1.1.2, hk_.1.2⟩)); replace HO173 := zp.mk (Kd.R_reok rfl hy0 (fun k_ e_ => HO173.out.1 k_ e_)); replace HO176 := zp.mk (Kd.R_mono (ok' := fun k_ => some k_ ≠ (.slice Ao24 t162.length co24 : Value).ownBlock ∧ some k_ ≠ (.slice Ao25 t165.length co25 : Value).ownBlock ∧ some k_ ≠ (.slice Ao33 t168.length co33 : Value).ownBlock ∧ some k_ ≠ (.slice Ao29 t171.length co29 : Value).ownBlock ∧ some k_ ≠ (.slice Ao32 t177.length co32 : Value).ownBlock ∧ some k_ ≠ (.slice Ao35 t181.length co35 : Value).ownBlock ∧ some k_ ≠ (.slice Ao37 t185.length co37 : Value).ownBlock) (Kd.R_keptB (HO176.out) hkp (fun k_ hk_ hs_ => (hk_.1.1.1.2) hs_)) (fun k_ hk_ => ⟨hk_.1.1.1.1.1.1.1.2, hk_.1.1.1.1.1.1.2, hk_.1.1.1.1.1.2, hk_.1.1.1.1.2, hk_.1.1.1.2, hk_.1.1.2, hk_.1.2⟩)); replace HO179 := zp.mk (Kd.R_mono (ok' := fun k_ => some k_ ≠ (.slice Ao24 t162.length co24 : Value).ownBlock ∧ some k_ ≠ (.slice Ao25 t165.length co25 : Value).ownBlock ∧ some k_ ≠ (.slice Ao33 t168.length co33 : Value).ownBlock ∧ some k_ ≠ (.slice Ao29 t171.length co29 : Value).ownBlock ∧ some k_ ≠ (.slice Ao30 t174.length co30 : Value).ownBlock ∧ some k_ ≠ (.slice Ao35 t181.length co35 : Value).ownBlock ∧ some k_ ≠ (.slice Ao37 t185.length co37 : Value).ownBlock) (Kd.R_keptB (HO179.out) hkp (fun k_ hk_ hs_ => (hk_.1.1.1.2) hs_)) (fun k_ hk_ => ⟨hk_.1.1.1.1.1.1.1.2, hk_.1.1.1.1.1.1.2, hk_.1.1.1.1.1.2, hk_.1.1.1.1.2, hk_.1.1.1.2, hk_.1.1.2, hk_.1.2⟩)); replace HO183 := zp.mk (Kd.R_mono (ok' := fun k_ => some k_ ≠ (.slice Ao24 t162.length co24 : Value).ownBlock ∧ some k_ ≠ (.slice Ao25 t165.length co25 : Value).ownBlock ∧ some k_ ≠ (.slice Ao33 t168.length co33 : Value).ownBlock ∧ some k_ ≠ (.slice Ao29 t171.length co29 : Value).ownBlock ∧ some k_ ≠ (.slice Ao30 t174.length co30 : Value).ownBlock ∧ some k_ ≠ (.slice Ao32 t177.length co32 : Value).ownBlock ∧ some k_ ≠ (.slice Ao37 t185.length co37 : Value).ownBlock) (Kd.R_keptB (HO183.out) hkp (fun k_ hk_ hs_ => (hk_.1.1.1.2) hs_)) (fun k_ hk_ => ⟨hk_.1.1.1.1.1.1.1.2, hk_.1.1.1.1.1.1.2, hk_.1.1.1.1.1.2, hk_.1.1.1.1.2, hk_.1.1.1.2, hk_.1.1.2, hk_.1.2⟩)); replace HO187 := zp.mk (Kd.R_mono (ok' := fun k_ => some k_ ≠ (.slice Ao24 t162.length co24 : Value).ownBlock ∧ some k_ ≠ (.slice Ao25 t165.length co25 : Value).ownBlock ∧ some k_ ≠ (.slice Ao33 t168.length co33 : Value).ownBlock ∧ some k_ ≠ (.slice Ao29 t171.length co29 : Value).ownBlock ∧ some k_ ≠ (.slice Ao30 t174.length co30 : Value).ownBlock ∧ some k_ ≠ (.slice Ao32 t177.length co32 : Value).ownBlock ∧ some k_ ≠ (.slice Ao35 t181.length co35 : Value).ownBlock) (Kd.R_keptB (HO187.out) hkp (fun k_ hk_ hs_ => (hk_.1.1.1.2) hs_)) (fun k_ hk_ => ⟨hk_.1.1.1.1.1.1.1.2, hk_.1.1.1.1.1.1.2, hk_.1.1.1.1.1.2, hk_.1.1.1.1.2, hk_.1.1.1.2, hk_.1.1.2, hk_.1.2⟩)); replace HB := zp.mk (hb); (try clear hb); (try clear hkp); (try clear hy0)) | ((with_reducible refine zn (f := 17) rfl ?_); refine goesL_ (some 50) rfl rfl Try.func17 (by kernel_rfl) rfl #[.slice Ao30 t174.length co30, .int .i64 t189] rfl (by (try simp only [List.map_toArray, List.map_cons, List.map_nil]); first | done | rfl | (simp only [List.length_drop, List.length_take]; rfl)) ?_; (with_reducible refine (laws_markIntS.calls k (fun k_ => some k_ = (.slice Ao30 t174.length co30 : Value).ownBlock) (.slice Ao30 t174.length co30) t174 t189 t191 t192 w _ ?side1 ?side2 A20.out).mono ?_); (case side1 => repeat (first | (with_reducible first | exact HB.out | apply zc | apply za | apply zb) | exact HB.out)); (case side2 => exact Kd.R_tight rfl HO176.out); rintro e w39 ⟨rfl, hy0, hb, hkp⟩; refine ⟨_, rfl, ?_⟩; replace HO164 := zp.mk (Kd.R_mono (ok' := fun k_ => some k_ ≠ (.slice Ao25 t165.length co25 : Value).ownBlock ∧ some k_ ≠ (.slice Ao33 t168.length co33 : Value).ownBlock ∧ some k_ ≠ (.slice Ao29 t171.length co29 : Value).ownBlock ∧ some k_ ≠ (.slice Ao30 t174.length co30 : Value).ownBlock ∧ some k_ ≠ (.slice Ao32 t177.length co32 : Value).ownBlock ∧ some k_ ≠ (.slice Ao35 t181.length co35 : Value).ownBlock ∧ some k_ ≠ (.slice Ao37 t185.length co37 : Value).ownBlock) (Kd.R_keptB (HO164.out) hkp (fun k_ hk_ hs_ => (hk_.2.2.2.1) hs_)) (fun k_ hk_ => ⟨hk_.1.1, hk_.1.2.1, hk_.1.2.2.1, hk_.1.2.2.2.1, hk_.1.2.2.2.2.1, hk_.1.2.2.2.2.2.1, hk_.1.2.2.2.2.2.2⟩)); replace HO167 := zp.mk (Kd.R_mono (ok' := fun k_ => some k_ ≠ (.slice Ao24 t162.length co24 : Value).ownBlock ∧ some k_ ≠ (.slice Ao33 t168.length co33 : Value).ownBlock ∧ some k_ ≠ (.slice Ao29 t171.length co29 : Value).ownBlock ∧ some k_ ≠ (.slice Ao30 t174.length co30 : Value).ownBlock ∧ some k_ ≠ (.slice Ao32 t177.length co32 : Value).ownBlock ∧ some k_ ≠ (.slice Ao35 t181.length co35 : Value).ownBlock ∧ some k_ ≠ (.slice Ao37 t185.length co37 : Value).ownBlock) (Kd.R_keptB (HO167.out) hkp (fun k_ hk_ hs_ => (hk_.2.2.2.1) hs_)) (fun k_ hk_ => ⟨hk_.1.1, hk_.1.2.1, hk_.1.2.2.1, hk_.1.2.2.2.1, hk_.1.2.2.2.2.1, hk_.1.2.2.2.2.2.1, hk_.1.2.2.2.2.2.2⟩)); replace HO170 := zp.mk (Kd.R_mono (ok' := fun k_ => some k_ ≠ (.slice Ao24 t162.length co24 : Value).ownBlock ∧ some k_ ≠ (.slice Ao25 t165.length co25 : Value).ownBlock ∧ some k_ ≠ (.slice Ao29 t171.length co29 : Value).ownBlock ∧ some k_ ≠ (.slice Ao30 t174.length co30 : Value).ownBlock ∧ some k_ ≠ (.slice Ao32 t177.length co32 : Value).ownBlock ∧ some k_ ≠ (.slice Ao35 t181.length co35 : Value).ownBlock ∧ some k_ ≠ (.slice Ao37 t185.length co37 : Value).ownBlock) (Kd.R_keptB (HO170.out) hkp (fun k_ hk_ hs_ => (hk_.2.2.2.1) hs_)) (fun k_ hk_ => ⟨hk_.1.1, hk_.1.2.1, hk_.1.2.2.1, hk_.1.2.2.2.1, hk_.1.2.2.2.2.1, hk_.1.2.2.2.2.2.1, hk_.1.2.2.2.2.2.2⟩)); replace HO173 := zp.mk (Kd.R_mono (ok' := fun k_ => some k_ ≠ (.slice Ao24 t162.length co24 : Value).ownBlock ∧ some k_ ≠ (.slice Ao25 t165.length co25 : Value).ownBlock ∧ some k_ ≠ (.slice Ao33 t168.length co33 : Value).ownBlock ∧ some k_ ≠ (.slice Ao30 t174.length co30 : Value).ownBlock ∧ some k_ ≠ (.slice Ao32 t177.length co32 : Value).ownBlock ∧ some k_ ≠ (.slice Ao35 t181.length co35 : Value).ownBlock ∧ some k_ ≠ (.slice Ao37 t185.length co37 : Value).ownBlock) (Kd.R_keptB (HO173.out) hkp (fun k_ hk_ hs_ => (hk_.1.1.1.2) hs_)) (fun k_ hk_ => ⟨hk_.1.1.1.1.1.1.1.2, hk_.1.1.1.1.1.1.2, hk_.1.1.1.1.1.2, hk_.1.1.1.1.2, hk_.1.1.1.2, hk_.1.1.2, hk_.1.2⟩)); replace HO176 := zp.mk (Kd.R_reok rfl hy0 (fun k_ e_ => HO176.out.1 k_ e_)); replace HO179 := zp.mk (Kd.R_mono (ok' := fun k_ => some k_ ≠ (.slice Ao24 t162.length co24 : Value).ownBlock ∧ some k_ ≠ (.slice Ao25 t165.length co25 : Value).ownBlock ∧ some k_ ≠ (.slice Ao33 t168.length co33 : Value).ownBlock ∧ some k_ ≠ (.slice Ao29 t171.length co29 : Value).ownBlock ∧ some k_ ≠ (.slice Ao30 t174.length co30 : Value).ownBlock ∧ some k_ ≠ (.slice Ao35 t181.length co35 : Value).ownBlock ∧ some k_ ≠ (.slice Ao37 t185.length co37 : Value).ownBlock) (Kd.R_keptB (HO179.out) hkp (fun k_ hk_ hs_ => (hk_.2.2.2.2.1) hs_)) (fun k_ hk_ => ⟨hk_.1.1, hk_.1.2.1, hk_.1.2.2.1, hk_.1.2.2.2.1, hk_.1.2.2.2.2.1, hk_.1.2.2.2.2.2.1, hk_.1.2.2.2.2.2.2⟩)); replace HO183 := zp.mk (Kd.R_mono (ok' := fun k_ => some k_ ≠ (.slice Ao24 t162.length co24 : Value).ownBlock ∧ some k_ ≠ (.slice Ao25 t165.length co25 : Value).ownBlock ∧ some k_ ≠ (.slice Ao33 t168.length co33 : Value).ownBlock ∧ some k_ ≠ (.slice Ao29 t171.length co29 : Value).ownBlock ∧ some k_ ≠ (.slice Ao30 t174.length co30 : Value).ownBlock ∧ some k_ ≠ (.slice Ao32 t177.length co32 : Value).ownBlock ∧ some k_ ≠ (.slice Ao37 t185.length co37 : Value).ownBlock) (Kd.R_keptB (HO183.out) hkp (fun k_ hk_ hs_ => (hk_.2.2.2.2.1) hs_)) (fun k_ hk_ => ⟨hk_.1.1, hk_.1.2.1, hk_.1.2.2.1, hk_.1.2.2.2.1, hk_.1.2.2.2.2.1, hk_.1.2.2.2.2.2.1, hk_.1.2.2.2.2.2.2⟩)); replace HO187 := zp.mk (Kd.R_mono (ok' := fun k_ => some k_ ≠ (.slice Ao24 t162.length co24 : Value).ownBlock ∧ some k_ ≠ (.slice Ao25 t165.length co25 : Value).ownBlock ∧ some k_ ≠ (.slice Ao33 t168.length co33 : Value).ownBlock ∧ some k_ ≠ (.slice Ao29 t171.length co29 : Value).ownBlock ∧ some k_ ≠ (.slice Ao30 t174.length co30 : Value).ownBlock ∧ some k_ ≠ (.slice Ao32 t177.length co32 : Value).ownBlock ∧ some k_ ≠ (.slice Ao35 t181.length co35 : Value).ownBlock) (Kd.R_keptB (HO187.out) hkp (fun k_ hk_ hs_ => (hk_.2.2.2.2.1) hs_)) (fun k_ hk_ => ⟨hk_.1.1, hk_.1.2.1, hk_.1.2.2.1, hk_.1.2.2.2.1, hk_.1.2.2.2.2.1, hk_.1.2.2.2.2.2.1, hk_.1.2.2.2.2.2.2⟩)); replace HB := zp.mk (hb); (try clear hb); (try clear hkp); (try clear hy0)))
      (try simp only [Act.put, zs1, zs2, zs3])
      go_cut [58] (fun v58 wc => ∃ (kq : Nat) (x58_20 : Bool), v58 = .bool x58_20 ∧ zp (laws_FnExactTopOf.j0 kq l0 l1 t168 t177 x58_20 = some r) ∧ zp (kq ≤ k) ∧ zp (Kd.R (Kd.int .i64) 3 wc w.heap.size (fun k_ => some k_ ≠ ((.slice Ao32 t177.length co32) : Value).ownBlock) (.slice Ao33 t168.length co33) t168) ∧ zp (Kd.R (Kd.int .i64) 3 wc w.heap.size (fun k_ => some k_ ≠ ((.slice Ao33 t168.length co33) : Value).ownBlock) (.slice Ao32 t177.length co32) t177) ∧ zp (Below w.heap.size w wc))
      case first =>
       have H := HC21.out
       clear HC21
       by_cases c40 : t191 < 0
       ·rw [if_pos c40] at H
        have c40b0 : decide (t191 < 0) = true := decide_eq_true c40
        clear c40
        (first | rw [c40b0] | (simp only [i64_w, i32_w]; rw [c40b0]) | skip)
        have H' := zp.mk H
        clear H
        go_wp2
        go_meet
        case rel => exact ⟨_, (true), (by first | rfl | (simp; done) | (simp [*]; done)), H', ⟨by first | omega | exact Nat.le_refl _⟩, ⟨by (with_reducible repeat (first | apply Kd.R_alloc | apply Kd.R_drewN | apply Kd.R_drew)); exact Kd.R_mono HO170.out (fun _ hk => hk.2.2.2.2.1)⟩, ⟨by (with_reducible repeat (first | apply Kd.R_alloc | apply Kd.R_drewN | apply Kd.R_drew)); exact Kd.R_mono HO179.out (fun _ hk => hk.2.2.1)⟩, ⟨zv6 HB.out⟩⟩
       ·rw [if_neg c40] at H
        have c40b0 : decide (t191 < 0) = false := decide_eq_false c40
        clear c40
        (first | rw [c40b0] | (simp only [i64_w, i32_w]; rw [c40b0]) | skip)
        replace H := zs4 H
        obtain ⟨t193, A410, H⟩ := H
        replace H : (laws_FnExactTopOf.j0 k l0 l1 t168 t177 (!t193)) = some r := H
        have A41 := zp.mk A410
        clear A410
        have H' := zp.mk H
        clear H
        go_wp2_with (first | (go_at_call 15; (with_reducible refine (laws_eqIntS.calls k _ _ t177 _ _ t168 t193 _ ?side1 ?side2 ?side3 ?side4 A41.out).mono ?_); (case side1 => repeat (first | exact (Kd.R_reads' HO179.out).2.2 | (with_reducible refine Kd.zr ?_ _) | (with_reducible refine Kd.zq ?_ _) | (with_reducible refine Kd.C_drew ?_))); (case side2 => exact (Kd.R_reads' HO179.out).2.1); (case side3 => repeat (first | exact (Kd.R_reads' HO170.out).2.2 | (with_reducible refine Kd.zr ?_ _) | (with_reducible refine Kd.zq ?_ _) | (with_reducible refine Kd.C_drew ?_))); (case side4 => exact (Kd.R_reads' HO170.out).2.1); rintro e w' ⟨rfl, ⟨nd, rfl⟩⟩))
        go_meet
        case rel => exact ⟨_, (!t193), (by first | rfl | (simp; done) | (simp [*]; done)), H', ⟨by first | omega | exact Nat.le_refl _⟩, ⟨by (with_reducible repeat (first | apply Kd.R_alloc | apply Kd.R_drewN | apply Kd.R_drew)); exact Kd.R_mono HO170.out (fun _ hk => hk.2.2.2.2.1)⟩, ⟨by (with_reducible repeat (first | apply Kd.R_alloc | apply Kd.R_drewN | apply Kd.R_drew)); exact Kd.R_mono HO179.out (fun _ hk => hk.2.2.1)⟩, ⟨zv6 HB.out⟩⟩
      case rest =>
       clear HC21
       try clear c1
       try clear c2
       try clear p2
       try clear c3
       try clear c3b0
       try clear c3b1
       try clear c4
       try clear c4b0
       try clear c4b1
       try clear c5
       try clear c12
       try clear c15
       try clear c17
       try clear c18
       try clear c19
       try clear c20
       try clear c21
       try clear c40
       try clear c40b0
       obtain ⟨kq, x58_20, rfl, HA, HJ20, HO_5, HO_8, HB⟩ := hcut
       cases kq with
       | zero => exact absurd HA.out (by simp [laws_FnExactTopOf.j0])
       | succ kj20 =>
        have H := HA.out
        clear HA
        simp only [laws_FnExactTopOf.j0] at H
        by_cases c42 : x58_20 = true
        ·subst c42
         have H1 : (some false) = some r := by rw [if_pos rfl] at H; exact H
         clear H
         have H := H1
         clear H1
         exact absurd ((Option.some.inj H).trans hr_) (by decide)
        ·replace c42 := Bool.eq_false_iff.mpr c42
         subst c42
         have H1 : ((laws_markIntS.f kj20 t177 1).bind fun bt194 => ((laws_heldIntS.f kj20 bt194.2 1).bind fun t196 => (if t196 < 0 then (some false) else (if t196 = bt194.1 then ((laws_toIntS.f kj20 l0).bind fun t197 => ((laws_toIntS.f kj20 l1).bind fun t200 => ((impl_TopOf.f kj20 t197 t200).bind fun t203 => ((laws_eqIntS.f kj20 t203 t168).bind fun t206 => (if t206 = true then ((laws_heldIntS.f kj20 bt194.2 1).bind fun t207 => (if t207 < 0 then (some false) else (if t207 = bt194.1 then (some true) else (some false)))) else (some false)))))) else (some false))))) = some r := by rw [if_neg (show ¬ (false = true) by decide)] at H; exact H
         clear H
         have H := H1
         clear H1
         replace H := zs4 H
         obtain ⟨⟨t194, t195⟩, A430, H⟩ := H
         replace H : ((laws_heldIntS.f kj20 t195 1).bind fun t196 => (if t196 < 0 then (some false) else (if t196 = t194 then ((laws_toIntS.f kj20 l0).bind fun t197 => ((laws_toIntS.f kj20 l1).bind fun t200 => ((impl_TopOf.f kj20 t197 t200).bind fun t203 => ((laws_eqIntS.f kj20 t203 t168).bind fun t206 => (if t206 = true then ((laws_heldIntS.f kj20 t195 1).bind fun t207 => (if t207 < 0 then (some false) else (if t207 = t194 then (some true) else (some false)))) else (some false)))))) else (some false)))) = some r := H
         have A43 := zp.mk A430
         clear A430
         replace H := zs4 H
         obtain ⟨t196, A440, H⟩ := H
         replace H : (if t196 < 0 then (some false) else (if t196 = t194 then ((laws_toIntS.f kj20 l0).bind fun t197 => ((laws_toIntS.f kj20 l1).bind fun t200 => ((impl_TopOf.f kj20 t197 t200).bind fun t203 => ((laws_eqIntS.f kj20 t203 t168).bind fun t206 => (if t206 = true then ((laws_heldIntS.f kj20 t195 1).bind fun t207 => (if t207 < 0 then (some false) else (if t207 = t194 then (some true) else (some false)))) else (some false)))))) else (some false))) = some r := H
         have A44 := zp.mk A440
         clear A440
         by_cases c45 : t196 < 0
         ·rw [if_pos c45] at H
          have c45b0 : decide (t196 < 0) = true := decide_eq_true c45
          clear c45
          exact absurd ((Option.some.inj H).trans hr_) (by decide)
         ·rw [if_neg c45] at H
          have c45b0 : decide (t196 < 0) = false := decide_eq_false c45
          clear c45
          by_cases c46 : t196 = t194
          ·rw [if_pos c46] at H
           have c46b0 : (t196 == t194) = true := beq_iff_eq.mpr c46
           have c46b1 : (t196 != t194) = false := bne_eq_false_iff_eq.mpr c46
           clear c46
           replace H := zs4 H
           obtain ⟨t197, A470, H⟩ := H
           replace H : ((laws_toIntS.f kj20 l1).bind fun t200 => ((impl_TopOf.f kj20 t197 t200).bind fun t203 => ((laws_eqIntS.f kj20 t203 t168).bind fun t206 => (if t206 = true then ((laws_heldIntS.f kj20 t195 1).bind fun t207 => (if t207 < 0 then (some false) else (if t207 = t194 then (some true) else (some false)))) else (some false))))) = some r := H
           have A47 := zp.mk A470
           clear A470
           replace H := zs4 H
           obtain ⟨t200, A480, H⟩ := H
           replace H : ((impl_TopOf.f kj20 t197 t200).bind fun t203 => ((laws_eqIntS.f kj20 t203 t168).bind fun t206 => (if t206 = true then ((laws_heldIntS.f kj20 t195 1).bind fun t207 => (if t207 < 0 then (some false) else (if t207 = t194 then (some true) else (some false)))) else (some false)))) = some r := H
           have A48 := zp.mk A480
           clear A480
           replace H := zs4 H
           obtain ⟨t203, A490, H⟩ := H
           replace H : ((laws_eqIntS.f kj20 t203 t168).bind fun t206 => (if t206 = true then ((laws_heldIntS.f kj20 t195 1).bind fun t207 => (if t207 < 0 then (some false) else (if t207 = t194 then (some true) else (some false)))) else (some false))) = some r := H
           have A49 := zp.mk A490
           clear A490
           replace H := zs4 H
           obtain ⟨t206, A500, H⟩ := H
           replace H : (if t206 = true then ((laws_heldIntS.f kj20 t195 1).bind fun t207 => (if t207 < 0 then (some false) else (if t207 = t194 then (some true) else (some false)))) else (some false)) = some r := H
           have A50 := zp.mk A500
           clear A500
           by_cases c51 : t206 = true
           ·subst c51
            have H1 : ((laws_heldIntS.f kj20 t195 1).bind fun t207 => (if t207 < 0 then (some false) else (if t207 = t194 then (some true) else (some false)))) = some r := by rw [if_pos rfl] at H; exact H
            clear H
            have H := H1
            clear H1
            replace H := zs4 H
            obtain ⟨t207, A520, H⟩ := H
            replace H : (if t207 < 0 then (some false) else (if t207 = t194 then (some true) else (some false))) = some r := H
            have A52 := zp.mk A520
            clear A520
            by_cases c53 : t207 < 0
            ·rw [if_pos c53] at H
             have c53b0 : decide (t207 < 0) = true := decide_eq_true c53
             clear c53
             exact absurd ((Option.some.inj H).trans hr_) (by decide)
            ·rw [if_neg c53] at H
             have c53b0 : decide (t207 < 0) = false := decide_eq_false c53
             clear c53
             by_cases c54 : t207 = t194
             ·rw [if_pos c54] at H
              have c54b0 : (t207 == t194) = true := beq_iff_eq.mpr c54
              have c54b1 : (t207 != t194) = false := bne_eq_false_iff_eq.mpr c54
              clear c54
              obtain rfl := Option.some.inj H
              go_wp2_with (first | ((with_reducible refine zn (f := 17) rfl ?_); refine goesL_ (some 61) rfl rfl Try.func17 (by kernel_rfl) rfl #[.slice Ao32 t177.length co32, .int .i64 1] rfl (by (try simp only [List.map_toArray, List.map_cons, List.map_nil]); first | done | rfl | (simp only [List.length_drop, List.length_take]; rfl)) ?_; (with_reducible refine (laws_markIntS.calls kj20 (fun k_ => some k_ = (.slice Ao32 t177.length co32 : Value).ownBlock) (.slice Ao32 t177.length co32) t177 1 t194 t195 w _ ?side1 ?side2 A43.out).mono ?_); (case side1 => repeat (first | (with_reducible first | exact HB.out | apply zc | apply za | apply zb) | exact HB.out)); (case side2 => exact Kd.R_tight rfl HO_8.out); rintro e w55 ⟨rfl, hy0, hb, hkp⟩; refine ⟨_, rfl, ?_⟩; replace HO_5 := zp.mk (Kd.R_mono (ok' := fun k_ => some k_ ≠ (.slice Ao32 t177.length co32 : Value).ownBlock) (Kd.R_keptB (HO_5.out) hkp (fun k_ hk_ hs_ => (hk_) hs_)) (fun k_ hk_ => hk_.1)); replace HO_8 := zp.mk (Kd.R_reok rfl hy0 (fun k_ e_ => HO_8.out.1 k_ e_)); replace HB := zp.mk (hb); (try clear hb); (try clear hkp); (try clear hy0)) | ((with_reducible refine zn (f := 18) rfl ?_); refine goesL_ (some 64) rfl rfl Try.func18 (by kernel_rfl) rfl #[.slice Ao32 t195.length co32, .int .i64 1] rfl (by (try simp only [List.map_toArray, List.map_cons, List.map_nil]); first | done | (rw [show t195.length = t177.length from (Kd.R_reads' HO_8.out).1.symm] <;> rfl) | rfl | (simp only [List.length_drop, List.length_take]; rfl)) ?_; (with_reducible refine (laws_heldIntS.calls kj20 _ _ t195 1 t196 _ ?side1 ?side2 A44.out).mono ?_); (case side1 => repeat (first | exact (Kd.R_reads' HO_8.out).2.2 | (with_reducible refine Kd.zr ?_ _) | (with_reducible refine Kd.zq ?_ _) | (with_reducible refine Kd.C_drew ?_))); (case side2 => rw [show t195.length = t177.length from (Kd.R_reads' HO_8.out).1.symm]; exact (Kd.R_reads' HO_8.out).2.1); rintro e w' ⟨rfl, ⟨nd, rfl⟩⟩; refine ⟨_, rfl, ?_⟩) | ((with_reducible refine zn (f := 20) rfl ?_); refine goesL_ (some 71) rfl rfl Try.func20 (by kernel_rfl) rfl #[.slice A0 l0.length c0] rfl (by (try simp only [List.map_toArray, List.map_cons, List.map_nil]); first | done | rfl | (simp only [List.length_drop, List.length_take]; rfl)) ?_; (with_reducible refine (laws_toIntS.calls kj20 _ _ l0 t197 _ ?side1 ?side2 A47.out).mono ?_); (case side1 => repeat (first | exact (Kd.zt HR0.out (zv6 HB.out)) | (with_reducible refine Kd.zr ?_ _) | (with_reducible refine Kd.zq ?_ _) | (with_reducible refine Kd.C_drew ?_))); (case side2 => exact HC0.out); rintro e w56 ⟨v198, rfl, ho0, hb⟩; refine ⟨_, rfl, ?_⟩; have HO199 := zp.mk (Kd.R_lower (Kd.R_new' (Kd.R_new' ho0 (Kd.R_lt (by (with_reducible repeat (first | apply Kd.R_alloc | apply Kd.R_drewN | apply Kd.R_drew)); exact HO_5.out))) (Kd.R_lt (by (with_reducible repeat (first | apply Kd.R_alloc | apply Kd.R_drewN | apply Kd.R_drew)); exact HO_8.out))) (zk (zv6 HB.out))); replace HO_5 := zp.mk (Kd.R_elder' (by (with_reducible repeat (first | apply Kd.R_alloc | apply Kd.R_drewN | apply Kd.R_drew)); exact HO_5.out) (Kd.R_base ho0) hb); replace HO_8 := zp.mk (Kd.R_elder' (by (with_reducible repeat (first | apply Kd.R_alloc | apply Kd.R_drewN | apply Kd.R_drew)); exact HO_8.out) (Kd.R_base ho0) hb); replace HB := zp.mk (zj (zv6 HB.out) hb); (try clear hb); (try clear hb2); (try clear hk); (try clear hi); (try clear ho0)) | ((with_reducible refine zn (f := 20) rfl ?_); refine goesL_ (some 73) rfl rfl Try.func20 (by kernel_rfl) rfl #[.slice A1 l1.length c1] rfl (by (try simp only [List.map_toArray, List.map_cons, List.map_nil]); first | done | rfl | (simp only [List.length_drop, List.length_take]; rfl)) ?_; (with_reducible refine (laws_toIntS.calls kj20 _ _ l1 t200 _ ?side1 ?side2 A48.out).mono ?_); (case side1 => repeat (first | exact (Kd.zt HR1.out HB.out) | (with_reducible refine Kd.zr ?_ _) | (with_reducible refine Kd.zq ?_ _) | (with_reducible refine Kd.C_drew ?_))); (case side2 => exact HC1.out); rintro e w57 ⟨v201, rfl, ho0, hb⟩; refine ⟨_, rfl, ?_⟩; have HO202 := zp.mk (Kd.R_lower (Kd.R_new' (Kd.R_new' (Kd.R_new' ho0 (Kd.R_lt (by (with_reducible repeat (first | apply Kd.R_alloc | apply Kd.R_drewN | apply Kd.R_drew)); exact HO_5.out))) (Kd.R_lt (by (with_reducible repeat (first | apply Kd.R_alloc | apply Kd.R_drewN | apply Kd.R_drew)); exact HO_8.out))) (Kd.R_lt (by (with_reducible repeat (first | apply Kd.R_alloc | apply Kd.R_drewN | apply Kd.R_drew)); exact HO199.out))) (zk (zv6 HB.out))); replace HO_5 := zp.mk (Kd.R_elder' (by (with_reducible repeat (first | apply Kd.R_alloc | apply Kd.R_drewN | apply Kd.R_drew)); exact HO_5.out) (Kd.R_base ho0) hb); replace HO_8 := zp.mk (Kd.R_elder' (by (with_reducible repeat (first | apply Kd.R_alloc | apply Kd.R_drewN | apply Kd.R_drew)); exact HO_8.out) (Kd.R_base ho0) hb); replace HO199 := zp.mk (Kd.R_elder' (by (with_reducible repeat (first | apply Kd.R_alloc | apply Kd.R_drewN | apply Kd.R_drew)); exact HO199.out) (Kd.R_base ho0) hb); replace HB := zp.mk (zj (zv6 HB.out) hb); (try clear hb); (try clear hb2); (try clear hk); (try clear hi); (try clear ho0); obtain ⟨Ao58, co58, eo58⟩ := Kd.R_slice HO199.out; subst eo58; obtain ⟨Ao59, co59, eo59⟩ := Kd.R_slice HO202.out; subst eo59) | ((with_reducible refine zn (f := 21) rfl ?_); refine goesL_ (some 74) rfl rfl Try.func21 (by kernel_rfl) rfl #[.slice Ao58 t197.length co58, .slice Ao59 t200.length co59] rfl (by (try simp only [List.map_toArray, List.map_cons, List.map_nil]); first | done | rfl | (simp only [List.length_drop, List.length_take]; rfl)) ?_; (with_reducible refine (impl_TopOf.calls kj20 (fun k_ => some k_ = (.slice Ao58 t197.length co58 : Value).ownBlock) _ _ t197 (fun k_ => some k_ = (.slice Ao59 t200.length co59 : Value).ownBlock) _ _ t200 t203 _ ?side1 ?side2 A49.out).mono ?_); (case side1 => exact Kd.R_V (Kd.R_tight rfl (HO199.out))); (case side2 => exact Kd.R_V (Kd.R_tight rfl (HO202.out))); rintro e w60 ⟨v204, rfl, ho0, hb⟩; refine ⟨_, rfl, ?_⟩; have HO205 := zp.mk (Kd.R_lower (Kd.R_new' (Kd.R_new' (Kd.R_new' (Kd.R_new' (Kd.R_mono (ok' := fun k_ => True) ho0 (fun _ hk_ => trivial)) (Kd.R_lt (by (with_reducible repeat (first | apply Kd.R_alloc | apply Kd.R_drewN | apply Kd.R_drew)); exact HO_5.out))) (Kd.R_lt (by (with_reducible repeat (first | apply Kd.R_alloc | apply Kd.R_drewN | apply Kd.R_drew)); exact HO_8.out))) (Kd.R_lt (by (with_reducible repeat (first | apply Kd.R_alloc | apply Kd.R_drewN | apply Kd.R_drew)); exact HO199.out))) (Kd.R_lt (by (with_reducible repeat (first | apply Kd.R_alloc | apply Kd.R_drewN | apply Kd.R_drew)); exact HO202.out))) (zk (zv6 HB.out))); replace HO_5 := zp.mk (Kd.R_elder' (by (with_reducible repeat (first | apply Kd.R_alloc | apply Kd.R_drewN | apply Kd.R_drew)); exact HO_5.out) (Kd.R_base ho0) hb); replace HO_8 := zp.mk (Kd.R_elder' (by (with_reducible repeat (first | apply Kd.R_alloc | apply Kd.R_drewN | apply Kd.R_drew)); exact HO_8.out) (Kd.R_base ho0) hb); replace HO199 := zp.mk (Kd.R_elder' (by (with_reducible repeat (first | apply Kd.R_alloc | apply Kd.R_drewN | apply Kd.R_drew)); exact HO199.out) (Kd.R_base ho0) hb); replace HO202 := zp.mk (Kd.R_elder' (by (with_reducible repeat (first | apply Kd.R_alloc | apply Kd.R_drewN | apply Kd.R_drew)); exact HO202.out) (Kd.R_base ho0) hb); replace HB := zp.mk (zj (zv6 HB.out) hb); (try clear hb); (try clear hb2); (try clear hk); (try clear hi); (try clear ho0); obtain ⟨Ao61, co61, eo61⟩ := Kd.R_slice HO205.out; subst eo61) | ((with_reducible refine zn (f := 15) rfl ?_); refine goesL_ (some 77) rfl rfl Try.func15 (by kernel_rfl) rfl #[.slice Ao61 t203.length co61, .slice Ao33 t168.length co33] rfl (by (try simp only [List.map_toArray, List.map_cons, List.map_nil]); first | done | rfl | (simp only [List.length_drop, List.length_take]; rfl)) ?_; (with_reducible refine (laws_eqIntS.calls kj20 _ _ t203 _ _ t168 true _ ?side1 ?side2 ?side3 ?side4 A50.out).mono ?_); (case side1 => repeat (first | exact (Kd.R_reads' HO205.out).2.2 | (with_reducible refine Kd.zr ?_ _) | (with_reducible refine Kd.zq ?_ _) | (with_reducible refine Kd.C_drew ?_))); (case side2 => exact (Kd.R_reads' HO205.out).2.1); (case side3 => repeat (first | exact (Kd.R_reads' HO_5.out).2.2 | (with_reducible refine Kd.zr ?_ _) | (with_reducible refine Kd.zq ?_ _) | (with_reducible refine Kd.C_drew ?_))); (case side4 => exact (Kd.R_reads' HO_5.out).2.1); rintro e w' ⟨rfl, ⟨nd, rfl⟩⟩; refine ⟨_, rfl, ?_⟩) | ((with_reducible refine zn (f := 18) rfl ?_); refine goesL_ (some 81) rfl rfl Try.func18 (by kernel_rfl) rfl #[.slice Ao32 t195.length co32, .int .i64 1] rfl (by (try simp only [List.map_toArray, List.map_cons, List.map_nil]); first | done | (rw [show t195.length = t177.length from (Kd.R_reads' HO_8.out).1.symm] <;> rfl) | rfl | (simp only [List.length_drop, List.length_take]; rfl)) ?_; (with_reducible refine (laws_heldIntS.calls kj20 _ _ t195 1 t207 _ ?side1 ?side2 A52.out).mono ?_); (case side1 => repeat (first | exact (Kd.R_reads' HO_8.out).2.2 | (with_reducible refine Kd.zr ?_ _) | (with_reducible refine Kd.zq ?_ _) | (with_reducible refine Kd.C_drew ?_))); (case side2 => rw [show t195.length = t177.length from (Kd.R_reads' HO_8.out).1.symm]; exact (Kd.R_reads' HO_8.out).2.1); rintro e w' ⟨rfl, ⟨nd, rfl⟩⟩; refine ⟨_, rfl, ?_⟩))
              go_ret
              exact ⟨by first | rfl | (simp [errW_none, errW_some] <;> rfl) | (simp [*, errW_none, errW_some] <;> rfl), zv6 HB.out⟩
             ·rw [if_neg c54] at H
              have c54b0 : (t207 == t194) = false := beq_eq_false_iff_ne.mpr c54
              have c54b1 : (t207 != t194) = true := bne_iff_ne.mpr c54
              exact absurd ((Option.some.inj H).trans hr_) (by decide)
           ·replace c51 := Bool.eq_false_iff.mpr c51
            subst c51
            have H1 : (some false) = some r := by rw [if_neg (show ¬ (false = true) by decide)] at H; exact H
            clear H
            have H := H1
            clear H1
            exact absurd ((Option.some.inj H).trans hr_) (by decide)
          ·rw [if_neg c46] at H
           have c46b0 : (t196 == t194) = false := beq_eq_false_iff_ne.mpr c46
           have c46b1 : (t196 != t194) = true := bne_iff_ne.mpr c46
           exact absurd ((Option.some.inj H).trans hr_) (by decide)
     ·replace c18 := Bool.eq_false_iff.mpr c18
      subst c18
      have H1 : (some false) = some r := by rw [if_neg (show ¬ (false = true) by decide)] at H; exact H
      clear H
      have H := H1
      clear H1
      exact absurd ((Option.some.inj H).trans hr_) (by decide)
    ·replace c15 := Bool.eq_false_iff.mpr c15
     subst c15
     have H1 : (some false) = some r := by rw [if_neg (show ¬ (false = true) by decide)] at H; exact H
     clear H
     have H := H1
     clear H1
     exact absurd ((Option.some.inj H).trans hr_) (by decide)
   ·replace c12 := Bool.eq_false_iff.mpr c12
    subst c12
    have H1 : (some false) = some r := by rw [if_neg (show ¬ (false = true) by decide)] at H; exact H
    clear H
    have H := H1
    clear H1
    exact absurd ((Option.some.inj H).trans hr_) (by decide)

/-- THE ONE PURE STATEMENT of laws_FnExactTopOf: yours. -/
def laws_FnExactTopOf.Pure : Prop := ∀ (l0 : List Int) (l1 : List Int), l0.length ≤ maxLen → l0.length * 8 ≤ 140737488351232 → (∀ x ∈ l0, (Lit.int .i64 x).wf = true) → l1.length ≤ maxLen → l1.length * 8 ≤ 140737488351232 → (∀ x ∈ l1, (Lit.int .i64 x).wf = true) → ∃ k, laws_FnExactTopOf.f k l0 l1 = some true
theorem laws_FnExactTopOf.walk (P : laws_FnExactTopOf.Pure) (a0 : Option Addr) (len0 cap0 : Nat) (z0 : List Int) (a1 : Option Addr) (len1 cap1 : Nat) (z1 : List Int) (w : World) (w0 : (a0 = none ∧ len0 = 0 ∧ cap0 = 0 ∧ z0 = []) ∨ ∃ x, a0 = some x ∧ len0 ≤ cap0 ∧ cap0 ≤ maxLen ∧ z0.length = cap0 ∧ (∀ i, i < z0.length → w.cell? (x.add i) = some (.int .i64 (z0.getD i 0))) ∧ ∀ n ∈ z0, (Lit.int .i64 n).wf = true) (y0 : len0 * 8 ≤ 140737488351232) (w1 : (a1 = none ∧ len1 = 0 ∧ cap1 = 0 ∧ z1 = []) ∨ ∃ x, a1 = some x ∧ len1 ≤ cap1 ∧ cap1 ≤ maxLen ∧ z1.length = cap1 ∧ (∀ i, i < z1.length → w.cell? (x.add i) = some (.int .i64 (z1.getD i 0))) ∧ ∀ n ∈ z1, (Lit.int .i64 n).wf = true) (y1 : len1 * 8 ≤ 140737488351232) :
  Calls Try.prog 5 #[.slice a0 len0 cap0, .slice a1 len1 cap1] w fun e w' => e = .returned (.bool true) ∧ Below w.heap.size w w' := by
 obtain ⟨l0, rfl, hr0, hm0, hw0, hc0⟩ := ReadsInt.ofRowC w0
 obtain ⟨l1, rfl, hr1, hm1, hw1, hc1⟩ := ReadsInt.ofRowC w1
 obtain ⟨k, h⟩ := P l0 l1 hm0 y0 hw0 hm1 y1 hw1
 refine (laws_FnExactTopOf.calls k _ _ l0 _ _ l1 true w (Kd.C_of_reads (d := (0 : Int)) (h1 := fun _ => rfl) hr0) hc0 (Kd.C_of_reads (d := (0 : Int)) (h1 := fun _ => rfl) hr1) hc1 rfl h).mono ?_
 rintro e w' ⟨rfl, hd⟩
 exact ⟨rfl, hd⟩

end Go.Proofs.Ytnnahpmnkpmopaa.QFnExactTopOf
