/- Proved: calls of the program come to the answers of the plain Lean functions that stand beside them. Each contract names its conditions. (Written by a program of this session, over the printer of the kit.) -/
import Derived.Test.YtnnahpmnkpmopaaZAggOfQFnExactAggOfx0
namespace Go.Proofs.Ytnnahpmnkpmopaa.QFnExactAggOf
open Go.RowKit Go.Proofs.YtnnahpmnkpmopaaW.PrintWords Go.Proofs.YtnnahpmnkpmopaaW.PrintLast Go.Proofs.YtnnahpmnkpmopaaW.PrintMore
attribute [local go_sem] max2_int min2_int max_two min_two max_three min_three max_four min_four   -- for this text's walks alone
set_option linter.unusedVariables false
set_option linter.unusedSimpArgs false

/-! ### slices_Clone_int_int: function 58 -/
theorem slices_Clone_int_int.info : (Try.prog.info? 3).map (fun i => (i.zero, i.size, i.bytes)) = some (some (.int .i64 0), 1, 8) := by kernel_rfl
def slices_Clone_int_int.f (l0 : List (Int)) : Option (List (Int)) := if l0.length * 8 ≤ 140737488355328 then some l0 else none
set_option maxHeartbeats 2000000 in
set_option maxRecDepth 100000 in
theorem slices_Clone_int_int.calls (A0 : Option Addr) (c0 : Nat) (l0 : List (Int)) (r : List (Int)) (w : World) (hr0 : Kd.C (Kd.int .i64) w A0 l0.length l0) (hc0 : l0.length ≤ c0) (h : slices_Clone_int_int.f l0 = some r) :
  Calls Try.prog 58 #[.slice A0 l0.length c0] w fun e w' => ∃ v0_ : Value, e = .returned (v0_) ∧ Kd.R (Kd.int .i64) 3 w' w.heap.size (fun _ => True) v0_ r ∧ Below w.heap.size w w' := by
 have q := fun (w : World) (a : Option Addr) (n c n' c' : Nat) => Lib.run_eql_slice_nil (P := Try.prog) w _ _ a n c n' c' Try.underlying25
 unfold slices_Clone_int_int.f at h
 by_cases hl : l0.length * 8 ≤ 140737488355328
 rotate_left
 ·rw [if_neg hl] at h
  cases h
 rw [if_pos hl] at h
 obtain rfl := Option.some.inj h
 clear h
 cases A0 with
 | none =>
  have h0 : l0 = [] := by
   rcases Nat.eq_zero_or_pos l0.length with h0 | h0
   ·exact List.eq_nil_of_length_eq_zero h0
   ·obtain ⟨ad, e, _⟩ := hr0.2.2 h0
    cases e
  subst h0
  clear hr0 hc0 hl
  go_enter Try.func58, Try.ntmps58
  go_wp2
  go_ret
  exact ⟨_, rfl, Kd.R_nil _ _ _ _ _, Below.refl _ _⟩
 | some ad =>
  have HR0 := zp.mk hr0
  have LM := zp.mk hl
  have HB := zp.mk (Below.refl w.heap.size w)
  clear hr0 hc0 hl
  have hu := Try.underlying25
  go_enter Try.func58, Try.ntmps58
  go_wp2_with (first | ((with_reducible refine zo (N := 5) rfl ?_); refine Kd.R_lit (Kd.int .i64) _ 3 ?hg (N := 5) ?hd (xs := ([] : List (Int))) (inner := []) (ok := fun _ => True) (okp := fun _ => True) ?hr ?hp (fun _ hk => hk) trivial (Below.refl _ _) (Nat.le_refl _) (by simp) ?_; (case hd => rfl); (case hg => rfl); (case hr => first | (go_simp; done) | (go_simp; rfl)); (case hp => exact (Reps.none _ _)); intro v1 w1 ho5 hb hg_ hnew_; clear hg_ hnew_; have HO := zp.mk (Kd.R_lower ho5 (zk (zv6 HB.out))); replace HB := zp.mk (zj (zv6 HB.out) hb); clear hb ho5) | ((with_reducible refine gate_builtin (b := .append) (xs := #[.tmp 5, .tmp 6]) rfl ?_); at_builtin; refine Kd.R_append_rows (Kd.int .i64) (w0 := w) w.heap.size rfl (.tmp 5) (.tmp 6) 25 3 (.int .i64 0) 8 rfl Try.underlying25 slices_Clone_int_int.info rfl (by decide) (by omega) v1 [] l0 _ _ _ (fun _ => True) (fun _ => False) rfl rfl ?aO ?aR (fun _ _ h => h) (fun _ h => h.elim) ?aF ?aB ?aS ?aL ?_; (case aR => repeat (first | exact (Kd.zt HR0.out HB.out) | (with_reducible refine Kd.zr ?_ _) | (with_reducible refine Kd.zq ?_ _) | (with_reducible refine Kd.C_drew ?_))); (case aB => exact (zv6 HB.out)); (case aF => exact (fun _ _ => trivial)); (case aO => exact (by (with_reducible repeat (first | apply Kd.R_alloc | apply Kd.R_drewN | apply Kd.R_drew)); exact HO.out)); (case aS => exact (zk (zv6 HB.out))); (case aL => have := LM.out; simp; omega); intro v2 w2 ho hb hg hat; replace HB := zp.mk (hb); replace HO := zp.mk (ho); clear ho hb hg hat))
  go_ret
  have h5 := HO.out
  rw [List.nil_append] at h5
  exact ⟨_, rfl, h5, HB.out⟩

/-! ### impl_topOf: function 41 -/
def impl_topOf.f (l0 : List Int) : Option (List Int) := if l0.length * 8 ≤ 140737488355328 then some ((l0.mergeSort (fun x y => decide (x ≤ y))).reverse.take 4) else none
set_option maxHeartbeats 2000000 in
set_option maxRecDepth 100000 in
theorem impl_topOf.calls (A0 : Option Addr) (c0 : Nat) (l0 : List (Int)) (r : List (Int)) (w : World) (hr0 : Kd.C (Kd.int .i64) w A0 l0.length l0) (hc0 : l0.length ≤ c0) (h : impl_topOf.f l0 = some r) :
  Calls Try.prog 41 #[.slice A0 l0.length c0] w fun e w' => ∃ v0_ : Value, e = .returned (v0_) ∧ Kd.R (Kd.int .i64) 3 w' w.heap.size (fun _ => True) v0_ r ∧ Below w.heap.size w w' := by
 unfold impl_topOf.f at h
 by_cases hl : l0.length * 8 ≤ 140737488355328
 rotate_left
 ·rw [if_neg hl] at h
  cases h
 rw [if_pos hl] at h
 obtain ⟨ms, hms⟩ : ∃ ms, ms = l0.mergeSort (fun x y => decide (x ≤ y)) := ⟨_, rfl⟩
 have hml : ms.length = l0.length := by rw [hms]; exact List.length_mergeSort _
 obtain ⟨rs, hrs⟩ : ∃ rs, rs = ms.reverse := ⟨_, rfl⟩
 have hrl : ms.length = rs.length := by rw [hrs, List.length_reverse]
 rw [← hms, ← hrs] at h
 have h := Option.some.inj h
 obtain ⟨ji, hji⟩ : ∃ j : Int, min (rs.length : Int) 4 = j := ⟨_, rfl⟩
 have hji2 : (if (4 : Int) < (rs.length : Int) then (4 : Int) else (rs.length : Int)) = ji := by split <;> omega
 have hj0 : 0 ≤ ji := by omega
 have hj1 : ji ≤ rs.length := by omega
 have hjr : rs.take ji.toNat = r := by
  rw [← h]
  by_cases c : (4 : Int) < (rs.length : Int)
  ·rw [show ji = 4 by omega]; rfl
  ·rw [show ji = (rs.length : Int) by omega, Int.toNat_natCast, List.take_of_length_le (Nat.le_refl _), List.take_of_length_le (by omega)]
 have hread := Kd.reads_of_C (d := (0 : Int)) hr0
 have hc : 0 < l0.length → ∃ ad, A0 = some ad ∧ ∀ j, j < l0.length → w.cell? (ad.add j) = some (.int .i64 (l0[j]?.getD 0)) := fun h0 => by
  obtain ⟨ad, e, hcell⟩ := hread.2.2 h0
  exact ⟨ad, e, fun j hj => by rw [hcell j hj, List.getD_eq_getElem?_getD]⟩
 have cS := Iter.sorted_calls A0 c0 l0 w hl hc
 rw [← hms] at cS
 have HL := zp.mk (show rs.length * 8 ≤ 140737488355328 by omega)
 have HML := zp.mk hml
 have HRL := zp.mk hrl
 have HRS := zp.mk hrs
 have HJR := zp.mk hjr
 obtain ⟨i0, hi0, _, hsz0, _⟩ := info_parts slices_Clone_int_int.info
 have HI0 := zp.mk hi0
 have HSZ := zp.mk hsz0
 have HJ := zp.mk (And.intro hj0 hj1)
 clear hread hc hr0 hc0 h hl hms hml hrl hrs hjr hi0 hsz0 hj0 hj1
 go_enter Try.func41, Try.ntmps41
 go_wp2_with (first
  | (go_at_call 60; refine (Iter.values_calls A0 l0.length c0 w).mono ?_; rintro e w1 ⟨rfl, rfl⟩)
  | (go_at_call 59; refine cS.mono ?_; rintro e w2 ⟨v, rfl, hrow, hb2⟩; clear cS; rw [← HML.out] at hrow; have hrev := Iter.reverse_calls v ms w.heap.size w2 (by have := HL.out; have := HRL.out; omega) hrow; clear hrow; have HB2 := zp.mk hb2; clear hb2)
  | (go_at_call 61; refine hrev.mono ?_; rintro e w3 ⟨rfl, hrow3, hg3⟩; clear hrev; rw [← HRS.out, HRL.out] at hrow3; obtain ⟨A3, c3, rfl⟩ := own_slice hrow3; have HR3 := zp.mk (Kd.R_of_own (enc := Value.int .i64) (h1 := fun _ => rfl) (ok := fun _ => True) hrow3 (fun _ _ => trivial)); have hrd := (Kd.R_reads' HR3.out).2; have HG3 := zp.mk (And.intro hrow3 hg3); obtain ⟨hcut, hA, hC⟩ := print_take_of (P := Try.prog) (Value.int .i64) 0 25 3 .i64 Try.underlying25 HI0.out HSZ.out A3 c3 rs ji HJ.out.1 HJ.out.2 hrd.1; have hk3 := Kd.C_of_reads (h1 := fun _ => rfl) (hA _ (Kd.reads_of_C hrd.2)); have hcl := slices_Clone_int_int.calls A3 c3 (rs.take ji.toNat) r w3 hk3 hC (by unfold slices_Clone_int_int.f; rw [HJR.out, if_pos (by rw [← HJR.out, List.length_take]; have := HL.out; omega)]); rw [show (rs.take ji.toNat).length = ji.toNat by (rw [List.length_take]; have := HJ.out; omega)] at hcl hcut; clear hA hC hrd hrow3 hg3 hk3)
  | (go_at_call 58; refine hcl.mono ?_; rintro e w4 ⟨v4, rfl, ho4, hb4⟩))
 go_ret
 have hb2 := HB2.out
 have hb3 : Below w.heap.size w w3 := hb2.grown HG3.out.2 hb2.size (fun k hk => own_base HG3.out.1 k hk)
 exact ⟨_, rfl, Kd.R_lower ho4 hb3.size, hb3.trans (hb4.mono hb3.size)⟩

-- NOT PRINTED: function 65 (bits_Add64)

/-! ### impl_WideAdd: function 47 -/
theorem add64_run (x y : Int) (hx : 0 ≤ x ∧ x ≤ 18446744073709551615) (hy : 0 ≤ y ∧ y ≤ 18446744073709551615) (w : World) :
  (callFunc 65 #[.int .u64 x, .int .u64 y, .int .u64 0]).run Try.prog w = .ok (.value (.tuple #[.int .u64 ((x + y) % 18446744073709551616), .int .u64 ((x + y) / 18446744073709551616)])) w := by
 rw [run_callFunc_extern Try.func65 (by kernel_rfl) (by kernel_rfl) (by kernel_rfl) (e := add64Entry) (by kernel_rfl)]
 have h := run_add64 (P := Try.prog) x y 0 hx.1 hy.1 (by omega) (by omega) w
 rw [Int.add_zero] at h
 rw [h]
 simp only [Result.andThen]
def impl_WideAdd.f (a0_0 : Int) (a0_1 : Int) (a1_0 : Int) (a1_1 : Int) : Option (Int × Int) :=
 if 0 ≤ a0_1 ∧ a0_1 ≤ 18446744073709551615 ∧ 0 ≤ a1_1 ∧ a1_1 ≤ 18446744073709551615 then some (wrap64 (wrap64 (a0_0 + a1_0) + (a0_1 + a1_1) / 18446744073709551616), (a0_1 + a1_1) % 18446744073709551616) else none
set_option maxHeartbeats 1000000 in
set_option maxRecDepth 100000 in
theorem impl_WideAdd.calls (a0_0 : Int) (a0_1 : Int) (a1_0 : Int) (a1_1 : Int) (r1 : Int) (r2 : Int) (w : World) (h : impl_WideAdd.f a0_0 a0_1 a1_0 a1_1 = some (r1, r2)) :
  Calls Try.prog 47 #[.agg #[.int .i64 a0_0, .int .u64 a0_1], .agg #[.int .i64 a1_0, .int .u64 a1_1]] w fun e w' => e = .returned (.agg #[.int .i64 r1, .int .u64 r2]) ∧ Below w.heap.size w w' := by
 unfold impl_WideAdd.f at h
 by_cases c : 0 ≤ a0_1 ∧ a0_1 ≤ 18446744073709551615 ∧ 0 ≤ a1_1 ∧ a1_1 ≤ 18446744073709551615
 rotate_left
 ·rw [if_neg c] at h
  cases h
 rw [if_pos c] at h
 simp only [Option.some.injEq, Prod.mk.injEq] at h
 obtain ⟨rfl, rfl⟩ := h
 obtain ⟨h1, h2, h3, h4⟩ := c
 have hadd := add64_run a0_1 a1_1 ⟨h1, h2⟩ ⟨h3, h4⟩
 have b1 : 0 ≤ (a0_1 + a1_1) / 18446744073709551616 := by omega
 have b2 : (a0_1 + a1_1) / 18446744073709551616 ≤ 1 := by omega
 generalize (a0_1 + a1_1) / 18446744073709551616 = q at hadd b1 b2
 generalize (a0_1 + a1_1) % 18446744073709551616 = m at hadd
 clear h1 h2 h3 h4
 go_enter Try.func47, Try.ntmps47
 go_wp2
 refine bodyPost_ret (results_cell_row rfl _ _ (w.heap.size + 1 + 1) 30 #[.int .i64 (wrap64 (wrap64 (a0_0 + a1_0) + q)), .int .u64 m] (0, 0) _ rfl (by simpa using heap_alloc_new ((w.alloc (Obj.cells #[Value.int IntKind.i64 a0_0, Value.int IntKind.u64 a0_1] 30)).alloc (Obj.cells #[Value.int IntKind.i64 a1_0, Value.int IntKind.u64 a1_1] 30)) _) Try.underlying30 rfl (by kernel_rfl)) rfl ?_
 exact ⟨rfl, zc (zc (zc (Below.refl _ _) _) _) _⟩

/-! ### impl_WideOf: function 49 -/
def impl_WideOf.f (a0 : Int) : Option (Int × Int) := some (a0 / 9223372036854775808, IntKind.u64.wrap (a0))
set_option maxHeartbeats 8000000 in
set_option maxRecDepth 100000 in
theorem impl_WideOf.calls (a0 : Int) (r1 : Int) (r2 : Int) (w : World) (h : impl_WideOf.f a0 = some (r1, r2)) :
  Calls Try.prog 49 #[.int .i64 a0] w fun e w' => e = .returned (.agg #[.int .i64 r1, .int .u64 r2]) ∧ Below w.heap.size w w' := by
 have hu30 := Try.underlying30
 have HB := zp.mk (Below.refl w.heap.size w)
 have H : (some (a0 / 9223372036854775808, IntKind.u64.wrap (a0))) = some (r1, r2) := h
 clear h
 simp only [Option.some.injEq, Prod.mk.injEq] at H
 obtain ⟨rfl, rfl⟩ := H
 go_enter Try.func49, Try.ntmps49
 go_wp2_with (first | ((with_reducible refine zo (N := 2) rfl ?_); refine zm ?hg (N := 2) ?hd (cs := #[.int .i64 0, .int .u64 0]) (t := 30) ?hr ?_; (case hd => rfl); (case hg => rfl); (case hr => first | (go_simp; done) | (go_simp; rfl)); intro gb172 hg w2 hbox hb; have BK172 := zp.mk (hbox); have GW172 := zp.mk ((zv3 (zv6 HB.out) hg)); have GE172 := zp.mk ((zv3 (zv6 HB.out) hg)); replace HB := zp.mk (zj (zv6 HB.out) hb); clear hb hbox hg; have y3_0 := zt0 BK172.out; have y3_1 := zt1 BK172.out; have u3_0 := zd BK172.out 0; have u3_1 := zd BK172.out 1))
 refine bodyPost_ret (results_cell_row rfl _ _ gb172 30 #[.int .i64 (a0 / 9223372036854775808), .int .u64 (IntKind.u64.wrap (a0))] (0, 0) _ rfl (by (with_reducible repeat (first | refine zf ?_ _ | refine zi ?_ | refine zg ?_ _)); refine blk_put (cs := #[.int .i64 (a0 / 9223372036854775808), .int .u64 0]) ?_ 1 _ rfl; (with_reducible repeat (first | refine zf ?_ _ | refine zi ?_ | refine zg ?_ _)); refine blk_put (cs := #[.int .i64 0, .int .u64 0]) ?_ 0 _ rfl; (with_reducible repeat (first | refine zf ?_ _ | refine zi ?_ | refine zg ?_ _)); exact BK172.out) Try.underlying30 rfl (by kernel_rfl)) rfl ?_
 exact ⟨by first | rfl | (simp [errW_none, errW_some] <;> rfl) | (simp [*, errW_none, errW_some] <;> rfl), zv7 HB.out⟩

/-! ### slices_Min_int_int: function 63 -/
def slices_Min_int_int.l0 : Nat → List Int → Int → Int → Option (Int)
 | 0, _, _, _ => none
 | k + 1, x0, x3, x4 => if x4 < (x0.length : Int) then (if 0 ≤ x4 then (slices_Min_int_int.l0 k x0 (mn x3 (rd x0 x4)) (wrap64 (x4 + 1))) else (none)) else (some x3)
def slices_Min_int_int.f (k : Nat) (l0 : List Int) : Option (Int) := if (l0.length : Int) < 1 then (none) else (if 0 < (l0.length : Int) then (slices_Min_int_int.l0 k l0 (rd l0 0) 1) else (none))
set_option maxHeartbeats 8000000 in
set_option maxRecDepth 100000 in
theorem slices_Min_int_int.calls (k : Nat) (A0 : Option Addr) (c0 : Nat) (l0 : List Int) (r : Int) (w : World) (hr0 : Kd.C (Kd.int .i64) w A0 l0.length l0) (hc0 : l0.length ≤ c0) (h : slices_Min_int_int.f k l0 = some r) :
  Calls Try.prog 63 #[.slice A0 l0.length c0] w fun e w' => e = .returned (.int .i64 r) ∧ Below w.heap.size w w' := by
 have HR0 := zp.mk hr0
 have HC0 := zp.mk hc0
 clear hr0 hc0
 have HB := zp.mk (Below.refl w.heap.size w)
 have H : (if (l0.length : Int) < 1 then (none) else (if 0 < (l0.length : Int) then (slices_Min_int_int.l0 k l0 (rd l0 0) 1) else (none))) = some r := h
 clear h
 by_cases c2 : (l0.length : Int) < 1
 ·rw [if_pos c2] at H
  exact absurd H (by simp)
 ·rw [if_neg c2] at H
  have c2b0 : decide ((l0.length : Int) < 1) = false := decide_eq_false c2
  have c2b1 : decide (l0.length < 1) = false := decide_eq_false (by omega)
  clear c2
  by_cases c3 : 0 < (l0.length : Int)
  ·rw [if_pos c3] at H
   have c3b0 : decide (0 < (l0.length : Int)) = true := decide_eq_true c3
   have c3b1 : decide (0 < l0.length) = true := decide_eq_true (by omega)
   clear c3
   have H' := zp.mk H
   clear H
   have p173 : 0 ≤ (0 : Int) := (by omega)
   have q173 : 0 < (l0.length : Int) := of_decide_eq_true (by first | (with_reducible assumption) | assumption)
   obtain ⟨ad173, e173, hx173_0⟩ := Kd.at_int HR0.out 0 p173 q173
   cases e173
   have qi173 : (0 < l0.length) = True := eq_true (by omega)
   (try rw [show ((0 : Int)).toNat = 0 from rfl] at hx173_0)
   (try rw [Addr.add_zero'] at hx173_0)
   replace p173 := eq_true p173
   replace q173 := eq_true q173
   go_enter Try.func63, Try.ntmps63
   go_wp2
   go_loopg [3, 4] k (fun kq v3 v4 w' => ∃ (x3_1 : Int) (x4_1 : Int), v3 = .int .i64 x3_1 ∧ v4 = .int .i64 x4_1 ∧ zp (slices_Min_int_int.l0 kq l0 x3_1 x4_1 = some r) ∧ zp (kq ≤ k) ∧ zp (Below w.heap.size w w'))
   case atStart => exact ⟨(rd l0 0), (1), (by first | rfl | (simp; done) | (simp [*]; done)), (by first | rfl | (simp; done) | (simp [*]; done)), H', ⟨Nat.le_refl _⟩, ⟨zv6 HB.out⟩⟩
   case round =>
    clear H'
    try clear p1
    try clear q1
    try clear hx1
    try clear qi1
    try clear c2
    try clear c2b0
    try clear c2b1
    try clear p2
    try clear c3
    try clear c3b0
    try clear c3b1
    try clear hx173_0
    try clear p173
    try clear q173
    obtain ⟨x3_1, x4_1, rfl, rfl, HA, HK1, HB⟩ := hrel
    cases gk with
    | zero => exact absurd HA.out (by simp [slices_Min_int_int.l0])
    | succ k1 =>
     have H := HA.out
     clear HA
     simp only [slices_Min_int_int.l0] at H
     by_cases c4 : x4_1 < (l0.length : Int)
     ·rw [if_pos c4] at H
      have c4b0 : decide (x4_1 < (l0.length : Int)) = true := decide_eq_true c4
      clear c4
      by_cases c5 : 0 ≤ x4_1
      ·rw [if_pos c5] at H
       have c5b0 : decide (0 ≤ x4_1) = true := decide_eq_true c5
       clear c5
       obtain ⟨ji6, hji6⟩ : ∃ j_ : Int, (mn x3_1 (rd l0 x4_1)) = j_ := ⟨_, rfl⟩
       replace H : (slices_Min_int_int.l0 k1 l0 ji6 (wrap64 (x4_1 + 1))) = some r := by first | (rw [hji6] at H; exact H) | (simp only [hji6] at H ⊢; exact H)
       have hji6_ : (if (rd l0 x4_1) < x3_1 then (rd l0 x4_1) else x3_1) = ji6 := hji6
       have H' := zp.mk H
       clear H
       have p174 : 0 ≤ (x4_1 : Int) := of_decide_eq_true (by first | (with_reducible assumption) | assumption)
       have q174 : x4_1 < (l0.length : Int) := of_decide_eq_true (by first | (with_reducible assumption) | assumption)
       obtain ⟨ad174, e174, hx174_0⟩ := Kd.at_int HR0.out x4_1 p174 q174
       obtain rfl : ad173 = ad174 := (by injection e174)
       replace hx174_0 := (HB.out.cell (World.block_lt_of_cell? w _ hx174_0)).trans hx174_0
       replace p174 := eq_true p174
       replace q174 := eq_true q174
       go_wp2
       go_roundg k1
       case measure => have := HK1.out; omega
       case rel => exact ⟨(ji6), (wrap64 (x4_1 + 1)), (by first | rfl | (simp; done) | (simp only [← hji6] <;> (first | rfl | simp)) | (simp [*]; done)), (by first | rfl | (simp; done) | (simp [*]; done)), H', ⟨by have := HK1.out; omega⟩, ⟨zv6 HB.out⟩⟩
      ·rw [if_neg c5] at H
       exact absurd H (by simp)
     ·rw [if_neg c4] at H
      have c4b0 : decide (x4_1 < (l0.length : Int)) = false := decide_eq_false c4
      clear c4
      obtain rfl := Option.some.inj H
      go_wp2
      go_ret
      exact ⟨by first | rfl | (simp [errW_none, errW_some] <;> rfl) | (simp [*, errW_none, errW_some] <;> rfl), zv6 HB.out⟩
  ·rw [if_neg c3] at H
   exact absurd H (by simp)

/-! ### slices_Max_int_int: function 64 -/
def slices_Max_int_int.l0 : Nat → List Int → Int → Int → Option (Int)
 | 0, _, _, _ => none
 | k + 1, x0, x3, x4 => if x4 < (x0.length : Int) then (if 0 ≤ x4 then (slices_Max_int_int.l0 k x0 (mx x3 (rd x0 x4)) (wrap64 (x4 + 1))) else (none)) else (some x3)
def slices_Max_int_int.f (k : Nat) (l0 : List Int) : Option (Int) := if (l0.length : Int) < 1 then (none) else (if 0 < (l0.length : Int) then (slices_Max_int_int.l0 k l0 (rd l0 0) 1) else (none))
set_option maxHeartbeats 8000000 in
set_option maxRecDepth 100000 in
theorem slices_Max_int_int.calls (k : Nat) (A0 : Option Addr) (c0 : Nat) (l0 : List Int) (r : Int) (w : World) (hr0 : Kd.C (Kd.int .i64) w A0 l0.length l0) (hc0 : l0.length ≤ c0) (h : slices_Max_int_int.f k l0 = some r) :
  Calls Try.prog 64 #[.slice A0 l0.length c0] w fun e w' => e = .returned (.int .i64 r) ∧ Below w.heap.size w w' := by
 have HR0 := zp.mk hr0
 have HC0 := zp.mk hc0
 clear hr0 hc0
 have HB := zp.mk (Below.refl w.heap.size w)
 have H : (if (l0.length : Int) < 1 then (none) else (if 0 < (l0.length : Int) then (slices_Max_int_int.l0 k l0 (rd l0 0) 1) else (none))) = some r := h
 clear h
 by_cases c2 : (l0.length : Int) < 1
 ·rw [if_pos c2] at H
  exact absurd H (by simp)
 ·rw [if_neg c2] at H
  have c2b0 : decide ((l0.length : Int) < 1) = false := decide_eq_false c2
  have c2b1 : decide (l0.length < 1) = false := decide_eq_false (by omega)
  clear c2
  by_cases c3 : 0 < (l0.length : Int)
  ·rw [if_pos c3] at H
   have c3b0 : decide (0 < (l0.length : Int)) = true := decide_eq_true c3
   have c3b1 : decide (0 < l0.length) = true := decide_eq_true (by omega)
   clear c3
   have H' := zp.mk H
   clear H
   have p175 : 0 ≤ (0 : Int) := (by omega)
   have q175 : 0 < (l0.length : Int) := of_decide_eq_true (by first | (with_reducible assumption) | assumption)
   obtain ⟨ad175, e175, hx175_0⟩ := Kd.at_int HR0.out 0 p175 q175
   cases e175
   have qi175 : (0 < l0.length) = True := eq_true (by omega)
   (try rw [show ((0 : Int)).toNat = 0 from rfl] at hx175_0)
   (try rw [Addr.add_zero'] at hx175_0)
   replace p175 := eq_true p175
   replace q175 := eq_true q175
   go_enter Try.func64, Try.ntmps64
   go_wp2
   go_loopg [3, 4] k (fun kq v3 v4 w' => ∃ (x3_1 : Int) (x4_1 : Int), v3 = .int .i64 x3_1 ∧ v4 = .int .i64 x4_1 ∧ zp (slices_Max_int_int.l0 kq l0 x3_1 x4_1 = some r) ∧ zp (kq ≤ k) ∧ zp (Below w.heap.size w w'))
   case atStart => exact ⟨(rd l0 0), (1), (by first | rfl | (simp; done) | (simp [*]; done)), (by first | rfl | (simp; done) | (simp [*]; done)), H', ⟨Nat.le_refl _⟩, ⟨zv6 HB.out⟩⟩
   case round =>
    clear H'
    try clear p1
    try clear q1
    try clear hx1
    try clear qi1
    try clear c2
    try clear c2b0
    try clear c2b1
    try clear p2
    try clear c3
    try clear c3b0
    try clear c3b1
    try clear hx175_0
    try clear p175
    try clear q175
    obtain ⟨x3_1, x4_1, rfl, rfl, HA, HK1, HB⟩ := hrel
    cases gk with
    | zero => exact absurd HA.out (by simp [slices_Max_int_int.l0])
    | succ k1 =>
     have H := HA.out
     clear HA
     simp only [slices_Max_int_int.l0] at H
     by_cases c4 : x4_1 < (l0.length : Int)
     ·rw [if_pos c4] at H
      have c4b0 : decide (x4_1 < (l0.length : Int)) = true := decide_eq_true c4
      clear c4
      by_cases c5 : 0 ≤ x4_1
      ·rw [if_pos c5] at H
       have c5b0 : decide (0 ≤ x4_1) = true := decide_eq_true c5
       clear c5
       obtain ⟨ji6, hji6⟩ : ∃ j_ : Int, (mx x3_1 (rd l0 x4_1)) = j_ := ⟨_, rfl⟩
       replace H : (slices_Max_int_int.l0 k1 l0 ji6 (wrap64 (x4_1 + 1))) = some r := by first | (rw [hji6] at H; exact H) | (simp only [hji6] at H ⊢; exact H)
       have hji6_ : (if x3_1 < (rd l0 x4_1) then (rd l0 x4_1) else x3_1) = ji6 := hji6
       have H' := zp.mk H
       clear H
       have p176 : 0 ≤ (x4_1 : Int) := of_decide_eq_true (by first | (with_reducible assumption) | assumption)
       have q176 : x4_1 < (l0.length : Int) := of_decide_eq_true (by first | (with_reducible assumption) | assumption)
       obtain ⟨ad176, e176, hx176_0⟩ := Kd.at_int HR0.out x4_1 p176 q176
       obtain rfl : ad175 = ad176 := (by injection e176)
       replace hx176_0 := (HB.out.cell (World.block_lt_of_cell? w _ hx176_0)).trans hx176_0
       replace p176 := eq_true p176
       replace q176 := eq_true q176
       go_wp2
       go_roundg k1
       case measure => have := HK1.out; omega
       case rel => exact ⟨(ji6), (wrap64 (x4_1 + 1)), (by first | rfl | (simp; done) | (simp only [← hji6] <;> (first | rfl | simp)) | (simp [*]; done)), (by first | rfl | (simp; done) | (simp [*]; done)), H', ⟨by have := HK1.out; omega⟩, ⟨zv6 HB.out⟩⟩
      ·rw [if_neg c5] at H
       exact absurd H (by simp)
     ·rw [if_neg c4] at H
      have c4b0 : decide (x4_1 < (l0.length : Int)) = false := decide_eq_false c4
      clear c4
      obtain rfl := Option.some.inj H
      go_wp2
      go_ret
      exact ⟨by first | rfl | (simp [errW_none, errW_some] <;> rfl) | (simp [*, errW_none, errW_some] <;> rfl), zv6 HB.out⟩
  ·rw [if_neg c3] at H
   exact absurd H (by simp)

/-! ### impl_aggOf: function 43 -/
def impl_aggOf.l0 : Nat → List Int → Int → Int → Int → Int → Int → Int → Int → List Int → Option (Int × Int × Int × Int × Int × List Int)
 | 0, _, _, _, _, _, _, _, _, _ => none
 | k + 1, x19, x20, x21, x184000, x184001, x184002, x184003, x184004, x184005 => if x21 < x20 then (if 0 ≤ x21 then (if x21 < (x19.length : Int) then ((impl_WideOf.f (rd x19 x21)).bind fun bt185 => ((impl_WideAdd.f x184001 x184002 bt185.1 bt185.2).bind fun bt187 => (impl_aggOf.l0 k x19 x20 (wrap64 (x21 + 1)) x184000 bt187.1 bt187.2 x184003 x184004 x184005))) else (none)) else (none)) else (some (x184000, x184001, x184002, x184003, x184004, x184005))
def impl_aggOf.f (k : Nat) (l0 : List Int) : Option (Int × Int × Int × Int × Int × List Int) := if (l0.length : Int) = 0 then (some (0, 0, 0, 0, 0, ([] : List Int))) else ((slices_Min_int_int.f k l0).bind fun t178 => ((slices_Max_int_int.f k l0).bind fun t179 => ((impl_topOf.f l0).bind fun t180 => (impl_aggOf.l0 k l0 (l0.length : Int) 0 (l0.length : Int) 0 0 t178 t179 t180))))
set_option maxHeartbeats 8000000 in
set_option maxRecDepth 100000 in
theorem impl_aggOf.calls (k : Nat) (A0 : Option Addr) (c0 : Nat) (l0 : List Int) (r1 : Int) (r2 : Int) (r3 : Int) (r4 : Int) (r5 : Int) (r6 : List Int) (w : World) (hr0 : Kd.C (Kd.int .i64) w A0 l0.length l0) (hc0 : l0.length ≤ c0) (h : impl_aggOf.f k l0 = some (r1, r2, r3, r4, r5, r6)) :
  Calls Try.prog 43 #[.slice A0 l0.length c0] w fun e w' => ∃ v5_ : Value, e = .returned (.agg #[.int .i64 r1, .int .i64 r2, .int .u64 r3, .int .i64 r4, .int .i64 r5, v5_]) ∧ Kd.R (Kd.int .i64) 3 w' w.heap.size (fun _ => True) v5_ r6 ∧ Below w.heap.size w w' := by
 have hu32 := Try.underlying32
 have hu30 := Try.underlying30
 have HR0 := zp.mk hr0
 have HC0 := zp.mk hc0
 clear hr0 hc0
 have HB := zp.mk (Below.refl w.heap.size w)
 have H : (if (l0.length : Int) = 0 then (some (0, 0, 0, 0, 0, ([] : List Int))) else ((slices_Min_int_int.f k l0).bind fun t178 => ((slices_Max_int_int.f k l0).bind fun t179 => ((impl_topOf.f l0).bind fun t180 => (impl_aggOf.l0 k l0 (l0.length : Int) 0 (l0.length : Int) 0 0 t178 t179 t180))))) = some (r1, r2, r3, r4, r5, r6) := h
 clear h
 by_cases c2 : (l0.length : Int) = 0
 ·rw [if_pos c2] at H
  have c2b0 : ((l0.length : Int) == 0) = true := beq_iff_eq.mpr c2
  have c2b1 : ((l0.length : Int) != 0) = false := bne_eq_false_iff_eq.mpr c2
  clear c2
  simp only [Option.some.injEq, Prod.mk.injEq] at H
  obtain ⟨rfl, rfl, rfl, rfl, rfl, rfl⟩ := H
  go_enter Try.func43, Try.ntmps43
  go_wp2_with (first | ((with_reducible refine zo (N := 2) rfl ?_); refine zm ?hg (N := 2) ?hd (cs := #[.int .i64 0, .int .i64 0, .int .u64 0, .int .i64 0, .int .i64 0, .slice none 0 0]) (t := 32) ?hr ?_; (case hd => rfl); (case hg => rfl); (case hr => first | (go_simp; done) | (go_simp; rfl)); intro gb177 hg w3 hbox hb; have BK177 := zp.mk (hbox); have GW177 := zp.mk ((zv3 (zv6 HB.out) hg)); have GE177 := zp.mk ((zv3 (zv6 HB.out) hg)); replace HB := zp.mk (zj (zv6 HB.out) hb); clear hb hbox hg; have y4_0 := zt0 BK177.out; have y4_1 := zt1 BK177.out; have y4_2 := zt2 BK177.out; have y4_3 := zt3 BK177.out; have y4_4 := zt4 BK177.out; have y4_5 := zt5 BK177.out; have u4_0 := zd BK177.out 0; have u4_1 := zd BK177.out 1; have u4_2 := zd BK177.out 2; have u4_3 := zd BK177.out 3; have u4_4 := zd BK177.out 4; have u4_5 := zd BK177.out 5))
  refine bodyPost_ret (results_cell_row rfl _ _ gb177 32 #[.int .i64 0, .int .i64 0, .int .u64 0, .int .i64 0, .int .i64 0, .slice none 0 0] (0, 0) _ rfl (by (with_reducible repeat (first | refine zf ?_ _ | refine zi ?_ | refine zg ?_ _)); refine blk_put (cs := #[.int .i64 0, .int .i64 0, .int .u64 0, .int .i64 0, .int .i64 0, .slice none 0 0]) ?_ 5 _ rfl; (with_reducible repeat (first | refine zf ?_ _ | refine zi ?_ | refine zg ?_ _)); refine blk_put (cs := #[.int .i64 0, .int .i64 0, .int .u64 0, .int .i64 0, .int .i64 0, .slice none 0 0]) ?_ 4 _ rfl; (with_reducible repeat (first | refine zf ?_ _ | refine zi ?_ | refine zg ?_ _)); refine blk_put (cs := #[.int .i64 0, .int .i64 0, .int .u64 0, .int .i64 0, .int .i64 0, .slice none 0 0]) ?_ 3 _ rfl; (with_reducible repeat (first | refine zf ?_ _ | refine zi ?_ | refine zg ?_ _)); refine blk_put (cs := #[.int .i64 0, .int .i64 0, .int .u64 0, .int .i64 0, .int .i64 0, .slice none 0 0]) ?_ 2 _ rfl; (with_reducible repeat (first | refine zf ?_ _ | refine zi ?_ | refine zg ?_ _)); refine blk_put (cs := #[.int .i64 0, .int .i64 0, .int .u64 0, .int .i64 0, .int .i64 0, .slice none 0 0]) ?_ 1 _ rfl; (with_reducible repeat (first | refine zf ?_ _ | refine zi ?_ | refine zg ?_ _)); refine blk_put (cs := #[.int .i64 0, .int .i64 0, .int .u64 0, .int .i64 0, .int .i64 0, .slice none 0 0]) ?_ 0 _ rfl; (with_reducible repeat (first | refine zf ?_ _ | refine zi ?_ | refine zg ?_ _)); exact BK177.out) Try.underlying32 rfl (by kernel_rfl)) rfl ?_
  exact ⟨_, by first | rfl | (simp [errW_none, errW_some] <;> rfl) | (simp [*, errW_none, errW_some] <;> rfl), by first | exact Kd.R_nil _ _ _ _ _ | exact Kd.N_nil _ _ _ _ _ | exact Kd.V_nil _ _ _ _ _ | exact Kd.Q_nil _ _ _ _ _ | exact Kd.S_nil _ _ _ _ _, zv7 HB.out⟩
 ·rw [if_neg c2] at H
  have c2b0 : ((l0.length : Int) == 0) = false := beq_eq_false_iff_ne.mpr c2
  have c2b1 : ((l0.length : Int) != 0) = true := bne_iff_ne.mpr c2
  have c2b2 : ¬ (l0 = []) := fun h_ => c2 (by rw [h_]; rfl)
  replace H := zs4 H
  obtain ⟨t178, A50, H⟩ := H
  replace H : ((slices_Max_int_int.f k l0).bind fun t179 => ((impl_topOf.f l0).bind fun t180 => (impl_aggOf.l0 k l0 (l0.length : Int) 0 (l0.length : Int) 0 0 t178 t179 t180))) = some (r1, r2, r3, r4, r5, r6) := H
  have A5 := zp.mk A50
  clear A50
  replace H := zs4 H
  obtain ⟨t179, A60, H⟩ := H
  replace H : ((impl_topOf.f l0).bind fun t180 => (impl_aggOf.l0 k l0 (l0.length : Int) 0 (l0.length : Int) 0 0 t178 t179 t180)) = some (r1, r2, r3, r4, r5, r6) := H
  have A6 := zp.mk A60
  clear A60
  replace H := zs4 H
  obtain ⟨t180, A70, H⟩ := H
  replace H : (impl_aggOf.l0 k l0 (l0.length : Int) 0 (l0.length : Int) 0 0 t178 t179 t180) = some (r1, r2, r3, r4, r5, r6) := H
  have A7 := zp.mk A70
  clear A70
  have H' := zp.mk H
  clear H
  go_enter Try.func43, Try.ntmps43
  go_wp2_with (first | ((with_reducible refine zo (N := 2) rfl ?_); refine zm ?hg (N := 2) ?hd (cs := #[.int .i64 0, .int .i64 0, .int .u64 0, .int .i64 0, .int .i64 0, .slice none 0 0]) (t := 32) ?hr ?_; (case hd => rfl); (case hg => rfl); (case hr => first | (go_simp; done) | (go_simp; rfl)); intro gb177 hg w8 hbox hb; have BK177 := zp.mk (hbox); have GW177 := zp.mk ((zv3 (zv6 HB.out) hg)); have GE177 := zp.mk ((zv3 (zv6 HB.out) hg)); replace HB := zp.mk (zj (zv6 HB.out) hb); clear hb hbox hg) | ((with_reducible refine zn (f := 63) rfl ?_); refine goesL_ (some 13) rfl rfl Try.func63 (by kernel_rfl) rfl #[.slice A0 l0.length c0] rfl (by (try simp only [List.map_toArray, List.map_cons, List.map_nil]); first | done | rfl | (simp only [List.length_drop, List.length_take]; rfl)) ?_; (with_reducible refine (slices_Min_int_int.calls k _ _ l0 t178 _ ?side1 ?side2 A5.out).mono ?_); (case side1 => repeat (first | exact (Kd.zt HR0.out HB.out) | (with_reducible refine Kd.zr ?_ _) | (with_reducible refine Kd.zq ?_ _) | (with_reducible refine Kd.C_drew ?_))); (case side2 => exact HC0.out); rintro e w9 ⟨rfl, hb⟩; refine ⟨_, rfl, ?_⟩; replace BK177 := zp.mk (zl (zv8 BK177.out) hb); replace HB := zp.mk (zj (zv7 HB.out) hb); (try clear hb); (try clear hb2); (try clear hk); (try clear hi)) | ((with_reducible refine zn (f := 64) rfl ?_); refine goesL_ (some 15) rfl rfl Try.func64 (by kernel_rfl) rfl #[.slice A0 l0.length c0] rfl (by (try simp only [List.map_toArray, List.map_cons, List.map_nil]); first | done | rfl | (simp only [List.length_drop, List.length_take]; rfl)) ?_; (with_reducible refine (slices_Max_int_int.calls k _ _ l0 t179 _ ?side1 ?side2 A6.out).mono ?_); (case side1 => repeat (first | exact (Kd.zt HR0.out HB.out) | (with_reducible refine Kd.zr ?_ _) | (with_reducible refine Kd.zq ?_ _) | (with_reducible refine Kd.C_drew ?_))); (case side2 => exact HC0.out); rintro e w10 ⟨rfl, hb⟩; refine ⟨_, rfl, ?_⟩; replace BK177 := zp.mk (zl (zv8 BK177.out) hb); replace HB := zp.mk (zj (zv7 HB.out) hb); (try clear hb); (try clear hb2); (try clear hk); (try clear hi)) | ((with_reducible refine zn (f := 41) rfl ?_); refine goesL_ (some 17) rfl rfl Try.func41 (by kernel_rfl) rfl #[.slice A0 l0.length c0] rfl (by (try simp only [List.map_toArray, List.map_cons, List.map_nil]); first | done | rfl | (simp only [List.length_drop, List.length_take]; rfl)) ?_; (with_reducible refine (impl_topOf.calls _ _ l0 t180 _ ?side1 ?side2 A7.out).mono ?_); (case side1 => repeat (first | exact (Kd.zt HR0.out HB.out) | (with_reducible refine Kd.zr ?_ _) | (with_reducible refine Kd.zq ?_ _) | (with_reducible refine Kd.C_drew ?_))); (case side2 => exact HC0.out); rintro e w11 ⟨v181, rfl, ho0, hb⟩; refine ⟨_, rfl, ?_⟩; have HO182 := zp.mk (Kd.R_lower ho0 (zk (zv7 HB.out))); replace BK177 := zp.mk (zl (zv8 BK177.out) hb); replace HB := zp.mk (zj (zv7 HB.out) hb); (try clear hb); (try clear hb2); (try clear hk); (try clear hi); (try clear ho0); obtain ⟨Ao12, co12, eo12⟩ := Kd.R_slice HO182.out; subst eo12) | ((with_reducible refine zo (N := 3) rfl ?_); refine zm ?hg (N := 3) ?hd (cs := #[.int .i64 0, .int .i64 0, .int .u64 0, .int .i64 0, .int .i64 0, .slice none 0 0]) (t := 32) ?hr ?_; (case hd => rfl); (case hg => rfl); (case hr => first | (go_simp; done) | (go_simp; rfl)); intro gb183 hg w13 hbox hb; have BK183 := zp.mk (hbox); have GW183 := zp.mk ((zv3 (zv7 HB.out) hg)); have GE183 := zp.mk ((zv3 (zv7 HB.out) hg)); have NB177_183 := zp.mk ((by rw [hg]; exact Nat.ne_of_lt (blk_lt (g := gb177) (o := .cells #[.int .i64 0, .int .i64 0, .int .u64 0, .int .i64 0, .int .i64 0, .slice none 0 0] 32 (0, 0)) (zv8 BK177.out)) : gb177 ≠ gb183)); have NB183_177 := zp.mk ((by rw [hg]; exact Nat.ne_of_gt (blk_lt (g := gb177) (o := .cells #[.int .i64 0, .int .i64 0, .int .u64 0, .int .i64 0, .int .i64 0, .slice none 0 0] 32 (0, 0)) (zv8 BK177.out)) : gb183 ≠ gb177)); replace HO182 := zp.mk (Kd.R_below (by (with_reducible repeat (first | apply Kd.R_alloc | apply Kd.R_drewN | apply Kd.R_drew)); exact HO182.out) hb); replace BK177 := zp.mk (zl (zv8 BK177.out) hb); replace HB := zp.mk (zj (zv7 HB.out) hb); clear hb hbox hg; have hnb14 := NB183_177.out; have hnc14 := NB177_183.out; have y15_0 := zt0 BK183.out; have y15_1 := zt1 BK183.out; have y15_2 := zt2 BK183.out; have y15_3 := zt3 BK183.out; have y15_4 := zt4 BK183.out; have y15_5 := zt5 BK183.out; have u15_0 := zd BK183.out 0; have u15_1 := zd BK183.out 1; have u15_2 := zd BK183.out 2; have u15_3 := zd BK183.out 3; have u15_4 := zd BK183.out 4; have u15_5 := zd BK183.out 5))
  go_loopg [21] k (fun kq v21 w' => ∃ (x21_1 : Int) (x184001_1 : Int) (x184002_1 : Int), v21 = .int .i64 x21_1 ∧ zp (impl_aggOf.l0 kq l0 (l0.length : Int) x21_1 (l0.length : Int) x184001_1 x184002_1 t178 t179 t180 = some (r1, r2, r3, r4, r5, r6)) ∧ zp (kq ≤ k) ∧ zp (Kd.R (Kd.int .i64) 3 w' w.heap.size (fun _ => True) (.slice Ao12 t180.length co12) t180) ∧ zp (w'.heap[gb177]? = some (.cells #[.int .i64 0, .int .i64 0, .int .u64 0, .int .i64 0, .int .i64 0, (.slice none 0 0)] 32 (0, 0))) ∧ zp (w'.heap[gb183]? = some (.cells #[.int .i64 (l0.length : Int), .int .i64 x184001_1, .int .u64 x184002_1, .int .i64 t178, .int .i64 t179, (.slice Ao12 t180.length co12)] 32 (0, 0))) ∧ zp (Below w.heap.size w w'))
  case atStart => exact ⟨(0), (0), (0), (by first | rfl | (simp; done) | (simp [*]; done)), H', ⟨Nat.le_refl _⟩, ⟨by (with_reducible repeat (first | apply Kd.R_alloc | apply Kd.R_drewN | apply Kd.R_drew)); exact Kd.R_mono (Kd.R_far (p := ⟨gb183, 5, none⟩) (Kd.R_far (p := ⟨gb183, 4, none⟩) (Kd.R_far (p := ⟨gb183, 3, none⟩) (Kd.R_far (p := ⟨gb183, 2, none⟩) (Kd.R_far (p := ⟨gb183, 1, none⟩) (Kd.R_far (p := ⟨gb183, 0, none⟩) (Kd.R_types HO182.out BK183.out (by decide)) (fun _ hk => hk.2) (.int .i64 (l0.length : Int))) (fun _ hk => hk.2) (.int .i64 0)) (fun _ hk => hk.2) (.int .u64 0)) (fun _ hk => hk.2) (.int .i64 t178)) (fun _ hk => hk.2) (.int .i64 t179)) (fun _ hk => hk.2) (.slice Ao12 t180.length co12)) (fun _ hk => trivial)⟩, ⟨by (with_reducible repeat (first | refine zf ?_ _ | refine zi ?_ | refine zg ?_ _)); refine blk_far ?_ NB177_183.out _; (with_reducible repeat (first | refine zf ?_ _ | refine zi ?_ | refine zg ?_ _)); refine blk_far ?_ NB177_183.out _; (with_reducible repeat (first | refine zf ?_ _ | refine zi ?_ | refine zg ?_ _)); refine blk_far ?_ NB177_183.out _; (with_reducible repeat (first | refine zf ?_ _ | refine zi ?_ | refine zg ?_ _)); refine blk_far ?_ NB177_183.out _; (with_reducible repeat (first | refine zf ?_ _ | refine zi ?_ | refine zg ?_ _)); refine blk_far ?_ NB177_183.out _; (with_reducible repeat (first | refine zf ?_ _ | refine zi ?_ | refine zg ?_ _)); refine blk_far ?_ NB177_183.out _; (with_reducible repeat (first | refine zf ?_ _ | refine zi ?_ | refine zg ?_ _)); exact BK177.out⟩, ⟨by (with_reducible repeat (first | refine zf ?_ _ | refine zi ?_ | refine zg ?_ _)); refine blk_put (cs := #[.int .i64 (l0.length : Int), .int .i64 0, .int .u64 0, .int .i64 t178, .int .i64 t179, .slice none 0 0]) ?_ 5 _ rfl; (with_reducible repeat (first | refine zf ?_ _ | refine zi ?_ | refine zg ?_ _)); refine blk_put (cs := #[.int .i64 (l0.length : Int), .int .i64 0, .int .u64 0, .int .i64 t178, .int .i64 0, .slice none 0 0]) ?_ 4 _ rfl; (with_reducible repeat (first | refine zf ?_ _ | refine zi ?_ | refine zg ?_ _)); refine blk_put (cs := #[.int .i64 (l0.length : Int), .int .i64 0, .int .u64 0, .int .i64 0, .int .i64 0, .slice none 0 0]) ?_ 3 _ rfl; (with_reducible repeat (first | refine zf ?_ _ | refine zi ?_ | refine zg ?_ _)); refine blk_put (cs := #[.int .i64 (l0.length : Int), .int .i64 0, .int .u64 0, .int .i64 0, .int .i64 0, .slice none 0 0]) ?_ 2 _ rfl; (with_reducible repeat (first | refine zf ?_ _ | refine zi ?_ | refine zg ?_ _)); refine blk_put (cs := #[.int .i64 (l0.length : Int), .int .i64 0, .int .u64 0, .int .i64 0, .int .i64 0, .slice none 0 0]) ?_ 1 _ rfl; (with_reducible repeat (first | refine zf ?_ _ | refine zi ?_ | refine zg ?_ _)); refine blk_put (cs := #[.int .i64 0, .int .i64 0, .int .u64 0, .int .i64 0, .int .i64 0, .slice none 0 0]) ?_ 0 _ rfl; (with_reducible repeat (first | refine zf ?_ _ | refine zi ?_ | refine zg ?_ _)); exact BK183.out⟩, ⟨zv7 HB.out⟩⟩
  case round =>
   clear H'
   try clear c1
   try clear c2
   try clear c2b0
   try clear c2b1
   try clear c2b2
   try clear p2
   try clear c4
   try clear c6
   try clear c14
   try clear y15_0
   try clear y15_1
   try clear y15_2
   try clear y15_3
   try clear y15_4
   try clear y15_5
   try clear y4_0
   try clear y4_1
   try clear y4_2
   try clear y4_3
   try clear y4_4
   try clear y4_5
   try clear u15_0
   try clear u15_1
   try clear u15_2
   try clear u15_3
   try clear u15_4
   try clear u15_5
   try clear u4_0
   try clear u4_1
   try clear u4_2
   try clear u4_3
   try clear u4_4
   try clear u4_5
   obtain ⟨x21_1, x184001_1, x184002_1, rfl, HA, HK1, HO_184005, BK177, BK183, HB⟩ := hrel
   cases gk with
   | zero => exact absurd HA.out (by simp [impl_aggOf.l0])
   | succ k1 =>
    have H := HA.out
    clear HA
    simp only [impl_aggOf.l0] at H
    by_cases c16 : x21_1 < (l0.length : Int)
    ·rw [if_pos c16] at H
     have c16b0 : decide (x21_1 < (l0.length : Int)) = true := decide_eq_true c16
     clear c16
     by_cases c17 : 0 ≤ x21_1
     ·rw [if_pos c17] at H
      have c17b0 : decide (0 ≤ x21_1) = true := decide_eq_true c17
      clear c17
      by_cases c18 : x21_1 < (l0.length : Int)
      ·rw [if_pos c18] at H
       have c18b0 : decide (x21_1 < (l0.length : Int)) = true := decide_eq_true c18
       clear c18
       replace H := zs4 H
       obtain ⟨⟨t185, t186⟩, A190, H⟩ := H
       replace H : ((impl_WideAdd.f x184001_1 x184002_1 t185 t186).bind fun bt187 => (impl_aggOf.l0 k1 l0 (l0.length : Int) (wrap64 (x21_1 + 1)) (l0.length : Int) bt187.1 bt187.2 t178 t179 t180)) = some (r1, r2, r3, r4, r5, r6) := H
       have A19 := zp.mk A190
       clear A190
       replace H := zs4 H
       obtain ⟨⟨t187, t188⟩, A200, H⟩ := H
       replace H : (impl_aggOf.l0 k1 l0 (l0.length : Int) (wrap64 (x21_1 + 1)) (l0.length : Int) t187 t188 t178 t179 t180) = some (r1, r2, r3, r4, r5, r6) := H
       have A20 := zp.mk A200
       clear A200
       have H' := zp.mk H
       clear H
       have p184 : 0 ≤ (x21_1 : Int) := of_decide_eq_true (by first | (with_reducible assumption) | assumption)
       have q184 : x21_1 < (l0.length : Int) := of_decide_eq_true (by first | (with_reducible assumption) | assumption)
       obtain ⟨ad184, e184, hx184_0⟩ := Kd.at_int HR0.out x21_1 p184 q184
       cases e184
       replace hx184_0 := (HB.out.cell (World.block_lt_of_cell? w _ hx184_0)).trans hx184_0
       replace p184 := eq_true p184
       replace q184 := eq_true q184
       try go_wp2
       replace HO_184005 := zp.mk (Kd.R_drew HO_184005.out)
       replace BK177 := zp.mk (zi BK177.out)
       replace BK183 := zp.mk (zi BK183.out)
       replace HB := zp.mk (zb HB.out)
       refine start_ (n := 7) (S := fun w' => w'.cell? ⟨gb183, 0, none⟩ = some (.int .i64 (l0.length : Int)) ∧ w'.cell? ⟨gb183, 1, none⟩ = some (.int .i64 x184001_1) ∧ w'.cell? ⟨gb183, 2, none⟩ = some (.int .u64 x184002_1) ∧ w'.cell? ⟨gb183, 3, none⟩ = some (.int .i64 t178) ∧ w'.cell? ⟨gb183, 4, none⟩ = some (.int .i64 t179) ∧ w'.cell? ⟨gb183, 5, none⟩ = some (.slice Ao12 t180.length co12)) (ds := [6]) #[false, false, false, false, false, false, false] (by kernel_rfl) rfl rfl ⟨(ze BK183.out 0).trans rfl, (ze BK183.out 1).trans rfl, (ze BK183.out 2).trans rfl, (ze BK183.out 3).trans rfl, (ze BK183.out 4).trans rfl, (ze BK183.out 5).trans rfl⟩ (fun hHeld => ?_)
       generalize wr.drew = w21 at HO_184005 BK177 BK183 HB hHeld ⊢
       refine pure_ (i := 0) (N := some 25) (v := ?_) (a' := ?_) #[true, false, false, false, false, false, false] rfl rfl (by kernel_rfl) (fun _ _ _ h => h) (Or.inl ⟨by rfl, ?_⟩) ?_ ?_
       rotate_left
       ·intro w'
        go_simp
        with_reducible rfl
       rotate_left
       ·simp only [Act.put, zs1, zs2, zs3, i64_w, i32_w]
        rfl
       refine pure_ (i := 2) (N := some 27) (v := ?_) (a' := ?_) #[true, false, true, false, false, false, false] rfl rfl (by kernel_rfl) (fun _ _ _ h => h) (Or.inl ⟨by rfl, ?_⟩) ?_ ?_
       rotate_left
       ·intro w'
        go_simp
        with_reducible rfl
       rotate_left
       ·simp only [Act.put, zs1, zs2, zs3, i64_w, i32_w]
        rfl
       refine take_ (i := 1) (N := some 26) (v := ?_) (a' := ?_) #[true, true, true, false, false, false, false] rfl rfl (by kernel_rfl) (fun _ _ _ h => h) (Or.inl ⟨by rfl, ?_⟩) hHeld ?_ ?_
       rotate_left
       ·rintro w' ⟨s0, s1, s2, s3, s4, s5⟩
        go_simp
        with_reducible rfl
       rotate_left
       ·simp only [Act.put, zs1, zs2, zs3, i64_w, i32_w]
        rfl
       refine one_ (i := 3) (N := some 28) #[true, true, true, true, false, false, false] rfl rfl (by kernel_rfl) (by decide) (fun K hK => ?_)
       refine goes_ Try.func49 (by kernel_rfl) rfl #[.int .i64 (rd l0 x21_1)] (by rfl) rfl rfl (by (try simp only [List.map_toArray, List.map_cons, List.map_nil]); first | done | rfl | (simp only [List.length_drop, List.length_take]; rfl)) ?_
       with_reducible refine (impl_WideOf.calls (rd l0 x21_1) t185 t186 _ A19.out).mono ?_
       rintro e w22 ⟨rfl, hb⟩
       refine ⟨_, rfl, ?_⟩
       replace HO_184005 := zp.mk (Kd.R_below (by (with_reducible repeat (first | apply Kd.R_alloc | apply Kd.R_drewN | apply Kd.R_drew)); exact HO_184005.out) hb)
       replace BK177 := zp.mk (zl (zv8 BK177.out) hb)
       replace BK183 := zp.mk (zl (zv8 BK183.out) hb)
       replace HB := zp.mk (zj (zv7 HB.out) hb)
       (try clear hb)
       (try clear hb2)
       (try clear hk)
       (try clear hi)
       refine hK.out _ _ ⟨(ze BK183.out 0).trans rfl, (ze BK183.out 1).trans rfl, (ze BK183.out 2).trans rfl, (ze BK183.out 3).trans rfl, (ze BK183.out 4).trans rfl, (ze BK183.out 5).trans rfl⟩ (fun hHeld => ?_)
       clear hK K
       refine norm_ (a' := ?_) ?_ ?_
       rotate_left
       ·show Act.put _ (some 28) _ = _
        simp only [Act.put, zs1, zs2, zs3, i64_w, i32_w]
        rfl
       refine one_ (i := 4) (N := some 29) #[true, true, true, true, true, false, false] rfl rfl (by kernel_rfl) (by decide) (fun K hK => ?_)
       refine goes_ Try.func47 (by kernel_rfl) rfl #[.agg #[.int .i64 x184001_1, .int .u64 x184002_1], .agg #[.int .i64 t185, .int .u64 t186]] (by rfl) rfl rfl (by (try simp only [List.map_toArray, List.map_cons, List.map_nil]); first | done | rfl | (simp only [List.length_drop, List.length_take]; rfl)) ?_
       with_reducible refine (impl_WideAdd.calls x184001_1 x184002_1 t185 t186 t187 t188 _ A20.out).mono ?_
       rintro e w23 ⟨rfl, hb⟩
       refine ⟨_, rfl, ?_⟩
       replace HO_184005 := zp.mk (Kd.R_below (by (with_reducible repeat (first | apply Kd.R_alloc | apply Kd.R_drewN | apply Kd.R_drew)); exact HO_184005.out) hb)
       replace BK177 := zp.mk (zl (zv8 BK177.out) hb)
       replace BK183 := zp.mk (zl (zv8 BK183.out) hb)
       replace HB := zp.mk (zj (zv7 HB.out) hb)
       (try clear hb)
       (try clear hb2)
       (try clear hk)
       (try clear hi)
       refine hK.out _ _ ⟨(ze BK183.out 0).trans rfl, (ze BK183.out 1).trans rfl, (ze BK183.out 2).trans rfl, (ze BK183.out 3).trans rfl, (ze BK183.out 4).trans rfl, (ze BK183.out 5).trans rfl⟩ (fun hHeld => ?_)
       clear hK K
       refine norm_ (a' := ?_) ?_ ?_
       rotate_left
       ·show Act.put _ (some 29) _ = _
        simp only [Act.put, zs1, zs2, zs3, i64_w, i32_w]
        rfl
       refine pure_ (i := 5) (N := some 30) (v := ?_) (a' := ?_) #[true, true, true, true, true, true, false] rfl rfl (by kernel_rfl) (fun _ _ _ h => h) (Or.inl ⟨by rfl, ?_⟩) ?_ ?_
       rotate_left
       ·intro w'
        go_simp
        with_reducible rfl
       rotate_left
       ·simp only [Act.put, zs1, zs2, zs3, i64_w, i32_w]
        rfl
       refine last_ (i := 6) (N := none) #[true, true, true, true, true, true, true] rfl rfl (by kernel_rfl) (by decide) (fun K hK => ?_)
       have hs24 : w23.cell? ⟨gb183, 1, none⟩ = some (.int .i64 x184001_1) := (ze BK183.out 1).trans rfl
       have hfs24 := zd BK183.out 1
       have hns24_0 := NB177_183.out
       have hms24_0 := NB183_177.out
       have hs25 : w23.cell? ⟨gb183, 2, none⟩ = some (.int .u64 x184002_1) := (ze BK183.out 2).trans rfl
       have hfs25 := zd BK183.out 2
       have hns25_0 := NB177_183.out
       have hms25_0 := NB183_177.out
       refine skip_ (w1 := ?_) (by rfl) rfl ?_ ?_
       rotate_left
       ·go_simp
        rfl
       refine hK.out _ _ ?_
       clear hK K
       refine done_ (by kernel_rfl) ?_
       try go_wp2
       go_roundg k1
       case measure => have := HK1.out; omega
       case rel => exact ⟨(wrap64 (x21_1 + 1)), (t187), (t188), (by first | rfl | (simp; done) | (simp [*]; done)), H', ⟨by have := HK1.out; omega⟩, ⟨by (with_reducible repeat (first | apply Kd.R_alloc | apply Kd.R_drewN | apply Kd.R_drew)); exact Kd.R_mono (Kd.R_far (p := ⟨gb183, 2, none⟩) (Kd.R_far (p := ⟨gb183, 1, none⟩) (Kd.R_types HO_184005.out BK183.out (by decide)) (fun _ hk => hk.2) (.int .i64 t187)) (fun _ hk => hk.2) (.int .u64 t188)) (fun _ hk => trivial)⟩, ⟨by (with_reducible repeat (first | refine zf ?_ _ | refine zi ?_ | refine zg ?_ _)); refine blk_far ?_ NB177_183.out _; (with_reducible repeat (first | refine zf ?_ _ | refine zi ?_ | refine zg ?_ _)); refine blk_far ?_ NB177_183.out _; (with_reducible repeat (first | refine zf ?_ _ | refine zi ?_ | refine zg ?_ _)); exact BK177.out⟩, ⟨by (with_reducible repeat (first | refine zf ?_ _ | refine zi ?_ | refine zg ?_ _)); refine blk_put (cs := #[.int .i64 (l0.length : Int), .int .i64 t187, .int .u64 x184002_1, .int .i64 t178, .int .i64 t179, .slice Ao12 t180.length co12]) ?_ 2 _ rfl; (with_reducible repeat (first | refine zf ?_ _ | refine zi ?_ | refine zg ?_ _)); refine blk_put (cs := #[.int .i64 (l0.length : Int), .int .i64 x184001_1, .int .u64 x184002_1, .int .i64 t178, .int .i64 t179, .slice Ao12 t180.length co12]) ?_ 1 _ rfl; (with_reducible repeat (first | refine zf ?_ _ | refine zi ?_ | refine zg ?_ _)); exact BK183.out⟩, ⟨zv7 HB.out⟩⟩
      ·rw [if_neg c18] at H
       exact absurd H (by simp)
     ·rw [if_neg c17] at H
      exact absurd H (by simp)
    ·rw [if_neg c16] at H
     have c16b0 : decide (x21_1 < (l0.length : Int)) = false := decide_eq_false c16
     clear c16
     simp only [Option.some.injEq, Prod.mk.injEq] at H
     obtain ⟨rfl, rfl, rfl, rfl, rfl, rfl⟩ := H
     have hnb26 := NB183_177.out
     have hnc26 := NB177_183.out
     have y27_0 := zt0 BK183.out
     have y27_1 := zt1 BK183.out
     have y27_2 := zt2 BK183.out
     have y27_3 := zt3 BK183.out
     have y27_4 := zt4 BK183.out
     have y27_5 := zt5 BK183.out
     have u27_0 := zd BK183.out 0
     have u27_1 := zd BK183.out 1
     have u27_2 := zd BK183.out 2
     have u27_3 := zd BK183.out 3
     have u27_4 := zd BK183.out 4
     have u27_5 := zd BK183.out 5
     have y28_0 := zt0 BK177.out
     have y28_1 := zt1 BK177.out
     have y28_2 := zt2 BK177.out
     have y28_3 := zt3 BK177.out
     have y28_4 := zt4 BK177.out
     have y28_5 := zt5 BK177.out
     have u28_0 := zd BK177.out 0
     have u28_1 := zd BK177.out 1
     have u28_2 := zd BK177.out 2
     have u28_3 := zd BK177.out 3
     have u28_4 := zd BK177.out 4
     have u28_5 := zd BK177.out 5
     go_wp2
     refine bodyPost_ret (results_cell_row rfl _ _ gb177 32 #[.int .i64 (l0.length : Int), .int .i64 x184001_1, .int .u64 x184002_1, .int .i64 t178, .int .i64 t179, .slice Ao12 t180.length co12] (0, 0) _ rfl (by (with_reducible repeat (first | refine zf ?_ _ | refine zi ?_ | refine zg ?_ _)); refine blk_put (cs := #[.int .i64 (l0.length : Int), .int .i64 x184001_1, .int .u64 x184002_1, .int .i64 t178, .int .i64 t179, .slice none 0 0]) ?_ 5 _ rfl; (with_reducible repeat (first | refine zf ?_ _ | refine zi ?_ | refine zg ?_ _)); refine blk_put (cs := #[.int .i64 (l0.length : Int), .int .i64 x184001_1, .int .u64 x184002_1, .int .i64 t178, .int .i64 0, .slice none 0 0]) ?_ 4 _ rfl; (with_reducible repeat (first | refine zf ?_ _ | refine zi ?_ | refine zg ?_ _)); refine blk_put (cs := #[.int .i64 (l0.length : Int), .int .i64 x184001_1, .int .u64 x184002_1, .int .i64 0, .int .i64 0, .slice none 0 0]) ?_ 3 _ rfl; (with_reducible repeat (first | refine zf ?_ _ | refine zi ?_ | refine zg ?_ _)); refine blk_put (cs := #[.int .i64 (l0.length : Int), .int .i64 x184001_1, .int .u64 0, .int .i64 0, .int .i64 0, .slice none 0 0]) ?_ 2 _ rfl; (with_reducible repeat (first | refine zf ?_ _ | refine zi ?_ | refine zg ?_ _)); refine blk_put (cs := #[.int .i64 (l0.length : Int), .int .i64 0, .int .u64 0, .int .i64 0, .int .i64 0, .slice none 0 0]) ?_ 1 _ rfl; (with_reducible repeat (first | refine zf ?_ _ | refine zi ?_ | refine zg ?_ _)); refine blk_put (cs := #[.int .i64 0, .int .i64 0, .int .u64 0, .int .i64 0, .int .i64 0, .slice none 0 0]) ?_ 0 _ rfl; (with_reducible repeat (first | refine zf ?_ _ | refine zi ?_ | refine zg ?_ _)); exact BK177.out) Try.underlying32 rfl (by kernel_rfl)) rfl ?_
     exact ⟨_, by first | rfl | (simp [errW_none, errW_some] <;> rfl) | (simp [*, errW_none, errW_some] <;> rfl), by (with_reducible repeat (first | apply Kd.R_alloc | apply Kd.R_drewN | apply Kd.R_drew)); exact Kd.R_mono (Kd.R_far (p := ⟨gb177, 5, none⟩) (Kd.R_far (p := ⟨gb177, 4, none⟩) (Kd.R_far (p := ⟨gb177, 3, none⟩) (Kd.R_far (p := ⟨gb177, 2, none⟩) (Kd.R_far (p := ⟨gb177, 1, none⟩) (Kd.R_far (p := ⟨gb177, 0, none⟩) (Kd.R_types HO_184005.out BK177.out (by decide)) (fun _ hk => hk.2) (.int .i64 (l0.length : Int))) (fun _ hk => hk.2) (.int .i64 x184001_1)) (fun _ hk => hk.2) (.int .u64 x184002_1)) (fun _ hk => hk.2) (.int .i64 t178)) (fun _ hk => hk.2) (.int .i64 t179)) (fun _ hk => hk.2) (.slice Ao12 t180.length co12)) (fun _ hk => trivial), zv7 HB.out⟩

/-! ### impl_AggOf: function 23 -/
def impl_AggOf.f (k : Nat) (l0 : List Int) : Option (Int × Int × Int × Int × Int × List Int) := if (l0.length : Int) > 1000000 then (some (0, 0, 0, 0, 0, ([] : List Int))) else ((impl_aggOf.f k l0).bind fun bt190 => (some (bt190.1, bt190.2.1, bt190.2.2.1, bt190.2.2.2.1, bt190.2.2.2.2.1, bt190.2.2.2.2.2)))
set_option maxHeartbeats 8000000 in
set_option maxRecDepth 100000 in
theorem impl_AggOf.calls (k : Nat) (A0 : Option Addr) (c0 : Nat) (l0 : List Int) (r1 : Int) (r2 : Int) (r3 : Int) (r4 : Int) (r5 : Int) (r6 : List Int) (w : World) (hr0 : Kd.C (Kd.int .i64) w A0 l0.length l0) (hc0 : l0.length ≤ c0) (h : impl_AggOf.f k l0 = some (r1, r2, r3, r4, r5, r6)) :
  Calls Try.prog 23 #[.slice A0 l0.length c0] w fun e w' => ∃ v5_ : Value, e = .returned (.agg #[.int .i64 r1, .int .i64 r2, .int .u64 r3, .int .i64 r4, .int .i64 r5, v5_]) ∧ Kd.R (Kd.int .i64) 3 w' w.heap.size (fun _ => True) v5_ r6 ∧ Below w.heap.size w w' := by
 have hu32 := Try.underlying32
 have HR0 := zp.mk hr0
 have HC0 := zp.mk hc0
 clear hr0 hc0
 have HB := zp.mk (Below.refl w.heap.size w)
 have H : (if (l0.length : Int) > 1000000 then (some (0, 0, 0, 0, 0, ([] : List Int))) else ((impl_aggOf.f k l0).bind fun bt190 => (some (bt190.1, bt190.2.1, bt190.2.2.1, bt190.2.2.2.1, bt190.2.2.2.2.1, bt190.2.2.2.2.2)))) = some (r1, r2, r3, r4, r5, r6) := h
 clear h
 by_cases c2 : (l0.length : Int) > 1000000
 ·rw [if_pos c2] at H
  have c2b0 : decide (1000000 < (l0.length : Int)) = true := decide_eq_true c2
  have c2b1 : decide (1000000 < l0.length) = true := decide_eq_true (by omega)
  clear c2
  simp only [Option.some.injEq, Prod.mk.injEq] at H
  obtain ⟨rfl, rfl, rfl, rfl, rfl, rfl⟩ := H
  go_enter Try.func23, Try.ntmps23
  go_wp2_with (first | ((with_reducible refine zo (N := 2) rfl ?_); refine zm ?hg (N := 2) ?hd (cs := #[.int .i64 0, .int .i64 0, .int .u64 0, .int .i64 0, .int .i64 0, .slice none 0 0]) (t := 32) ?hr ?_; (case hd => rfl); (case hg => rfl); (case hr => first | (go_simp; done) | (go_simp; rfl)); intro gb189 hg w3 hbox hb; have BK189 := zp.mk (hbox); have GW189 := zp.mk ((zv3 (zv6 HB.out) hg)); have GE189 := zp.mk ((zv3 (zv6 HB.out) hg)); replace HB := zp.mk (zj (zv6 HB.out) hb); clear hb hbox hg; have y4_0 := zt0 BK189.out; have y4_1 := zt1 BK189.out; have y4_2 := zt2 BK189.out; have y4_3 := zt3 BK189.out; have y4_4 := zt4 BK189.out; have y4_5 := zt5 BK189.out; have u4_0 := zd BK189.out 0; have u4_1 := zd BK189.out 1; have u4_2 := zd BK189.out 2; have u4_3 := zd BK189.out 3; have u4_4 := zd BK189.out 4; have u4_5 := zd BK189.out 5))
  refine bodyPost_ret (results_cell_row rfl _ _ gb189 32 #[.int .i64 0, .int .i64 0, .int .u64 0, .int .i64 0, .int .i64 0, .slice none 0 0] (0, 0) _ rfl (by (with_reducible repeat (first | refine zf ?_ _ | refine zi ?_ | refine zg ?_ _)); refine blk_put (cs := #[.int .i64 0, .int .i64 0, .int .u64 0, .int .i64 0, .int .i64 0, .slice none 0 0]) ?_ 5 _ rfl; (with_reducible repeat (first | refine zf ?_ _ | refine zi ?_ | refine zg ?_ _)); refine blk_put (cs := #[.int .i64 0, .int .i64 0, .int .u64 0, .int .i64 0, .int .i64 0, .slice none 0 0]) ?_ 4 _ rfl; (with_reducible repeat (first | refine zf ?_ _ | refine zi ?_ | refine zg ?_ _)); refine blk_put (cs := #[.int .i64 0, .int .i64 0, .int .u64 0, .int .i64 0, .int .i64 0, .slice none 0 0]) ?_ 3 _ rfl; (with_reducible repeat (first | refine zf ?_ _ | refine zi ?_ | refine zg ?_ _)); refine blk_put (cs := #[.int .i64 0, .int .i64 0, .int .u64 0, .int .i64 0, .int .i64 0, .slice none 0 0]) ?_ 2 _ rfl; (with_reducible repeat (first | refine zf ?_ _ | refine zi ?_ | refine zg ?_ _)); refine blk_put (cs := #[.int .i64 0, .int .i64 0, .int .u64 0, .int .i64 0, .int .i64 0, .slice none 0 0]) ?_ 1 _ rfl; (with_reducible repeat (first | refine zf ?_ _ | refine zi ?_ | refine zg ?_ _)); refine blk_put (cs := #[.int .i64 0, .int .i64 0, .int .u64 0, .int .i64 0, .int .i64 0, .slice none 0 0]) ?_ 0 _ rfl; (with_reducible repeat (first | refine zf ?_ _ | refine zi ?_ | refine zg ?_ _)); exact BK189.out) Try.underlying32 rfl (by kernel_rfl)) rfl ?_
  exact ⟨_, by first | rfl | (simp [errW_none, errW_some] <;> rfl) | (simp [*, errW_none, errW_some] <;> rfl), by first | exact Kd.R_nil _ _ _ _ _ | exact Kd.N_nil _ _ _ _ _ | exact Kd.V_nil _ _ _ _ _ | exact Kd.Q_nil _ _ _ _ _ | exact Kd.S_nil _ _ _ _ _, zv7 HB.out⟩
 ·rw [if_neg c2] at H
  have c2b0 : decide (1000000 < (l0.length : Int)) = false := decide_eq_false c2
  have c2b1 : decide (1000000 < l0.length) = false := decide_eq_false (by omega)
  clear c2
  replace H := zs4 H
  obtain ⟨⟨t190, t191, t192, t193, t194, t195⟩, A50, H⟩ := H
  replace H : (some (t190, t191, t192, t193, t194, t195)) = some (r1, r2, r3, r4, r5, r6) := H
  have A5 := zp.mk A50
  clear A50
  simp only [Option.some.injEq, Prod.mk.injEq] at H
  obtain ⟨rfl, rfl, rfl, rfl, rfl, rfl⟩ := H
  go_enter Try.func23, Try.ntmps23
  go_wp2_with (first | ((with_reducible refine zo (N := 2) rfl ?_); refine zm ?hg (N := 2) ?hd (cs := #[.int .i64 0, .int .i64 0, .int .u64 0, .int .i64 0, .int .i64 0, .slice none 0 0]) (t := 32) ?hr ?_; (case hd => rfl); (case hg => rfl); (case hr => first | (go_simp; done) | (go_simp; rfl)); intro gb189 hg w6 hbox hb; have BK189 := zp.mk (hbox); have GW189 := zp.mk ((zv3 (zv6 HB.out) hg)); have GE189 := zp.mk ((zv3 (zv6 HB.out) hg)); replace HB := zp.mk (zj (zv6 HB.out) hb); clear hb hbox hg) | ((with_reducible refine zn (f := 43) rfl ?_); refine goesL_ (some 8) rfl rfl Try.func43 (by kernel_rfl) rfl #[.slice A0 l0.length c0] rfl (by (try simp only [List.map_toArray, List.map_cons, List.map_nil]); first | done | rfl | (simp only [List.length_drop, List.length_take]; rfl)) ?_; (with_reducible refine (impl_aggOf.calls k _ _ l0 t190 t191 t192 t193 t194 t195 _ ?side1 ?side2 A5.out).mono ?_); (case side1 => repeat (first | exact (Kd.zt HR0.out HB.out) | (with_reducible refine Kd.zr ?_ _) | (with_reducible refine Kd.zq ?_ _) | (with_reducible refine Kd.C_drew ?_))); (case side2 => exact HC0.out); rintro e w7 ⟨v196, rfl, ho0, hb⟩; refine ⟨_, rfl, ?_⟩; have HO197 := zp.mk (Kd.R_lower ho0 (zk (zv7 HB.out))); replace BK189 := zp.mk (zl (zv8 BK189.out) hb); replace HB := zp.mk (zj (zv7 HB.out) hb); (try clear hb); (try clear hb2); (try clear hk); (try clear hi); (try clear ho0); have y8_0 := zt0 BK189.out; have y8_1 := zt1 BK189.out; have y8_2 := zt2 BK189.out; have y8_3 := zt3 BK189.out; have y8_4 := zt4 BK189.out; have y8_5 := zt5 BK189.out; have u8_0 := zd BK189.out 0; have u8_1 := zd BK189.out 1; have u8_2 := zd BK189.out 2; have u8_3 := zd BK189.out 3; have u8_4 := zd BK189.out 4; have u8_5 := zd BK189.out 5; obtain ⟨Ao9, co9, eo9⟩ := Kd.R_slice HO197.out; subst eo9))
  refine bodyPost_ret (results_cell_row rfl _ _ gb189 32 #[.int .i64 t190, .int .i64 t191, .int .u64 t192, .int .i64 t193, .int .i64 t194, .slice Ao9 t195.length co9] (0, 0) _ rfl (by (with_reducible repeat (first | refine zf ?_ _ | refine zi ?_ | refine zg ?_ _)); refine blk_put (cs := #[.int .i64 t190, .int .i64 t191, .int .u64 t192, .int .i64 t193, .int .i64 t194, .slice none 0 0]) ?_ 5 _ rfl; (with_reducible repeat (first | refine zf ?_ _ | refine zi ?_ | refine zg ?_ _)); refine blk_put (cs := #[.int .i64 t190, .int .i64 t191, .int .u64 t192, .int .i64 t193, .int .i64 0, .slice none 0 0]) ?_ 4 _ rfl; (with_reducible repeat (first | refine zf ?_ _ | refine zi ?_ | refine zg ?_ _)); refine blk_put (cs := #[.int .i64 t190, .int .i64 t191, .int .u64 t192, .int .i64 0, .int .i64 0, .slice none 0 0]) ?_ 3 _ rfl; (with_reducible repeat (first | refine zf ?_ _ | refine zi ?_ | refine zg ?_ _)); refine blk_put (cs := #[.int .i64 t190, .int .i64 t191, .int .u64 0, .int .i64 0, .int .i64 0, .slice none 0 0]) ?_ 2 _ rfl; (with_reducible repeat (first | refine zf ?_ _ | refine zi ?_ | refine zg ?_ _)); refine blk_put (cs := #[.int .i64 t190, .int .i64 0, .int .u64 0, .int .i64 0, .int .i64 0, .slice none 0 0]) ?_ 1 _ rfl; (with_reducible repeat (first | refine zf ?_ _ | refine zi ?_ | refine zg ?_ _)); refine blk_put (cs := #[.int .i64 0, .int .i64 0, .int .u64 0, .int .i64 0, .int .i64 0, .slice none 0 0]) ?_ 0 _ rfl; (with_reducible repeat (first | refine zf ?_ _ | refine zi ?_ | refine zg ?_ _)); exact BK189.out) Try.underlying32 rfl (by kernel_rfl)) rfl ?_
  exact ⟨_, by first | rfl | (simp [errW_none, errW_some] <;> rfl) | (simp [*, errW_none, errW_some] <;> rfl), by (with_reducible repeat (first | apply Kd.R_alloc | apply Kd.R_drewN | apply Kd.R_drew)); exact Kd.R_mono (Kd.R_far (p := ⟨gb189, 5, none⟩) (Kd.R_far (p := ⟨gb189, 4, none⟩) (Kd.R_far (p := ⟨gb189, 3, none⟩) (Kd.R_far (p := ⟨gb189, 2, none⟩) (Kd.R_far (p := ⟨gb189, 1, none⟩) (Kd.R_far (p := ⟨gb189, 0, none⟩) (Kd.R_types HO197.out BK189.out (by decide)) (fun _ hk => hk.2) (.int .i64 t190)) (fun _ hk => hk.2) (.int .i64 t191)) (fun _ hk => hk.2) (.int .u64 t192)) (fun _ hk => hk.2) (.int .i64 t193)) (fun _ hk => hk.2) (.int .i64 t194)) (fun _ hk => hk.2) (.slice Ao9 t195.length co9)) (fun _ hk => trivial), zv7 HB.out⟩

/-! ### laws_heldIntS: function 18 -/
def laws_heldIntS.l0 : Nat → List Int → Int → Int → Option (Int)
 | 0, _, _, _ => none
 | k + 1, x0, x1, x5 => if x5 < (x0.length : Int) then (if 0 ≤ x5 then (if (rd x0 x5) = x1 then (laws_heldIntS.l0 k x0 (wrap64 (x1 + 1)) (wrap64 (x5 + 1))) else (some (-1))) else (none)) else (some x1)
def laws_heldIntS.f (k : Nat) (l0 : List Int) (a1 : Int) : Option (Int) := laws_heldIntS.l0 k l0 a1 0
set_option maxHeartbeats 8000000 in
set_option maxRecDepth 100000 in
theorem laws_heldIntS.calls (k : Nat) (A0 : Option Addr) (c0 : Nat) (l0 : List Int) (a1 : Int) (r : Int) (w : World) (hr0 : Kd.C (Kd.int .i64) w A0 l0.length l0) (hc0 : l0.length ≤ c0) (h : laws_heldIntS.f k l0 a1 = some r) :
  Calls Try.prog 18 #[.slice A0 l0.length c0, .int .i64 a1] w fun e w' => e = .returned (.int .i64 r) ∧ Drawn0 w w' := by
 have HR0 := zp.mk hr0
 have HC0 := zp.mk hc0
 clear hr0 hc0
 have H : (laws_heldIntS.l0 k l0 a1 0) = some r := h
 clear h
 have H' := zp.mk H
 clear H
 go_enter Try.func18, Try.ntmps18
 go_wp2
 go_loopg [1, 5] k (fun kq v1 v5 w' => ∃ (x1_1 : Int) (x5_1 : Int), v1 = .int .i64 x1_1 ∧ v5 = .int .i64 x5_1 ∧ zp (laws_heldIntS.l0 kq l0 x1_1 x5_1 = some r) ∧ zp (kq ≤ k) ∧ Drawn0 w w')
 case atStart => exact ⟨(a1), (0), (by first | rfl | (simp; done) | (simp [*]; done)), (by first | rfl | (simp; done) | (simp [*]; done)), H', ⟨Nat.le_refl _⟩, by repeat (first | exact Drawn0.refl _ | apply Drawn0.step)⟩
 case round =>
  clear H'
  try clear c1
  try clear p2
  obtain ⟨x1_1, x5_1, rfl, rfl, HA, HK1, ⟨m1, rfl⟩⟩ := hrel
  cases gk with
  | zero => exact absurd HA.out (by simp [laws_heldIntS.l0])
  | succ k1 =>
   have H := HA.out
   clear HA
   simp only [laws_heldIntS.l0] at H
   by_cases c3 : x5_1 < (l0.length : Int)
   ·rw [if_pos c3] at H
    have c3b0 : decide (x5_1 < (l0.length : Int)) = true := decide_eq_true c3
    clear c3
    by_cases c4 : 0 ≤ x5_1
    ·rw [if_pos c4] at H
     have c4b0 : decide (0 ≤ x5_1) = true := decide_eq_true c4
     clear c4
     by_cases c5 : (rd l0 x5_1) = x1_1
     ·rw [if_pos c5] at H
      have c5b0 : ((rd l0 x5_1) == x1_1) = true := beq_iff_eq.mpr c5
      have c5b1 : ((rd l0 x5_1) != x1_1) = false := bne_eq_false_iff_eq.mpr c5
      clear c5
      have H' := zp.mk H
      clear H
      have p198 : 0 ≤ (x5_1 : Int) := of_decide_eq_true (by first | (with_reducible assumption) | assumption)
      have q198 : x5_1 < (l0.length : Int) := of_decide_eq_true (by first | (with_reducible assumption) | assumption)
      obtain ⟨ad198, e198, hx198_0⟩ := Kd.at_int HR0.out x5_1 p198 q198
      cases e198
      replace p198 := eq_true p198
      replace q198 := eq_true q198
      go_wp2
      go_roundg k1
      case measure => have := HK1.out; omega
      case rel => exact ⟨(wrap64 (x1_1 + 1)), (wrap64 (x5_1 + 1)), (by first | rfl | (simp; done) | (simp [*]; done)), (by first | rfl | (simp; done) | (simp [*]; done)), H', ⟨by have := HK1.out; omega⟩, by repeat (first | exact Drawn0.refl _ | apply Drawn0.step)⟩
     ·rw [if_neg c5] at H
      have c5b0 : ((rd l0 x5_1) == x1_1) = false := beq_eq_false_iff_ne.mpr c5
      have c5b1 : ((rd l0 x5_1) != x1_1) = true := bne_iff_ne.mpr c5
      obtain rfl := Option.some.inj H
      have p198 : 0 ≤ (x5_1 : Int) := of_decide_eq_true (by first | (with_reducible assumption) | assumption)
      have q198 : x5_1 < (l0.length : Int) := of_decide_eq_true (by first | (with_reducible assumption) | assumption)
      obtain ⟨ad198, e198, hx198_0⟩ := Kd.at_int HR0.out x5_1 p198 q198
      cases e198
      replace p198 := eq_true p198
      replace q198 := eq_true q198
      go_wp2
      go_ret
      exact ⟨by first | rfl | (simp; done) | (simp [*]; done), by repeat (first | exact Drawn0.refl _ | apply Drawn0.step)⟩
    ·rw [if_neg c4] at H
     exact absurd H (by simp)
   ·rw [if_neg c3] at H
    have c3b0 : decide (x5_1 < (l0.length : Int)) = false := decide_eq_false c3
    clear c3
    obtain rfl := Option.some.inj H
    go_wp2
    go_ret
    exact ⟨by first | rfl | (simp; done) | (simp [*]; done), by repeat (first | exact Drawn0.refl _ | apply Drawn0.step)⟩

end Go.Proofs.Ytnnahpmnkpmopaa.QFnExactAggOf
