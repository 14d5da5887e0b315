/- Proved: the row of the law FnExactAggJoin: for every input it returns true and each argument reads as before. No condition. -/
import Derived.Test.YtnnahpmnkpmopaaRows
import Derived.Test.YtnnahpmnkpmopaaZAggJoinQFnExactAggJoinx11
import Derived.Test.YtnnahpmnkpmopaaZAggJoinPureFnExactAggJoin
import Derived.Test.YtnnahpmnkpmopaaZAggJoinOpn
import Derived.WalkKit
import Derived.ProofKit
import Derived.OpenShut
import Derived.ShutString
import Derived.ChangeOld
import Derived.Below
import Derived.SizedLaws
import Derived.Deep.Slices
namespace Go.Proofs.Ytnnahpmnkpmopaa.fnExactAggJoin
open Go.ChangeShapes Go.WideShapes Go.ChangeAt Go.RowKit
open Go.ChangeMaps (open_string shut_string)
open Go.Proofs.Ytnnahpmnkpmopaa.QFnExactAggJoin Go.Proofs.YtnnahpmnkpmopaaW.PrintWords Go.Proofs.Ytnnahpmnkpmopaa.Opn
set_option linter.unusedVariables false
set_option linter.unusedSimpArgs false
theorem own : ownKnob Try.prog.godebug = none := by kernel_rfl
theorem laidOut : laidOutB Try.prog = true := by kernel_rfl
theorem opn3 {H : Type} {enc : TypeId × Value → H} {W : World} {sp : Nat → Bool} {held : Bool} {fuel : Nat} {cs : List Value} {y : DataW H × List MemPlace} (h : DataW.trod enc Try.prog W 0 sp held fuel 3 cs = some y) : ∃ (a0 : Int), cs = [.int .i64 a0] ∧ (-9223372036854775808 ≤ a0 ∧ a0 ≤ 9223372036854775807) := by
 obtain ⟨n, rfl, _, hw⟩ := DataW.trod_int Try.underlying3 h
 exact ⟨n, rfl, bnd_i64 hw⟩
theorem cells3 : Try.prog.cellsOf 3 = 1 := by kernel_rfl
theorem opn22 {H : Type} {enc : TypeId × Value → H} {W : World} {sp : Nat → Bool} {held : Bool} {fuel : Nat} {cs : List Value} {y : DataW H × List MemPlace} (h : DataW.trod enc Try.prog W 0 sp held fuel 22 cs = some y) : ∃ (a0 : Int), cs = [.int .u64 a0] ∧ (0 ≤ a0 ∧ a0 ≤ 18446744073709551615) := by
 obtain ⟨n, rfl, _, hw⟩ := DataW.trod_int Try.underlying22 h
 exact ⟨n, rfl, bnd_u64 hw⟩
theorem cells22 : Try.prog.cellsOf 22 = 1 := by kernel_rfl
theorem cells24 : Try.prog.cellsOf 24 = 2 := by kernel_rfl
theorem opn24 {H : Type} {enc : TypeId × Value → H} {W : World} {sp : Nat → Bool} {held : Bool} {fuel : Nat} {cs : List Value} {y : DataW H × List MemPlace} (h : DataW.trod enc Try.prog W 0 sp held fuel 24 cs = some y) :
  ∃ (a0 : Int) (a1 : Int), cs = [.int .i64 a0, .int .u64 a1] ∧ (-9223372036854775808 ≤ a0 ∧ a0 ≤ 9223372036854775807) ∧ (0 ≤ a1 ∧ a1 ≤ 18446744073709551615) := by
 obtain ⟨xs, n, _, _, hl, hlen, hf⟩ := DataW.trod_struct Try.underlying24 h
 have hl' : cs.length = 2 := hl.trans cells24
 obtain ⟨c0', c1', rfl⟩ := list2 hl'
 have t0 := hf 0 { name := "Hi", type := 3, offset := 0, embedded := false, tag := "", pkgPath := "", byteOffset := 0 } rfl
 simp only [cells3, List.drop_zero, List.drop_succ_cons, List.take_succ_cons, List.take_zero] at t0
 rw [List.getElem?_eq_getElem (by rw [hlen]; decide)] at t0
 obtain ⟨a0, e0, g0_0⟩ := opn3 t0
 simp only [List.cons.injEq, and_true] at e0
 subst e0
 have t1 := hf 1 { name := "Lo", type := 22, offset := 1, embedded := false, tag := "", pkgPath := "", byteOffset := 8 } rfl
 simp only [cells22, List.drop_zero, List.drop_succ_cons, List.take_succ_cons, List.take_zero] at t1
 rw [List.getElem?_eq_getElem (by rw [hlen]; decide)] at t1
 obtain ⟨a1, e1, g1_0⟩ := opn22 t1
 simp only [List.cons.injEq, and_true] at e1
 subst e1
 exact ⟨a0, a1, rfl, g0_0, g1_0⟩
theorem opn25 {H : Type} {enc : TypeId × Value → H} {W : World} {sp : Nat → Bool} {held : Bool} {fuel : Nat} {cs : List Value} {y : DataW H × List MemPlace} (h : DataW.trod enc Try.prog W 0 sp held fuel 25 cs = some y) : ∃ (A0 : Option Addr) (c0 : Nat) (l0 : List (Int)), cs = [.slice A0 l0.length c0] ∧ l0.length ≤ c0 ∧ Kd.C (Kd.int .i64) W A0 l0.length l0 ∧ (∀ x ∈ l0, -9223372036854775808 ≤ x ∧ x ≤ 9223372036854775807) :=
 slice_opn (d := (Kd.int .i64)) (good := fun x => -9223372036854775808 ≤ x ∧ x ≤ 9223372036854775807) Try.underlying25 (cells3.trans rfl) (fun m c z hz => by
  obtain ⟨a0, rfl, g0⟩ := opn3 hz
  exact ⟨a0, rfl, g0⟩) h
theorem cells25 : Try.prog.cellsOf 25 = 1 := by kernel_rfl
theorem cells27 : Try.prog.cellsOf 27 = 6 := by kernel_rfl
theorem opn27 {H : Type} {enc : TypeId × Value → H} {W : World} {sp : Nat → Bool} {held : Bool} {fuel : Nat} {cs : List Value} {y : DataW H × List MemPlace} (h : DataW.trod enc Try.prog W 0 sp held fuel 27 cs = some y) :
  ∃ (a0 : Int) (a1 : Int) (a2 : Int) (a3 : Int) (a4 : Int) (A5 : Option Addr) (c5 : Nat) (l5 : List (Int)), cs = [.int .i64 a0, .int .i64 a1, .int .u64 a2, .int .i64 a3, .int .i64 a4, .slice A5 l5.length c5] ∧ (-9223372036854775808 ≤ a0 ∧ a0 ≤ 9223372036854775807) ∧ (-9223372036854775808 ≤ a1 ∧ a1 ≤ 9223372036854775807) ∧ (0 ≤ a2 ∧ a2 ≤ 18446744073709551615) ∧ (-9223372036854775808 ≤ a3 ∧ a3 ≤ 9223372036854775807) ∧ (-9223372036854775808 ≤ a4 ∧ a4 ≤ 9223372036854775807) ∧ l5.length ≤ c5 ∧ Kd.C (Kd.int .i64) W A5 l5.length l5 ∧ (∀ x ∈ l5, -9223372036854775808 ≤ x ∧ x ≤ 9223372036854775807) := by
 obtain ⟨xs, n, _, _, hl, hlen, hf⟩ := DataW.trod_struct Try.underlying27 h
 have hl' : cs.length = 6 := hl.trans cells27
 obtain ⟨c0', c1', c2', c3', c4', c5', rfl⟩ := list6 hl'
 have t0 := hf 0 { name := "N", type := 3, offset := 0, embedded := false, tag := "", pkgPath := "", byteOffset := 0 } rfl
 simp only [cells3, List.drop_zero, List.drop_succ_cons, List.take_succ_cons, List.take_zero] at t0
 rw [List.getElem?_eq_getElem (by rw [hlen]; decide)] at t0
 obtain ⟨a0, e0, g0_0⟩ := opn3 t0
 simp only [List.cons.injEq, and_true] at e0
 subst e0
 have t1 := hf 1 { name := "Sum", type := 24, offset := 1, embedded := false, tag := "", pkgPath := "", byteOffset := 8 } rfl
 simp only [cells24, List.drop_zero, List.drop_succ_cons, List.take_succ_cons, List.take_zero] at t1
 rw [List.getElem?_eq_getElem (by rw [hlen]; decide)] at t1
 obtain ⟨a1, a2, e1, g1_0, g2_0⟩ := opn24 t1
 simp only [List.cons.injEq, and_true] at e1
 obtain ⟨rfl, rfl⟩ := e1
 have t2 := hf 2 { name := "Min", type := 3, offset := 3, embedded := false, tag := "", pkgPath := "", byteOffset := 24 } rfl
 simp only [cells3, List.drop_zero, List.drop_succ_cons, List.take_succ_cons, List.take_zero] at t2
 rw [List.getElem?_eq_getElem (by rw [hlen]; decide)] at t2
 obtain ⟨a3, e2, g3_0⟩ := opn3 t2
 simp only [List.cons.injEq, and_true] at e2
 subst e2
 have t3 := hf 3 { name := "Max", type := 3, offset := 4, embedded := false, tag := "", pkgPath := "", byteOffset := 32 } rfl
 simp only [cells3, List.drop_zero, List.drop_succ_cons, List.take_succ_cons, List.take_zero] at t3
 rw [List.getElem?_eq_getElem (by rw [hlen]; decide)] at t3
 obtain ⟨a4, e3, g4_0⟩ := opn3 t3
 simp only [List.cons.injEq, and_true] at e3
 subst e3
 have t4 := hf 4 { name := "Top", type := 25, offset := 5, embedded := false, tag := "", pkgPath := "", byteOffset := 40 } rfl
 simp only [cells25, List.drop_zero, List.drop_succ_cons, List.take_succ_cons, List.take_zero] at t4
 rw [List.getElem?_eq_getElem (by rw [hlen]; decide)] at t4
 obtain ⟨A5, c5, l5, e4, g5_0, g5_1, g5_2⟩ := opn25 t4
 simp only [List.cons.injEq, and_true] at e4
 subst e4
 exact ⟨a0, a1, a2, a3, a4, A5, c5, l5, rfl, g0_0, g1_0, g2_0, g3_0, g4_0, g5_0, g5_1, g5_2⟩
set_option maxRecDepth 100000 in
theorem lifted (os : Os) (started : os.Started) (H : Type) (enc : TypeId × Value → H) :
  ReturnsInHanded {} Try.checked os 7 .any (Rows.fnExactAggJoinSpec.pre6 enc Try.prog Try.f7 Rows.fnExactAggJoinRow.domain false) (Rows.fnExactAggJoinSpec.post enc Try.prog Try.f7 false true false false) := by
 refine returnsInHanded_of_change_sized (C := Try.checked) own started (by kernel_rfl) Try.func7
  (ChangeSpec.witness6 (enc := enc) (C := Try.checked) false ⟨#[], #[.agg #[.int .i64 0, .int .i64 0, .int .u64 0, .int .i64 0, .int .i64 0, .slice none 0 0], .agg #[.int .i64 0, .int .i64 0, .int .u64 0, .int .i64 0, .int .i64 0, .slice none 0 0]], []⟩ 8 (by kernel_rfl) (by kernel_rfl) (by kernel_rfl) (by kernel_rfl)) ?_
 intro W base args ds gs before hval0 hW hcnd hsz0 _
 have hval : ∀ (j : Nat) t v, Try.f7.params[j]? = some t → args[j]? = some v → Value.okWide Try.prog W .any base t v := hval0
 have hW' := hW
 obtain ⟨p, q, hA0, hV, rfl, hfz, hnd⟩ := hW
 have hA : DataW.TrodAll enc Try.prog W 0 (fun _ => true) true Try.f7.params.toList args.toList ds p := hA0
 rw [Try.params7] at hA hval
 obtain ⟨v0, vs0, d0, ds0, p0, q0, hargs, rfl, rfl, h0, r0⟩ := trodAll_cons hA
 obtain ⟨v1, vs1, d1, ds1, p1, q1, rfl, rfl, rfl, h1, r1⟩ := trodAll_cons r0
 obtain ⟨rfl, rfl, rfl⟩ := trodAll_nil r1
 obtain rfl : args = #[v0, v1] := by cases args; simp_all
 obtain ⟨rfl, rfl⟩ := trodVars_none hV
 obtain ⟨cs0, rfl, _⟩ := okWide_struct Try.underlying27 (hval 0 27 v0 rfl rfl)
 have k0 := h0
 have lt0 : ∀ x ∈ p0, x.block < W.heap.size := by obtain ⟨m, hm⟩ := k0; exact DataW.trod_lt m _ _ _ hm
 obtain ⟨a0_0, a0_1, a0_2, a0_3, a0_4, A0_5, c0_5, l0_5, he0, g0_0_0, g0_1_0, g0_2_0, g0_3_0, g0_4_0, g0_5_0, g0_5_1, g0_5_2⟩ : ∃ (a0_0 : Int) (a0_1 : Int) (a0_2 : Int) (a0_3 : Int) (a0_4 : Int) (A0_5 : Option Addr) (c0_5 : Nat) (l0_5 : List (Int)), cs0 = #[.int .i64 a0_0, .int .i64 a0_1, .int .u64 a0_2, .int .i64 a0_3, .int .i64 a0_4, .slice A0_5 l0_5.length c0_5] ∧ (-9223372036854775808 ≤ a0_0 ∧ a0_0 ≤ 9223372036854775807) ∧ (-9223372036854775808 ≤ a0_1 ∧ a0_1 ≤ 9223372036854775807) ∧ (0 ≤ a0_2 ∧ a0_2 ≤ 18446744073709551615) ∧ (-9223372036854775808 ≤ a0_3 ∧ a0_3 ≤ 9223372036854775807) ∧ (-9223372036854775808 ≤ a0_4 ∧ a0_4 ≤ 9223372036854775807) ∧ l0_5.length ≤ c0_5 ∧ Kd.C (Kd.int .i64) W A0_5 l0_5.length l0_5 ∧ (∀ x ∈ l0_5, -9223372036854775808 ≤ x ∧ x ≤ 9223372036854775807) := by
  obtain ⟨fuel, hf⟩ := h0
  obtain ⟨a0_0, a0_1, a0_2, a0_3, a0_4, A0_5, c0_5, l0_5, e, g0_0_0, g0_1_0, g0_2_0, g0_3_0, g0_4_0, g0_5_0, g0_5_1, g0_5_2⟩ := opn27 hf
  exact ⟨a0_0, a0_1, a0_2, a0_3, a0_4, A0_5, c0_5, l0_5, by rw [← Array.toArray_toList (xs := cs0)]; exact congrArg List.toArray e, g0_0_0, g0_1_0, g0_2_0, g0_3_0, g0_4_0, g0_5_0, g0_5_1, g0_5_2⟩
 subst he0
 obtain ⟨cs1, rfl, _⟩ := okWide_struct Try.underlying27 (hval 1 27 v1 rfl rfl)
 have k1 := h1
 have lt1 : ∀ x ∈ p1, x.block < W.heap.size := by obtain ⟨m, hm⟩ := k1; exact DataW.trod_lt m _ _ _ hm
 obtain ⟨a1_0, a1_1, a1_2, a1_3, a1_4, A1_5, c1_5, l1_5, he1, g1_0_0, g1_1_0, g1_2_0, g1_3_0, g1_4_0, g1_5_0, g1_5_1, g1_5_2⟩ : ∃ (a1_0 : Int) (a1_1 : Int) (a1_2 : Int) (a1_3 : Int) (a1_4 : Int) (A1_5 : Option Addr) (c1_5 : Nat) (l1_5 : List (Int)), cs1 = #[.int .i64 a1_0, .int .i64 a1_1, .int .u64 a1_2, .int .i64 a1_3, .int .i64 a1_4, .slice A1_5 l1_5.length c1_5] ∧ (-9223372036854775808 ≤ a1_0 ∧ a1_0 ≤ 9223372036854775807) ∧ (-9223372036854775808 ≤ a1_1 ∧ a1_1 ≤ 9223372036854775807) ∧ (0 ≤ a1_2 ∧ a1_2 ≤ 18446744073709551615) ∧ (-9223372036854775808 ≤ a1_3 ∧ a1_3 ≤ 9223372036854775807) ∧ (-9223372036854775808 ≤ a1_4 ∧ a1_4 ≤ 9223372036854775807) ∧ l1_5.length ≤ c1_5 ∧ Kd.C (Kd.int .i64) W A1_5 l1_5.length l1_5 ∧ (∀ x ∈ l1_5, -9223372036854775808 ≤ x ∧ x ≤ 9223372036854775807) := by
  obtain ⟨fuel, hf⟩ := h1
  obtain ⟨a1_0, a1_1, a1_2, a1_3, a1_4, A1_5, c1_5, l1_5, e, g1_0_0, g1_1_0, g1_2_0, g1_3_0, g1_4_0, g1_5_0, g1_5_1, g1_5_2⟩ := opn27 hf
  exact ⟨a1_0, a1_1, a1_2, a1_3, a1_4, A1_5, c1_5, l1_5, by rw [← Array.toArray_toList (xs := cs1)]; exact congrArg List.toArray e, g1_0_0, g1_1_0, g1_2_0, g1_3_0, g1_4_0, g1_5_0, g1_5_1, g1_5_2⟩
 subst he1
 clear hA0 hval0 hsz0 hval
 obtain ⟨k, hk⟩ := Pure.FnExactAggJoin a0_0 a0_1 a0_2 a0_3 a0_4 l0_5 a1_0 a1_1 a1_2 a1_3 a1_4 l1_5 g0_0_0 g0_1_0 g0_2_0 g0_3_0 g0_4_0 g0_5_1.2.1 g0_5_2 g1_0_0 g1_1_0 g1_2_0 g1_3_0 g1_4_0 g1_5_1.2.1 g1_5_2
 refine (laws_FnExactAggJoin.calls k a0_0 a0_1 a0_2 a0_3 a0_4 A0_5 c0_5 l0_5 a1_0 a1_1 a1_2 a1_3 a1_4 A1_5 c1_5 l1_5 true W g0_5_1 g0_5_0 g1_5_1 g1_5_0 rfl hk).mono fun e W' ⟨he, bel0⟩ => ?_
 have bel : Below W.heap.size W W' := bel0
 subst he
 exact ⟨_, rfl, _, _, _, [], _, [], hW', trodAll_mk1 (shut_bool Try.underlying4 _), (trodAll_cons_mk (Below.trod laidOut (by kernel_rfl) (of_decide_eq_true (by kernel_rfl)) k0 bel lt0) (trodAll_cons_mk (Below.trod laidOut (by kernel_rfl) (of_decide_eq_true (by kernel_rfl)) k1 bel lt1) trodAll_mk0)), rfl, bel.frame _, fun h => by cases h⟩
theorem over : Rows.fnExactAggJoinRow.holds Try.pinned (OpenSpec.ofChange Rows.fnExactAggJoinSpec) :=
 OpenClaim.holds_of_wide 7 Try.f7 rfl rfl rfl rfl rfl rfl rfl ⟨rfl, rfl, rfl, rfl, rfl⟩ rfl rfl rfl rfl rfl (by kernel_rfl) Try.func7 (by kernel_rfl)
  (of_decide_eq_true (by kernel_rfl)) (by unfold Func.isWrapper; first | (rw [if_pos (by decide +kernel)]; kernel_rfl) | (rw [if_neg (by decide +kernel)]; exact ⟨rfl, rfl⟩))
  (fun os started H enc _ => lifted os started H enc)
theorem proved : Rows.FnExactAggJoinSaid := over
#print axioms proved
end Go.Proofs.Ytnnahpmnkpmopaa.fnExactAggJoin
namespace Go.Proofs.Ytnnahpmnkpmopaa
/-- The row, under a short name, for the claim. -/
theorem fnExactAggJoin_holds : Rows.FnExactAggJoinSaid := fnExactAggJoin.proved
end Go.Proofs.Ytnnahpmnkpmopaa
