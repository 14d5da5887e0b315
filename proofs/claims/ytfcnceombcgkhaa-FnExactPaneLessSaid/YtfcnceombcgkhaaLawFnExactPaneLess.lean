/- Proved: the row of the law FnExactPaneLess: for every input it returns true and each argument reads as before. No condition. -/
import Derived.Test.YtfcnceombcgkhaaRows
import Derived.Test.YtfcnceombcgkhaaQFnExactPaneLessx3
import Derived.Test.YtfcnceombcgkhaaPureFnExactPaneLess
import Derived.Test.YtfcnceombcgkhaaOpn
import Derived.WalkKit
import Derived.ProofKit
import Derived.OpenShut
import Derived.ShutString
import Derived.ChangeOld
import Derived.Below
import Derived.SizedLaws
import Derived.Deep.Slices
namespace Go.Proofs.Ytfcnceombcgkhaa.fnExactPaneLess
open Go.ChangeShapes Go.WideShapes Go.ChangeAt Go.RowKit
open Go.ChangeMaps (open_string shut_string)
open Go.Proofs.Ytfcnceombcgkhaa.QFnExactPaneLess Go.Proofs.YtfcnceombcgkhaaW.PrintWords Go.Proofs.Ytfcnceombcgkhaa.Opn
set_option linter.unusedVariables false
set_option linter.unusedSimpArgs false
theorem own : ownKnob Try.prog.godebug = none := by kernel_rfl
theorem laidOut : laidOutB Try.prog = true := by kernel_rfl
theorem opn3 {H : Type} {enc : TypeId × Value → H} {W : World} {sp : Nat → Bool} {held : Bool} {fuel : Nat} {cs : List Value} {y : DataW H × List MemPlace} (h : DataW.trod enc Try.prog W 0 sp held fuel 3 cs = some y) : ∃ (a0 : Int), cs = [.int .i64 a0] ∧ (-9223372036854775808 ≤ a0 ∧ a0 ≤ 9223372036854775807) := by
  obtain ⟨n, rfl, _, hw⟩ := DataW.trod_int Try.underlying3 h
  exact ⟨n, rfl, bnd_i64 hw⟩
theorem cells3 : Try.prog.cellsOf 3 = 1 := by kernel_rfl
theorem opn64 {H : Type} {enc : TypeId × Value → H} {W : World} {sp : Nat → Bool} {held : Bool} {fuel : Nat} {cs : List Value} {y : DataW H × List MemPlace} (h : DataW.trod enc Try.prog W 0 sp held fuel 64 cs = some y) : ∃ (A0 : Option Addr) (c0 : Nat) (l0 : List (Int)), cs = [.slice A0 l0.length c0] ∧ l0.length ≤ c0 ∧ Kd.C (Kd.int .i64) W A0 l0.length l0 ∧ (∀ x ∈ l0, -9223372036854775808 ≤ x ∧ x ≤ 9223372036854775807) :=
  slice_opn (d := (Kd.int .i64)) (good := fun x => -9223372036854775808 ≤ x ∧ x ≤ 9223372036854775807) Try.underlying64 (cells3.trans rfl) (fun m c z hz => by
    obtain ⟨a0, rfl, g0⟩ := opn3 hz
    exact ⟨a0, rfl, g0⟩) h
theorem cells64 : Try.prog.cellsOf 64 = 1 := by kernel_rfl
theorem opn4 {H : Type} {enc : TypeId × Value → H} {W : World} {sp : Nat → Bool} {held : Bool} {fuel : Nat} {cs : List Value} {y : DataW H × List MemPlace} (h : DataW.trod enc Try.prog W 0 sp held fuel 4 cs = some y) : ∃ (a0 : Bool), cs = [.bool a0] := by
  obtain ⟨n, rfl, _⟩ := DataW.trod_bool Try.underlying4 h
  exact ⟨n, rfl⟩
theorem cells4 : Try.prog.cellsOf 4 = 1 := by kernel_rfl
theorem cells66 : Try.prog.cellsOf 66 = 8 := by kernel_rfl
theorem opn66 {H : Type} {enc : TypeId × Value → H} {W : World} {sp : Nat → Bool} {held : Bool} {fuel : Nat} {cs : List Value} {y : DataW H × List MemPlace} (h : DataW.trod enc Try.prog W 0 sp held fuel 66 cs = some y) :
    ∃ (a0 : Int) (a1 : Int) (a2 : Int) (a3 : Int) (a4 : Int) (a5 : Int) (A6 : Option Addr) (c6 : Nat) (l6 : List (Int)) (a7 : Bool), cs = [.int .i64 a0, .int .i64 a1, .int .i64 a2, .int .i64 a3, .int .i64 a4, .int .i64 a5, .slice A6 l6.length c6, .bool a7] ∧ (-9223372036854775808 ≤ a0 ∧ a0 ≤ 9223372036854775807) ∧ (-9223372036854775808 ≤ a1 ∧ a1 ≤ 9223372036854775807) ∧ (-9223372036854775808 ≤ a2 ∧ a2 ≤ 9223372036854775807) ∧ (-9223372036854775808 ≤ a3 ∧ a3 ≤ 9223372036854775807) ∧ (-9223372036854775808 ≤ a4 ∧ a4 ≤ 9223372036854775807) ∧ (-9223372036854775808 ≤ a5 ∧ a5 ≤ 9223372036854775807) ∧ l6.length ≤ c6 ∧ Kd.C (Kd.int .i64) W A6 l6.length l6 ∧ (∀ x ∈ l6, -9223372036854775808 ≤ x ∧ x ≤ 9223372036854775807) := by
  obtain ⟨xs, n, _, _, hl, hlen, hf⟩ := DataW.trod_struct Try.underlying66 h
  have hl' : cs.length = 8 := hl.trans cells66
  obtain ⟨c0', c1', c2', c3', c4', c5', c6', c7', rfl⟩ := list8 hl'
  have t0 := hf 0 { name := "Query", type := 3, offset := 0, embedded := false, tag := "", pkgPath := "", byteOffset := 0 } rfl
  simp only [cells3, List.drop_zero, List.drop_succ_cons, List.take_succ_cons, List.take_zero] at t0
  rw [List.getElem?_eq_getElem (by rw [hlen]; decide)] at t0
  obtain ⟨a0, e0, g0_0⟩ := opn3 t0
  simp only [List.cons.injEq, and_true] at e0
  subst e0
  have t1 := hf 1 { name := "Key", type := 3, offset := 1, embedded := false, tag := "", pkgPath := "", byteOffset := 8 } rfl
  simp only [cells3, List.drop_zero, List.drop_succ_cons, List.take_succ_cons, List.take_zero] at t1
  rw [List.getElem?_eq_getElem (by rw [hlen]; decide)] at t1
  obtain ⟨a1, e1, g1_0⟩ := opn3 t1
  simp only [List.cons.injEq, and_true] at e1
  subst e1
  have t2 := hf 2 { name := "From", type := 3, offset := 2, embedded := false, tag := "", pkgPath := "", byteOffset := 16 } rfl
  simp only [cells3, List.drop_zero, List.drop_succ_cons, List.take_succ_cons, List.take_zero] at t2
  rw [List.getElem?_eq_getElem (by rw [hlen]; decide)] at t2
  obtain ⟨a2, e2, g2_0⟩ := opn3 t2
  simp only [List.cons.injEq, and_true] at e2
  subst e2
  have t3 := hf 3 { name := "To", type := 3, offset := 3, embedded := false, tag := "", pkgPath := "", byteOffset := 24 } rfl
  simp only [cells3, List.drop_zero, List.drop_succ_cons, List.take_succ_cons, List.take_zero] at t3
  rw [List.getElem?_eq_getElem (by rw [hlen]; decide)] at t3
  obtain ⟨a3, e3, g3_0⟩ := opn3 t3
  simp only [List.cons.injEq, and_true] at e3
  subst e3
  have t4 := hf 4 { name := "Label", type := 3, offset := 4, embedded := false, tag := "", pkgPath := "", byteOffset := 32 } rfl
  simp only [cells3, List.drop_zero, List.drop_succ_cons, List.take_succ_cons, List.take_zero] at t4
  rw [List.getElem?_eq_getElem (by rw [hlen]; decide)] at t4
  obtain ⟨a4, e4, g4_0⟩ := opn3 t4
  simp only [List.cons.injEq, and_true] at e4
  subst e4
  have t5 := hf 5 { name := "N", type := 3, offset := 5, embedded := false, tag := "", pkgPath := "", byteOffset := 40 } rfl
  simp only [cells3, List.drop_zero, List.drop_succ_cons, List.take_succ_cons, List.take_zero] at t5
  rw [List.getElem?_eq_getElem (by rw [hlen]; decide)] at t5
  obtain ⟨a5, e5, g5_0⟩ := opn3 t5
  simp only [List.cons.injEq, and_true] at e5
  subst e5
  have t6 := hf 6 { name := "Vals", type := 64, offset := 6, embedded := false, tag := "", pkgPath := "", byteOffset := 48 } rfl
  simp only [cells64, List.drop_zero, List.drop_succ_cons, List.take_succ_cons, List.take_zero] at t6
  rw [List.getElem?_eq_getElem (by rw [hlen]; decide)] at t6
  obtain ⟨A6, c6, l6, e6, g6_0, g6_1, g6_2⟩ := opn64 t6
  simp only [List.cons.injEq, and_true] at e6
  subst e6
  have t7 := hf 7 { name := "Over", type := 4, offset := 7, embedded := false, tag := "", pkgPath := "", byteOffset := 72 } rfl
  simp only [cells4, List.drop_zero, List.drop_succ_cons, List.take_succ_cons, List.take_zero] at t7
  rw [List.getElem?_eq_getElem (by rw [hlen]; decide)] at t7
  obtain ⟨a7, e7⟩ := opn4 t7
  simp only [List.cons.injEq, and_true] at e7
  subst e7
  exact ⟨a0, a1, a2, a3, a4, a5, A6, c6, l6, a7, rfl, g0_0, g1_0, g2_0, g3_0, g4_0, g5_0, g6_0, g6_1, g6_2⟩
set_option maxRecDepth 100000 in
theorem lifted (os : Os) (started : os.Started) (H : Type) (enc : TypeId × Value → H) :
    ReturnsInHanded {} Try.checked os 14 .any (Rows.fnExactPaneLessSpec.pre6 enc Try.prog Try.f14 Rows.fnExactPaneLessRow.domain false) (Rows.fnExactPaneLessSpec.post enc Try.prog Try.f14 false true false false) := by
  refine returnsInHanded_of_change_sized (C := Try.checked) own started (by kernel_rfl) Try.func14
    (ChangeSpec.witness6 (enc := enc) (C := Try.checked) false ⟨#[], #[.agg #[.int .i64 0, .int .i64 0, .int .i64 0, .int .i64 0, .int .i64 0, .int .i64 0, .slice none 0 0, .bool false], .agg #[.int .i64 0, .int .i64 0, .int .i64 0, .int .i64 0, .int .i64 0, .int .i64 0, .slice none 0 0, .bool false]], []⟩ 8 (by kernel_rfl) (by kernel_rfl) (by kernel_rfl) (by kernel_rfl)) ?_
  intro W base args ds gs before hval0 hW hcnd hsz0 _
  have hval : ∀ (j : Nat) t v, Try.f14.params[j]? = some t → args[j]? = some v → Value.okWide Try.prog W .any base t v := hval0
  have hW' := hW
  obtain ⟨p, q, hA0, hV, rfl, hfz, hnd⟩ := hW
  have hA : DataW.TrodAll enc Try.prog W 0 (fun _ => true) true Try.f14.params.toList args.toList ds p := hA0
  rw [Try.params14] at hA hval
  obtain ⟨v0, vs0, d0, ds0, p0, q0, hargs, rfl, rfl, h0, r0⟩ := trodAll_cons hA
  obtain ⟨v1, vs1, d1, ds1, p1, q1, rfl, rfl, rfl, h1, r1⟩ := trodAll_cons r0
  obtain ⟨rfl, rfl, rfl⟩ := trodAll_nil r1
  obtain rfl : args = #[v0, v1] := by cases args; simp_all
  obtain ⟨rfl, rfl⟩ := trodVars_none hV
  obtain ⟨cs0, rfl, _⟩ := okWide_struct Try.underlying66 (hval 0 66 v0 rfl rfl)
  have k0 := h0
  have lt0 : ∀ x ∈ p0, x.block < W.heap.size := by obtain ⟨m, hm⟩ := k0; exact DataW.trod_lt m _ _ _ hm
  obtain ⟨a0_0, a0_1, a0_2, a0_3, a0_4, a0_5, A0_6, c0_6, l0_6, a0_7, he0, g0_0_0, g0_1_0, g0_2_0, g0_3_0, g0_4_0, g0_5_0, g0_6_0, g0_6_1, g0_6_2⟩ : ∃ (a0_0 : Int) (a0_1 : Int) (a0_2 : Int) (a0_3 : Int) (a0_4 : Int) (a0_5 : Int) (A0_6 : Option Addr) (c0_6 : Nat) (l0_6 : List (Int)) (a0_7 : Bool), cs0 = #[.int .i64 a0_0, .int .i64 a0_1, .int .i64 a0_2, .int .i64 a0_3, .int .i64 a0_4, .int .i64 a0_5, .slice A0_6 l0_6.length c0_6, .bool a0_7] ∧ (-9223372036854775808 ≤ a0_0 ∧ a0_0 ≤ 9223372036854775807) ∧ (-9223372036854775808 ≤ a0_1 ∧ a0_1 ≤ 9223372036854775807) ∧ (-9223372036854775808 ≤ a0_2 ∧ a0_2 ≤ 9223372036854775807) ∧ (-9223372036854775808 ≤ a0_3 ∧ a0_3 ≤ 9223372036854775807) ∧ (-9223372036854775808 ≤ a0_4 ∧ a0_4 ≤ 9223372036854775807) ∧ (-9223372036854775808 ≤ a0_5 ∧ a0_5 ≤ 9223372036854775807) ∧ l0_6.length ≤ c0_6 ∧ Kd.C (Kd.int .i64) W A0_6 l0_6.length l0_6 ∧ (∀ x ∈ l0_6, -9223372036854775808 ≤ x ∧ x ≤ 9223372036854775807) := by
    obtain ⟨fuel, hf⟩ := h0
    obtain ⟨a0_0, a0_1, a0_2, a0_3, a0_4, a0_5, A0_6, c0_6, l0_6, a0_7, e, g0_0_0, g0_1_0, g0_2_0, g0_3_0, g0_4_0, g0_5_0, g0_6_0, g0_6_1, g0_6_2⟩ := opn66 hf
    exact ⟨a0_0, a0_1, a0_2, a0_3, a0_4, a0_5, A0_6, c0_6, l0_6, a0_7, by rw [← Array.toArray_toList (xs := cs0)]; exact congrArg List.toArray e, g0_0_0, g0_1_0, g0_2_0, g0_3_0, g0_4_0, g0_5_0, g0_6_0, g0_6_1, g0_6_2⟩
  subst he0
  obtain ⟨cs1, rfl, _⟩ := okWide_struct Try.underlying66 (hval 1 66 v1 rfl rfl)
  have k1 := h1
  have lt1 : ∀ x ∈ p1, x.block < W.heap.size := by obtain ⟨m, hm⟩ := k1; exact DataW.trod_lt m _ _ _ hm
  obtain ⟨a1_0, a1_1, a1_2, a1_3, a1_4, a1_5, A1_6, c1_6, l1_6, a1_7, he1, g1_0_0, g1_1_0, g1_2_0, g1_3_0, g1_4_0, g1_5_0, g1_6_0, g1_6_1, g1_6_2⟩ : ∃ (a1_0 : Int) (a1_1 : Int) (a1_2 : Int) (a1_3 : Int) (a1_4 : Int) (a1_5 : Int) (A1_6 : Option Addr) (c1_6 : Nat) (l1_6 : List (Int)) (a1_7 : Bool), cs1 = #[.int .i64 a1_0, .int .i64 a1_1, .int .i64 a1_2, .int .i64 a1_3, .int .i64 a1_4, .int .i64 a1_5, .slice A1_6 l1_6.length c1_6, .bool a1_7] ∧ (-9223372036854775808 ≤ a1_0 ∧ a1_0 ≤ 9223372036854775807) ∧ (-9223372036854775808 ≤ a1_1 ∧ a1_1 ≤ 9223372036854775807) ∧ (-9223372036854775808 ≤ a1_2 ∧ a1_2 ≤ 9223372036854775807) ∧ (-9223372036854775808 ≤ a1_3 ∧ a1_3 ≤ 9223372036854775807) ∧ (-9223372036854775808 ≤ a1_4 ∧ a1_4 ≤ 9223372036854775807) ∧ (-9223372036854775808 ≤ a1_5 ∧ a1_5 ≤ 9223372036854775807) ∧ l1_6.length ≤ c1_6 ∧ Kd.C (Kd.int .i64) W A1_6 l1_6.length l1_6 ∧ (∀ x ∈ l1_6, -9223372036854775808 ≤ x ∧ x ≤ 9223372036854775807) := by
    obtain ⟨fuel, hf⟩ := h1
    obtain ⟨a1_0, a1_1, a1_2, a1_3, a1_4, a1_5, A1_6, c1_6, l1_6, a1_7, e, g1_0_0, g1_1_0, g1_2_0, g1_3_0, g1_4_0, g1_5_0, g1_6_0, g1_6_1, g1_6_2⟩ := opn66 hf
    exact ⟨a1_0, a1_1, a1_2, a1_3, a1_4, a1_5, A1_6, c1_6, l1_6, a1_7, by rw [← Array.toArray_toList (xs := cs1)]; exact congrArg List.toArray e, g1_0_0, g1_1_0, g1_2_0, g1_3_0, g1_4_0, g1_5_0, g1_6_0, g1_6_1, g1_6_2⟩
  subst he1
  clear hA0 hval0 hsz0 hval
  obtain ⟨k, hk⟩ := Pure.FnExactPaneLess a0_0 a0_1 a0_2 a0_3 a0_4 a0_5 l0_6 a0_7 a1_0 a1_1 a1_2 a1_3 a1_4 a1_5 l1_6 a1_7 g0_0_0 g0_1_0 g0_2_0 g0_3_0 g0_4_0 g0_5_0 g0_6_1.2.1 g0_6_2 g1_0_0 g1_1_0 g1_2_0 g1_3_0 g1_4_0 g1_5_0 g1_6_1.2.1 g1_6_2
  refine (laws_FnExactPaneLess.calls k a0_0 a0_1 a0_2 a0_3 a0_4 a0_5 A0_6 c0_6 l0_6 a0_7 a1_0 a1_1 a1_2 a1_3 a1_4 a1_5 A1_6 c1_6 l1_6 a1_7 true W g0_6_1 g0_6_0 g1_6_1 g1_6_0 rfl hk).mono fun e W' ⟨he, bel0⟩ => ?_
  have bel : Below W.heap.size W W' := bel0
  subst he
  exact ⟨_, rfl, _, _, _, [], _, [], hW', trodAll_mk1 (shut_bool Try.underlying4 _), (trodAll_cons_mk (Below.trod laidOut (by kernel_rfl) (of_decide_eq_true (by kernel_rfl)) k0 bel lt0) (trodAll_cons_mk (Below.trod laidOut (by kernel_rfl) (of_decide_eq_true (by kernel_rfl)) k1 bel lt1) trodAll_mk0)), rfl, bel.frame _, fun h => by cases h⟩
theorem over : Rows.fnExactPaneLessRow.holds Try.pinned (OpenSpec.ofChange Rows.fnExactPaneLessSpec) :=
  OpenClaim.holds_of_wide 14 Try.f14 rfl rfl rfl rfl rfl rfl rfl ⟨rfl, rfl, rfl, rfl, rfl⟩ rfl rfl rfl rfl rfl (by kernel_rfl) Try.func14 (by kernel_rfl)
    (of_decide_eq_true (by kernel_rfl)) (by unfold Func.isWrapper; first | (rw [if_pos (by decide +kernel)]; kernel_rfl) | (rw [if_neg (by decide +kernel)]; exact ⟨rfl, rfl⟩))
    (fun os started H enc _ => lifted os started H enc)
theorem proved : Rows.FnExactPaneLessSaid := over
#print axioms proved
end Go.Proofs.Ytfcnceombcgkhaa.fnExactPaneLess
namespace Go.Proofs.Ytfcnceombcgkhaa
/-- The row, under a short name, for the claim. -/
theorem fnExactPaneLess_holds : Rows.FnExactPaneLessSaid := fnExactPaneLess.proved
end Go.Proofs.Ytfcnceombcgkhaa
