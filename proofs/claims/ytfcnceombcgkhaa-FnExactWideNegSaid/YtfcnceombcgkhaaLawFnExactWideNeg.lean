/- Proved: the row of the law FnExactWideNeg: for every input it returns true and each argument reads as before. No condition. -/
import Derived.Test.YtfcnceombcgkhaaRows
import Derived.Test.YtfcnceombcgkhaaQFnExactWideNegx1
import Derived.Test.YtfcnceombcgkhaaPureFnExactWideNeg
import Derived.Test.YtfcnceombcgkhaaOpn
import Derived.WalkKit
import Derived.ProofKit
import Derived.OpenShut
import Derived.ShutString
import Derived.ChangeOld
import Derived.Below
import Derived.SizedLaws
import Derived.Deep.Slices
namespace Go.Proofs.Ytfcnceombcgkhaa.fnExactWideNeg
open Go.ChangeShapes Go.WideShapes Go.ChangeAt Go.RowKit
open Go.ChangeMaps (open_string shut_string)
open Go.Proofs.Ytfcnceombcgkhaa.QFnExactWideNeg Go.Proofs.YtfcnceombcgkhaaW.PrintWords Go.Proofs.Ytfcnceombcgkhaa.Opn
set_option linter.unusedVariables false
set_option linter.unusedSimpArgs false
theorem own : ownKnob Try.prog.godebug = none := by kernel_rfl
theorem laidOut : laidOutB Try.prog = true := by kernel_rfl
theorem opn3 {H : Type} {enc : TypeId × Value → H} {W : World} {sp : Nat → Bool} {held : Bool} {fuel : Nat} {cs : List Value} {y : DataW H × List MemPlace} (h : DataW.trod enc Try.prog W 0 sp held fuel 3 cs = some y) : ∃ (a0 : Int), cs = [.int .i64 a0] ∧ (-9223372036854775808 ≤ a0 ∧ a0 ≤ 9223372036854775807) := by
  obtain ⟨n, rfl, _, hw⟩ := DataW.trod_int Try.underlying3 h
  exact ⟨n, rfl, bnd_i64 hw⟩
theorem cells3 : Try.prog.cellsOf 3 = 1 := by kernel_rfl
theorem opn23 {H : Type} {enc : TypeId × Value → H} {W : World} {sp : Nat → Bool} {held : Bool} {fuel : Nat} {cs : List Value} {y : DataW H × List MemPlace} (h : DataW.trod enc Try.prog W 0 sp held fuel 23 cs = some y) : ∃ (a0 : Int), cs = [.int .u64 a0] ∧ (0 ≤ a0 ∧ a0 ≤ 18446744073709551615) := by
  obtain ⟨n, rfl, _, hw⟩ := DataW.trod_int Try.underlying23 h
  exact ⟨n, rfl, bnd_u64 hw⟩
theorem cells23 : Try.prog.cellsOf 23 = 1 := by kernel_rfl
theorem cells30 : Try.prog.cellsOf 30 = 2 := by kernel_rfl
theorem opn30 {H : Type} {enc : TypeId × Value → H} {W : World} {sp : Nat → Bool} {held : Bool} {fuel : Nat} {cs : List Value} {y : DataW H × List MemPlace} (h : DataW.trod enc Try.prog W 0 sp held fuel 30 cs = some y) :
    ∃ (a0 : Int) (a1 : Int), cs = [.int .i64 a0, .int .u64 a1] ∧ (-9223372036854775808 ≤ a0 ∧ a0 ≤ 9223372036854775807) ∧ (0 ≤ a1 ∧ a1 ≤ 18446744073709551615) := by
  obtain ⟨xs, n, _, _, hl, hlen, hf⟩ := DataW.trod_struct Try.underlying30 h
  have hl' : cs.length = 2 := hl.trans cells30
  obtain ⟨c0', c1', rfl⟩ := list2 hl'
  have t0 := hf 0 { name := "Hi", type := 3, offset := 0, embedded := false, tag := "", pkgPath := "", byteOffset := 0 } rfl
  simp only [cells3, List.drop_zero, List.drop_succ_cons, List.take_succ_cons, List.take_zero] at t0
  rw [List.getElem?_eq_getElem (by rw [hlen]; decide)] at t0
  obtain ⟨a0, e0, g0_0⟩ := opn3 t0
  simp only [List.cons.injEq, and_true] at e0
  subst e0
  have t1 := hf 1 { name := "Lo", type := 23, offset := 1, embedded := false, tag := "", pkgPath := "", byteOffset := 8 } rfl
  simp only [cells23, List.drop_zero, List.drop_succ_cons, List.take_succ_cons, List.take_zero] at t1
  rw [List.getElem?_eq_getElem (by rw [hlen]; decide)] at t1
  obtain ⟨a1, e1, g1_0⟩ := opn23 t1
  simp only [List.cons.injEq, and_true] at e1
  subst e1
  exact ⟨a0, a1, rfl, g0_0, g1_0⟩
set_option maxRecDepth 100000 in
theorem lifted (os : Os) (started : os.Started) (H : Type) (enc : TypeId × Value → H) :
    ReturnsInHanded {} Try.checked os 10 .any (Rows.fnExactWideNegSpec.pre6 enc Try.prog Try.f10 Rows.fnExactWideNegRow.domain false) (Rows.fnExactWideNegSpec.post enc Try.prog Try.f10 false true false false) := by
  refine returnsInHanded_of_change_sized (C := Try.checked) own started (by kernel_rfl) Try.func10
    (ChangeSpec.witness6 (enc := enc) (C := Try.checked) false ⟨#[], #[.agg #[.int .i64 0, .int .u64 0]], []⟩ 8 (by kernel_rfl) (by kernel_rfl) (by kernel_rfl) (by kernel_rfl)) ?_
  intro W base args ds gs before hval0 hW hcnd hsz0 _
  have hval : ∀ (j : Nat) t v, Try.f10.params[j]? = some t → args[j]? = some v → Value.okWide Try.prog W .any base t v := hval0
  have hW' := hW
  obtain ⟨p, q, hA0, hV, rfl, hfz, hnd⟩ := hW
  have hA : DataW.TrodAll enc Try.prog W 0 (fun _ => true) true Try.f10.params.toList args.toList ds p := hA0
  rw [Try.params10] at hA hval
  obtain ⟨v0, vs0, d0, ds0, p0, q0, hargs, rfl, rfl, h0, r0⟩ := trodAll_cons hA
  obtain ⟨rfl, rfl, rfl⟩ := trodAll_nil r0
  obtain rfl : args = #[v0] := by cases args; simp_all
  obtain ⟨rfl, rfl⟩ := trodVars_none hV
  obtain ⟨cs0, rfl, _⟩ := okWide_struct Try.underlying30 (hval 0 30 v0 rfl rfl)
  have k0 := h0
  have lt0 : ∀ x ∈ p0, x.block < W.heap.size := by obtain ⟨m, hm⟩ := k0; exact DataW.trod_lt m _ _ _ hm
  obtain ⟨a0_0, a0_1, he0, g0_0_0, g0_1_0⟩ : ∃ (a0_0 : Int) (a0_1 : Int), cs0 = #[.int .i64 a0_0, .int .u64 a0_1] ∧ (-9223372036854775808 ≤ a0_0 ∧ a0_0 ≤ 9223372036854775807) ∧ (0 ≤ a0_1 ∧ a0_1 ≤ 18446744073709551615) := by
    obtain ⟨fuel, hf⟩ := h0
    obtain ⟨a0_0, a0_1, e, g0_0_0, g0_1_0⟩ := opn30 hf
    exact ⟨a0_0, a0_1, by rw [← Array.toArray_toList (xs := cs0)]; exact congrArg List.toArray e, g0_0_0, g0_1_0⟩
  subst he0
  clear hA0 hval0 hsz0 hval
  have hk := Pure.FnExactWideNeg a0_0 a0_1 g0_0_0 g0_1_0
  refine (laws_FnExactWideNeg.calls a0_0 a0_1 true W  rfl hk).mono fun e W' ⟨he, bel0⟩ => ?_
  have bel : Below W.heap.size W W' := bel0
  subst he
  exact ⟨_, rfl, _, _, _, [], _, [], hW', trodAll_mk1 (shut_bool Try.underlying4 _), (trodAll_cons_mk (Below.trod laidOut (by kernel_rfl) (of_decide_eq_true (by kernel_rfl)) k0 bel lt0) trodAll_mk0), rfl, bel.frame _, fun h => by cases h⟩
theorem over : Rows.fnExactWideNegRow.holds Try.pinned (OpenSpec.ofChange Rows.fnExactWideNegSpec) :=
  OpenClaim.holds_of_wide 10 Try.f10 rfl rfl rfl rfl rfl rfl rfl ⟨rfl, rfl, rfl, rfl, rfl⟩ rfl rfl rfl rfl rfl (by kernel_rfl) Try.func10 (by kernel_rfl)
    (of_decide_eq_true (by kernel_rfl)) (by unfold Func.isWrapper; first | (rw [if_pos (by decide +kernel)]; kernel_rfl) | (rw [if_neg (by decide +kernel)]; exact ⟨rfl, rfl⟩))
    (fun os started H enc _ => lifted os started H enc)
theorem proved : Rows.FnExactWideNegSaid := over
#print axioms proved
end Go.Proofs.Ytfcnceombcgkhaa.fnExactWideNeg
namespace Go.Proofs.Ytfcnceombcgkhaa
/-- The row, under a short name, for the claim. -/
theorem fnExactWideNeg_holds : Rows.FnExactWideNegSaid := fnExactWideNeg.proved
end Go.Proofs.Ytfcnceombcgkhaa
