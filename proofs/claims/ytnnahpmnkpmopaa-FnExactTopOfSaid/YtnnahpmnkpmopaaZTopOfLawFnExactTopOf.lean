/- Proved: the row of the law FnExactTopOf: for every input it returns true and each argument reads as before. No condition. -/
import Derived.Test.YtnnahpmnkpmopaaRows
import Derived.Test.YtnnahpmnkpmopaaZTopOfQFnExactTopOfx3
import Derived.Test.YtnnahpmnkpmopaaZTopOfPureFnExactTopOf
import Derived.Test.YtnnahpmnkpmopaaZTopOfOpn
import Derived.WalkKit
import Derived.ProofKit
import Derived.OpenShut
import Derived.ShutString
import Derived.ChangeOld
import Derived.Below
import Derived.SizedLaws
import Derived.Deep.Slices
namespace Go.Proofs.Ytnnahpmnkpmopaa.fnExactTopOf
open Go.ChangeShapes Go.WideShapes Go.ChangeAt Go.RowKit
open Go.ChangeMaps (open_string shut_string)
open Go.Proofs.Ytnnahpmnkpmopaa.QFnExactTopOf Go.Proofs.YtnnahpmnkpmopaaW.PrintWords Go.Proofs.Ytnnahpmnkpmopaa.Opn
set_option linter.unusedVariables false
set_option linter.unusedSimpArgs false
theorem own : ownKnob Try.prog.godebug = none := by kernel_rfl
theorem laidOut : laidOutB Try.prog = true := by kernel_rfl
theorem opn3 {H : Type} {enc : TypeId × Value → H} {W : World} {sp : Nat → Bool} {held : Bool} {fuel : Nat} {cs : List Value} {y : DataW H × List MemPlace} (h : DataW.trod enc Try.prog W 0 sp held fuel 3 cs = some y) : ∃ (a0 : Int), cs = [.int .i64 a0] ∧ (-9223372036854775808 ≤ a0 ∧ a0 ≤ 9223372036854775807) := by
 obtain ⟨n, rfl, _, hw⟩ := DataW.trod_int Try.underlying3 h
 exact ⟨n, rfl, bnd_i64 hw⟩
theorem cells3 : Try.prog.cellsOf 3 = 1 := by kernel_rfl
theorem opn25 {H : Type} {enc : TypeId × Value → H} {W : World} {sp : Nat → Bool} {held : Bool} {fuel : Nat} {cs : List Value} {y : DataW H × List MemPlace} (h : DataW.trod enc Try.prog W 0 sp held fuel 25 cs = some y) : ∃ (A0 : Option Addr) (c0 : Nat) (l0 : List (Int)), cs = [.slice A0 l0.length c0] ∧ l0.length ≤ c0 ∧ Kd.C (Kd.int .i64) W A0 l0.length l0 ∧ (∀ x ∈ l0, -9223372036854775808 ≤ x ∧ x ≤ 9223372036854775807) :=
 slice_opn (d := (Kd.int .i64)) (good := fun x => -9223372036854775808 ≤ x ∧ x ≤ 9223372036854775807) Try.underlying25 (cells3.trans rfl) (fun m c z hz => by
  obtain ⟨a0, rfl, g0⟩ := opn3 hz
  exact ⟨a0, rfl, g0⟩) h
set_option maxRecDepth 100000 in
theorem lifted (os : Os) (started : os.Started) (H : Type) (enc : TypeId × Value → H) :
  ReturnsInHanded {} Try.checked os 5 .any (Rows.fnExactTopOfSpec.pre6 enc Try.prog Try.f5 Rows.fnExactTopOfRow.domain false) (Rows.fnExactTopOfSpec.post enc Try.prog Try.f5 false true false false) := by
 refine returnsInHanded_of_change_sized (C := Try.checked) own started (by kernel_rfl) Try.func5
  (ChangeSpec.witness6 (enc := enc) (C := Try.checked) false ⟨#[], #[.slice none 0 0, .slice none 0 0], []⟩ 8 (by kernel_rfl) (by kernel_rfl) (by kernel_rfl) (by kernel_rfl)) ?_
 intro W base args ds gs before hval0 hW hcnd hsz0 _
 have hval : ∀ (j : Nat) t v, Try.f5.params[j]? = some t → args[j]? = some v → Value.okWide Try.prog W .any base t v := hval0
 have hW' := hW
 obtain ⟨p, q, hA0, hV, rfl, hfz, hnd⟩ := hW
 have hA : DataW.TrodAll enc Try.prog W 0 (fun _ => true) true Try.f5.params.toList args.toList ds p := hA0
 rw [Try.params5] at hA hval
 obtain ⟨v0, vs0, d0, ds0, p0, q0, hargs, rfl, rfl, h0, r0⟩ := trodAll_cons hA
 obtain ⟨v1, vs1, d1, ds1, p1, q1, rfl, rfl, rfl, h1, r1⟩ := trodAll_cons r0
 obtain ⟨rfl, rfl, rfl⟩ := trodAll_nil r1
 obtain rfl : args = #[v0, v1] := by cases args; simp_all
 obtain ⟨rfl, rfl⟩ := trodVars_none hV
 obtain ⟨x0, len0, cap0, rfl⟩ := okWide_slice Try.underlying25 (hval 0 25 v0 rfl rfl)
 have k0 := h0
 have lt0 : ∀ x ∈ p0, x.block < W.heap.size := by obtain ⟨m, hm⟩ := k0; exact DataW.trod_lt m _ _ _ hm
 obtain ⟨A0, c0, l0, he0, g0_0, g0_1, g0_2⟩ : ∃ (A : Option Addr) (c : Nat) (l : List (Int)), Value.slice A l.length c = .slice x0 len0 cap0 ∧ l.length ≤ c ∧ Kd.C (Kd.int .i64) W A l.length l ∧ (∀ x ∈ l, -9223372036854775808 ≤ x ∧ x ≤ 9223372036854775807) := by
  obtain ⟨fuel, hf⟩ := h0
  obtain ⟨A, c, l, e, g⟩ := opn25 hf
  refine ⟨A, c, l, ?_, g⟩
  simp [Value.cells] at e
  obtain ⟨rfl, rfl, rfl⟩ := e
  rfl
 injection he0 with e1 e2 e3
 subst e1
 subst e2
 subst e3
 obtain ⟨x1, len1, cap1, rfl⟩ := okWide_slice Try.underlying25 (hval 1 25 v1 rfl rfl)
 have k1 := h1
 have lt1 : ∀ x ∈ p1, x.block < W.heap.size := by obtain ⟨m, hm⟩ := k1; exact DataW.trod_lt m _ _ _ hm
 obtain ⟨A1, c1, l1, he1, g1_0, g1_1, g1_2⟩ : ∃ (A : Option Addr) (c : Nat) (l : List (Int)), Value.slice A l.length c = .slice x1 len1 cap1 ∧ l.length ≤ c ∧ Kd.C (Kd.int .i64) W A l.length l ∧ (∀ x ∈ l, -9223372036854775808 ≤ x ∧ x ≤ 9223372036854775807) := by
  obtain ⟨fuel, hf⟩ := h1
  obtain ⟨A, c, l, e, g⟩ := opn25 hf
  refine ⟨A, c, l, ?_, g⟩
  simp [Value.cells] at e
  obtain ⟨rfl, rfl, rfl⟩ := e
  rfl
 injection he1 with e1 e2 e3
 subst e1
 subst e2
 subst e3
 clear hA0 hval0 hsz0 hval
 obtain ⟨k, hk⟩ := Pure.FnExactTopOf l0 l1 g0_1.2.1 g0_2 g1_1.2.1 g1_2
 refine (laws_FnExactTopOf.calls k A0 c0 l0 A1 c1 l1 true W g0_1 g0_0 g1_1 g1_0 rfl hk).mono fun e W' ⟨he, bel0⟩ => ?_
 have bel : Below W.heap.size W W' := bel0
 subst he
 exact ⟨_, rfl, _, _, _, [], _, [], hW', trodAll_mk1 (shut_bool Try.underlying4 _), (trodAll_cons_mk (Below.trod laidOut (by kernel_rfl) (of_decide_eq_true (by kernel_rfl)) k0 bel lt0) (trodAll_cons_mk (Below.trod laidOut (by kernel_rfl) (of_decide_eq_true (by kernel_rfl)) k1 bel lt1) trodAll_mk0)), rfl, bel.frame _, fun h => by cases h⟩
theorem over : Rows.fnExactTopOfRow.holds Try.pinned (OpenSpec.ofChange Rows.fnExactTopOfSpec) :=
 OpenClaim.holds_of_wide 5 Try.f5 rfl rfl rfl rfl rfl rfl rfl ⟨rfl, rfl, rfl, rfl, rfl⟩ rfl rfl rfl rfl rfl (by kernel_rfl) Try.func5 (by kernel_rfl)
  (of_decide_eq_true (by kernel_rfl)) (by unfold Func.isWrapper; first | (rw [if_pos (by decide +kernel)]; kernel_rfl) | (rw [if_neg (by decide +kernel)]; exact ⟨rfl, rfl⟩))
  (fun os started H enc _ => lifted os started H enc)
theorem proved : Rows.FnExactTopOfSaid := over
#print axioms proved
end Go.Proofs.Ytnnahpmnkpmopaa.fnExactTopOf
namespace Go.Proofs.Ytnnahpmnkpmopaa
/-- The row, under a short name, for the claim. -/
theorem fnExactTopOf_holds : Rows.FnExactTopOfSaid := fnExactTopOf.proved
end Go.Proofs.Ytnnahpmnkpmopaa
