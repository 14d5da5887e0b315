/- Proved: the row of the law FnExactLatOf: for every input it returns true and each argument reads as before. No condition. -/
import Derived.Test.YtdpoliolinghfaaRows
import Derived.Test.YtdpoliolinghfaaZLatOfQFnExactLatOfx10
import Derived.Test.YtdpoliolinghfaaZLatOfPureFnExactLatOf
import Derived.Test.YtdpoliolinghfaaZLatOfOpn
import Derived.WalkKit
import Derived.ProofKit
import Derived.OpenShut
import Derived.ShutString
import Derived.ChangeOld
import Derived.Below
import Derived.SizedLaws
import Derived.Deep.Slices
namespace Go.Proofs.Ytdpoliolinghfaa.fnExactLatOf
open Go.ChangeShapes Go.WideShapes Go.ChangeAt Go.RowKit
open Go.ChangeMaps (open_string shut_string)
open Go.Proofs.Ytdpoliolinghfaa.QFnExactLatOf Go.Proofs.YtdpoliolinghfaaW.PrintWords Go.Proofs.Ytdpoliolinghfaa.Opn
set_option linter.unusedVariables false
set_option linter.unusedSimpArgs false
theorem own : ownKnob Try.prog.godebug = none := by kernel_rfl
theorem laidOut : laidOutB Try.prog = true := by kernel_rfl
theorem opn3 {H : Type} {enc : TypeId × Value → H} {W : World} {sp : Nat → Bool} {held : Bool} {fuel : Nat} {cs : List Value} {y : DataW H × List MemPlace} (h : DataW.trod enc Try.prog W 0 sp held fuel 3 cs = some y) : ∃ (a0 : Int), cs = [.int .i64 a0] ∧ (-9223372036854775808 ≤ a0 ∧ a0 ≤ 9223372036854775807) := by
 obtain ⟨n, rfl, _, hw⟩ := DataW.trod_int Try.underlying3 h
 exact ⟨n, rfl, bnd_i64 hw⟩
theorem cells3 : Try.prog.cellsOf 3 = 1 := by kernel_rfl
theorem cells94 : Try.prog.cellsOf 94 = 2 := by kernel_rfl
theorem opn94 {H : Type} {enc : TypeId × Value → H} {W : World} {sp : Nat → Bool} {held : Bool} {fuel : Nat} {cs : List Value} {y : DataW H × List MemPlace} (h : DataW.trod enc Try.prog W 0 sp held fuel 94 cs = some y) :
  ∃ (a0 : Int) (a1 : Int), cs = [.int .i64 a0, .int .i64 a1] ∧ (-9223372036854775808 ≤ a0 ∧ a0 ≤ 9223372036854775807) ∧ (-9223372036854775808 ≤ a1 ∧ a1 ≤ 9223372036854775807) := by
 obtain ⟨xs, n, _, _, hl, hlen, hf⟩ := DataW.trod_struct Try.underlying94 h
 have hl' : cs.length = 2 := hl.trans cells94
 obtain ⟨c0', c1', rfl⟩ := list2 hl'
 have t0 := hf 0 { name := "Lo", type := 3, offset := 0, embedded := false, tag := "", pkgPath := "", byteOffset := 0 } rfl
 simp only [cells3, List.drop_zero, List.drop_succ_cons, List.take_succ_cons, List.take_zero] at t0
 rw [List.getElem?_eq_getElem (by rw [hlen]; decide)] at t0
 obtain ⟨a0, e0, g0_0⟩ := opn3 t0
 simp only [List.cons.injEq, and_true] at e0
 subst e0
 have t1 := hf 1 { name := "Hi", type := 3, offset := 1, embedded := false, tag := "", pkgPath := "", byteOffset := 8 } rfl
 simp only [cells3, List.drop_zero, List.drop_succ_cons, List.take_succ_cons, List.take_zero] at t1
 rw [List.getElem?_eq_getElem (by rw [hlen]; decide)] at t1
 obtain ⟨a1, e1, g1_0⟩ := opn3 t1
 simp only [List.cons.injEq, and_true] at e1
 subst e1
 exact ⟨a0, a1, rfl, g0_0, g1_0⟩
theorem opn49 {H : Type} {enc : TypeId × Value → H} {W : World} {sp : Nat → Bool} {held : Bool} {fuel : Nat} {cs : List Value} {y : DataW H × List MemPlace} (h : DataW.trod enc Try.prog W 0 sp held fuel 49 cs = some y) : ∃ (A0 : Option Addr) (c0 : Nat) (l0 : List (S94)), cs = [.slice A0 l0.length c0] ∧ l0.length ≤ c0 ∧ Kd.C k94 W A0 l0.length l0 ∧ (∀ x ∈ l0, (-9223372036854775808 ≤ x.f0 ∧ x.f0 ≤ 9223372036854775807) ∧ (-9223372036854775808 ≤ x.f1 ∧ x.f1 ≤ 9223372036854775807)) :=
 slice_opn (d := k94) (good := fun x => (-9223372036854775808 ≤ x.f0 ∧ x.f0 ≤ 9223372036854775807) ∧ (-9223372036854775808 ≤ x.f1 ∧ x.f1 ≤ 9223372036854775807)) Try.underlying49 (cells94.trans rfl) (fun m c z hz => by
  obtain ⟨a0, a1, rfl, g0, g1⟩ := opn94 hz
  exact ⟨⟨a0, a1⟩, k94_mk _ _, ⟨g0, g1⟩⟩) h
set_option maxRecDepth 100000 in
theorem lifted (os : Os) (started : os.Started) (H : Type) (enc : TypeId × Value → H) :
  ReturnsInHanded {} Try.checked os 11 .any (Rows.fnExactLatOfSpec.pre6 enc Try.prog Try.f11 Rows.fnExactLatOfRow.domain false) (Rows.fnExactLatOfSpec.post enc Try.prog Try.f11 false true false false) := by
 refine returnsInHanded_of_change_sized (C := Try.checked) own started (by kernel_rfl) Try.func11
  (ChangeSpec.witness6 (enc := enc) (C := Try.checked) false ⟨#[], #[.int .i64 0, .slice none 0 0], []⟩ 8 (by kernel_rfl) (by kernel_rfl) (by kernel_rfl) (by kernel_rfl)) ?_
 intro W base args ds gs before hval0 hW hcnd hsz0 _
 have hval : ∀ (j : Nat) t v, Try.f11.params[j]? = some t → args[j]? = some v → Value.okWide Try.prog W .any base t v := hval0
 have hW' := hW
 obtain ⟨p, q, hA0, hV, rfl, hfz, hnd⟩ := hW
 have hA : DataW.TrodAll enc Try.prog W 0 (fun _ => true) true Try.f11.params.toList args.toList ds p := hA0
 rw [Try.params11] at hA hval
 obtain ⟨v0, vs0, d0, ds0, p0, q0, hargs, rfl, rfl, h0, r0⟩ := trodAll_cons hA
 obtain ⟨v1, vs1, d1, ds1, p1, q1, rfl, rfl, rfl, h1, r1⟩ := trodAll_cons r0
 obtain ⟨rfl, rfl, rfl⟩ := trodAll_nil r1
 obtain rfl : args = #[v0, v1] := by cases args; simp_all
 obtain ⟨rfl, rfl⟩ := trodVars_none hV
 obtain ⟨a0, rfl, rfl, rfl, w0⟩ := open_int Try.underlying3 (hval 0 3 v0 rfl rfl) h0
 have g0_0 := bnd_i64 w0
 obtain ⟨x1, len1, cap1, rfl⟩ := okWide_slice Try.underlying49 (hval 1 49 v1 rfl rfl)
 have k1 := h1
 have lt1 : ∀ x ∈ p1, x.block < W.heap.size := by obtain ⟨m, hm⟩ := k1; exact DataW.trod_lt m _ _ _ hm
 obtain ⟨A1, c1, l1, he1, g1_0, g1_1, g1_2⟩ : ∃ (A : Option Addr) (c : Nat) (l : List (S94)), Value.slice A l.length c = .slice x1 len1 cap1 ∧ l.length ≤ c ∧ Kd.C k94 W A l.length l ∧ (∀ x ∈ l, (-9223372036854775808 ≤ x.f0 ∧ x.f0 ≤ 9223372036854775807) ∧ (-9223372036854775808 ≤ x.f1 ∧ x.f1 ≤ 9223372036854775807)) := by
  obtain ⟨fuel, hf⟩ := h1
  obtain ⟨A, c, l, e, g⟩ := opn49 hf
  refine ⟨A, c, l, ?_, g⟩
  simp [Value.cells] at e
  obtain ⟨rfl, rfl, rfl⟩ := e
  rfl
 injection he1 with e1 e2 e3
 subst e1
 subst e2
 subst e3
 clear hA0 hval0 hsz0 hval
 obtain ⟨k, hk⟩ := Pure.FnExactLatOf a0 l1 g0_0 g1_1.2.1 g1_2
 refine (laws_FnExactLatOf.calls k a0 A1 c1 l1 true W g1_1 g1_0 rfl hk).mono fun e W' ⟨he, bel0⟩ => ?_
 have bel : Below W.heap.size W W' := bel0
 subst he
 exact ⟨_, rfl, _, _, _, [], _, [], hW', trodAll_mk1 (shut_bool Try.underlying4 _), (trodAll_cons_mk (shut_int Try.underlying3 w0) (trodAll_cons_mk (Below.trod laidOut (by kernel_rfl) (of_decide_eq_true (by kernel_rfl)) k1 bel lt1) trodAll_mk0)), rfl, bel.frame _, fun h => by cases h⟩
theorem over : Rows.fnExactLatOfRow.holds Try.pinned (OpenSpec.ofChange Rows.fnExactLatOfSpec) :=
 OpenClaim.holds_of_wide 11 Try.f11 rfl rfl rfl rfl rfl rfl rfl ⟨rfl, rfl, rfl, rfl, rfl⟩ rfl rfl rfl rfl rfl (by kernel_rfl) Try.func11 (by kernel_rfl)
  (of_decide_eq_true (by kernel_rfl)) (by unfold Func.isWrapper; first | (rw [if_pos (by decide +kernel)]; kernel_rfl) | (rw [if_neg (by decide +kernel)]; exact ⟨rfl, rfl⟩))
  (fun os started H enc _ => lifted os started H enc)
theorem proved : Rows.FnExactLatOfSaid := over
#print axioms proved
end Go.Proofs.Ytdpoliolinghfaa.fnExactLatOf
namespace Go.Proofs.Ytdpoliolinghfaa
/-- The row, under a short name, for the claim. -/
theorem fnExactLatOf_holds : Rows.FnExactLatOfSaid := fnExactLatOf.proved
end Go.Proofs.Ytdpoliolinghfaa
