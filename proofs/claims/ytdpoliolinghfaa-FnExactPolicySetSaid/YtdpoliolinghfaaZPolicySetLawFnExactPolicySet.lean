/- Proved: the row of the law FnExactPolicySet: for every input it returns true and each argument reads as before. No condition. -/
import Derived.Test.YtdpoliolinghfaaRows
import Derived.Test.YtdpoliolinghfaaZPolicySetQFnExactPolicySetx17
import Derived.Test.YtdpoliolinghfaaZPolicySetPureFnExactPolicySet
import Derived.Test.YtdpoliolinghfaaZPolicySetOpn
import Derived.WalkKit
import Derived.ProofKit
import Derived.OpenShut
import Derived.ShutString
import Derived.ChangeOld
import Derived.Below
import Derived.SizedLaws
import Derived.Deep.Slices
namespace Go.Proofs.Ytdpoliolinghfaa.fnExactPolicySet
open Go.ChangeShapes Go.WideShapes Go.ChangeAt Go.RowKit
open Go.ChangeMaps (open_string shut_string)
open Go.Proofs.Ytdpoliolinghfaa.QFnExactPolicySet Go.Proofs.YtdpoliolinghfaaW.PrintWords Go.Proofs.Ytdpoliolinghfaa.Opn
set_option linter.unusedVariables false
set_option linter.unusedSimpArgs false
theorem own : ownKnob Try.prog.godebug = none := by kernel_rfl
theorem laidOut : laidOutB Try.prog = true := by kernel_rfl
theorem opn3 {H : Type} {enc : TypeId × Value → H} {W : World} {sp : Nat → Bool} {held : Bool} {fuel : Nat} {cs : List Value} {y : DataW H × List MemPlace} (h : DataW.trod enc Try.prog W 0 sp held fuel 3 cs = some y) : ∃ (a0 : Int), cs = [.int .i64 a0] ∧ (-9223372036854775808 ≤ a0 ∧ a0 ≤ 9223372036854775807) := by
 obtain ⟨n, rfl, _, hw⟩ := DataW.trod_int Try.underlying3 h
 exact ⟨n, rfl, bnd_i64 hw⟩
theorem cells3 : Try.prog.cellsOf 3 = 1 := by kernel_rfl
theorem opn76 {H : Type} {enc : TypeId × Value → H} {W : World} {sp : Nat → Bool} {held : Bool} {fuel : Nat} {cs : List Value} {y : DataW H × List MemPlace} (h : DataW.trod enc Try.prog W 0 sp held fuel 76 cs = some y) : ∃ (a0 : Int), cs = [.int .u64 a0] ∧ (0 ≤ a0 ∧ a0 ≤ 18446744073709551615) := by
 obtain ⟨n, rfl, _, hw⟩ := DataW.trod_int Try.underlying76 h
 exact ⟨n, rfl, bnd_u64 hw⟩
theorem cells76 : Try.prog.cellsOf 76 = 1 := by kernel_rfl
theorem opn22 {H : Type} {enc : TypeId × Value → H} {W : World} {sp : Nat → Bool} {held : Bool} {fuel : Nat} {cs : List Value} {y : DataW H × List MemPlace} (h : DataW.trod enc Try.prog W 0 sp held fuel 22 cs = some y) : ∃ (A0 : Option Addr) (c0 : Nat) (l0 : List (Int)), cs = [.slice A0 l0.length c0] ∧ l0.length ≤ c0 ∧ Kd.C (Kd.int .u64) W A0 l0.length l0 ∧ (∀ x ∈ l0, 0 ≤ x ∧ x ≤ 18446744073709551615) :=
 slice_opn (d := (Kd.int .u64)) (good := fun x => 0 ≤ x ∧ x ≤ 18446744073709551615) Try.underlying22 (cells76.trans rfl) (fun m c z hz => by
  obtain ⟨a0, rfl, g0⟩ := opn76 hz
  exact ⟨a0, rfl, g0⟩) h
theorem cells22 : Try.prog.cellsOf 22 = 1 := by kernel_rfl
theorem cells24 : Try.prog.cellsOf 24 = 2 := by kernel_rfl
theorem opn24 {H : Type} {enc : TypeId × Value → H} {W : World} {sp : Nat → Bool} {held : Bool} {fuel : Nat} {cs : List Value} {y : DataW H × List MemPlace} (h : DataW.trod enc Try.prog W 0 sp held fuel 24 cs = some y) :
  ∃ (a0 : Int) (A1 : Option Addr) (c1 : Nat) (l1 : List (Int)), cs = [.int .i64 a0, .slice A1 l1.length c1] ∧ (-9223372036854775808 ≤ a0 ∧ a0 ≤ 9223372036854775807) ∧ l1.length ≤ c1 ∧ Kd.C (Kd.int .u64) W A1 l1.length l1 ∧ (∀ x ∈ l1, 0 ≤ x ∧ x ≤ 18446744073709551615) := by
 obtain ⟨xs, n, _, _, hl, hlen, hf⟩ := DataW.trod_struct Try.underlying24 h
 have hl' : cs.length = 2 := hl.trans cells24
 obtain ⟨c0', c1', rfl⟩ := list2 hl'
 have t0 := hf 0 { name := "N", type := 3, offset := 0, embedded := false, tag := "", pkgPath := "", byteOffset := 0 } rfl
 simp only [cells3, List.drop_zero, List.drop_succ_cons, List.take_succ_cons, List.take_zero] at t0
 rw [List.getElem?_eq_getElem (by rw [hlen]; decide)] at t0
 obtain ⟨a0, e0, g0_0⟩ := opn3 t0
 simp only [List.cons.injEq, and_true] at e0
 subst e0
 have t1 := hf 1 { name := "Up", type := 22, offset := 1, embedded := false, tag := "", pkgPath := "", byteOffset := 8 } rfl
 simp only [cells22, List.drop_zero, List.drop_succ_cons, List.take_succ_cons, List.take_zero] at t1
 rw [List.getElem?_eq_getElem (by rw [hlen]; decide)] at t1
 obtain ⟨A1, c1, l1, e1, g1_0, g1_1, g1_2⟩ := opn22 t1
 simp only [List.cons.injEq, and_true] at e1
 subst e1
 exact ⟨a0, A1, c1, l1, rfl, g0_0, g1_0, g1_1, g1_2⟩
theorem cells56 : Try.prog.cellsOf 56 = 4 := by kernel_rfl
theorem opn56 {H : Type} {enc : TypeId × Value → H} {W : World} {sp : Nat → Bool} {held : Bool} {fuel : Nat} {cs : List Value} {y : DataW H × List MemPlace} (h : DataW.trod enc Try.prog W 0 sp held fuel 56 cs = some y) :
  ∃ (a0 : Int) (a1 : Int) (a2 : Int) (a3 : Int), cs = [.int .i64 a0, .int .i64 a1, .int .i64 a2, .int .i64 a3] ∧ (-9223372036854775808 ≤ a0 ∧ a0 ≤ 9223372036854775807) ∧ (-9223372036854775808 ≤ a1 ∧ a1 ≤ 9223372036854775807) ∧ (-9223372036854775808 ≤ a2 ∧ a2 ≤ 9223372036854775807) ∧ (-9223372036854775808 ≤ a3 ∧ a3 ≤ 9223372036854775807) := by
 obtain ⟨xs, n, _, _, hl, hlen, hf⟩ := DataW.trod_struct Try.underlying56 h
 have hl' : cs.length = 4 := hl.trans cells56
 obtain ⟨c0', c1', c2', c3', rfl⟩ := list4 hl'
 have t0 := hf 0 { name := "Src", type := 3, offset := 0, embedded := false, tag := "", pkgPath := "", byteOffset := 0 } rfl
 simp only [cells3, List.drop_zero, List.drop_succ_cons, List.take_succ_cons, List.take_zero] at t0
 rw [List.getElem?_eq_getElem (by rw [hlen]; decide)] at t0
 obtain ⟨a0, e0, g0_0⟩ := opn3 t0
 simp only [List.cons.injEq, and_true] at e0
 subst e0
 have t1 := hf 1 { name := "Bits", type := 3, offset := 1, embedded := false, tag := "", pkgPath := "", byteOffset := 8 } rfl
 simp only [cells3, List.drop_zero, List.drop_succ_cons, List.take_succ_cons, List.take_zero] at t1
 rw [List.getElem?_eq_getElem (by rw [hlen]; decide)] at t1
 obtain ⟨a1, e1, g1_0⟩ := opn3 t1
 simp only [List.cons.injEq, and_true] at e1
 subst e1
 have t2 := hf 2 { name := "Key", type := 3, offset := 2, embedded := false, tag := "", pkgPath := "", byteOffset := 16 } rfl
 simp only [cells3, List.drop_zero, List.drop_succ_cons, List.take_succ_cons, List.take_zero] at t2
 rw [List.getElem?_eq_getElem (by rw [hlen]; decide)] at t2
 obtain ⟨a2, e2, g2_0⟩ := opn3 t2
 simp only [List.cons.injEq, and_true] at e2
 subst e2
 have t3 := hf 3 { name := "Label", type := 3, offset := 3, embedded := false, tag := "", pkgPath := "", byteOffset := 24 } rfl
 simp only [cells3, List.drop_zero, List.drop_succ_cons, List.take_succ_cons, List.take_zero] at t3
 rw [List.getElem?_eq_getElem (by rw [hlen]; decide)] at t3
 obtain ⟨a3, e3, g3_0⟩ := opn3 t3
 simp only [List.cons.injEq, and_true] at e3
 subst e3
 exact ⟨a0, a1, a2, a3, rfl, g0_0, g1_0, g2_0, g3_0⟩
theorem opn61 {H : Type} {enc : TypeId × Value → H} {W : World} {sp : Nat → Bool} {held : Bool} {fuel : Nat} {cs : List Value} {y : DataW H × List MemPlace} (h : DataW.trod enc Try.prog W 0 sp held fuel 61 cs = some y) : ∃ (A0 : Option Addr) (c0 : Nat) (l0 : List (S56)), cs = [.slice A0 l0.length c0] ∧ l0.length ≤ c0 ∧ Kd.C k56 W A0 l0.length l0 ∧ (∀ x ∈ l0, (-9223372036854775808 ≤ x.f0 ∧ x.f0 ≤ 9223372036854775807) ∧ (-9223372036854775808 ≤ x.f1 ∧ x.f1 ≤ 9223372036854775807) ∧ (-9223372036854775808 ≤ x.f2 ∧ x.f2 ≤ 9223372036854775807) ∧ (-9223372036854775808 ≤ x.f3 ∧ x.f3 ≤ 9223372036854775807)) :=
 slice_opn (d := k56) (good := fun x => (-9223372036854775808 ≤ x.f0 ∧ x.f0 ≤ 9223372036854775807) ∧ (-9223372036854775808 ≤ x.f1 ∧ x.f1 ≤ 9223372036854775807) ∧ (-9223372036854775808 ≤ x.f2 ∧ x.f2 ≤ 9223372036854775807) ∧ (-9223372036854775808 ≤ x.f3 ∧ x.f3 ≤ 9223372036854775807)) Try.underlying61 (cells56.trans rfl) (fun m c z hz => by
  obtain ⟨a0, a1, a2, a3, rfl, g0, g1, g2, g3⟩ := opn56 hz
  exact ⟨⟨a0, a1, a2, a3⟩, k56_mk _ _, ⟨g0, g1, g2, g3⟩⟩) h
set_option maxRecDepth 100000 in
theorem lifted (os : Os) (started : os.Started) (H : Type) (enc : TypeId × Value → H) :
  ReturnsInHanded {} Try.checked os 16 .any (Rows.fnExactPolicySetSpec.pre6 enc Try.prog Try.f16 Rows.fnExactPolicySetRow.domain false) (Rows.fnExactPolicySetSpec.post enc Try.prog Try.f16 false true false false) := by
 refine returnsInHanded_of_change_sized (C := Try.checked) own started (by kernel_rfl) Try.func16
  (ChangeSpec.witness6 (enc := enc) (C := Try.checked) false ⟨#[], #[.agg #[.int .i64 0, .slice none 0 0], .slice none 0 0, .agg #[.int .i64 0, .int .i64 0, .int .i64 0, .int .i64 0]], []⟩ 8 (by kernel_rfl) (by kernel_rfl) (by kernel_rfl) (by kernel_rfl)) ?_
 intro W base args ds gs before hval0 hW hcnd hsz0 _
 have hval : ∀ (j : Nat) t v, Try.f16.params[j]? = some t → args[j]? = some v → Value.okWide Try.prog W .any base t v := hval0
 have hW' := hW
 obtain ⟨p, q, hA0, hV, rfl, hfz, hnd⟩ := hW
 have hA : DataW.TrodAll enc Try.prog W 0 (fun _ => true) true Try.f16.params.toList args.toList ds p := hA0
 rw [Try.params16] at hA hval
 obtain ⟨v0, vs0, d0, ds0, p0, q0, hargs, rfl, rfl, h0, r0⟩ := trodAll_cons hA
 obtain ⟨v1, vs1, d1, ds1, p1, q1, rfl, rfl, rfl, h1, r1⟩ := trodAll_cons r0
 obtain ⟨v2, vs2, d2, ds2, p2, q2, rfl, rfl, rfl, h2, r2⟩ := trodAll_cons r1
 obtain ⟨rfl, rfl, rfl⟩ := trodAll_nil r2
 obtain rfl : args = #[v0, v1, v2] := by cases args; simp_all
 obtain ⟨rfl, rfl⟩ := trodVars_none hV
 obtain ⟨cs0, rfl, _⟩ := okWide_struct Try.underlying24 (hval 0 24 v0 rfl rfl)
 have k0 := h0
 have lt0 : ∀ x ∈ p0, x.block < W.heap.size := by obtain ⟨m, hm⟩ := k0; exact DataW.trod_lt m _ _ _ hm
 obtain ⟨a0_0, A0_1, c0_1, l0_1, he0, g0_0_0, g0_1_0, g0_1_1, g0_1_2⟩ : ∃ (a0_0 : Int) (A0_1 : Option Addr) (c0_1 : Nat) (l0_1 : List (Int)), cs0 = #[.int .i64 a0_0, .slice A0_1 l0_1.length c0_1] ∧ (-9223372036854775808 ≤ a0_0 ∧ a0_0 ≤ 9223372036854775807) ∧ l0_1.length ≤ c0_1 ∧ Kd.C (Kd.int .u64) W A0_1 l0_1.length l0_1 ∧ (∀ x ∈ l0_1, 0 ≤ x ∧ x ≤ 18446744073709551615) := by
  obtain ⟨fuel, hf⟩ := h0
  obtain ⟨a0_0, A0_1, c0_1, l0_1, e, g0_0_0, g0_1_0, g0_1_1, g0_1_2⟩ := opn24 hf
  exact ⟨a0_0, A0_1, c0_1, l0_1, by rw [← Array.toArray_toList (xs := cs0)]; exact congrArg List.toArray e, g0_0_0, g0_1_0, g0_1_1, g0_1_2⟩
 subst he0
 obtain ⟨x1, len1, cap1, rfl⟩ := okWide_slice Try.underlying61 (hval 1 61 v1 rfl rfl)
 have k1 := h1
 have lt1 : ∀ x ∈ p1, x.block < W.heap.size := by obtain ⟨m, hm⟩ := k1; exact DataW.trod_lt m _ _ _ hm
 obtain ⟨A1, c1, l1, he1, g1_0, g1_1, g1_2⟩ : ∃ (A : Option Addr) (c : Nat) (l : List (S56)), Value.slice A l.length c = .slice x1 len1 cap1 ∧ l.length ≤ c ∧ Kd.C k56 W A l.length l ∧ (∀ x ∈ l, (-9223372036854775808 ≤ x.f0 ∧ x.f0 ≤ 9223372036854775807) ∧ (-9223372036854775808 ≤ x.f1 ∧ x.f1 ≤ 9223372036854775807) ∧ (-9223372036854775808 ≤ x.f2 ∧ x.f2 ≤ 9223372036854775807) ∧ (-9223372036854775808 ≤ x.f3 ∧ x.f3 ≤ 9223372036854775807)) := by
  obtain ⟨fuel, hf⟩ := h1
  obtain ⟨A, c, l, e, g⟩ := opn61 hf
  refine ⟨A, c, l, ?_, g⟩
  simp [Value.cells] at e
  obtain ⟨rfl, rfl, rfl⟩ := e
  rfl
 injection he1 with e1 e2 e3
 subst e1
 subst e2
 subst e3
 obtain ⟨cs2, rfl, _⟩ := okWide_struct Try.underlying56 (hval 2 56 v2 rfl rfl)
 have k2 := h2
 have lt2 : ∀ x ∈ p2, x.block < W.heap.size := by obtain ⟨m, hm⟩ := k2; exact DataW.trod_lt m _ _ _ hm
 obtain ⟨a2_0, a2_1, a2_2, a2_3, he2, g2_0_0, g2_1_0, g2_2_0, g2_3_0⟩ : ∃ (a2_0 : Int) (a2_1 : Int) (a2_2 : Int) (a2_3 : Int), cs2 = #[.int .i64 a2_0, .int .i64 a2_1, .int .i64 a2_2, .int .i64 a2_3] ∧ (-9223372036854775808 ≤ a2_0 ∧ a2_0 ≤ 9223372036854775807) ∧ (-9223372036854775808 ≤ a2_1 ∧ a2_1 ≤ 9223372036854775807) ∧ (-9223372036854775808 ≤ a2_2 ∧ a2_2 ≤ 9223372036854775807) ∧ (-9223372036854775808 ≤ a2_3 ∧ a2_3 ≤ 9223372036854775807) := by
  obtain ⟨fuel, hf⟩ := h2
  obtain ⟨a2_0, a2_1, a2_2, a2_3, e, g2_0_0, g2_1_0, g2_2_0, g2_3_0⟩ := opn56 hf
  exact ⟨a2_0, a2_1, a2_2, a2_3, by rw [← Array.toArray_toList (xs := cs2)]; exact congrArg List.toArray e, g2_0_0, g2_1_0, g2_2_0, g2_3_0⟩
 subst he2
 clear hA0 hval0 hsz0 hval
 obtain ⟨k, hk⟩ := Pure.FnExactPolicySet a0_0 l0_1 l1 a2_0 a2_1 a2_2 a2_3 g0_0_0 g0_1_1.2.1 g0_1_2 g1_1.2.1 g1_2 g2_0_0 g2_1_0 g2_2_0 g2_3_0
 refine (laws_FnExactPolicySet.calls k a0_0 A0_1 c0_1 l0_1 A1 c1 l1 a2_0 a2_1 a2_2 a2_3 true W g0_1_1 g0_1_0 g1_1 g1_0 rfl hk).mono fun e W' ⟨he, bel0⟩ => ?_
 have bel : Below W.heap.size W W' := bel0
 subst he
 exact ⟨_, rfl, _, _, _, [], _, [], hW', trodAll_mk1 (shut_bool Try.underlying4 _), (trodAll_cons_mk (Below.trod laidOut (by kernel_rfl) (of_decide_eq_true (by kernel_rfl)) k0 bel lt0) (trodAll_cons_mk (Below.trod laidOut (by kernel_rfl) (of_decide_eq_true (by kernel_rfl)) k1 bel lt1) (trodAll_cons_mk (Below.trod laidOut (by kernel_rfl) (of_decide_eq_true (by kernel_rfl)) k2 bel lt2) trodAll_mk0))), rfl, bel.frame _, fun h => by cases h⟩
theorem over : Rows.fnExactPolicySetRow.holds Try.pinned (OpenSpec.ofChange Rows.fnExactPolicySetSpec) :=
 OpenClaim.holds_of_wide 16 Try.f16 rfl rfl rfl rfl rfl rfl rfl ⟨rfl, rfl, rfl, rfl, rfl⟩ rfl rfl rfl rfl rfl (by kernel_rfl) Try.func16 (by kernel_rfl)
  (of_decide_eq_true (by kernel_rfl)) (by unfold Func.isWrapper; first | (rw [if_pos (by decide +kernel)]; kernel_rfl) | (rw [if_neg (by decide +kernel)]; exact ⟨rfl, rfl⟩))
  (fun os started H enc _ => lifted os started H enc)
theorem proved : Rows.FnExactPolicySetSaid := over
#print axioms proved
end Go.Proofs.Ytdpoliolinghfaa.fnExactPolicySet
namespace Go.Proofs.Ytdpoliolinghfaa
/-- The row, under a short name, for the claim. -/
theorem fnExactPolicySet_holds : Rows.FnExactPolicySetSaid := fnExactPolicySet.proved
end Go.Proofs.Ytdpoliolinghfaa
