/-
  No cell of these rows narrows 'for every input' (looked for: loops, veiled, ifaces, maps, wideKeys, modest, calm, conditions, laid).
  DERIVED. THE GIVEN ROWS OF THIS SEAT. 5 by the template 'for every input the law returns true; each argument reads behind the call as it read before'; 0 by the template 'total and deterministic' (their statements: YtnnahpmnkpmopaaTotals.lean).
  GIVEN WITH THE SEED: the statements are not yours to turn. If you find one false, say at which input.
  Laid BY PROGRAM, IN A SANDBOX (cutbox-rows.mjs): the forced cells as the released guide's own fill.sh prints them over the translation d11ad0862e57986e… (all of the seat's roots in one cut). By AI agents, Wed Nov 11 2026. No macro, syntax, notation, axiom, sorry.
-/
import Derived.Test.YtnnahpmnkpmopaaChecked
import GoSem.Claim
import GoSem.ClaimJoined
import GoSem.ClaimMapViews
import Derived.JoinedTies
import Derived.KernelRfl
namespace Go.Proofs.Ytnnahpmnkpmopaa
/- THE CELL 'sum', in the pinned program and in every row, IS THE sha256 OF THE DUMP (.gsa) THAT YtnnahpmnkpmopaaProg.lean LOADS. Nothing in Lean hashes anything: it is a label: what it is worth is what the hold of that sum in a sandbox is worth. -/
noncomputable def Try.pinned : Pinned := { name := "ytnnahpmnkpmopaa", sum := "d11ad0862e57986e354edd8a99a62f27a1067b56c5b17c928d8568fbab99dd80", checked := Try.checked }
namespace Rows
def none {H : Type} : Left H := { results := [], args := [] }

/-- 'laws.FnExactAggOk': WHATEVER THE INPUT: true; the input reads as it did. -/
def fnExactAggOkSpec : ChangeSpec := { name := "fnExactAggOk", fn := fun _ => fun
  | [d] => { results := [.lit (.bool true)], args := [d] }
  | _ => none }
def fnExactAggOkRow : OpenClaim := { program := "ytnnahpmnkpmopaa", sum := "d11ad0862e57986e354edd8a99a62f27a1067b56c5b17c928d8568fbab99dd80", func := "loop.example/g00699/laws.FnExactAggOk", spec := "fnExactAggOk", inPlace := ["math/bits.Add64"], apart := false }
def FnExactAggOkSaid : Prop := fnExactAggOkRow.holds Try.pinned (OpenSpec.ofChange fnExactAggOkSpec)

/-- ITS FALSE NEIGHBOUR: 'it returns false'. Refute it at one input. -/
def fnExactAggOkWrong : ChangeSpec := { name := "fnExactAggOk", fn := fun _ => fun
  | [d] => { results := [.lit (.bool false)], args := [d] }
  | _ => none }
def FnExactAggOkWrongFalsely : Prop := fnExactAggOkRow.holds Try.pinned (OpenSpec.ofChange fnExactAggOkWrong)

/-- 'laws.FnExactAggDone': WHATEVER THE INPUT: true; the input reads as it did. -/
def fnExactAggDoneSpec : ChangeSpec := { name := "fnExactAggDone", fn := fun _ => fun
  | [d1, d2, d3] => { results := [.lit (.bool true)], args := [d1, d2, d3] }
  | _ => none }
def fnExactAggDoneRow : OpenClaim := { program := "ytnnahpmnkpmopaa", sum := "d11ad0862e57986e354edd8a99a62f27a1067b56c5b17c928d8568fbab99dd80", func := "loop.example/g00699/laws.FnExactAggDone", spec := "fnExactAggDone", inPlace := ["math/bits.Add64"], named := ["math/bits.divideError", "math/bits.overflowError"], apart := false }
def FnExactAggDoneSaid : Prop := fnExactAggDoneRow.holds Try.pinned (OpenSpec.ofChange fnExactAggDoneSpec)

/-- ITS FALSE NEIGHBOUR: 'it returns false'. Refute it at one input. -/
def fnExactAggDoneWrong : ChangeSpec := { name := "fnExactAggDone", fn := fun _ => fun
  | [d1, d2, d3] => { results := [.lit (.bool false)], args := [d1, d2, d3] }
  | _ => none }
def FnExactAggDoneWrongFalsely : Prop := fnExactAggDoneRow.holds Try.pinned (OpenSpec.ofChange fnExactAggDoneWrong)

/-- 'laws.FnExactTopOf': WHATEVER THE INPUT: true; the input reads as it did. -/
def fnExactTopOfSpec : ChangeSpec := { name := "fnExactTopOf", fn := fun _ => fun
  | [d1, d2] => { results := [.lit (.bool true)], args := [d1, d2] }
  | _ => none }
def fnExactTopOfRow : OpenClaim := { program := "ytnnahpmnkpmopaa", sum := "d11ad0862e57986e354edd8a99a62f27a1067b56c5b17c928d8568fbab99dd80", func := "loop.example/g00699/laws.FnExactTopOf", spec := "fnExactTopOf", unfollowed := true, recurses := true, apart := false }
def FnExactTopOfSaid : Prop := fnExactTopOfRow.holds Try.pinned (OpenSpec.ofChange fnExactTopOfSpec)

/-- ITS FALSE NEIGHBOUR: 'it returns false'. Refute it at one input. -/
def fnExactTopOfWrong : ChangeSpec := { name := "fnExactTopOf", fn := fun _ => fun
  | [d1, d2] => { results := [.lit (.bool false)], args := [d1, d2] }
  | _ => none }
def FnExactTopOfWrongFalsely : Prop := fnExactTopOfRow.holds Try.pinned (OpenSpec.ofChange fnExactTopOfWrong)

/-- 'laws.FnExactAggOf': WHATEVER THE INPUT: true; the input reads as it did. -/
def fnExactAggOfSpec : ChangeSpec := { name := "fnExactAggOf", fn := fun _ => fun
  | [d] => { results := [.lit (.bool true)], args := [d] }
  | _ => none }
def fnExactAggOfRow : OpenClaim := { program := "ytnnahpmnkpmopaa", sum := "d11ad0862e57986e354edd8a99a62f27a1067b56c5b17c928d8568fbab99dd80", func := "loop.example/g00699/laws.FnExactAggOf", spec := "fnExactAggOf", inPlace := ["math/bits.Add64"], unfollowed := true, recurses := true, apart := false }
def FnExactAggOfSaid : Prop := fnExactAggOfRow.holds Try.pinned (OpenSpec.ofChange fnExactAggOfSpec)

/-- ITS FALSE NEIGHBOUR: 'it returns false'. Refute it at one input. -/
def fnExactAggOfWrong : ChangeSpec := { name := "fnExactAggOf", fn := fun _ => fun
  | [d] => { results := [.lit (.bool false)], args := [d] }
  | _ => none }
def FnExactAggOfWrongFalsely : Prop := fnExactAggOfRow.holds Try.pinned (OpenSpec.ofChange fnExactAggOfWrong)

/-- 'laws.FnExactAggJoin': WHATEVER THE INPUT: true; the input reads as it did. -/
def fnExactAggJoinSpec : ChangeSpec := { name := "fnExactAggJoin", fn := fun _ => fun
  | [d1, d2] => { results := [.lit (.bool true)], args := [d1, d2] }
  | _ => none }
def fnExactAggJoinRow : OpenClaim := { program := "ytnnahpmnkpmopaa", sum := "d11ad0862e57986e354edd8a99a62f27a1067b56c5b17c928d8568fbab99dd80", func := "loop.example/g00699/laws.FnExactAggJoin", spec := "fnExactAggJoin", inPlace := ["math/bits.Add64"], unfollowed := true, recurses := true, apart := false }
def FnExactAggJoinSaid : Prop := fnExactAggJoinRow.holds Try.pinned (OpenSpec.ofChange fnExactAggJoinSpec)

/-- ITS FALSE NEIGHBOUR: 'it returns false'. Refute it at one input. -/
def fnExactAggJoinWrong : ChangeSpec := { name := "fnExactAggJoin", fn := fun _ => fun
  | [d1, d2] => { results := [.lit (.bool false)], args := [d1, d2] }
  | _ => none }
def FnExactAggJoinWrongFalsely : Prop := fnExactAggJoinRow.holds Try.pinned (OpenSpec.ofChange fnExactAggJoinWrong)

/- THE SECOND FORM. 'bulk': how many values and letters a reading holds, each counted each time it is reached (what is shared counts as often as it is met; a slice's spare places count too). A statement '..UptoSaid' is the law's where the arguments, and the package variables that the reading takes, are together of bulk at most 1048576: NARROWER than '..Said'. Prove '..Said' where nothing that the law and all that it calls make is longer than what came in: it says more and counts as full. Else prove '..UptoSaid'. A law counts once. -/
mutual
def uptoBulk {H : Type} : DataW H → Nat
  | .lit (.string bytes) => bytes.length + 1
  | .lit _ => 1
  | .nil => 1
  | .ptr d => uptoBulk d + 1
  | .slice elems spare => uptoBulkAll elems + uptoBulkAll spare + 1
  | .agg parts => uptoBulkAll parts + 1
  | .iface _ d => uptoBulk d + 1
  | .map entries => uptoBulkEntries entries + 1
  | .held _ => 1
def uptoBulkAll {H : Type} : List (DataW H) → Nat
  | [] => 0
  | d :: r => uptoBulk d + uptoBulkAll r
def uptoBulkEntries {H : Type} : List (Lit × DataW H) → Nat
  | [] => 0
  | x :: r => uptoBulkEntry x + uptoBulkEntries r
def uptoBulkEntry {H : Type} : Lit × DataW H → Nat
  | (.string bytes, d) => bytes.length + uptoBulk d + 1
  | (_, d) => uptoBulk d + 1
 end
def uptoSmall : (H : Type) → List (DataW H) → Bool := fun _ ds => decide (uptoBulkAll ds ≤ 1048576)
def OpenSpec.upto (s : _root_.Go.ChangeSpec) : _root_.Go.OpenSpec := { _root_.Go.OpenSpec.ofChange s with cond := some uptoSmall }

/-- 'laws.FnExactAggOk', WHERE WHAT IT READS IS OF BULK AT MOST 1048576: true; the input reads as it did. -/
def fnExactAggOkUptoRow : OpenClaim := { program := "ytnnahpmnkpmopaa", sum := "d11ad0862e57986e354edd8a99a62f27a1067b56c5b17c928d8568fbab99dd80", func := "loop.example/g00699/laws.FnExactAggOk", spec := "fnExactAggOk", inPlace := ["math/bits.Add64"], apart := false, narrowed := true }
def FnExactAggOkUptoSaid : Prop := fnExactAggOkUptoRow.holds Try.pinned (OpenSpec.upto fnExactAggOkSpec)

/-- 'laws.FnExactAggDone', WHERE WHAT IT READS IS OF BULK AT MOST 1048576: true; the input reads as it did. -/
def fnExactAggDoneUptoRow : OpenClaim := { program := "ytnnahpmnkpmopaa", sum := "d11ad0862e57986e354edd8a99a62f27a1067b56c5b17c928d8568fbab99dd80", func := "loop.example/g00699/laws.FnExactAggDone", spec := "fnExactAggDone", inPlace := ["math/bits.Add64"], named := ["math/bits.divideError", "math/bits.overflowError"], apart := false, narrowed := true }
def FnExactAggDoneUptoSaid : Prop := fnExactAggDoneUptoRow.holds Try.pinned (OpenSpec.upto fnExactAggDoneSpec)

/-- 'laws.FnExactTopOf', WHERE WHAT IT READS IS OF BULK AT MOST 1048576: true; the input reads as it did. -/
def fnExactTopOfUptoRow : OpenClaim := { program := "ytnnahpmnkpmopaa", sum := "d11ad0862e57986e354edd8a99a62f27a1067b56c5b17c928d8568fbab99dd80", func := "loop.example/g00699/laws.FnExactTopOf", spec := "fnExactTopOf", unfollowed := true, recurses := true, apart := false, narrowed := true }
def FnExactTopOfUptoSaid : Prop := fnExactTopOfUptoRow.holds Try.pinned (OpenSpec.upto fnExactTopOfSpec)

/-- 'laws.FnExactAggOf', WHERE WHAT IT READS IS OF BULK AT MOST 1048576: true; the input reads as it did. -/
def fnExactAggOfUptoRow : OpenClaim := { program := "ytnnahpmnkpmopaa", sum := "d11ad0862e57986e354edd8a99a62f27a1067b56c5b17c928d8568fbab99dd80", func := "loop.example/g00699/laws.FnExactAggOf", spec := "fnExactAggOf", inPlace := ["math/bits.Add64"], unfollowed := true, recurses := true, apart := false, narrowed := true }
def FnExactAggOfUptoSaid : Prop := fnExactAggOfUptoRow.holds Try.pinned (OpenSpec.upto fnExactAggOfSpec)

/-- 'laws.FnExactAggJoin', WHERE WHAT IT READS IS OF BULK AT MOST 1048576: true; the input reads as it did. -/
def fnExactAggJoinUptoRow : OpenClaim := { program := "ytnnahpmnkpmopaa", sum := "d11ad0862e57986e354edd8a99a62f27a1067b56c5b17c928d8568fbab99dd80", func := "loop.example/g00699/laws.FnExactAggJoin", spec := "fnExactAggJoin", inPlace := ["math/bits.Add64"], unfollowed := true, recurses := true, apart := false, narrowed := true }
def FnExactAggJoinUptoSaid : Prop := fnExactAggJoinUptoRow.holds Try.pinned (OpenSpec.upto fnExactAggJoinSpec)

end Rows
end Go.Proofs.Ytnnahpmnkpmopaa
