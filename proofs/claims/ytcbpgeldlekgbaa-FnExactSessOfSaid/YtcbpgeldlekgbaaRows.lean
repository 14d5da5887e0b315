/-
  No cell of these rows narrows 'for every input' (looked for: loops, veiled, ifaces, maps, wideKeys, modest, calm, conditions, laid).
  DERIVED. THE GIVEN ROWS OF THIS SEAT. 12 by the template 'for every input the law returns true; each argument reads behind the call as it read before'; 0 by the template 'total and deterministic' (their statements: YtcbpgeldlekgbaaTotals.lean).
  GIVEN WITH THE SEED: the statements are not yours to turn. If you find one false, say at which input.
  Laid BY PROGRAM, IN A SANDBOX (cutbox-rows.mjs): the forced cells as the released guide's own fill.sh prints them over the translation a131e1a32cff6a03… (all of the seat's roots in one cut). By AI agents, Wed Nov 11 2026. No macro, syntax, notation, axiom, sorry.
-/
import Derived.Test.YtcbpgeldlekgbaaChecked
import GoSem.Claim
import GoSem.ClaimJoined
import GoSem.ClaimMapViews
import Derived.JoinedTies
import Derived.KernelRfl
namespace Go.Proofs.Ytcbpgeldlekgbaa
/- THE CELL 'sum', in the pinned program and in every row, IS THE sha256 OF THE DUMP (.gsa) THAT YtcbpgeldlekgbaaProg.lean LOADS. Nothing in Lean hashes anything: it is a label: what it is worth is what the hold of that sum in a sandbox is worth. -/
noncomputable def Try.pinned : Pinned := { name := "ytcbpgeldlekgbaa", sum := "a131e1a32cff6a035ed1223783073390ac520a434ffd4a5f28210373d80b9de3", checked := Try.checked }
namespace Rows
def none {H : Type} : Left H := { results := [], args := [] }

/-- 'laws.FnExactMarksNew': WHATEVER THE INPUT: true; the input reads as it did. -/
def fnExactMarksNewSpec : ChangeSpec := { name := "fnExactMarksNew", fn := fun _ => fun
  | [d] => { results := [.lit (.bool true)], args := [d] }
  | _ => none }
def fnExactMarksNewRow : OpenClaim := { program := "ytcbpgeldlekgbaa", sum := "a131e1a32cff6a035ed1223783073390ac520a434ffd4a5f28210373d80b9de3", func := "loop.example/g00699/laws.FnExactMarksNew", spec := "fnExactMarksNew", apart := false }
def FnExactMarksNewSaid : Prop := fnExactMarksNewRow.holds Try.pinned (OpenSpec.ofChange fnExactMarksNewSpec)

/-- ITS FALSE NEIGHBOUR: 'it returns false'. Refute it at one input. -/
def fnExactMarksNewWrong : ChangeSpec := { name := "fnExactMarksNew", fn := fun _ => fun
  | [d] => { results := [.lit (.bool false)], args := [d] }
  | _ => none }
def FnExactMarksNewWrongFalsely : Prop := fnExactMarksNewRow.holds Try.pinned (OpenSpec.ofChange fnExactMarksNewWrong)

/-- 'laws.FnExactMarksLeast': WHATEVER THE INPUT: true; the input reads as it did. -/
def fnExactMarksLeastSpec : ChangeSpec := { name := "fnExactMarksLeast", fn := fun _ => fun
  | [d] => { results := [.lit (.bool true)], args := [d] }
  | _ => none }
def fnExactMarksLeastRow : OpenClaim := { program := "ytcbpgeldlekgbaa", sum := "a131e1a32cff6a035ed1223783073390ac520a434ffd4a5f28210373d80b9de3", func := "loop.example/g00699/laws.FnExactMarksLeast", spec := "fnExactMarksLeast", apart := false }
def FnExactMarksLeastSaid : Prop := fnExactMarksLeastRow.holds Try.pinned (OpenSpec.ofChange fnExactMarksLeastSpec)

/-- ITS FALSE NEIGHBOUR: 'it returns false'. Refute it at one input. -/
def fnExactMarksLeastWrong : ChangeSpec := { name := "fnExactMarksLeast", fn := fun _ => fun
  | [d] => { results := [.lit (.bool false)], args := [d] }
  | _ => none }
def FnExactMarksLeastWrongFalsely : Prop := fnExactMarksLeastRow.holds Try.pinned (OpenSpec.ofChange fnExactMarksLeastWrong)

/-- 'laws.FnExactSessAt': WHATEVER THE INPUT: true; the input reads as it did. -/
def fnExactSessAtSpec : ChangeSpec := { name := "fnExactSessAt", fn := fun _ => fun
  | [d1, d2] => { results := [.lit (.bool true)], args := [d1, d2] }
  | _ => none }
def fnExactSessAtRow : OpenClaim := { program := "ytcbpgeldlekgbaa", sum := "a131e1a32cff6a035ed1223783073390ac520a434ffd4a5f28210373d80b9de3", func := "loop.example/g00699/laws.FnExactSessAt", spec := "fnExactSessAt", apart := false }
def FnExactSessAtSaid : Prop := fnExactSessAtRow.holds Try.pinned (OpenSpec.ofChange fnExactSessAtSpec)

/-- ITS FALSE NEIGHBOUR: 'it returns false'. Refute it at one input. -/
def fnExactSessAtWrong : ChangeSpec := { name := "fnExactSessAt", fn := fun _ => fun
  | [d1, d2] => { results := [.lit (.bool false)], args := [d1, d2] }
  | _ => none }
def FnExactSessAtWrongFalsely : Prop := fnExactSessAtRow.holds Try.pinned (OpenSpec.ofChange fnExactSessAtWrong)

/-- 'laws.FnExactPaneOk': WHATEVER THE INPUT: true; the input reads as it did. -/
def fnExactPaneOkSpec : ChangeSpec := { name := "fnExactPaneOk", fn := fun _ => fun
  | [d] => { results := [.lit (.bool true)], args := [d] }
  | _ => none }
def fnExactPaneOkRow : OpenClaim := { program := "ytcbpgeldlekgbaa", sum := "a131e1a32cff6a035ed1223783073390ac520a434ffd4a5f28210373d80b9de3", func := "loop.example/g00699/laws.FnExactPaneOk", spec := "fnExactPaneOk", apart := false }
def FnExactPaneOkSaid : Prop := fnExactPaneOkRow.holds Try.pinned (OpenSpec.ofChange fnExactPaneOkSpec)

/-- ITS FALSE NEIGHBOUR: 'it returns false'. Refute it at one input. -/
def fnExactPaneOkWrong : ChangeSpec := { name := "fnExactPaneOk", fn := fun _ => fun
  | [d] => { results := [.lit (.bool false)], args := [d] }
  | _ => none }
def FnExactPaneOkWrongFalsely : Prop := fnExactPaneOkRow.holds Try.pinned (OpenSpec.ofChange fnExactPaneOkWrong)

/-- 'laws.FnExactMarksOk': WHATEVER THE INPUT: true; the input reads as it did. -/
def fnExactMarksOkSpec : ChangeSpec := { name := "fnExactMarksOk", fn := fun _ => fun
  | [d] => { results := [.lit (.bool true)], args := [d] }
  | _ => none }
def fnExactMarksOkRow : OpenClaim := { program := "ytcbpgeldlekgbaa", sum := "a131e1a32cff6a035ed1223783073390ac520a434ffd4a5f28210373d80b9de3", func := "loop.example/g00699/laws.FnExactMarksOk", spec := "fnExactMarksOk", apart := false }
def FnExactMarksOkSaid : Prop := fnExactMarksOkRow.holds Try.pinned (OpenSpec.ofChange fnExactMarksOkSpec)

/-- ITS FALSE NEIGHBOUR: 'it returns false'. Refute it at one input. -/
def fnExactMarksOkWrong : ChangeSpec := { name := "fnExactMarksOk", fn := fun _ => fun
  | [d] => { results := [.lit (.bool false)], args := [d] }
  | _ => none }
def FnExactMarksOkWrongFalsely : Prop := fnExactMarksOkRow.holds Try.pinned (OpenSpec.ofChange fnExactMarksOkWrong)

/-- 'laws.FnExactMarksLate': WHATEVER THE INPUT: true; the input reads as it did. -/
def fnExactMarksLateSpec : ChangeSpec := { name := "fnExactMarksLate", fn := fun _ => fun
  | [d1, d2] => { results := [.lit (.bool true)], args := [d1, d2] }
  | _ => none }
def fnExactMarksLateRow : OpenClaim := { program := "ytcbpgeldlekgbaa", sum := "a131e1a32cff6a035ed1223783073390ac520a434ffd4a5f28210373d80b9de3", func := "loop.example/g00699/laws.FnExactMarksLate", spec := "fnExactMarksLate", apart := false }
def FnExactMarksLateSaid : Prop := fnExactMarksLateRow.holds Try.pinned (OpenSpec.ofChange fnExactMarksLateSpec)

/-- ITS FALSE NEIGHBOUR: 'it returns false'. Refute it at one input. -/
def fnExactMarksLateWrong : ChangeSpec := { name := "fnExactMarksLate", fn := fun _ => fun
  | [d1, d2] => { results := [.lit (.bool false)], args := [d1, d2] }
  | _ => none }
def FnExactMarksLateWrongFalsely : Prop := fnExactMarksLateRow.holds Try.pinned (OpenSpec.ofChange fnExactMarksLateWrong)

/-- 'laws.FnExactWinsOf': WHATEVER THE INPUT: true; the input reads as it did. -/
def fnExactWinsOfSpec : ChangeSpec := { name := "fnExactWinsOf", fn := fun _ => fun
  | [d1, d2] => { results := [.lit (.bool true)], args := [d1, d2] }
  | _ => none }
def fnExactWinsOfRow : OpenClaim := { program := "ytcbpgeldlekgbaa", sum := "a131e1a32cff6a035ed1223783073390ac520a434ffd4a5f28210373d80b9de3", func := "loop.example/g00699/laws.FnExactWinsOf", spec := "fnExactWinsOf", apart := false }
def FnExactWinsOfSaid : Prop := fnExactWinsOfRow.holds Try.pinned (OpenSpec.ofChange fnExactWinsOfSpec)

/-- ITS FALSE NEIGHBOUR: 'it returns false'. Refute it at one input. -/
def fnExactWinsOfWrong : ChangeSpec := { name := "fnExactWinsOf", fn := fun _ => fun
  | [d1, d2] => { results := [.lit (.bool false)], args := [d1, d2] }
  | _ => none }
def FnExactWinsOfWrongFalsely : Prop := fnExactWinsOfRow.holds Try.pinned (OpenSpec.ofChange fnExactWinsOfWrong)

/-- 'laws.FnExactSessAdd': WHATEVER THE INPUT: true; the input reads as it did. -/
def fnExactSessAddSpec : ChangeSpec := { name := "fnExactSessAdd", fn := fun _ => fun
  | [d1, d2] => { results := [.lit (.bool true)], args := [d1, d2] }
  | _ => none }
def fnExactSessAddRow : OpenClaim := { program := "ytcbpgeldlekgbaa", sum := "a131e1a32cff6a035ed1223783073390ac520a434ffd4a5f28210373d80b9de3", func := "loop.example/g00699/laws.FnExactSessAdd", spec := "fnExactSessAdd", apart := false }
def FnExactSessAddSaid : Prop := fnExactSessAddRow.holds Try.pinned (OpenSpec.ofChange fnExactSessAddSpec)

/-- ITS FALSE NEIGHBOUR: 'it returns false'. Refute it at one input. -/
def fnExactSessAddWrong : ChangeSpec := { name := "fnExactSessAdd", fn := fun _ => fun
  | [d1, d2] => { results := [.lit (.bool false)], args := [d1, d2] }
  | _ => none }
def FnExactSessAddWrongFalsely : Prop := fnExactSessAddRow.holds Try.pinned (OpenSpec.ofChange fnExactSessAddWrong)

/-- 'laws.FnExactSessJoin': WHATEVER THE INPUT: true; the input reads as it did. -/
def fnExactSessJoinSpec : ChangeSpec := { name := "fnExactSessJoin", fn := fun _ => fun
  | [d1, d2] => { results := [.lit (.bool true)], args := [d1, d2] }
  | _ => none }
def fnExactSessJoinRow : OpenClaim := { program := "ytcbpgeldlekgbaa", sum := "a131e1a32cff6a035ed1223783073390ac520a434ffd4a5f28210373d80b9de3", func := "loop.example/g00699/laws.FnExactSessJoin", spec := "fnExactSessJoin", apart := false }
def FnExactSessJoinSaid : Prop := fnExactSessJoinRow.holds Try.pinned (OpenSpec.ofChange fnExactSessJoinSpec)

/-- ITS FALSE NEIGHBOUR: 'it returns false'. Refute it at one input. -/
def fnExactSessJoinWrong : ChangeSpec := { name := "fnExactSessJoin", fn := fun _ => fun
  | [d1, d2] => { results := [.lit (.bool false)], args := [d1, d2] }
  | _ => none }
def FnExactSessJoinWrongFalsely : Prop := fnExactSessJoinRow.holds Try.pinned (OpenSpec.ofChange fnExactSessJoinWrong)

/-- 'laws.FnExactMarkIdle': WHATEVER THE INPUT: true; the input reads as it did. -/
def fnExactMarkIdleSpec : ChangeSpec := { name := "fnExactMarkIdle", fn := fun _ => fun
  | [d1, d2, d3] => { results := [.lit (.bool true)], args := [d1, d2, d3] }
  | _ => none }
def fnExactMarkIdleRow : OpenClaim := { program := "ytcbpgeldlekgbaa", sum := "a131e1a32cff6a035ed1223783073390ac520a434ffd4a5f28210373d80b9de3", func := "loop.example/g00699/laws.FnExactMarkIdle", spec := "fnExactMarkIdle", apart := false }
def FnExactMarkIdleSaid : Prop := fnExactMarkIdleRow.holds Try.pinned (OpenSpec.ofChange fnExactMarkIdleSpec)

/-- ITS FALSE NEIGHBOUR: 'it returns false'. Refute it at one input. -/
def fnExactMarkIdleWrong : ChangeSpec := { name := "fnExactMarkIdle", fn := fun _ => fun
  | [d1, d2, d3] => { results := [.lit (.bool false)], args := [d1, d2, d3] }
  | _ => none }
def FnExactMarkIdleWrongFalsely : Prop := fnExactMarkIdleRow.holds Try.pinned (OpenSpec.ofChange fnExactMarkIdleWrong)

/-- 'laws.FnExactMarkSet': WHATEVER THE INPUT: true; the input reads as it did. -/
def fnExactMarkSetSpec : ChangeSpec := { name := "fnExactMarkSet", fn := fun _ => fun
  | [d1, d2, d3] => { results := [.lit (.bool true)], args := [d1, d2, d3] }
  | _ => none }
def fnExactMarkSetRow : OpenClaim := { program := "ytcbpgeldlekgbaa", sum := "a131e1a32cff6a035ed1223783073390ac520a434ffd4a5f28210373d80b9de3", func := "loop.example/g00699/laws.FnExactMarkSet", spec := "fnExactMarkSet", apart := false }
def FnExactMarkSetSaid : Prop := fnExactMarkSetRow.holds Try.pinned (OpenSpec.ofChange fnExactMarkSetSpec)

/-- ITS FALSE NEIGHBOUR: 'it returns false'. Refute it at one input. -/
def fnExactMarkSetWrong : ChangeSpec := { name := "fnExactMarkSet", fn := fun _ => fun
  | [d1, d2, d3] => { results := [.lit (.bool false)], args := [d1, d2, d3] }
  | _ => none }
def FnExactMarkSetWrongFalsely : Prop := fnExactMarkSetRow.holds Try.pinned (OpenSpec.ofChange fnExactMarkSetWrong)

/-- 'laws.FnExactSessOf': WHATEVER THE INPUT: true; the input reads as it did. -/
def fnExactSessOfSpec : ChangeSpec := { name := "fnExactSessOf", fn := fun _ => fun
  | [d1, d2] => { results := [.lit (.bool true)], args := [d1, d2] }
  | _ => none }
def fnExactSessOfRow : OpenClaim := { program := "ytcbpgeldlekgbaa", sum := "a131e1a32cff6a035ed1223783073390ac520a434ffd4a5f28210373d80b9de3", func := "loop.example/g00699/laws.FnExactSessOf", spec := "fnExactSessOf", apart := false }
def FnExactSessOfSaid : Prop := fnExactSessOfRow.holds Try.pinned (OpenSpec.ofChange fnExactSessOfSpec)

/-- ITS FALSE NEIGHBOUR: 'it returns false'. Refute it at one input. -/
def fnExactSessOfWrong : ChangeSpec := { name := "fnExactSessOf", fn := fun _ => fun
  | [d1, d2] => { results := [.lit (.bool false)], args := [d1, d2] }
  | _ => none }
def FnExactSessOfWrongFalsely : Prop := fnExactSessOfRow.holds Try.pinned (OpenSpec.ofChange fnExactSessOfWrong)

/- THE SECOND FORM. 'bulk': how many values and letters a reading holds, each counted each time it is reached (what is shared counts as often as it is met; a slice's spare places count too). A statement '..UptoSaid' is the law's where the arguments, and the package variables that the reading takes, are together of bulk at most 1048576: NARROWER than '..Said'. Prove '..Said' where nothing that the law and all that it calls make is longer than what came in: it says more and counts as full. Else prove '..UptoSaid'. A law counts once. -/
mutual
def uptoBulk {H : Type} : DataW H → Nat
  | .lit (.string bytes) => bytes.length + 1
  | .lit _ => 1
  | .nil => 1
  | .ptr d => uptoBulk d + 1
  | .slice elems spare => uptoBulkAll elems + uptoBulkAll spare + 1
  | .agg parts => uptoBulkAll parts + 1
  | .iface _ d => uptoBulk d + 1
  | .map entries => uptoBulkEntries entries + 1
  | .held _ => 1
def uptoBulkAll {H : Type} : List (DataW H) → Nat
  | [] => 0
  | d :: r => uptoBulk d + uptoBulkAll r
def uptoBulkEntries {H : Type} : List (Lit × DataW H) → Nat
  | [] => 0
  | x :: r => uptoBulkEntry x + uptoBulkEntries r
def uptoBulkEntry {H : Type} : Lit × DataW H → Nat
  | (.string bytes, d) => bytes.length + uptoBulk d + 1
  | (_, d) => uptoBulk d + 1
 end
def uptoSmall : (H : Type) → List (DataW H) → Bool := fun _ ds => decide (uptoBulkAll ds ≤ 1048576)
def OpenSpec.upto (s : _root_.Go.ChangeSpec) : _root_.Go.OpenSpec := { _root_.Go.OpenSpec.ofChange s with cond := some uptoSmall }

/-- 'laws.FnExactMarksNew', WHERE WHAT IT READS IS OF BULK AT MOST 1048576: true; the input reads as it did. -/
def fnExactMarksNewUptoRow : OpenClaim := { program := "ytcbpgeldlekgbaa", sum := "a131e1a32cff6a035ed1223783073390ac520a434ffd4a5f28210373d80b9de3", func := "loop.example/g00699/laws.FnExactMarksNew", spec := "fnExactMarksNew", apart := false, narrowed := true }
def FnExactMarksNewUptoSaid : Prop := fnExactMarksNewUptoRow.holds Try.pinned (OpenSpec.upto fnExactMarksNewSpec)

/-- 'laws.FnExactMarksLeast', WHERE WHAT IT READS IS OF BULK AT MOST 1048576: true; the input reads as it did. -/
def fnExactMarksLeastUptoRow : OpenClaim := { program := "ytcbpgeldlekgbaa", sum := "a131e1a32cff6a035ed1223783073390ac520a434ffd4a5f28210373d80b9de3", func := "loop.example/g00699/laws.FnExactMarksLeast", spec := "fnExactMarksLeast", apart := false, narrowed := true }
def FnExactMarksLeastUptoSaid : Prop := fnExactMarksLeastUptoRow.holds Try.pinned (OpenSpec.upto fnExactMarksLeastSpec)

/-- 'laws.FnExactSessAt', WHERE WHAT IT READS IS OF BULK AT MOST 1048576: true; the input reads as it did. -/
def fnExactSessAtUptoRow : OpenClaim := { program := "ytcbpgeldlekgbaa", sum := "a131e1a32cff6a035ed1223783073390ac520a434ffd4a5f28210373d80b9de3", func := "loop.example/g00699/laws.FnExactSessAt", spec := "fnExactSessAt", apart := false, narrowed := true }
def FnExactSessAtUptoSaid : Prop := fnExactSessAtUptoRow.holds Try.pinned (OpenSpec.upto fnExactSessAtSpec)

/-- 'laws.FnExactPaneOk', WHERE WHAT IT READS IS OF BULK AT MOST 1048576: true; the input reads as it did. -/
def fnExactPaneOkUptoRow : OpenClaim := { program := "ytcbpgeldlekgbaa", sum := "a131e1a32cff6a035ed1223783073390ac520a434ffd4a5f28210373d80b9de3", func := "loop.example/g00699/laws.FnExactPaneOk", spec := "fnExactPaneOk", apart := false, narrowed := true }
def FnExactPaneOkUptoSaid : Prop := fnExactPaneOkUptoRow.holds Try.pinned (OpenSpec.upto fnExactPaneOkSpec)

/-- 'laws.FnExactMarksOk', WHERE WHAT IT READS IS OF BULK AT MOST 1048576: true; the input reads as it did. -/
def fnExactMarksOkUptoRow : OpenClaim := { program := "ytcbpgeldlekgbaa", sum := "a131e1a32cff6a035ed1223783073390ac520a434ffd4a5f28210373d80b9de3", func := "loop.example/g00699/laws.FnExactMarksOk", spec := "fnExactMarksOk", apart := false, narrowed := true }
def FnExactMarksOkUptoSaid : Prop := fnExactMarksOkUptoRow.holds Try.pinned (OpenSpec.upto fnExactMarksOkSpec)

/-- 'laws.FnExactMarksLate', WHERE WHAT IT READS IS OF BULK AT MOST 1048576: true; the input reads as it did. -/
def fnExactMarksLateUptoRow : OpenClaim := { program := "ytcbpgeldlekgbaa", sum := "a131e1a32cff6a035ed1223783073390ac520a434ffd4a5f28210373d80b9de3", func := "loop.example/g00699/laws.FnExactMarksLate", spec := "fnExactMarksLate", apart := false, narrowed := true }
def FnExactMarksLateUptoSaid : Prop := fnExactMarksLateUptoRow.holds Try.pinned (OpenSpec.upto fnExactMarksLateSpec)

/-- 'laws.FnExactWinsOf', WHERE WHAT IT READS IS OF BULK AT MOST 1048576: true; the input reads as it did. -/
def fnExactWinsOfUptoRow : OpenClaim := { program := "ytcbpgeldlekgbaa", sum := "a131e1a32cff6a035ed1223783073390ac520a434ffd4a5f28210373d80b9de3", func := "loop.example/g00699/laws.FnExactWinsOf", spec := "fnExactWinsOf", apart := false, narrowed := true }
def FnExactWinsOfUptoSaid : Prop := fnExactWinsOfUptoRow.holds Try.pinned (OpenSpec.upto fnExactWinsOfSpec)

/-- 'laws.FnExactSessAdd', WHERE WHAT IT READS IS OF BULK AT MOST 1048576: true; the input reads as it did. -/
def fnExactSessAddUptoRow : OpenClaim := { program := "ytcbpgeldlekgbaa", sum := "a131e1a32cff6a035ed1223783073390ac520a434ffd4a5f28210373d80b9de3", func := "loop.example/g00699/laws.FnExactSessAdd", spec := "fnExactSessAdd", apart := false, narrowed := true }
def FnExactSessAddUptoSaid : Prop := fnExactSessAddUptoRow.holds Try.pinned (OpenSpec.upto fnExactSessAddSpec)

/-- 'laws.FnExactSessJoin', WHERE WHAT IT READS IS OF BULK AT MOST 1048576: true; the input reads as it did. -/
def fnExactSessJoinUptoRow : OpenClaim := { program := "ytcbpgeldlekgbaa", sum := "a131e1a32cff6a035ed1223783073390ac520a434ffd4a5f28210373d80b9de3", func := "loop.example/g00699/laws.FnExactSessJoin", spec := "fnExactSessJoin", apart := false, narrowed := true }
def FnExactSessJoinUptoSaid : Prop := fnExactSessJoinUptoRow.holds Try.pinned (OpenSpec.upto fnExactSessJoinSpec)

/-- 'laws.FnExactMarkIdle', WHERE WHAT IT READS IS OF BULK AT MOST 1048576: true; the input reads as it did. -/
def fnExactMarkIdleUptoRow : OpenClaim := { program := "ytcbpgeldlekgbaa", sum := "a131e1a32cff6a035ed1223783073390ac520a434ffd4a5f28210373d80b9de3", func := "loop.example/g00699/laws.FnExactMarkIdle", spec := "fnExactMarkIdle", apart := false, narrowed := true }
def FnExactMarkIdleUptoSaid : Prop := fnExactMarkIdleUptoRow.holds Try.pinned (OpenSpec.upto fnExactMarkIdleSpec)

/-- 'laws.FnExactMarkSet', WHERE WHAT IT READS IS OF BULK AT MOST 1048576: true; the input reads as it did. -/
def fnExactMarkSetUptoRow : OpenClaim := { program := "ytcbpgeldlekgbaa", sum := "a131e1a32cff6a035ed1223783073390ac520a434ffd4a5f28210373d80b9de3", func := "loop.example/g00699/laws.FnExactMarkSet", spec := "fnExactMarkSet", apart := false, narrowed := true }
def FnExactMarkSetUptoSaid : Prop := fnExactMarkSetUptoRow.holds Try.pinned (OpenSpec.upto fnExactMarkSetSpec)

/-- 'laws.FnExactSessOf', WHERE WHAT IT READS IS OF BULK AT MOST 1048576: true; the input reads as it did. -/
def fnExactSessOfUptoRow : OpenClaim := { program := "ytcbpgeldlekgbaa", sum := "a131e1a32cff6a035ed1223783073390ac520a434ffd4a5f28210373d80b9de3", func := "loop.example/g00699/laws.FnExactSessOf", spec := "fnExactSessOf", apart := false, narrowed := true }
def FnExactSessOfUptoSaid : Prop := fnExactSessOfUptoRow.holds Try.pinned (OpenSpec.upto fnExactSessOfSpec)

end Rows
end Go.Proofs.Ytcbpgeldlekgbaa
