/-
  No cell of these rows narrows 'for every input' (looked for: loops, veiled, ifaces, maps, wideKeys, modest, calm, conditions, laid).
  DERIVED. THE GIVEN ROWS OF THIS SEAT. 12 by the template 'for every input the law returns true; each argument reads behind the call as it read before'; 0 by the template 'total and deterministic' (their statements: YtfcnceombcgkhaaTotals.lean).
  GIVEN WITH THE SEED: the statements are not yours to turn. If you find one false, say at which input.
  Laid BY PROGRAM, IN A SANDBOX (cutbox-rows.mjs): the forced cells as the released guide's own fill.sh prints them over the translation e8da9d1c431abe12… (all of the seat's roots in one cut). By AI agents, Wed Nov 11 2026. No macro, syntax, notation, axiom, sorry.
-/
import Derived.Test.YtfcnceombcgkhaaChecked
import GoSem.Claim
import GoSem.ClaimJoined
import GoSem.ClaimMapViews
import Derived.JoinedTies
import Derived.KernelRfl
namespace Go.Proofs.Ytfcnceombcgkhaa
/- THE CELL 'sum', in the pinned program and in every row, IS THE sha256 OF THE DUMP (.gsa) THAT YtfcnceombcgkhaaProg.lean LOADS. Nothing in Lean hashes anything: it is a label: what it is worth is what the hold of that sum in a sandbox is worth. -/
noncomputable def Try.pinned : Pinned := { name := "ytfcnceombcgkhaa", sum := "e8da9d1c431abe12392745a12a113a5edf98d672adbcb3f51cc13d590077b3fa", checked := Try.checked }
namespace Rows
def none {H : Type} : Left H := { results := [], args := [] }

/-- 'laws.FnExactConstants': WHATEVER THE INPUT: true; the input reads as it did. -/
def fnExactConstantsSpec : ChangeSpec := { name := "fnExactConstants", fn := fun _ => fun
  | [] => { results := [.lit (.bool true)], args := [] }
  | _ => none }
def fnExactConstantsRow : OpenClaim := { program := "ytfcnceombcgkhaa", sum := "e8da9d1c431abe12392745a12a113a5edf98d672adbcb3f51cc13d590077b3fa", func := "loop.example/g00699/laws.FnExactConstants", spec := "fnExactConstants", apart := false }
def FnExactConstantsSaid : Prop := fnExactConstantsRow.holds Try.pinned (OpenSpec.ofChange fnExactConstantsSpec)

/-- ITS FALSE NEIGHBOUR: 'it returns false'. Refute it at one input. -/
def fnExactConstantsWrong : ChangeSpec := { name := "fnExactConstants", fn := fun _ => fun
  | [] => { results := [.lit (.bool false)], args := [] }
  | _ => none }
def FnExactConstantsWrongFalsely : Prop := fnExactConstantsRow.holds Try.pinned (OpenSpec.ofChange fnExactConstantsWrong)

/-- 'laws.FnExactWideOf': WHATEVER THE INPUT: true; the input reads as it did. -/
def fnExactWideOfSpec : ChangeSpec := { name := "fnExactWideOf", fn := fun _ => fun
  | [d] => { results := [.lit (.bool true)], args := [d] }
  | _ => none }
def fnExactWideOfRow : OpenClaim := { program := "ytfcnceombcgkhaa", sum := "e8da9d1c431abe12392745a12a113a5edf98d672adbcb3f51cc13d590077b3fa", func := "loop.example/g00699/laws.FnExactWideOf", spec := "fnExactWideOf", apart := false }
def FnExactWideOfSaid : Prop := fnExactWideOfRow.holds Try.pinned (OpenSpec.ofChange fnExactWideOfSpec)

/-- ITS FALSE NEIGHBOUR: 'it returns false'. Refute it at one input. -/
def fnExactWideOfWrong : ChangeSpec := { name := "fnExactWideOf", fn := fun _ => fun
  | [d] => { results := [.lit (.bool false)], args := [d] }
  | _ => none }
def FnExactWideOfWrongFalsely : Prop := fnExactWideOfRow.holds Try.pinned (OpenSpec.ofChange fnExactWideOfWrong)

/-- 'laws.FnExactAggKind': WHATEVER THE INPUT: true; the input reads as it did. -/
def fnExactAggKindSpec : ChangeSpec := { name := "fnExactAggKind", fn := fun _ => fun
  | [d1, d2] => { results := [.lit (.bool true)], args := [d1, d2] }
  | _ => none }
def fnExactAggKindRow : OpenClaim := { program := "ytfcnceombcgkhaa", sum := "e8da9d1c431abe12392745a12a113a5edf98d672adbcb3f51cc13d590077b3fa", func := "loop.example/g00699/laws.FnExactAggKind", spec := "fnExactAggKind", apart := false }
def FnExactAggKindSaid : Prop := fnExactAggKindRow.holds Try.pinned (OpenSpec.ofChange fnExactAggKindSpec)

/-- ITS FALSE NEIGHBOUR: 'it returns false'. Refute it at one input. -/
def fnExactAggKindWrong : ChangeSpec := { name := "fnExactAggKind", fn := fun _ => fun
  | [d1, d2] => { results := [.lit (.bool false)], args := [d1, d2] }
  | _ => none }
def FnExactAggKindWrongFalsely : Prop := fnExactAggKindRow.holds Try.pinned (OpenSpec.ofChange fnExactAggKindWrong)

/-- 'laws.FnExactWideInt': WHATEVER THE INPUT: true; the input reads as it did. -/
def fnExactWideIntSpec : ChangeSpec := { name := "fnExactWideInt", fn := fun _ => fun
  | [d] => { results := [.lit (.bool true)], args := [d] }
  | _ => none }
def fnExactWideIntRow : OpenClaim := { program := "ytfcnceombcgkhaa", sum := "e8da9d1c431abe12392745a12a113a5edf98d672adbcb3f51cc13d590077b3fa", func := "loop.example/g00699/laws.FnExactWideInt", spec := "fnExactWideInt", apart := false }
def FnExactWideIntSaid : Prop := fnExactWideIntRow.holds Try.pinned (OpenSpec.ofChange fnExactWideIntSpec)

/-- ITS FALSE NEIGHBOUR: 'it returns false'. Refute it at one input. -/
def fnExactWideIntWrong : ChangeSpec := { name := "fnExactWideInt", fn := fun _ => fun
  | [d] => { results := [.lit (.bool false)], args := [d] }
  | _ => none }
def FnExactWideIntWrongFalsely : Prop := fnExactWideIntRow.holds Try.pinned (OpenSpec.ofChange fnExactWideIntWrong)

/-- 'laws.FnExactElemOk': WHATEVER THE INPUT: true; the input reads as it did. -/
def fnExactElemOkSpec : ChangeSpec := { name := "fnExactElemOk", fn := fun _ => fun
  | [d] => { results := [.lit (.bool true)], args := [d] }
  | _ => none }
def fnExactElemOkRow : OpenClaim := { program := "ytfcnceombcgkhaa", sum := "e8da9d1c431abe12392745a12a113a5edf98d672adbcb3f51cc13d590077b3fa", func := "loop.example/g00699/laws.FnExactElemOk", spec := "fnExactElemOk", apart := false }
def FnExactElemOkSaid : Prop := fnExactElemOkRow.holds Try.pinned (OpenSpec.ofChange fnExactElemOkSpec)

/-- ITS FALSE NEIGHBOUR: 'it returns false'. Refute it at one input. -/
def fnExactElemOkWrong : ChangeSpec := { name := "fnExactElemOk", fn := fun _ => fun
  | [d] => { results := [.lit (.bool false)], args := [d] }
  | _ => none }
def FnExactElemOkWrongFalsely : Prop := fnExactElemOkRow.holds Try.pinned (OpenSpec.ofChange fnExactElemOkWrong)

/-- 'laws.FnExactWinOk': WHATEVER THE INPUT: true; the input reads as it did. -/
def fnExactWinOkSpec : ChangeSpec := { name := "fnExactWinOk", fn := fun _ => fun
  | [d] => { results := [.lit (.bool true)], args := [d] }
  | _ => none }
def fnExactWinOkRow : OpenClaim := { program := "ytfcnceombcgkhaa", sum := "e8da9d1c431abe12392745a12a113a5edf98d672adbcb3f51cc13d590077b3fa", func := "loop.example/g00699/laws.FnExactWinOk", spec := "fnExactWinOk", apart := false }
def FnExactWinOkSaid : Prop := fnExactWinOkRow.holds Try.pinned (OpenSpec.ofChange fnExactWinOkSpec)

/-- ITS FALSE NEIGHBOUR: 'it returns false'. Refute it at one input. -/
def fnExactWinOkWrong : ChangeSpec := { name := "fnExactWinOk", fn := fun _ => fun
  | [d] => { results := [.lit (.bool false)], args := [d] }
  | _ => none }
def FnExactWinOkWrongFalsely : Prop := fnExactWinOkRow.holds Try.pinned (OpenSpec.ofChange fnExactWinOkWrong)

/-- 'laws.FnExactWideAdd': WHATEVER THE INPUT: true; the input reads as it did. -/
def fnExactWideAddSpec : ChangeSpec := { name := "fnExactWideAdd", fn := fun _ => fun
  | [d1, d2] => { results := [.lit (.bool true)], args := [d1, d2] }
  | _ => none }
def fnExactWideAddRow : OpenClaim := { program := "ytfcnceombcgkhaa", sum := "e8da9d1c431abe12392745a12a113a5edf98d672adbcb3f51cc13d590077b3fa", func := "loop.example/g00699/laws.FnExactWideAdd", spec := "fnExactWideAdd", inPlace := ["math/bits.Add64"], apart := false }
def FnExactWideAddSaid : Prop := fnExactWideAddRow.holds Try.pinned (OpenSpec.ofChange fnExactWideAddSpec)

/-- ITS FALSE NEIGHBOUR: 'it returns false'. Refute it at one input. -/
def fnExactWideAddWrong : ChangeSpec := { name := "fnExactWideAdd", fn := fun _ => fun
  | [d1, d2] => { results := [.lit (.bool false)], args := [d1, d2] }
  | _ => none }
def FnExactWideAddWrongFalsely : Prop := fnExactWideAddRow.holds Try.pinned (OpenSpec.ofChange fnExactWideAddWrong)

/-- 'laws.FnExactWideNeg': WHATEVER THE INPUT: true; the input reads as it did. -/
def fnExactWideNegSpec : ChangeSpec := { name := "fnExactWideNeg", fn := fun _ => fun
  | [d] => { results := [.lit (.bool true)], args := [d] }
  | _ => none }
def fnExactWideNegRow : OpenClaim := { program := "ytfcnceombcgkhaa", sum := "e8da9d1c431abe12392745a12a113a5edf98d672adbcb3f51cc13d590077b3fa", func := "loop.example/g00699/laws.FnExactWideNeg", spec := "fnExactWideNeg", inPlace := ["math/bits.Add64"], apart := false }
def FnExactWideNegSaid : Prop := fnExactWideNegRow.holds Try.pinned (OpenSpec.ofChange fnExactWideNegSpec)

/-- ITS FALSE NEIGHBOUR: 'it returns false'. Refute it at one input. -/
def fnExactWideNegWrong : ChangeSpec := { name := "fnExactWideNeg", fn := fun _ => fun
  | [d] => { results := [.lit (.bool false)], args := [d] }
  | _ => none }
def FnExactWideNegWrongFalsely : Prop := fnExactWideNegRow.holds Try.pinned (OpenSpec.ofChange fnExactWideNegWrong)

/-- 'laws.FnExactPunctHas': WHATEVER THE INPUT: true; the input reads as it did. -/
def fnExactPunctHasSpec : ChangeSpec := { name := "fnExactPunctHas", fn := fun _ => fun
  | [d1, d2, d3] => { results := [.lit (.bool true)], args := [d1, d2, d3] }
  | _ => none }
def fnExactPunctHasRow : OpenClaim := { program := "ytfcnceombcgkhaa", sum := "e8da9d1c431abe12392745a12a113a5edf98d672adbcb3f51cc13d590077b3fa", func := "loop.example/g00699/laws.FnExactPunctHas", spec := "fnExactPunctHas", apart := false }
def FnExactPunctHasSaid : Prop := fnExactPunctHasRow.holds Try.pinned (OpenSpec.ofChange fnExactPunctHasSpec)

/-- ITS FALSE NEIGHBOUR: 'it returns false'. Refute it at one input. -/
def fnExactPunctHasWrong : ChangeSpec := { name := "fnExactPunctHas", fn := fun _ => fun
  | [d1, d2, d3] => { results := [.lit (.bool false)], args := [d1, d2, d3] }
  | _ => none }
def FnExactPunctHasWrongFalsely : Prop := fnExactPunctHasRow.holds Try.pinned (OpenSpec.ofChange fnExactPunctHasWrong)

/-- 'laws.FnExactWideCmp': WHATEVER THE INPUT: true; the input reads as it did. -/
def fnExactWideCmpSpec : ChangeSpec := { name := "fnExactWideCmp", fn := fun _ => fun
  | [d1, d2] => { results := [.lit (.bool true)], args := [d1, d2] }
  | _ => none }
def fnExactWideCmpRow : OpenClaim := { program := "ytfcnceombcgkhaa", sum := "e8da9d1c431abe12392745a12a113a5edf98d672adbcb3f51cc13d590077b3fa", func := "loop.example/g00699/laws.FnExactWideCmp", spec := "fnExactWideCmp", apart := false }
def FnExactWideCmpSaid : Prop := fnExactWideCmpRow.holds Try.pinned (OpenSpec.ofChange fnExactWideCmpSpec)

/-- ITS FALSE NEIGHBOUR: 'it returns false'. Refute it at one input. -/
def fnExactWideCmpWrong : ChangeSpec := { name := "fnExactWideCmp", fn := fun _ => fun
  | [d1, d2] => { results := [.lit (.bool false)], args := [d1, d2] }
  | _ => none }
def FnExactWideCmpWrongFalsely : Prop := fnExactWideCmpRow.holds Try.pinned (OpenSpec.ofChange fnExactWideCmpWrong)

/-- 'laws.FnExactSessOk': WHATEVER THE INPUT: true; the input reads as it did. -/
def fnExactSessOkSpec : ChangeSpec := { name := "fnExactSessOk", fn := fun _ => fun
  | [d] => { results := [.lit (.bool true)], args := [d] }
  | _ => none }
def fnExactSessOkRow : OpenClaim := { program := "ytfcnceombcgkhaa", sum := "e8da9d1c431abe12392745a12a113a5edf98d672adbcb3f51cc13d590077b3fa", func := "loop.example/g00699/laws.FnExactSessOk", spec := "fnExactSessOk", apart := false }
def FnExactSessOkSaid : Prop := fnExactSessOkRow.holds Try.pinned (OpenSpec.ofChange fnExactSessOkSpec)

/-- ITS FALSE NEIGHBOUR: 'it returns false'. Refute it at one input. -/
def fnExactSessOkWrong : ChangeSpec := { name := "fnExactSessOk", fn := fun _ => fun
  | [d] => { results := [.lit (.bool false)], args := [d] }
  | _ => none }
def FnExactSessOkWrongFalsely : Prop := fnExactSessOkRow.holds Try.pinned (OpenSpec.ofChange fnExactSessOkWrong)

/-- 'laws.FnExactPaneLess': WHATEVER THE INPUT: true; the input reads as it did. -/
def fnExactPaneLessSpec : ChangeSpec := { name := "fnExactPaneLess", fn := fun _ => fun
  | [d1, d2] => { results := [.lit (.bool true)], args := [d1, d2] }
  | _ => none }
def fnExactPaneLessRow : OpenClaim := { program := "ytfcnceombcgkhaa", sum := "e8da9d1c431abe12392745a12a113a5edf98d672adbcb3f51cc13d590077b3fa", func := "loop.example/g00699/laws.FnExactPaneLess", spec := "fnExactPaneLess", apart := false }
def FnExactPaneLessSaid : Prop := fnExactPaneLessRow.holds Try.pinned (OpenSpec.ofChange fnExactPaneLessSpec)

/-- ITS FALSE NEIGHBOUR: 'it returns false'. Refute it at one input. -/
def fnExactPaneLessWrong : ChangeSpec := { name := "fnExactPaneLess", fn := fun _ => fun
  | [d1, d2] => { results := [.lit (.bool false)], args := [d1, d2] }
  | _ => none }
def FnExactPaneLessWrongFalsely : Prop := fnExactPaneLessRow.holds Try.pinned (OpenSpec.ofChange fnExactPaneLessWrong)

/- THE SECOND FORM. 'bulk': how many values and letters a reading holds, each counted each time it is reached (what is shared counts as often as it is met; a slice's spare places count too). A statement '..UptoSaid' is the law's where the arguments, and the package variables that the reading takes, are together of bulk at most 1048576: NARROWER than '..Said'. Prove '..Said' where nothing that the law and all that it calls make is longer than what came in: it says more and counts as full. Else prove '..UptoSaid'. A law counts once. -/
mutual
def uptoBulk {H : Type} : DataW H → Nat
  | .lit (.string bytes) => bytes.length + 1
  | .lit _ => 1
  | .nil => 1
  | .ptr d => uptoBulk d + 1
  | .slice elems spare => uptoBulkAll elems + uptoBulkAll spare + 1
  | .agg parts => uptoBulkAll parts + 1
  | .iface _ d => uptoBulk d + 1
  | .map entries => uptoBulkEntries entries + 1
  | .held _ => 1
def uptoBulkAll {H : Type} : List (DataW H) → Nat
  | [] => 0
  | d :: r => uptoBulk d + uptoBulkAll r
def uptoBulkEntries {H : Type} : List (Lit × DataW H) → Nat
  | [] => 0
  | x :: r => uptoBulkEntry x + uptoBulkEntries r
def uptoBulkEntry {H : Type} : Lit × DataW H → Nat
  | (.string bytes, d) => bytes.length + uptoBulk d + 1
  | (_, d) => uptoBulk d + 1
 end
def uptoSmall : (H : Type) → List (DataW H) → Bool := fun _ ds => decide (uptoBulkAll ds ≤ 1048576)
def OpenSpec.upto (s : _root_.Go.ChangeSpec) : _root_.Go.OpenSpec := { _root_.Go.OpenSpec.ofChange s with cond := some uptoSmall }

/-- 'laws.FnExactConstants', WHERE WHAT IT READS IS OF BULK AT MOST 1048576: true; the input reads as it did. -/
def fnExactConstantsUptoRow : OpenClaim := { program := "ytfcnceombcgkhaa", sum := "e8da9d1c431abe12392745a12a113a5edf98d672adbcb3f51cc13d590077b3fa", func := "loop.example/g00699/laws.FnExactConstants", spec := "fnExactConstants", apart := false, narrowed := true }
def FnExactConstantsUptoSaid : Prop := fnExactConstantsUptoRow.holds Try.pinned (OpenSpec.upto fnExactConstantsSpec)

/-- 'laws.FnExactWideOf', WHERE WHAT IT READS IS OF BULK AT MOST 1048576: true; the input reads as it did. -/
def fnExactWideOfUptoRow : OpenClaim := { program := "ytfcnceombcgkhaa", sum := "e8da9d1c431abe12392745a12a113a5edf98d672adbcb3f51cc13d590077b3fa", func := "loop.example/g00699/laws.FnExactWideOf", spec := "fnExactWideOf", apart := false, narrowed := true }
def FnExactWideOfUptoSaid : Prop := fnExactWideOfUptoRow.holds Try.pinned (OpenSpec.upto fnExactWideOfSpec)

/-- 'laws.FnExactAggKind', WHERE WHAT IT READS IS OF BULK AT MOST 1048576: true; the input reads as it did. -/
def fnExactAggKindUptoRow : OpenClaim := { program := "ytfcnceombcgkhaa", sum := "e8da9d1c431abe12392745a12a113a5edf98d672adbcb3f51cc13d590077b3fa", func := "loop.example/g00699/laws.FnExactAggKind", spec := "fnExactAggKind", apart := false, narrowed := true }
def FnExactAggKindUptoSaid : Prop := fnExactAggKindUptoRow.holds Try.pinned (OpenSpec.upto fnExactAggKindSpec)

/-- 'laws.FnExactWideInt', WHERE WHAT IT READS IS OF BULK AT MOST 1048576: true; the input reads as it did. -/
def fnExactWideIntUptoRow : OpenClaim := { program := "ytfcnceombcgkhaa", sum := "e8da9d1c431abe12392745a12a113a5edf98d672adbcb3f51cc13d590077b3fa", func := "loop.example/g00699/laws.FnExactWideInt", spec := "fnExactWideInt", apart := false, narrowed := true }
def FnExactWideIntUptoSaid : Prop := fnExactWideIntUptoRow.holds Try.pinned (OpenSpec.upto fnExactWideIntSpec)

/-- 'laws.FnExactElemOk', WHERE WHAT IT READS IS OF BULK AT MOST 1048576: true; the input reads as it did. -/
def fnExactElemOkUptoRow : OpenClaim := { program := "ytfcnceombcgkhaa", sum := "e8da9d1c431abe12392745a12a113a5edf98d672adbcb3f51cc13d590077b3fa", func := "loop.example/g00699/laws.FnExactElemOk", spec := "fnExactElemOk", apart := false, narrowed := true }
def FnExactElemOkUptoSaid : Prop := fnExactElemOkUptoRow.holds Try.pinned (OpenSpec.upto fnExactElemOkSpec)

/-- 'laws.FnExactWinOk', WHERE WHAT IT READS IS OF BULK AT MOST 1048576: true; the input reads as it did. -/
def fnExactWinOkUptoRow : OpenClaim := { program := "ytfcnceombcgkhaa", sum := "e8da9d1c431abe12392745a12a113a5edf98d672adbcb3f51cc13d590077b3fa", func := "loop.example/g00699/laws.FnExactWinOk", spec := "fnExactWinOk", apart := false, narrowed := true }
def FnExactWinOkUptoSaid : Prop := fnExactWinOkUptoRow.holds Try.pinned (OpenSpec.upto fnExactWinOkSpec)

/-- 'laws.FnExactWideAdd', WHERE WHAT IT READS IS OF BULK AT MOST 1048576: true; the input reads as it did. -/
def fnExactWideAddUptoRow : OpenClaim := { program := "ytfcnceombcgkhaa", sum := "e8da9d1c431abe12392745a12a113a5edf98d672adbcb3f51cc13d590077b3fa", func := "loop.example/g00699/laws.FnExactWideAdd", spec := "fnExactWideAdd", inPlace := ["math/bits.Add64"], apart := false, narrowed := true }
def FnExactWideAddUptoSaid : Prop := fnExactWideAddUptoRow.holds Try.pinned (OpenSpec.upto fnExactWideAddSpec)

/-- 'laws.FnExactWideNeg', WHERE WHAT IT READS IS OF BULK AT MOST 1048576: true; the input reads as it did. -/
def fnExactWideNegUptoRow : OpenClaim := { program := "ytfcnceombcgkhaa", sum := "e8da9d1c431abe12392745a12a113a5edf98d672adbcb3f51cc13d590077b3fa", func := "loop.example/g00699/laws.FnExactWideNeg", spec := "fnExactWideNeg", inPlace := ["math/bits.Add64"], apart := false, narrowed := true }
def FnExactWideNegUptoSaid : Prop := fnExactWideNegUptoRow.holds Try.pinned (OpenSpec.upto fnExactWideNegSpec)

/-- 'laws.FnExactPunctHas', WHERE WHAT IT READS IS OF BULK AT MOST 1048576: true; the input reads as it did. -/
def fnExactPunctHasUptoRow : OpenClaim := { program := "ytfcnceombcgkhaa", sum := "e8da9d1c431abe12392745a12a113a5edf98d672adbcb3f51cc13d590077b3fa", func := "loop.example/g00699/laws.FnExactPunctHas", spec := "fnExactPunctHas", apart := false, narrowed := true }
def FnExactPunctHasUptoSaid : Prop := fnExactPunctHasUptoRow.holds Try.pinned (OpenSpec.upto fnExactPunctHasSpec)

/-- 'laws.FnExactWideCmp', WHERE WHAT IT READS IS OF BULK AT MOST 1048576: true; the input reads as it did. -/
def fnExactWideCmpUptoRow : OpenClaim := { program := "ytfcnceombcgkhaa", sum := "e8da9d1c431abe12392745a12a113a5edf98d672adbcb3f51cc13d590077b3fa", func := "loop.example/g00699/laws.FnExactWideCmp", spec := "fnExactWideCmp", apart := false, narrowed := true }
def FnExactWideCmpUptoSaid : Prop := fnExactWideCmpUptoRow.holds Try.pinned (OpenSpec.upto fnExactWideCmpSpec)

/-- 'laws.FnExactSessOk', WHERE WHAT IT READS IS OF BULK AT MOST 1048576: true; the input reads as it did. -/
def fnExactSessOkUptoRow : OpenClaim := { program := "ytfcnceombcgkhaa", sum := "e8da9d1c431abe12392745a12a113a5edf98d672adbcb3f51cc13d590077b3fa", func := "loop.example/g00699/laws.FnExactSessOk", spec := "fnExactSessOk", apart := false, narrowed := true }
def FnExactSessOkUptoSaid : Prop := fnExactSessOkUptoRow.holds Try.pinned (OpenSpec.upto fnExactSessOkSpec)

/-- 'laws.FnExactPaneLess', WHERE WHAT IT READS IS OF BULK AT MOST 1048576: true; the input reads as it did. -/
def fnExactPaneLessUptoRow : OpenClaim := { program := "ytfcnceombcgkhaa", sum := "e8da9d1c431abe12392745a12a113a5edf98d672adbcb3f51cc13d590077b3fa", func := "loop.example/g00699/laws.FnExactPaneLess", spec := "fnExactPaneLess", apart := false, narrowed := true }
def FnExactPaneLessUptoSaid : Prop := fnExactPaneLessUptoRow.holds Try.pinned (OpenSpec.upto fnExactPaneLessSpec)

end Rows
end Go.Proofs.Ytfcnceombcgkhaa
