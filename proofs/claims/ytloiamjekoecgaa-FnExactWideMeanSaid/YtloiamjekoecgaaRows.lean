/-
  No cell of these rows narrows 'for every input' (looked for: loops, veiled, ifaces, maps, wideKeys, modest, calm, conditions, laid).
  DERIVED. THE GIVEN ROWS OF THIS SEAT. 4 by the template 'for every input the law returns true; each argument reads behind the call as it read before'; 0 by the template 'total and deterministic' (their statements: YtloiamjekoecgaaTotals.lean).
  GIVEN WITH THE SEED: the statements are not yours to turn. If you find one false, say at which input.
  Laid BY PROGRAM, IN A SANDBOX (cutbox-rows.mjs): the forced cells as the released guide's own fill.sh prints them over the translation 2bf8ee2e72aa79d0… (all of the seat's roots in one cut). By AI agents, Wed Nov 11 2026. No macro, syntax, notation, axiom, sorry.
-/
import Derived.Test.YtloiamjekoecgaaChecked
import GoSem.Claim
import GoSem.ClaimJoined
import GoSem.ClaimMapViews
import Derived.JoinedTies
import Derived.KernelRfl
namespace Go.Proofs.Ytloiamjekoecgaa
/- THE CELL 'sum', in the pinned program and in every row, IS THE sha256 OF THE DUMP (.gsa) THAT YtloiamjekoecgaaProg.lean LOADS. Nothing in Lean hashes anything: it is a label: what it is worth is what the hold of that sum in a sandbox is worth. -/
noncomputable def Try.pinned : Pinned := { name := "ytloiamjekoecgaa", sum := "2bf8ee2e72aa79d0d45e0d604f38773daa496073dfedbbc7cf5522f05ed5721a", checked := Try.checked }
namespace Rows
def none {H : Type} : Left H := { results := [], args := [] }

/-- 'laws.FnExactExprDepth': WHATEVER THE INPUT: true; the input reads as it did. -/
def fnExactExprDepthSpec : ChangeSpec := { name := "fnExactExprDepth", fn := fun _ => fun
  | [d] => { results := [.lit (.bool true)], args := [d] }
  | _ => none }
def fnExactExprDepthRow : OpenClaim := { program := "ytloiamjekoecgaa", sum := "2bf8ee2e72aa79d0d45e0d604f38773daa496073dfedbbc7cf5522f05ed5721a", func := "loop.example/g00699/laws.FnExactExprDepth", spec := "fnExactExprDepth", apart := false }
def FnExactExprDepthSaid : Prop := fnExactExprDepthRow.holds Try.pinned (OpenSpec.ofChange fnExactExprDepthSpec)

/-- ITS FALSE NEIGHBOUR: 'it returns false'. Refute it at one input. -/
def fnExactExprDepthWrong : ChangeSpec := { name := "fnExactExprDepth", fn := fun _ => fun
  | [d] => { results := [.lit (.bool false)], args := [d] }
  | _ => none }
def FnExactExprDepthWrongFalsely : Prop := fnExactExprDepthRow.holds Try.pinned (OpenSpec.ofChange fnExactExprDepthWrong)

/-- 'laws.FnExactExprOk': WHATEVER THE INPUT: true; the input reads as it did. -/
def fnExactExprOkSpec : ChangeSpec := { name := "fnExactExprOk", fn := fun _ => fun
  | [d] => { results := [.lit (.bool true)], args := [d] }
  | _ => none }
def fnExactExprOkRow : OpenClaim := { program := "ytloiamjekoecgaa", sum := "2bf8ee2e72aa79d0d45e0d604f38773daa496073dfedbbc7cf5522f05ed5721a", func := "loop.example/g00699/laws.FnExactExprOk", spec := "fnExactExprOk", apart := false }
def FnExactExprOkSaid : Prop := fnExactExprOkRow.holds Try.pinned (OpenSpec.ofChange fnExactExprOkSpec)

/-- ITS FALSE NEIGHBOUR: 'it returns false'. Refute it at one input. -/
def fnExactExprOkWrong : ChangeSpec := { name := "fnExactExprOk", fn := fun _ => fun
  | [d] => { results := [.lit (.bool false)], args := [d] }
  | _ => none }
def FnExactExprOkWrongFalsely : Prop := fnExactExprOkRow.holds Try.pinned (OpenSpec.ofChange fnExactExprOkWrong)

/-- 'laws.FnExactExprRun': WHATEVER THE INPUT: true; the input reads as it did. -/
def fnExactExprRunSpec : ChangeSpec := { name := "fnExactExprRun", fn := fun _ => fun
  | [d1, d2] => { results := [.lit (.bool true)], args := [d1, d2] }
  | _ => none }
def fnExactExprRunRow : OpenClaim := { program := "ytloiamjekoecgaa", sum := "2bf8ee2e72aa79d0d45e0d604f38773daa496073dfedbbc7cf5522f05ed5721a", func := "loop.example/g00699/laws.FnExactExprRun", spec := "fnExactExprRun", apart := false }
def FnExactExprRunSaid : Prop := fnExactExprRunRow.holds Try.pinned (OpenSpec.ofChange fnExactExprRunSpec)

/-- ITS FALSE NEIGHBOUR: 'it returns false'. Refute it at one input. -/
def fnExactExprRunWrong : ChangeSpec := { name := "fnExactExprRun", fn := fun _ => fun
  | [d1, d2] => { results := [.lit (.bool false)], args := [d1, d2] }
  | _ => none }
def FnExactExprRunWrongFalsely : Prop := fnExactExprRunRow.holds Try.pinned (OpenSpec.ofChange fnExactExprRunWrong)

/-- 'laws.FnExactWideMean': WHATEVER THE INPUT: true; the input reads as it did. -/
def fnExactWideMeanSpec : ChangeSpec := { name := "fnExactWideMean", fn := fun _ => fun
  | [d1, d2] => { results := [.lit (.bool true)], args := [d1, d2] }
  | _ => none }
def fnExactWideMeanRow : OpenClaim := { program := "ytloiamjekoecgaa", sum := "2bf8ee2e72aa79d0d45e0d604f38773daa496073dfedbbc7cf5522f05ed5721a", func := "loop.example/g00699/laws.FnExactWideMean", spec := "fnExactWideMean", inPlace := ["math/bits.Add64"], named := ["math/bits.divideError", "math/bits.overflowError"], apart := false }
def FnExactWideMeanSaid : Prop := fnExactWideMeanRow.holds Try.pinned (OpenSpec.ofChange fnExactWideMeanSpec)

/-- ITS FALSE NEIGHBOUR: 'it returns false'. Refute it at one input. -/
def fnExactWideMeanWrong : ChangeSpec := { name := "fnExactWideMean", fn := fun _ => fun
  | [d1, d2] => { results := [.lit (.bool false)], args := [d1, d2] }
  | _ => none }
def FnExactWideMeanWrongFalsely : Prop := fnExactWideMeanRow.holds Try.pinned (OpenSpec.ofChange fnExactWideMeanWrong)

/- THE SECOND FORM. 'bulk': how many values and letters a reading holds, each counted each time it is reached (what is shared counts as often as it is met; a slice's spare places count too). A statement '..UptoSaid' is the law's where the arguments, and the package variables that the reading takes, are together of bulk at most 1048576: NARROWER than '..Said'. Prove '..Said' where nothing that the law and all that it calls make is longer than what came in: it says more and counts as full. Else prove '..UptoSaid'. A law counts once. -/
mutual
def uptoBulk {H : Type} : DataW H → Nat
  | .lit (.string bytes) => bytes.length + 1
  | .lit _ => 1
  | .nil => 1
  | .ptr d => uptoBulk d + 1
  | .slice elems spare => uptoBulkAll elems + uptoBulkAll spare + 1
  | .agg parts => uptoBulkAll parts + 1
  | .iface _ d => uptoBulk d + 1
  | .map entries => uptoBulkEntries entries + 1
  | .held _ => 1
def uptoBulkAll {H : Type} : List (DataW H) → Nat
  | [] => 0
  | d :: r => uptoBulk d + uptoBulkAll r
def uptoBulkEntries {H : Type} : List (Lit × DataW H) → Nat
  | [] => 0
  | x :: r => uptoBulkEntry x + uptoBulkEntries r
def uptoBulkEntry {H : Type} : Lit × DataW H → Nat
  | (.string bytes, d) => bytes.length + uptoBulk d + 1
  | (_, d) => uptoBulk d + 1
 end
def uptoSmall : (H : Type) → List (DataW H) → Bool := fun _ ds => decide (uptoBulkAll ds ≤ 1048576)
def OpenSpec.upto (s : _root_.Go.ChangeSpec) : _root_.Go.OpenSpec := { _root_.Go.OpenSpec.ofChange s with cond := some uptoSmall }

/-- 'laws.FnExactExprDepth', WHERE WHAT IT READS IS OF BULK AT MOST 1048576: true; the input reads as it did. -/
def fnExactExprDepthUptoRow : OpenClaim := { program := "ytloiamjekoecgaa", sum := "2bf8ee2e72aa79d0d45e0d604f38773daa496073dfedbbc7cf5522f05ed5721a", func := "loop.example/g00699/laws.FnExactExprDepth", spec := "fnExactExprDepth", apart := false, narrowed := true }
def FnExactExprDepthUptoSaid : Prop := fnExactExprDepthUptoRow.holds Try.pinned (OpenSpec.upto fnExactExprDepthSpec)

/-- 'laws.FnExactExprOk', WHERE WHAT IT READS IS OF BULK AT MOST 1048576: true; the input reads as it did. -/
def fnExactExprOkUptoRow : OpenClaim := { program := "ytloiamjekoecgaa", sum := "2bf8ee2e72aa79d0d45e0d604f38773daa496073dfedbbc7cf5522f05ed5721a", func := "loop.example/g00699/laws.FnExactExprOk", spec := "fnExactExprOk", apart := false, narrowed := true }
def FnExactExprOkUptoSaid : Prop := fnExactExprOkUptoRow.holds Try.pinned (OpenSpec.upto fnExactExprOkSpec)

/-- 'laws.FnExactExprRun', WHERE WHAT IT READS IS OF BULK AT MOST 1048576: true; the input reads as it did. -/
def fnExactExprRunUptoRow : OpenClaim := { program := "ytloiamjekoecgaa", sum := "2bf8ee2e72aa79d0d45e0d604f38773daa496073dfedbbc7cf5522f05ed5721a", func := "loop.example/g00699/laws.FnExactExprRun", spec := "fnExactExprRun", apart := false, narrowed := true }
def FnExactExprRunUptoSaid : Prop := fnExactExprRunUptoRow.holds Try.pinned (OpenSpec.upto fnExactExprRunSpec)

/-- 'laws.FnExactWideMean', WHERE WHAT IT READS IS OF BULK AT MOST 1048576: true; the input reads as it did. -/
def fnExactWideMeanUptoRow : OpenClaim := { program := "ytloiamjekoecgaa", sum := "2bf8ee2e72aa79d0d45e0d604f38773daa496073dfedbbc7cf5522f05ed5721a", func := "loop.example/g00699/laws.FnExactWideMean", spec := "fnExactWideMean", inPlace := ["math/bits.Add64"], named := ["math/bits.divideError", "math/bits.overflowError"], apart := false, narrowed := true }
def FnExactWideMeanUptoSaid : Prop := fnExactWideMeanUptoRow.holds Try.pinned (OpenSpec.upto fnExactWideMeanSpec)

end Rows
end Go.Proofs.Ytloiamjekoecgaa
