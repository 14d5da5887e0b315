/-
  No cell of these rows narrows 'for every input' (looked for: loops, veiled, ifaces, maps, wideKeys, modest, calm, conditions, laid).
  DERIVED. THE GIVEN ROWS OF THIS SEAT. 14 by the template 'for every input the law returns true; each argument reads behind the call as it read before'; 0 by the template 'total and deterministic' (their statements: YtdpoliolinghfaaTotals.lean).
  GIVEN WITH THE SEED: the statements are not yours to turn. If you find one false, say at which input.
  Laid BY PROGRAM, IN A SANDBOX (cutbox-rows.mjs): the forced cells as the released guide's own fill.sh prints them over the translation e12bdacab21deb90… (all of the seat's roots in one cut). By AI agents, Wed Nov 11 2026. No macro, syntax, notation, axiom, sorry.
-/
import Derived.Test.YtdpoliolinghfaaChecked
import GoSem.Claim
import GoSem.ClaimJoined
import GoSem.ClaimMapViews
import Derived.JoinedTies
import Derived.KernelRfl
namespace Go.Proofs.Ytdpoliolinghfaa
/- THE CELL 'sum', in the pinned program and in every row, IS THE sha256 OF THE DUMP (.gsa) THAT YtdpoliolinghfaaProg.lean LOADS. Nothing in Lean hashes anything: it is a label: what it is worth is what the hold of that sum in a sandbox is worth. -/
noncomputable def Try.pinned : Pinned := { name := "ytdpoliolinghfaa", sum := "e12bdacab21deb9029ac777355b6fb28a2762be481bcf4873461defaec7fba41", checked := Try.checked }
namespace Rows
def none {H : Type} : Left H := { results := [], args := [] }

/-- 'laws.FnExactLatOk': WHATEVER THE INPUT: true; the input reads as it did. -/
def fnExactLatOkSpec : ChangeSpec := { name := "fnExactLatOk", fn := fun _ => fun
  | [d] => { results := [.lit (.bool true)], args := [d] }
  | _ => none }
def fnExactLatOkRow : OpenClaim := { program := "ytdpoliolinghfaa", sum := "e12bdacab21deb9029ac777355b6fb28a2762be481bcf4873461defaec7fba41", func := "loop.example/g00699/laws.FnExactLatOk", spec := "fnExactLatOk", unfollowed := true, recurses := true, apart := false }
def FnExactLatOkSaid : Prop := fnExactLatOkRow.holds Try.pinned (OpenSpec.ofChange fnExactLatOkSpec)

/-- ITS FALSE NEIGHBOUR: 'it returns false'. Refute it at one input. -/
def fnExactLatOkWrong : ChangeSpec := { name := "fnExactLatOk", fn := fun _ => fun
  | [d] => { results := [.lit (.bool false)], args := [d] }
  | _ => none }
def FnExactLatOkWrongFalsely : Prop := fnExactLatOkRow.holds Try.pinned (OpenSpec.ofChange fnExactLatOkWrong)

/-- 'laws.FnExactLatLe': WHATEVER THE INPUT: true; the input reads as it did. -/
def fnExactLatLeSpec : ChangeSpec := { name := "fnExactLatLe", fn := fun _ => fun
  | [d1, d2, d3] => { results := [.lit (.bool true)], args := [d1, d2, d3] }
  | _ => none }
def fnExactLatLeRow : OpenClaim := { program := "ytdpoliolinghfaa", sum := "e12bdacab21deb9029ac777355b6fb28a2762be481bcf4873461defaec7fba41", func := "loop.example/g00699/laws.FnExactLatLe", spec := "fnExactLatLe", unfollowed := true, recurses := true, apart := false }
def FnExactLatLeSaid : Prop := fnExactLatLeRow.holds Try.pinned (OpenSpec.ofChange fnExactLatLeSpec)

/-- ITS FALSE NEIGHBOUR: 'it returns false'. Refute it at one input. -/
def fnExactLatLeWrong : ChangeSpec := { name := "fnExactLatLe", fn := fun _ => fun
  | [d1, d2, d3] => { results := [.lit (.bool false)], args := [d1, d2, d3] }
  | _ => none }
def FnExactLatLeWrongFalsely : Prop := fnExactLatLeRow.holds Try.pinned (OpenSpec.ofChange fnExactLatLeWrong)

/-- 'laws.FnExactLatMeet': WHATEVER THE INPUT: true; the input reads as it did. -/
def fnExactLatMeetSpec : ChangeSpec := { name := "fnExactLatMeet", fn := fun _ => fun
  | [d1, d2, d3] => { results := [.lit (.bool true)], args := [d1, d2, d3] }
  | _ => none }
def fnExactLatMeetRow : OpenClaim := { program := "ytdpoliolinghfaa", sum := "e12bdacab21deb9029ac777355b6fb28a2762be481bcf4873461defaec7fba41", func := "loop.example/g00699/laws.FnExactLatMeet", spec := "fnExactLatMeet", unfollowed := true, recurses := true, apart := false }
def FnExactLatMeetSaid : Prop := fnExactLatMeetRow.holds Try.pinned (OpenSpec.ofChange fnExactLatMeetSpec)

/-- ITS FALSE NEIGHBOUR: 'it returns false'. Refute it at one input. -/
def fnExactLatMeetWrong : ChangeSpec := { name := "fnExactLatMeet", fn := fun _ => fun
  | [d1, d2, d3] => { results := [.lit (.bool false)], args := [d1, d2, d3] }
  | _ => none }
def FnExactLatMeetWrongFalsely : Prop := fnExactLatMeetRow.holds Try.pinned (OpenSpec.ofChange fnExactLatMeetWrong)

/-- 'laws.FnExactLatEnds': WHATEVER THE INPUT: true; the input reads as it did. -/
def fnExactLatEndsSpec : ChangeSpec := { name := "fnExactLatEnds", fn := fun _ => fun
  | [d] => { results := [.lit (.bool true)], args := [d] }
  | _ => none }
def fnExactLatEndsRow : OpenClaim := { program := "ytdpoliolinghfaa", sum := "e12bdacab21deb9029ac777355b6fb28a2762be481bcf4873461defaec7fba41", func := "loop.example/g00699/laws.FnExactLatEnds", spec := "fnExactLatEnds", unfollowed := true, recurses := true, apart := false }
def FnExactLatEndsSaid : Prop := fnExactLatEndsRow.holds Try.pinned (OpenSpec.ofChange fnExactLatEndsSpec)

/-- ITS FALSE NEIGHBOUR: 'it returns false'. Refute it at one input. -/
def fnExactLatEndsWrong : ChangeSpec := { name := "fnExactLatEnds", fn := fun _ => fun
  | [d] => { results := [.lit (.bool false)], args := [d] }
  | _ => none }
def FnExactLatEndsWrongFalsely : Prop := fnExactLatEndsRow.holds Try.pinned (OpenSpec.ofChange fnExactLatEndsWrong)

/-- 'laws.FnExactLatJoin': WHATEVER THE INPUT: true; the input reads as it did. -/
def fnExactLatJoinSpec : ChangeSpec := { name := "fnExactLatJoin", fn := fun _ => fun
  | [d1, d2, d3] => { results := [.lit (.bool true)], args := [d1, d2, d3] }
  | _ => none }
def fnExactLatJoinRow : OpenClaim := { program := "ytdpoliolinghfaa", sum := "e12bdacab21deb9029ac777355b6fb28a2762be481bcf4873461defaec7fba41", func := "loop.example/g00699/laws.FnExactLatJoin", spec := "fnExactLatJoin", unfollowed := true, recurses := true, apart := false }
def FnExactLatJoinSaid : Prop := fnExactLatJoinRow.holds Try.pinned (OpenSpec.ofChange fnExactLatJoinSpec)

/-- ITS FALSE NEIGHBOUR: 'it returns false'. Refute it at one input. -/
def fnExactLatJoinWrong : ChangeSpec := { name := "fnExactLatJoin", fn := fun _ => fun
  | [d1, d2, d3] => { results := [.lit (.bool false)], args := [d1, d2, d3] }
  | _ => none }
def FnExactLatJoinWrongFalsely : Prop := fnExactLatJoinRow.holds Try.pinned (OpenSpec.ofChange fnExactLatJoinWrong)

/-- 'laws.FnExactLatDown': WHATEVER THE INPUT: true; the input reads as it did. -/
def fnExactLatDownSpec : ChangeSpec := { name := "fnExactLatDown", fn := fun _ => fun
  | [d1, d2] => { results := [.lit (.bool true)], args := [d1, d2] }
  | _ => none }
def fnExactLatDownRow : OpenClaim := { program := "ytdpoliolinghfaa", sum := "e12bdacab21deb9029ac777355b6fb28a2762be481bcf4873461defaec7fba41", func := "loop.example/g00699/laws.FnExactLatDown", spec := "fnExactLatDown", unfollowed := true, recurses := true, apart := false }
def FnExactLatDownSaid : Prop := fnExactLatDownRow.holds Try.pinned (OpenSpec.ofChange fnExactLatDownSpec)

/-- ITS FALSE NEIGHBOUR: 'it returns false'. Refute it at one input. -/
def fnExactLatDownWrong : ChangeSpec := { name := "fnExactLatDown", fn := fun _ => fun
  | [d1, d2] => { results := [.lit (.bool false)], args := [d1, d2] }
  | _ => none }
def FnExactLatDownWrongFalsely : Prop := fnExactLatDownRow.holds Try.pinned (OpenSpec.ofChange fnExactLatDownWrong)

/-- 'laws.FnExactLatJoinAll': WHATEVER THE INPUT: true; the input reads as it did. -/
def fnExactLatJoinAllSpec : ChangeSpec := { name := "fnExactLatJoinAll", fn := fun _ => fun
  | [d1, d2] => { results := [.lit (.bool true)], args := [d1, d2] }
  | _ => none }
def fnExactLatJoinAllRow : OpenClaim := { program := "ytdpoliolinghfaa", sum := "e12bdacab21deb9029ac777355b6fb28a2762be481bcf4873461defaec7fba41", func := "loop.example/g00699/laws.FnExactLatJoinAll", spec := "fnExactLatJoinAll", unfollowed := true, recurses := true, apart := false }
def FnExactLatJoinAllSaid : Prop := fnExactLatJoinAllRow.holds Try.pinned (OpenSpec.ofChange fnExactLatJoinAllSpec)

/-- ITS FALSE NEIGHBOUR: 'it returns false'. Refute it at one input. -/
def fnExactLatJoinAllWrong : ChangeSpec := { name := "fnExactLatJoinAll", fn := fun _ => fun
  | [d1, d2] => { results := [.lit (.bool false)], args := [d1, d2] }
  | _ => none }
def FnExactLatJoinAllWrongFalsely : Prop := fnExactLatJoinAllRow.holds Try.pinned (OpenSpec.ofChange fnExactLatJoinAllWrong)

/-- 'laws.FnExactLatEdges': WHATEVER THE INPUT: true; the input reads as it did. -/
def fnExactLatEdgesSpec : ChangeSpec := { name := "fnExactLatEdges", fn := fun _ => fun
  | [d] => { results := [.lit (.bool true)], args := [d] }
  | _ => none }
def fnExactLatEdgesRow : OpenClaim := { program := "ytdpoliolinghfaa", sum := "e12bdacab21deb9029ac777355b6fb28a2762be481bcf4873461defaec7fba41", func := "loop.example/g00699/laws.FnExactLatEdges", spec := "fnExactLatEdges", unfollowed := true, recurses := true, apart := false }
def FnExactLatEdgesSaid : Prop := fnExactLatEdgesRow.holds Try.pinned (OpenSpec.ofChange fnExactLatEdgesSpec)

/-- ITS FALSE NEIGHBOUR: 'it returns false'. Refute it at one input. -/
def fnExactLatEdgesWrong : ChangeSpec := { name := "fnExactLatEdges", fn := fun _ => fun
  | [d] => { results := [.lit (.bool false)], args := [d] }
  | _ => none }
def FnExactLatEdgesWrongFalsely : Prop := fnExactLatEdgesRow.holds Try.pinned (OpenSpec.ofChange fnExactLatEdgesWrong)

/-- 'laws.FnExactLatOf': WHATEVER THE INPUT: true; the input reads as it did. -/
def fnExactLatOfSpec : ChangeSpec := { name := "fnExactLatOf", fn := fun _ => fun
  | [d1, d2] => { results := [.lit (.bool true)], args := [d1, d2] }
  | _ => none }
def fnExactLatOfRow : OpenClaim := { program := "ytdpoliolinghfaa", sum := "e12bdacab21deb9029ac777355b6fb28a2762be481bcf4873461defaec7fba41", func := "loop.example/g00699/laws.FnExactLatOf", spec := "fnExactLatOf", unfollowed := true, recurses := true, apart := false }
def FnExactLatOfSaid : Prop := fnExactLatOfRow.holds Try.pinned (OpenSpec.ofChange fnExactLatOfSpec)

/-- ITS FALSE NEIGHBOUR: 'it returns false'. Refute it at one input. -/
def fnExactLatOfWrong : ChangeSpec := { name := "fnExactLatOf", fn := fun _ => fun
  | [d1, d2] => { results := [.lit (.bool false)], args := [d1, d2] }
  | _ => none }
def FnExactLatOfWrongFalsely : Prop := fnExactLatOfRow.holds Try.pinned (OpenSpec.ofChange fnExactLatOfWrong)

/-- 'laws.FnExactPunctOk': WHATEVER THE INPUT: true; the input reads as it did. -/
def fnExactPunctOkSpec : ChangeSpec := { name := "fnExactPunctOk", fn := fun _ => fun
  | [d1, d2] => { results := [.lit (.bool true)], args := [d1, d2] }
  | _ => none }
def fnExactPunctOkRow : OpenClaim := { program := "ytdpoliolinghfaa", sum := "e12bdacab21deb9029ac777355b6fb28a2762be481bcf4873461defaec7fba41", func := "loop.example/g00699/laws.FnExactPunctOk", spec := "fnExactPunctOk", unfollowed := true, recurses := true, apart := false }
def FnExactPunctOkSaid : Prop := fnExactPunctOkRow.holds Try.pinned (OpenSpec.ofChange fnExactPunctOkSpec)

/-- ITS FALSE NEIGHBOUR: 'it returns false'. Refute it at one input. -/
def fnExactPunctOkWrong : ChangeSpec := { name := "fnExactPunctOk", fn := fun _ => fun
  | [d1, d2] => { results := [.lit (.bool false)], args := [d1, d2] }
  | _ => none }
def FnExactPunctOkWrongFalsely : Prop := fnExactPunctOkRow.holds Try.pinned (OpenSpec.ofChange fnExactPunctOkWrong)

/-- 'laws.FnExactPolicyOk': WHATEVER THE INPUT: true; the input reads as it did. -/
def fnExactPolicyOkSpec : ChangeSpec := { name := "fnExactPolicyOk", fn := fun _ => fun
  | [d1, d2] => { results := [.lit (.bool true)], args := [d1, d2] }
  | _ => none }
def fnExactPolicyOkRow : OpenClaim := { program := "ytdpoliolinghfaa", sum := "e12bdacab21deb9029ac777355b6fb28a2762be481bcf4873461defaec7fba41", func := "loop.example/g00699/laws.FnExactPolicyOk", spec := "fnExactPolicyOk", unfollowed := true, recurses := true, apart := false }
def FnExactPolicyOkSaid : Prop := fnExactPolicyOkRow.holds Try.pinned (OpenSpec.ofChange fnExactPolicyOkSpec)

/-- ITS FALSE NEIGHBOUR: 'it returns false'. Refute it at one input. -/
def fnExactPolicyOkWrong : ChangeSpec := { name := "fnExactPolicyOk", fn := fun _ => fun
  | [d1, d2] => { results := [.lit (.bool false)], args := [d1, d2] }
  | _ => none }
def FnExactPolicyOkWrongFalsely : Prop := fnExactPolicyOkRow.holds Try.pinned (OpenSpec.ofChange fnExactPolicyOkWrong)

/-- 'laws.FnExactPolicyFor': WHATEVER THE INPUT: true; the input reads as it did. -/
def fnExactPolicyForSpec : ChangeSpec := { name := "fnExactPolicyFor", fn := fun _ => fun
  | [d1, d2, d3, d4] => { results := [.lit (.bool true)], args := [d1, d2, d3, d4] }
  | _ => none }
def fnExactPolicyForRow : OpenClaim := { program := "ytdpoliolinghfaa", sum := "e12bdacab21deb9029ac777355b6fb28a2762be481bcf4873461defaec7fba41", func := "loop.example/g00699/laws.FnExactPolicyFor", spec := "fnExactPolicyFor", unfollowed := true, recurses := true, apart := false }
def FnExactPolicyForSaid : Prop := fnExactPolicyForRow.holds Try.pinned (OpenSpec.ofChange fnExactPolicyForSpec)

/-- ITS FALSE NEIGHBOUR: 'it returns false'. Refute it at one input. -/
def fnExactPolicyForWrong : ChangeSpec := { name := "fnExactPolicyFor", fn := fun _ => fun
  | [d1, d2, d3, d4] => { results := [.lit (.bool false)], args := [d1, d2, d3, d4] }
  | _ => none }
def FnExactPolicyForWrongFalsely : Prop := fnExactPolicyForRow.holds Try.pinned (OpenSpec.ofChange fnExactPolicyForWrong)

/-- 'laws.FnExactPolicyDrop': WHATEVER THE INPUT: true; the input reads as it did. -/
def fnExactPolicyDropSpec : ChangeSpec := { name := "fnExactPolicyDrop", fn := fun _ => fun
  | [d1, d2, d3] => { results := [.lit (.bool true)], args := [d1, d2, d3] }
  | _ => none }
def fnExactPolicyDropRow : OpenClaim := { program := "ytdpoliolinghfaa", sum := "e12bdacab21deb9029ac777355b6fb28a2762be481bcf4873461defaec7fba41", func := "loop.example/g00699/laws.FnExactPolicyDrop", spec := "fnExactPolicyDrop", unfollowed := true, recurses := true, apart := false }
def FnExactPolicyDropSaid : Prop := fnExactPolicyDropRow.holds Try.pinned (OpenSpec.ofChange fnExactPolicyDropSpec)

/-- ITS FALSE NEIGHBOUR: 'it returns false'. Refute it at one input. -/
def fnExactPolicyDropWrong : ChangeSpec := { name := "fnExactPolicyDrop", fn := fun _ => fun
  | [d1, d2, d3] => { results := [.lit (.bool false)], args := [d1, d2, d3] }
  | _ => none }
def FnExactPolicyDropWrongFalsely : Prop := fnExactPolicyDropRow.holds Try.pinned (OpenSpec.ofChange fnExactPolicyDropWrong)

/-- 'laws.FnExactPolicySet': WHATEVER THE INPUT: true; the input reads as it did. -/
def fnExactPolicySetSpec : ChangeSpec := { name := "fnExactPolicySet", fn := fun _ => fun
  | [d1, d2, d3] => { results := [.lit (.bool true)], args := [d1, d2, d3] }
  | _ => none }
def fnExactPolicySetRow : OpenClaim := { program := "ytdpoliolinghfaa", sum := "e12bdacab21deb9029ac777355b6fb28a2762be481bcf4873461defaec7fba41", func := "loop.example/g00699/laws.FnExactPolicySet", spec := "fnExactPolicySet", inPlace := ["slices.overlaps[loop.example/g00699/impl.Punct]"], unfollowed := true, recurses := true, apart := false }
def FnExactPolicySetSaid : Prop := fnExactPolicySetRow.holds Try.pinned (OpenSpec.ofChange fnExactPolicySetSpec)

/-- ITS FALSE NEIGHBOUR: 'it returns false'. Refute it at one input. -/
def fnExactPolicySetWrong : ChangeSpec := { name := "fnExactPolicySet", fn := fun _ => fun
  | [d1, d2, d3] => { results := [.lit (.bool false)], args := [d1, d2, d3] }
  | _ => none }
def FnExactPolicySetWrongFalsely : Prop := fnExactPolicySetRow.holds Try.pinned (OpenSpec.ofChange fnExactPolicySetWrong)

/- THE SECOND FORM. 'bulk': how many values and letters a reading holds, each counted each time it is reached (what is shared counts as often as it is met; a slice's spare places count too). A statement '..UptoSaid' is the law's where the arguments, and the package variables that the reading takes, are together of bulk at most 1048576: NARROWER than '..Said'. Prove '..Said' where nothing that the law and all that it calls make is longer than what came in: it says more and counts as full. Else prove '..UptoSaid'. A law counts once. -/
mutual
def uptoBulk {H : Type} : DataW H → Nat
  | .lit (.string bytes) => bytes.length + 1
  | .lit _ => 1
  | .nil => 1
  | .ptr d => uptoBulk d + 1
  | .slice elems spare => uptoBulkAll elems + uptoBulkAll spare + 1
  | .agg parts => uptoBulkAll parts + 1
  | .iface _ d => uptoBulk d + 1
  | .map entries => uptoBulkEntries entries + 1
  | .held _ => 1
def uptoBulkAll {H : Type} : List (DataW H) → Nat
  | [] => 0
  | d :: r => uptoBulk d + uptoBulkAll r
def uptoBulkEntries {H : Type} : List (Lit × DataW H) → Nat
  | [] => 0
  | x :: r => uptoBulkEntry x + uptoBulkEntries r
def uptoBulkEntry {H : Type} : Lit × DataW H → Nat
  | (.string bytes, d) => bytes.length + uptoBulk d + 1
  | (_, d) => uptoBulk d + 1
 end
def uptoSmall : (H : Type) → List (DataW H) → Bool := fun _ ds => decide (uptoBulkAll ds ≤ 1048576)
def OpenSpec.upto (s : _root_.Go.ChangeSpec) : _root_.Go.OpenSpec := { _root_.Go.OpenSpec.ofChange s with cond := some uptoSmall }

/-- 'laws.FnExactLatOk', WHERE WHAT IT READS IS OF BULK AT MOST 1048576: true; the input reads as it did. -/
def fnExactLatOkUptoRow : OpenClaim := { program := "ytdpoliolinghfaa", sum := "e12bdacab21deb9029ac777355b6fb28a2762be481bcf4873461defaec7fba41", func := "loop.example/g00699/laws.FnExactLatOk", spec := "fnExactLatOk", unfollowed := true, recurses := true, apart := false, narrowed := true }
def FnExactLatOkUptoSaid : Prop := fnExactLatOkUptoRow.holds Try.pinned (OpenSpec.upto fnExactLatOkSpec)

/-- 'laws.FnExactLatLe', WHERE WHAT IT READS IS OF BULK AT MOST 1048576: true; the input reads as it did. -/
def fnExactLatLeUptoRow : OpenClaim := { program := "ytdpoliolinghfaa", sum := "e12bdacab21deb9029ac777355b6fb28a2762be481bcf4873461defaec7fba41", func := "loop.example/g00699/laws.FnExactLatLe", spec := "fnExactLatLe", unfollowed := true, recurses := true, apart := false, narrowed := true }
def FnExactLatLeUptoSaid : Prop := fnExactLatLeUptoRow.holds Try.pinned (OpenSpec.upto fnExactLatLeSpec)

/-- 'laws.FnExactLatMeet', WHERE WHAT IT READS IS OF BULK AT MOST 1048576: true; the input reads as it did. -/
def fnExactLatMeetUptoRow : OpenClaim := { program := "ytdpoliolinghfaa", sum := "e12bdacab21deb9029ac777355b6fb28a2762be481bcf4873461defaec7fba41", func := "loop.example/g00699/laws.FnExactLatMeet", spec := "fnExactLatMeet", unfollowed := true, recurses := true, apart := false, narrowed := true }
def FnExactLatMeetUptoSaid : Prop := fnExactLatMeetUptoRow.holds Try.pinned (OpenSpec.upto fnExactLatMeetSpec)

/-- 'laws.FnExactLatEnds', WHERE WHAT IT READS IS OF BULK AT MOST 1048576: true; the input reads as it did. -/
def fnExactLatEndsUptoRow : OpenClaim := { program := "ytdpoliolinghfaa", sum := "e12bdacab21deb9029ac777355b6fb28a2762be481bcf4873461defaec7fba41", func := "loop.example/g00699/laws.FnExactLatEnds", spec := "fnExactLatEnds", unfollowed := true, recurses := true, apart := false, narrowed := true }
def FnExactLatEndsUptoSaid : Prop := fnExactLatEndsUptoRow.holds Try.pinned (OpenSpec.upto fnExactLatEndsSpec)

/-- 'laws.FnExactLatJoin', WHERE WHAT IT READS IS OF BULK AT MOST 1048576: true; the input reads as it did. -/
def fnExactLatJoinUptoRow : OpenClaim := { program := "ytdpoliolinghfaa", sum := "e12bdacab21deb9029ac777355b6fb28a2762be481bcf4873461defaec7fba41", func := "loop.example/g00699/laws.FnExactLatJoin", spec := "fnExactLatJoin", unfollowed := true, recurses := true, apart := false, narrowed := true }
def FnExactLatJoinUptoSaid : Prop := fnExactLatJoinUptoRow.holds Try.pinned (OpenSpec.upto fnExactLatJoinSpec)

/-- 'laws.FnExactLatDown', WHERE WHAT IT READS IS OF BULK AT MOST 1048576: true; the input reads as it did. -/
def fnExactLatDownUptoRow : OpenClaim := { program := "ytdpoliolinghfaa", sum := "e12bdacab21deb9029ac777355b6fb28a2762be481bcf4873461defaec7fba41", func := "loop.example/g00699/laws.FnExactLatDown", spec := "fnExactLatDown", unfollowed := true, recurses := true, apart := false, narrowed := true }
def FnExactLatDownUptoSaid : Prop := fnExactLatDownUptoRow.holds Try.pinned (OpenSpec.upto fnExactLatDownSpec)

/-- 'laws.FnExactLatJoinAll', WHERE WHAT IT READS IS OF BULK AT MOST 1048576: true; the input reads as it did. -/
def fnExactLatJoinAllUptoRow : OpenClaim := { program := "ytdpoliolinghfaa", sum := "e12bdacab21deb9029ac777355b6fb28a2762be481bcf4873461defaec7fba41", func := "loop.example/g00699/laws.FnExactLatJoinAll", spec := "fnExactLatJoinAll", unfollowed := true, recurses := true, apart := false, narrowed := true }
def FnExactLatJoinAllUptoSaid : Prop := fnExactLatJoinAllUptoRow.holds Try.pinned (OpenSpec.upto fnExactLatJoinAllSpec)

/-- 'laws.FnExactLatEdges', WHERE WHAT IT READS IS OF BULK AT MOST 1048576: true; the input reads as it did. -/
def fnExactLatEdgesUptoRow : OpenClaim := { program := "ytdpoliolinghfaa", sum := "e12bdacab21deb9029ac777355b6fb28a2762be481bcf4873461defaec7fba41", func := "loop.example/g00699/laws.FnExactLatEdges", spec := "fnExactLatEdges", unfollowed := true, recurses := true, apart := false, narrowed := true }
def FnExactLatEdgesUptoSaid : Prop := fnExactLatEdgesUptoRow.holds Try.pinned (OpenSpec.upto fnExactLatEdgesSpec)

/-- 'laws.FnExactLatOf', WHERE WHAT IT READS IS OF BULK AT MOST 1048576: true; the input reads as it did. -/
def fnExactLatOfUptoRow : OpenClaim := { program := "ytdpoliolinghfaa", sum := "e12bdacab21deb9029ac777355b6fb28a2762be481bcf4873461defaec7fba41", func := "loop.example/g00699/laws.FnExactLatOf", spec := "fnExactLatOf", unfollowed := true, recurses := true, apart := false, narrowed := true }
def FnExactLatOfUptoSaid : Prop := fnExactLatOfUptoRow.holds Try.pinned (OpenSpec.upto fnExactLatOfSpec)

/-- 'laws.FnExactPunctOk', WHERE WHAT IT READS IS OF BULK AT MOST 1048576: true; the input reads as it did. -/
def fnExactPunctOkUptoRow : OpenClaim := { program := "ytdpoliolinghfaa", sum := "e12bdacab21deb9029ac777355b6fb28a2762be481bcf4873461defaec7fba41", func := "loop.example/g00699/laws.FnExactPunctOk", spec := "fnExactPunctOk", unfollowed := true, recurses := true, apart := false, narrowed := true }
def FnExactPunctOkUptoSaid : Prop := fnExactPunctOkUptoRow.holds Try.pinned (OpenSpec.upto fnExactPunctOkSpec)

/-- 'laws.FnExactPolicyOk', WHERE WHAT IT READS IS OF BULK AT MOST 1048576: true; the input reads as it did. -/
def fnExactPolicyOkUptoRow : OpenClaim := { program := "ytdpoliolinghfaa", sum := "e12bdacab21deb9029ac777355b6fb28a2762be481bcf4873461defaec7fba41", func := "loop.example/g00699/laws.FnExactPolicyOk", spec := "fnExactPolicyOk", unfollowed := true, recurses := true, apart := false, narrowed := true }
def FnExactPolicyOkUptoSaid : Prop := fnExactPolicyOkUptoRow.holds Try.pinned (OpenSpec.upto fnExactPolicyOkSpec)

/-- 'laws.FnExactPolicyFor', WHERE WHAT IT READS IS OF BULK AT MOST 1048576: true; the input reads as it did. -/
def fnExactPolicyForUptoRow : OpenClaim := { program := "ytdpoliolinghfaa", sum := "e12bdacab21deb9029ac777355b6fb28a2762be481bcf4873461defaec7fba41", func := "loop.example/g00699/laws.FnExactPolicyFor", spec := "fnExactPolicyFor", unfollowed := true, recurses := true, apart := false, narrowed := true }
def FnExactPolicyForUptoSaid : Prop := fnExactPolicyForUptoRow.holds Try.pinned (OpenSpec.upto fnExactPolicyForSpec)

/-- 'laws.FnExactPolicyDrop', WHERE WHAT IT READS IS OF BULK AT MOST 1048576: true; the input reads as it did. -/
def fnExactPolicyDropUptoRow : OpenClaim := { program := "ytdpoliolinghfaa", sum := "e12bdacab21deb9029ac777355b6fb28a2762be481bcf4873461defaec7fba41", func := "loop.example/g00699/laws.FnExactPolicyDrop", spec := "fnExactPolicyDrop", unfollowed := true, recurses := true, apart := false, narrowed := true }
def FnExactPolicyDropUptoSaid : Prop := fnExactPolicyDropUptoRow.holds Try.pinned (OpenSpec.upto fnExactPolicyDropSpec)

/-- 'laws.FnExactPolicySet', WHERE WHAT IT READS IS OF BULK AT MOST 1048576: true; the input reads as it did. -/
def fnExactPolicySetUptoRow : OpenClaim := { program := "ytdpoliolinghfaa", sum := "e12bdacab21deb9029ac777355b6fb28a2762be481bcf4873461defaec7fba41", func := "loop.example/g00699/laws.FnExactPolicySet", spec := "fnExactPolicySet", inPlace := ["slices.overlaps[loop.example/g00699/impl.Punct]"], unfollowed := true, recurses := true, apart := false, narrowed := true }
def FnExactPolicySetUptoSaid : Prop := fnExactPolicySetUptoRow.holds Try.pinned (OpenSpec.upto fnExactPolicySetSpec)

end Rows
end Go.Proofs.Ytdpoliolinghfaa
