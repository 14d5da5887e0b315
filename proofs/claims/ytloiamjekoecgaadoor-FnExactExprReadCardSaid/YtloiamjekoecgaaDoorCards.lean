/-
  DERIVED. GIVEN WITH THE SEED: THE CARDS: each row of YtloiamjekoecgaaDoorRows.lean that lists a variable, with what it lists TIED to the program's text (the seventh form; the later family's looks); each row that meets fmt, with fmt's text TOLD by the authors' own Lean function (tested against real Go, not proved from fmt's source: count such statements apart). THE CARD IS WHAT COUNTS. Prove the row's statement (the work); the ties are given (YtloiamjekoecgaaDoorTie.lean); close each card by the builder's one call (the guide's Derived/Test/ToyasCard.lean, 'card_holds'). Laid BY PROGRAM, IN A SANDBOX (cutbox-door.mjs). By AI agents, Wed Nov 11 2026. No macro, syntax, notation, axiom, sorry.
-/
import Derived.Test.YtloiamjekoecgaaDoorRows
import GoSem.ClaimSeven
namespace Go.Proofs.YtloiamjekoecgaaDoor
namespace Rows

/-- THE TIED CARD OF 'laws.FnExactWideText'. -/
def fnExactWideTextCard : Claim7 := { stood := { row := fnExactWideTextRow, standIns := [], harness := (true, "b182932394bd1c45dfd3de5dbe4bbf3872e85056ecf2aae6f9d69a191d649393"), looks := true }, kinds := [], alts := [], laidByText := true, laidKinds := [.data, .data, .data], laidTests := true, laidLooks := .later }
def FnExactWideTextCardSaid : Prop := Claim7.holds Tryd.pinned (.plain (OpenSpec.ofChange fnExactWideTextSpec)) fnExactWideTextCard

/-- THE TIED CARD OF 'laws.FnExactExprText'. -/
def fnExactExprTextCard : Claim7 := { stood := { row := fnExactExprTextRow, standIns := [], harness := (true, "b182932394bd1c45dfd3de5dbe4bbf3872e85056ecf2aae6f9d69a191d649393"), looks := true }, kinds := [], alts := [], laidByText := true, laidKinds := [.data, .data, .data, .listed, .data], laidTests := true, laidLooks := .later }
def FnExactExprTextCardSaid : Prop := Claim7.holds Tryd.pinned (.plain (OpenSpec.ofChange fnExactExprTextSpec)) fnExactExprTextCard

/-- THE TIED CARD OF 'laws.FnExactExprRead'. -/
def fnExactExprReadCard : Claim7 := { stood := { row := fnExactExprReadRow, standIns := [], harness := (true, "b182932394bd1c45dfd3de5dbe4bbf3872e85056ecf2aae6f9d69a191d649393"), looks := true }, kinds := [], alts := [], laidByText := true, laidKinds := [.data, .data, .data, .data, .sentinel, .sentinel, .listed, .data, .pinned], laidTests := true, laidLooks := .later }
def FnExactExprReadCardSaid : Prop := Claim7.holds Tryd.pinned (.plain (OpenSpec.ofChange fnExactExprReadSpec)) fnExactExprReadCard

/-- THE SECOND FORM's CARD OF 'laws.FnExactWideText'. -/
def fnExactWideTextUptoCard : Claim7 := { stood := { row := fnExactWideTextUptoRow, standIns := [], harness := (true, "b182932394bd1c45dfd3de5dbe4bbf3872e85056ecf2aae6f9d69a191d649393"), looks := true }, kinds := [], alts := [], laidByText := true, laidKinds := [.data, .data, .data], laidTests := true, laidLooks := .later }
def FnExactWideTextUptoCardSaid : Prop := Claim7.holds Tryd.pinned (.plain (OpenSpec.upto fnExactWideTextSpec)) fnExactWideTextUptoCard

/-- THE SECOND FORM's CARD OF 'laws.FnExactExprText'. -/
def fnExactExprTextUptoCard : Claim7 := { stood := { row := fnExactExprTextUptoRow, standIns := [], harness := (true, "b182932394bd1c45dfd3de5dbe4bbf3872e85056ecf2aae6f9d69a191d649393"), looks := true }, kinds := [], alts := [], laidByText := true, laidKinds := [.data, .data, .data, .listed, .data], laidTests := true, laidLooks := .later }
def FnExactExprTextUptoCardSaid : Prop := Claim7.holds Tryd.pinned (.plain (OpenSpec.upto fnExactExprTextSpec)) fnExactExprTextUptoCard

/-- THE SECOND FORM's CARD OF 'laws.FnExactExprRead'. -/
def fnExactExprReadUptoCard : Claim7 := { stood := { row := fnExactExprReadUptoRow, standIns := [], harness := (true, "b182932394bd1c45dfd3de5dbe4bbf3872e85056ecf2aae6f9d69a191d649393"), looks := true }, kinds := [], alts := [], laidByText := true, laidKinds := [.data, .data, .data, .data, .sentinel, .sentinel, .listed, .data, .pinned], laidTests := true, laidLooks := .later }
def FnExactExprReadUptoCardSaid : Prop := Claim7.holds Tryd.pinned (.plain (OpenSpec.upto fnExactExprReadSpec)) fnExactExprReadUptoCard
end Rows
end Go.Proofs.YtloiamjekoecgaaDoor
