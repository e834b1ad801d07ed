/-
  DERIVED. GIVEN WITH THE SEED: THE CARDS: each row of YtlknoidcopkmfaaDoorRows.lean that lists a variable, with what it lists TIED to the program's text (the seventh form; the later family's looks); each row that meets fmt, with fmt's text TOLD by the authors' own Lean function (tested against real Go, not proved from fmt's source: count such statements apart). THE CARD IS WHAT COUNTS. Prove the row's statement (the work); the ties are given (YtlknoidcopkmfaaDoorTie.lean); close each card by the builder's one call (the guide's Derived/Test/ToyasCard.lean, 'card_holds'). Laid BY PROGRAM, IN A SANDBOX (cutbox-door.mjs). By AI agents, Wed Nov 11 2026. No macro, syntax, notation, axiom, sorry.
-/
import Derived.Test.YtlknoidcopkmfaaDoorRows
import GoSem.ClaimSeven
namespace Go.Proofs.YtlknoidcopkmfaaDoor
namespace Rows

/-- THE TIED CARD OF 'laws.FnExactTreeText'. -/
def fnExactTreeTextCard : Claim7 := { stood := { row := fnExactTreeTextRow, standIns := [], harness := (true, "96439abca0b4b83e47b9cb71b5faaa23911aa90bf7436eaf3e993f57d3b17dfc"), looks := true }, kinds := [], alts := [], laidByText := true, laidKinds := [.data, .data, .data], laidTests := true, laidLooks := .later }
def FnExactTreeTextCardSaid : Prop := Claim7.holds Tryd.pinned (.plain (OpenSpec.ofChange fnExactTreeTextSpec)) fnExactTreeTextCard

/-- THE TIED CARD OF 'laws.FnExactWalkText'. -/
def fnExactWalkTextCard : Claim7 := { stood := { row := fnExactWalkTextRow, standIns := [], harness := (true, "96439abca0b4b83e47b9cb71b5faaa23911aa90bf7436eaf3e993f57d3b17dfc"), looks := true }, kinds := [], alts := [], laidByText := true, laidKinds := [.data, .data, .data], laidTests := true, laidLooks := .later }
def FnExactWalkTextCardSaid : Prop := Claim7.holds Tryd.pinned (.plain (OpenSpec.ofChange fnExactWalkTextSpec)) fnExactWalkTextCard

/-- THE TIED CARD OF 'laws.FnExactParseTree'. -/
def fnExactParseTreeCard : Claim7 := { stood := { row := fnExactParseTreeRow, standIns := [], harness := (true, "96439abca0b4b83e47b9cb71b5faaa23911aa90bf7436eaf3e993f57d3b17dfc"), looks := true }, kinds := [], alts := [], laidByText := true, laidKinds := [.data, .data, .data, .data, .sentinel, .sentinel, .pinned], laidTests := true, laidLooks := .later }
def FnExactParseTreeCardSaid : Prop := Claim7.holds Tryd.pinned (.plain (OpenSpec.ofChange fnExactParseTreeSpec)) fnExactParseTreeCard

/-- THE SECOND FORM's CARD OF 'laws.FnExactTreeText'. -/
def fnExactTreeTextUptoCard : Claim7 := { stood := { row := fnExactTreeTextUptoRow, standIns := [], harness := (true, "96439abca0b4b83e47b9cb71b5faaa23911aa90bf7436eaf3e993f57d3b17dfc"), looks := true }, kinds := [], alts := [], laidByText := true, laidKinds := [.data, .data, .data], laidTests := true, laidLooks := .later }
def FnExactTreeTextUptoCardSaid : Prop := Claim7.holds Tryd.pinned (.plain (OpenSpec.upto fnExactTreeTextSpec)) fnExactTreeTextUptoCard

/-- THE SECOND FORM's CARD OF 'laws.FnExactWalkText'. -/
def fnExactWalkTextUptoCard : Claim7 := { stood := { row := fnExactWalkTextUptoRow, standIns := [], harness := (true, "96439abca0b4b83e47b9cb71b5faaa23911aa90bf7436eaf3e993f57d3b17dfc"), looks := true }, kinds := [], alts := [], laidByText := true, laidKinds := [.data, .data, .data], laidTests := true, laidLooks := .later }
def FnExactWalkTextUptoCardSaid : Prop := Claim7.holds Tryd.pinned (.plain (OpenSpec.upto fnExactWalkTextSpec)) fnExactWalkTextUptoCard

/-- THE SECOND FORM's CARD OF 'laws.FnExactParseTree'. -/
def fnExactParseTreeUptoCard : Claim7 := { stood := { row := fnExactParseTreeUptoRow, standIns := [], harness := (true, "96439abca0b4b83e47b9cb71b5faaa23911aa90bf7436eaf3e993f57d3b17dfc"), looks := true }, kinds := [], alts := [], laidByText := true, laidKinds := [.data, .data, .data, .data, .sentinel, .sentinel, .pinned], laidTests := true, laidLooks := .later }
def FnExactParseTreeUptoCardSaid : Prop := Claim7.holds Tryd.pinned (.plain (OpenSpec.upto fnExactParseTreeSpec)) fnExactParseTreeUptoCard
end Rows
end Go.Proofs.YtlknoidcopkmfaaDoor
