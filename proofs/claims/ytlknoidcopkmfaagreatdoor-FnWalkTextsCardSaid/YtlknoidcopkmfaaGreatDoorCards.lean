/-
  DERIVED. GIVEN WITH THE SEED: THE CARDS: each row of YtlknoidcopkmfaaGreatDoorRows.lean that lists a variable, with what it lists TIED to the program's text (the seventh form; the later family's looks); each row that meets fmt, with fmt's text TOLD by the authors' own Lean function (tested against real Go, not proved from fmt's source: count such statements apart). THE CARD IS WHAT COUNTS. Prove the row's statement (the work); the ties are given (YtlknoidcopkmfaaGreatDoorTie.lean); close each card by the builder's one call (the guide's Derived/Test/ToyasCard.lean, 'card_holds'). Laid BY PROGRAM, IN A SANDBOX (cutbox-door.mjs). By AI agents, Wed Nov 11 2026. No macro, syntax, notation, axiom, sorry.
-/
import Derived.Test.YtlknoidcopkmfaaGreatDoorRows
import GoSem.ClaimSeven
namespace Go.Proofs.YtlknoidcopkmfaaGreatDoor
namespace Rows

/-- THE TIED CARD OF 'laws.FnExactParseWalk'. -/
def fnExactParseWalkCard : Claim7 := { stood := { row := fnExactParseWalkRow, standIns := [], harness := (true, "5646904a5441557c2a228d73d280eb094794b86d943763c1a2a52ea147af1da7"), looks := true }, kinds := [], alts := [], laidByText := true, laidKinds := [.data, .data, .data, .data, .sentinel, .sentinel, .pinned], laidTests := true, laidLooks := .later }
def FnExactParseWalkCardSaid : Prop := Claim7.holds Tryz.pinned (.plain (OpenSpec.ofChange fnExactParseWalkSpec)) fnExactParseWalkCard

/-- THE TIED CARD OF 'laws.FnTreesRenamed'. -/
def fnTreesRenamedCard : Claim7 := { stood := { row := fnTreesRenamedRow, standIns := [], harness := (true, "5646904a5441557c2a228d73d280eb094794b86d943763c1a2a52ea147af1da7"), looks := true }, kinds := [], alts := [], laidByText := true, laidKinds := [.data, .data, .data, .data, .sentinel, .sentinel, .pinned], laidTests := true, laidLooks := .later }
def FnTreesRenamedCardSaid : Prop := Claim7.holds Tryz.pinned (.plain (OpenSpec.ofChange fnTreesRenamedSpec)) fnTreesRenamedCard

/-- THE TIED CARD OF 'laws.FnWalkTexts'. -/
def fnWalkTextsCard : Claim7 := { stood := { row := fnWalkTextsRow, standIns := [], harness := (true, "5646904a5441557c2a228d73d280eb094794b86d943763c1a2a52ea147af1da7"), looks := true }, kinds := [], alts := [], laidByText := true, laidKinds := [.data, .data, .data, .data, .sentinel, .sentinel, .pinned], laidTests := true, laidLooks := .later }
def FnWalkTextsCardSaid : Prop := Claim7.holds Tryz.pinned (.plain (OpenSpec.ofChange fnWalkTextsSpec)) fnWalkTextsCard

/-- THE SECOND FORM's CARD OF 'laws.FnExactParseWalk'. -/
def fnExactParseWalkUptoCard : Claim7 := { stood := { row := fnExactParseWalkUptoRow, standIns := [], harness := (true, "5646904a5441557c2a228d73d280eb094794b86d943763c1a2a52ea147af1da7"), looks := true }, kinds := [], alts := [], laidByText := true, laidKinds := [.data, .data, .data, .data, .sentinel, .sentinel, .pinned], laidTests := true, laidLooks := .later }
def FnExactParseWalkUptoCardSaid : Prop := Claim7.holds Tryz.pinned (.plain (OpenSpec.upto fnExactParseWalkSpec)) fnExactParseWalkUptoCard

/-- THE SECOND FORM's CARD OF 'laws.FnTreesRenamed'. -/
def fnTreesRenamedUptoCard : Claim7 := { stood := { row := fnTreesRenamedUptoRow, standIns := [], harness := (true, "5646904a5441557c2a228d73d280eb094794b86d943763c1a2a52ea147af1da7"), looks := true }, kinds := [], alts := [], laidByText := true, laidKinds := [.data, .data, .data, .data, .sentinel, .sentinel, .pinned], laidTests := true, laidLooks := .later }
def FnTreesRenamedUptoCardSaid : Prop := Claim7.holds Tryz.pinned (.plain (OpenSpec.upto fnTreesRenamedSpec)) fnTreesRenamedUptoCard

/-- THE SECOND FORM's CARD OF 'laws.FnWalkTexts'. -/
def fnWalkTextsUptoCard : Claim7 := { stood := { row := fnWalkTextsUptoRow, standIns := [], harness := (true, "5646904a5441557c2a228d73d280eb094794b86d943763c1a2a52ea147af1da7"), looks := true }, kinds := [], alts := [], laidByText := true, laidKinds := [.data, .data, .data, .data, .sentinel, .sentinel, .pinned], laidTests := true, laidLooks := .later }
def FnWalkTextsUptoCardSaid : Prop := Claim7.holds Tryz.pinned (.plain (OpenSpec.upto fnWalkTextsSpec)) fnWalkTextsUptoCard
end Rows
end Go.Proofs.YtlknoidcopkmfaaGreatDoor
