/-
  DERIVED. GIVEN WITH THE SEED: THE CARDS: each row of YtgplgmjnhkhbjaaGreatDoorRows.lean that lists a variable, with what it lists TIED to the program's text (the seventh form; the later family's looks); each row that meets fmt, with fmt's text TOLD by the authors' own Lean function (tested against real Go, not proved from fmt's source: count such statements apart). THE CARD IS WHAT COUNTS. Prove the row's statement (the work); the ties are given (YtgplgmjnhkhbjaaGreatDoorTie.lean); close each card by the builder's one call (the guide's Derived/Test/ToyasCard.lean, 'card_holds'). Laid BY PROGRAM, IN A SANDBOX (cutbox-door.mjs). By AI agents, Wed Nov 11 2026. No macro, syntax, notation, axiom, sorry.
-/
import Derived.Test.YtgplgmjnhkhbjaaGreatDoorRows
import GoSem.ClaimSeven
namespace Go.Proofs.YtgplgmjnhkhbjaaGreatDoor
namespace Rows

/-- THE TIED CARD OF 'smithylaw03.SyntaxHolds'. -/
def syntaxHoldsCard : Claim7 := { stood := { row := syntaxHoldsRow, standIns := [], harness := (true, "945f4a95d943a02045525d1be7b28e75686acda2784281e9ab83de66402e22e6"), looks := true }, kinds := [], alts := [], laidByText := true, laidKinds := [.data, .data, .widerDeep, .widerDeep, .data, .data, .data, .data, .data, .data, .sentinel, .sentinel, .data, .pinned, .pinned, .pinned], laidTests := true, laidLooks := .later }
def SyntaxHoldsCardSaid : Prop := Claim7.holds Tryz.pinned (.plain (OpenSpec.ofChange syntaxHoldsSpec)) syntaxHoldsCard

/-- THE TIED CARD OF 'smithylaw03.SyntaxSpaced'. -/
def syntaxSpacedCard : Claim7 := { stood := { row := syntaxSpacedRow, standIns := [], harness := (true, "945f4a95d943a02045525d1be7b28e75686acda2784281e9ab83de66402e22e6"), looks := true }, kinds := [], alts := [], laidByText := true, laidKinds := [.data, .data, .widerDeep, .widerDeep, .data, .data, .data, .data, .data, .data, .sentinel, .sentinel, .data, .pinned, .pinned, .pinned], laidTests := true, laidLooks := .later }
def SyntaxSpacedCardSaid : Prop := Claim7.holds Tryz.pinned (.plain (OpenSpec.ofChange syntaxSpacedSpec)) syntaxSpacedCard

/-- THE TIED CARD OF 'smithylaw03.SyntaxNests'. -/
def syntaxNestsCard : Claim7 := { stood := { row := syntaxNestsRow, standIns := [], harness := (true, "945f4a95d943a02045525d1be7b28e75686acda2784281e9ab83de66402e22e6"), looks := true }, kinds := [], alts := [], laidByText := true, laidKinds := [.data, .data, .widerDeep, .widerDeep, .data, .data, .data, .data, .data, .data, .sentinel, .sentinel, .data, .pinned, .pinned, .pinned], laidTests := true, laidLooks := .later }
def SyntaxNestsCardSaid : Prop := Claim7.holds Tryz.pinned (.plain (OpenSpec.ofChange syntaxNestsSpec)) syntaxNestsCard

/-- THE TIED CARD OF 'smithylaw03.SyntaxKeeps'. -/
def syntaxKeepsCard : Claim7 := { stood := { row := syntaxKeepsRow, standIns := [], harness := (true, "945f4a95d943a02045525d1be7b28e75686acda2784281e9ab83de66402e22e6"), looks := true }, kinds := [], alts := [], laidByText := true, laidKinds := [.data, .data, .widerDeep, .widerDeep, .data, .data, .data, .data, .data, .data, .sentinel, .sentinel, .data, .pinned, .pinned, .pinned], laidTests := true, laidLooks := .later }
def SyntaxKeepsCardSaid : Prop := Claim7.holds Tryz.pinned (.plain (OpenSpec.ofChange syntaxKeepsSpec)) syntaxKeepsCard

/-- THE SECOND FORM's CARD OF 'smithylaw03.SyntaxHolds'. -/
def syntaxHoldsUptoCard : Claim7 := { stood := { row := syntaxHoldsUptoRow, standIns := [], harness := (true, "945f4a95d943a02045525d1be7b28e75686acda2784281e9ab83de66402e22e6"), looks := true }, kinds := [], alts := [], laidByText := true, laidKinds := [.data, .data, .widerDeep, .widerDeep, .data, .data, .data, .data, .data, .data, .sentinel, .sentinel, .data, .pinned, .pinned, .pinned], laidTests := true, laidLooks := .later }
def SyntaxHoldsUptoCardSaid : Prop := Claim7.holds Tryz.pinned (.plain (OpenSpec.upto syntaxHoldsSpec)) syntaxHoldsUptoCard

/-- THE SECOND FORM's CARD OF 'smithylaw03.SyntaxSpaced'. -/
def syntaxSpacedUptoCard : Claim7 := { stood := { row := syntaxSpacedUptoRow, standIns := [], harness := (true, "945f4a95d943a02045525d1be7b28e75686acda2784281e9ab83de66402e22e6"), looks := true }, kinds := [], alts := [], laidByText := true, laidKinds := [.data, .data, .widerDeep, .widerDeep, .data, .data, .data, .data, .data, .data, .sentinel, .sentinel, .data, .pinned, .pinned, .pinned], laidTests := true, laidLooks := .later }
def SyntaxSpacedUptoCardSaid : Prop := Claim7.holds Tryz.pinned (.plain (OpenSpec.upto syntaxSpacedSpec)) syntaxSpacedUptoCard

/-- THE SECOND FORM's CARD OF 'smithylaw03.SyntaxNests'. -/
def syntaxNestsUptoCard : Claim7 := { stood := { row := syntaxNestsUptoRow, standIns := [], harness := (true, "945f4a95d943a02045525d1be7b28e75686acda2784281e9ab83de66402e22e6"), looks := true }, kinds := [], alts := [], laidByText := true, laidKinds := [.data, .data, .widerDeep, .widerDeep, .data, .data, .data, .data, .data, .data, .sentinel, .sentinel, .data, .pinned, .pinned, .pinned], laidTests := true, laidLooks := .later }
def SyntaxNestsUptoCardSaid : Prop := Claim7.holds Tryz.pinned (.plain (OpenSpec.upto syntaxNestsSpec)) syntaxNestsUptoCard

/-- THE SECOND FORM's CARD OF 'smithylaw03.SyntaxKeeps'. -/
def syntaxKeepsUptoCard : Claim7 := { stood := { row := syntaxKeepsUptoRow, standIns := [], harness := (true, "945f4a95d943a02045525d1be7b28e75686acda2784281e9ab83de66402e22e6"), looks := true }, kinds := [], alts := [], laidByText := true, laidKinds := [.data, .data, .widerDeep, .widerDeep, .data, .data, .data, .data, .data, .data, .sentinel, .sentinel, .data, .pinned, .pinned, .pinned], laidTests := true, laidLooks := .later }
def SyntaxKeepsUptoCardSaid : Prop := Claim7.holds Tryz.pinned (.plain (OpenSpec.upto syntaxKeepsSpec)) syntaxKeepsUptoCard
end Rows
end Go.Proofs.YtgplgmjnhkhbjaaGreatDoor
