/-
  DERIVED. GIVEN WITH THE SEED: THE CARDS: each row of YtjjinpohebcicaaDoorRows.lean that lists a variable, with what it lists TIED to the program's text (the seventh form; the later family's looks); each row that meets fmt, with fmt's text TOLD by the authors' own Lean function (tested against real Go, not proved from fmt's source: count such statements apart). THE CARD IS WHAT COUNTS. Prove the row's statement (the work); the ties are given (YtjjinpohebcicaaDoorTie.lean); close each card by the builder's one call (the guide's Derived/Test/ToyasCard.lean, 'card_holds'). Laid BY PROGRAM, IN A SANDBOX (cutbox-door.mjs). By AI agents, Wed Nov 11 2026. No macro, syntax, notation, axiom, sorry.
-/
import Derived.Test.YtjjinpohebcicaaDoorRows
import GoSem.ClaimSeven
namespace Go.Proofs.YtjjinpohebcicaaDoor
namespace Rows

/-- THE TIED CARD OF 'smithylaw31.LinesCommands'. -/
def linesCommandsCard : Claim7 := { stood := { row := linesCommandsRow, standIns := [], harness := (true, "28c6087f0b903c5943c678be8f1d5a23669246dd9001b9fd360add6f19f10a8c"), looks := true }, kinds := [], alts := [], laidByText := true, laidKinds := [.data, .data, .data, .sentinel, .sentinel, .data], laidTests := true, laidLooks := .later }
def LinesCommandsCardSaid : Prop := Claim7.holds Tryd.pinned (.plain (OpenSpec.ofChange linesCommandsSpec)) linesCommandsCard

/-- THE TIED CARD OF 'smithylaw31.LinesTexts'. -/
def linesTextsCard : Claim7 := { stood := { row := linesTextsRow, standIns := [], harness := (true, "28c6087f0b903c5943c678be8f1d5a23669246dd9001b9fd360add6f19f10a8c"), looks := true }, kinds := [], alts := [], laidByText := true, laidKinds := [.data, .data, .data, .sentinel, .sentinel, .data], laidTests := true, laidLooks := .later }
def LinesTextsCardSaid : Prop := Claim7.holds Tryd.pinned (.plain (OpenSpec.ofChange linesTextsSpec)) linesTextsCard

/-- THE TIED CARD OF 'smithylaw31.LinesNumbers'. -/
def linesNumbersCard : Claim7 := { stood := { row := linesNumbersRow, standIns := [], harness := (true, "28c6087f0b903c5943c678be8f1d5a23669246dd9001b9fd360add6f19f10a8c"), looks := true }, kinds := [], alts := [], laidByText := true, laidKinds := [.data, .data, .data, .sentinel, .sentinel, .data], laidTests := true, laidLooks := .later }
def LinesNumbersCardSaid : Prop := Claim7.holds Tryd.pinned (.plain (OpenSpec.ofChange linesNumbersSpec)) linesNumbersCard

/-- THE TIED CARD OF 'smithylaw31.LinesBack'. -/
def linesBackCard : Claim7 := { stood := { row := linesBackRow, standIns := [], harness := (true, "28c6087f0b903c5943c678be8f1d5a23669246dd9001b9fd360add6f19f10a8c"), looks := true }, kinds := [], alts := [], laidByText := true, laidKinds := [.data, .data, .data, .sentinel, .sentinel, .data], laidTests := true, laidLooks := .later }
def LinesBackCardSaid : Prop := Claim7.holds Tryd.pinned (.plain (OpenSpec.ofChange linesBackSpec)) linesBackCard

/-- THE TIED CARD OF 'smithylaw31.LinesBytes'. -/
def linesBytesCard : Claim7 := { stood := { row := linesBytesRow, standIns := [], harness := (true, "28c6087f0b903c5943c678be8f1d5a23669246dd9001b9fd360add6f19f10a8c"), looks := true }, kinds := [], alts := [], laidByText := true, laidKinds := [.data, .data, .data, .sentinel, .sentinel, .data], laidTests := true, laidLooks := .later }
def LinesBytesCardSaid : Prop := Claim7.holds Tryd.pinned (.plain (OpenSpec.ofChange linesBytesSpec)) linesBytesCard

/-- THE SECOND FORM's CARD OF 'smithylaw31.LinesCommands'. -/
def linesCommandsUptoCard : Claim7 := { stood := { row := linesCommandsUptoRow, standIns := [], harness := (true, "28c6087f0b903c5943c678be8f1d5a23669246dd9001b9fd360add6f19f10a8c"), looks := true }, kinds := [], alts := [], laidByText := true, laidKinds := [.data, .data, .data, .sentinel, .sentinel, .data], laidTests := true, laidLooks := .later }
def LinesCommandsUptoCardSaid : Prop := Claim7.holds Tryd.pinned (.plain (OpenSpec.upto linesCommandsSpec)) linesCommandsUptoCard

/-- THE SECOND FORM's CARD OF 'smithylaw31.LinesTexts'. -/
def linesTextsUptoCard : Claim7 := { stood := { row := linesTextsUptoRow, standIns := [], harness := (true, "28c6087f0b903c5943c678be8f1d5a23669246dd9001b9fd360add6f19f10a8c"), looks := true }, kinds := [], alts := [], laidByText := true, laidKinds := [.data, .data, .data, .sentinel, .sentinel, .data], laidTests := true, laidLooks := .later }
def LinesTextsUptoCardSaid : Prop := Claim7.holds Tryd.pinned (.plain (OpenSpec.upto linesTextsSpec)) linesTextsUptoCard

/-- THE SECOND FORM's CARD OF 'smithylaw31.LinesNumbers'. -/
def linesNumbersUptoCard : Claim7 := { stood := { row := linesNumbersUptoRow, standIns := [], harness := (true, "28c6087f0b903c5943c678be8f1d5a23669246dd9001b9fd360add6f19f10a8c"), looks := true }, kinds := [], alts := [], laidByText := true, laidKinds := [.data, .data, .data, .sentinel, .sentinel, .data], laidTests := true, laidLooks := .later }
def LinesNumbersUptoCardSaid : Prop := Claim7.holds Tryd.pinned (.plain (OpenSpec.upto linesNumbersSpec)) linesNumbersUptoCard

/-- THE SECOND FORM's CARD OF 'smithylaw31.LinesBack'. -/
def linesBackUptoCard : Claim7 := { stood := { row := linesBackUptoRow, standIns := [], harness := (true, "28c6087f0b903c5943c678be8f1d5a23669246dd9001b9fd360add6f19f10a8c"), looks := true }, kinds := [], alts := [], laidByText := true, laidKinds := [.data, .data, .data, .sentinel, .sentinel, .data], laidTests := true, laidLooks := .later }
def LinesBackUptoCardSaid : Prop := Claim7.holds Tryd.pinned (.plain (OpenSpec.upto linesBackSpec)) linesBackUptoCard

/-- THE SECOND FORM's CARD OF 'smithylaw31.LinesBytes'. -/
def linesBytesUptoCard : Claim7 := { stood := { row := linesBytesUptoRow, standIns := [], harness := (true, "28c6087f0b903c5943c678be8f1d5a23669246dd9001b9fd360add6f19f10a8c"), looks := true }, kinds := [], alts := [], laidByText := true, laidKinds := [.data, .data, .data, .sentinel, .sentinel, .data], laidTests := true, laidLooks := .later }
def LinesBytesUptoCardSaid : Prop := Claim7.holds Tryd.pinned (.plain (OpenSpec.upto linesBytesSpec)) linesBytesUptoCard
end Rows
end Go.Proofs.YtjjinpohebcicaaDoor
