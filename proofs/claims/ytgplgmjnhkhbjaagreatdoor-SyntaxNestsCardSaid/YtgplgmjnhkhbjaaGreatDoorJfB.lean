/-
  Closed facts of the row SyntaxNests.
-/
import Derived.Test.YtgplgmjnhkhbjaaGreatDoorCards
import Derived.Carry
import Derived.ProofKit
import Derived.SevenTiedAt
set_option linter.unusedVariables false
namespace Go.Proofs.YtgplgmjnhkhbjaaGreatDoor
open Go.ChangeShapes Go.WideShapes Go.ChangeAt Go.WideMaps Go.WideElems Go.RowKit
set_option maxRecDepth 100000
theorem jf_nm : ((Rows.syntaxNestsRow.named == Tryz.prog.varsNamed 5)) = true := by kernel_rfl
end Go.Proofs.YtgplgmjnhkhbjaaGreatDoor
