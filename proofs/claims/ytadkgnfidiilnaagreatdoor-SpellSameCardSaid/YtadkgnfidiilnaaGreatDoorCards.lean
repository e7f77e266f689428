/-
  DERIVED. GIVEN WITH THE SEED: THE CARDS: each row of YtadkgnfidiilnaaGreatDoorRows.lean that lists a variable, with what it lists TIED to the program's text (the seventh form; the later family's looks); each row that meets fmt, with fmt's text TOLD by the authors' own Lean function (tested against real Go, not proved from fmt's source: count such statements apart). THE CARD IS WHAT COUNTS. Prove the row's statement (the work); the ties are given (YtadkgnfidiilnaaGreatDoorTie.lean); close each card by the builder's one call (the guide's Derived/Test/ToyasCard.lean, 'card_holds'). Laid BY PROGRAM, IN A SANDBOX (cutbox-door.mjs). By AI agents, Wed Nov 11 2026. No macro, syntax, notation, axiom, sorry.
-/
import Derived.Test.YtadkgnfidiilnaaGreatDoorRows
import GoSem.ClaimSeven
namespace Go.Proofs.YtadkgnfidiilnaaGreatDoor
namespace Rows

/-- THE TIED CARD OF 'smithylaw04.SpellSame'. -/
def spellSameCard : Claim7 := { stood := { row := spellSameRow, standIns := [], harness := (true, "fde5b9990be97ae95633cf51d2bdb1a8fee6089dc1cda85bd71e1ceadd460262"), looks := false }, kinds := [], alts := [], laidByText := true, laidKinds := [.data, .data, .data, .data, .data, .data, .data, .pinned, .pinned], laidTests := true, laidLooks := .later }
def SpellSameCardSaid : Prop := Claim7.holds Tryz.pinned (.plain (OpenSpec.ofChange spellSameSpec)) spellSameCard

/-- THE TIED CARD OF 'smithylaw04.SpellApart'. -/
def spellApartCard : Claim7 := { stood := { row := spellApartRow, standIns := [], harness := (true, "fde5b9990be97ae95633cf51d2bdb1a8fee6089dc1cda85bd71e1ceadd460262"), looks := false }, kinds := [], alts := [], laidByText := true, laidKinds := [.data, .data, .data, .data, .data, .data, .data, .pinned, .pinned], laidTests := true, laidLooks := .later }
def SpellApartCardSaid : Prop := Claim7.holds Tryz.pinned (.plain (OpenSpec.ofChange spellApartSpec)) spellApartCard

/-- THE SECOND FORM's CARD OF 'smithylaw04.SpellSame'. -/
def spellSameUptoCard : Claim7 := { stood := { row := spellSameUptoRow, standIns := [], harness := (true, "fde5b9990be97ae95633cf51d2bdb1a8fee6089dc1cda85bd71e1ceadd460262"), looks := false }, kinds := [], alts := [], laidByText := true, laidKinds := [.data, .data, .data, .data, .data, .data, .data, .pinned, .pinned], laidTests := true, laidLooks := .later }
def SpellSameUptoCardSaid : Prop := Claim7.holds Tryz.pinned (.plain (OpenSpec.upto spellSameSpec)) spellSameUptoCard

/-- THE SECOND FORM's CARD OF 'smithylaw04.SpellApart'. -/
def spellApartUptoCard : Claim7 := { stood := { row := spellApartUptoRow, standIns := [], harness := (true, "fde5b9990be97ae95633cf51d2bdb1a8fee6089dc1cda85bd71e1ceadd460262"), looks := false }, kinds := [], alts := [], laidByText := true, laidKinds := [.data, .data, .data, .data, .data, .data, .data, .pinned, .pinned], laidTests := true, laidLooks := .later }
def SpellApartUptoCardSaid : Prop := Claim7.holds Tryz.pinned (.plain (OpenSpec.upto spellApartSpec)) spellApartUptoCard
end Rows
end Go.Proofs.YtadkgnfidiilnaaGreatDoor
