/-
  DERIVED. GIVEN WITH THE SEED: THE CARDS: each row of YtkkenofdfpgplaaGreatDoorRows.lean that lists a variable, with what it lists TIED to the program's text (the seventh form; the later family's looks); each row that meets fmt, with fmt's text TOLD by the authors' own Lean function (tested against real Go, not proved from fmt's source: count such statements apart). THE CARD IS WHAT COUNTS. Prove the row's statement (the work); the ties are given (YtkkenofdfpgplaaGreatDoorTie.lean); close each card by the builder's one call (the guide's Derived/Test/ToyasCard.lean, 'card_holds'). Laid BY PROGRAM, IN A SANDBOX (cutbox-door.mjs). By AI agents, Wed Nov 11 2026. No macro, syntax, notation, axiom, sorry.
-/
import Derived.Test.YtkkenofdfpgplaaGreatDoorRows
import GoSem.ClaimSeven
namespace Go.Proofs.YtkkenofdfpgplaaGreatDoor
namespace Rows

/-- THE TIED CARD OF 'laws.FnExactServerText'. -/
def fnExactServerTextCard : Claim7 := { stood := { row := fnExactServerTextRow, standIns := [], harness := (true, "658cb22a4dbbe85caa8ea15dc2ed9d37a420075d4c407d4f8985ad8c73727f3e"), looks := false }, kinds := [], alts := [], laidByText := true, laidKinds := [.data, .data, .data], laidTests := true, laidLooks := .later }
def FnExactServerTextCardSaid : Prop := Claim7.holds Tryz.pinned (.plain (OpenSpec.ofChange fnExactServerTextSpec)) fnExactServerTextCard

/-- THE SECOND FORM's CARD OF 'laws.FnExactServerText'. -/
def fnExactServerTextUptoCard : Claim7 := { stood := { row := fnExactServerTextUptoRow, standIns := [], harness := (true, "658cb22a4dbbe85caa8ea15dc2ed9d37a420075d4c407d4f8985ad8c73727f3e"), looks := false }, kinds := [], alts := [], laidByText := true, laidKinds := [.data, .data, .data], laidTests := true, laidLooks := .later }
def FnExactServerTextUptoCardSaid : Prop := Claim7.holds Tryz.pinned (.plain (OpenSpec.upto fnExactServerTextSpec)) fnExactServerTextUptoCard
end Rows
end Go.Proofs.YtkkenofdfpgplaaGreatDoor
