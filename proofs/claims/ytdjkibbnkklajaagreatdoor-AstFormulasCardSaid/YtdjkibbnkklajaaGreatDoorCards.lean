/-
  DERIVED. GIVEN WITH THE SEED: THE CARDS: each row of YtdjkibbnkklajaaGreatDoorRows.lean that lists a variable, with what it lists TIED to the program's text (the seventh form; the later family's looks); each row that meets fmt, with fmt's text TOLD by the authors' own Lean function (tested against real Go, not proved from fmt's source: count such statements apart). THE CARD IS WHAT COUNTS. Prove the row's statement (the work); the ties are given (YtdjkibbnkklajaaGreatDoorTie.lean); close each card by the builder's one call (the guide's Derived/Test/ToyasCard.lean, 'card_holds'). Laid BY PROGRAM, IN A SANDBOX (cutbox-door.mjs). By AI agents, Wed Nov 11 2026. No macro, syntax, notation, axiom, sorry.
-/
import Derived.Test.YtdjkibbnkklajaaGreatDoorRows
import GoSem.ClaimSeven
namespace Go.Proofs.YtdjkibbnkklajaaGreatDoor
namespace Rows

/-- THE TIED CARD OF 'touchstonelaw08.AstFormulas'. -/
def astFormulasCard : Claim7 := { stood := { row := astFormulasRow, standIns := [], harness := (true, "ebaca48d434ddf37c9044dae132a8c8f07e8b2bf44bbf485daffa451c388641c"), looks := false }, kinds := [], alts := [], laidByText := true, laidKinds := [.data, .data, .data, .data, .pinned], laidTests := true, laidLooks := .later }
def AstFormulasCardSaid : Prop := Claim7.holds Tryz.pinned (.plain (OpenSpec.ofChange astFormulasSpec)) astFormulasCard

/-- THE SECOND FORM's CARD OF 'touchstonelaw08.AstFormulas'. -/
def astFormulasUptoCard : Claim7 := { stood := { row := astFormulasUptoRow, standIns := [], harness := (true, "ebaca48d434ddf37c9044dae132a8c8f07e8b2bf44bbf485daffa451c388641c"), looks := false }, kinds := [], alts := [], laidByText := true, laidKinds := [.data, .data, .data, .data, .pinned], laidTests := true, laidLooks := .later }
def AstFormulasUptoCardSaid : Prop := Claim7.holds Tryz.pinned (.plain (OpenSpec.upto astFormulasSpec)) astFormulasUptoCard
end Rows
end Go.Proofs.YtdjkibbnkklajaaGreatDoor
