/-
  DERIVED. GIVEN WITH THE SEED: THE CARDS: each row of YtdednahplodojaaGreatDoorRows.lean that lists a variable, with what it lists TIED to the program's text (the seventh form; the later family's looks); each row that meets fmt, with fmt's text TOLD by the authors' own Lean function (tested against real Go, not proved from fmt's source: count such statements apart). THE CARD IS WHAT COUNTS. Prove the row's statement (the work); the ties are given (YtdednahplodojaaGreatDoorTie.lean); close each card by the builder's one call (the guide's Derived/Test/ToyasCard.lean, 'card_holds'). Laid BY PROGRAM, IN A SANDBOX (cutbox-door.mjs). By AI agents, Wed Nov 11 2026. No macro, syntax, notation, axiom, sorry.
-/
import Derived.Test.YtdednahplodojaaGreatDoorRows
import GoSem.ClaimSeven
namespace Go.Proofs.YtdednahplodojaaGreatDoor
namespace Rows

/-- THE TIED CARD OF 'touchstonelaw08.AstTrees'. -/
def astTreesCard : Claim7 := { stood := { row := astTreesRow, standIns := [], harness := (true, "2b3326e927a21edacd62ae6a944b5251a7a2b6951611b552ad563652efddacf7"), looks := false }, kinds := [], alts := [], laidByText := true, laidKinds := [.data, .data, .data, .data, .pinned], laidTests := true, laidLooks := .later }
def AstTreesCardSaid : Prop := Claim7.holds Tryz.pinned (.plain (OpenSpec.ofChange astTreesSpec)) astTreesCard

/-- THE TIED CARD OF 'touchstonelaw09.ShowExprs'. -/
def showExprsCard : Claim7 := { stood := { row := showExprsRow, standIns := [], harness := (true, "2b3326e927a21edacd62ae6a944b5251a7a2b6951611b552ad563652efddacf7"), looks := false }, kinds := [], alts := [], laidByText := true, laidKinds := [.data, .data, .data, .data, .pinned], laidTests := true, laidLooks := .later }
def ShowExprsCardSaid : Prop := Claim7.holds Tryz.pinned (.plain (OpenSpec.ofChange showExprsSpec)) showExprsCard

/-- THE TIED CARD OF 'touchstonelaw09.ShowTyped'. -/
def showTypedCard : Claim7 := { stood := { row := showTypedRow, standIns := [], harness := (true, "2b3326e927a21edacd62ae6a944b5251a7a2b6951611b552ad563652efddacf7"), looks := false }, kinds := [], alts := [], laidByText := true, laidKinds := [.data, .data, .data, .data, .pinned], laidTests := true, laidLooks := .later }
def ShowTypedCardSaid : Prop := Claim7.holds Tryz.pinned (.plain (OpenSpec.ofChange showTypedSpec)) showTypedCard

/-- THE TIED CARD OF 'touchstonelaw09.ShowReads'. -/
def showReadsCard : Claim7 := { stood := { row := showReadsRow, standIns := [], harness := (true, "2b3326e927a21edacd62ae6a944b5251a7a2b6951611b552ad563652efddacf7"), looks := false }, kinds := [], alts := [], laidByText := true, laidKinds := [.data, .data, .data, .data, .pinned], laidTests := true, laidLooks := .later }
def ShowReadsCardSaid : Prop := Claim7.holds Tryz.pinned (.plain (OpenSpec.ofChange showReadsSpec)) showReadsCard

/-- THE TIED CARD OF 'touchstonelaw09.ShowBodies'. -/
def showBodiesCard : Claim7 := { stood := { row := showBodiesRow, standIns := [], harness := (true, "2b3326e927a21edacd62ae6a944b5251a7a2b6951611b552ad563652efddacf7"), looks := false }, kinds := [], alts := [], laidByText := true, laidKinds := [.data, .data, .data, .data, .pinned], laidTests := true, laidLooks := .later }
def ShowBodiesCardSaid : Prop := Claim7.holds Tryz.pinned (.plain (OpenSpec.ofChange showBodiesSpec)) showBodiesCard

/-- THE TIED CARD OF 'touchstonelaw09.ShowPrograms'. -/
def showProgramsCard : Claim7 := { stood := { row := showProgramsRow, standIns := [], harness := (true, "2b3326e927a21edacd62ae6a944b5251a7a2b6951611b552ad563652efddacf7"), looks := false }, kinds := [], alts := [], laidByText := true, laidKinds := [.data, .data, .data, .data, .pinned], laidTests := true, laidLooks := .later }
def ShowProgramsCardSaid : Prop := Claim7.holds Tryz.pinned (.plain (OpenSpec.ofChange showProgramsSpec)) showProgramsCard

/-- THE SECOND FORM's CARD OF 'touchstonelaw08.AstTrees'. -/
def astTreesUptoCard : Claim7 := { stood := { row := astTreesUptoRow, standIns := [], harness := (true, "2b3326e927a21edacd62ae6a944b5251a7a2b6951611b552ad563652efddacf7"), looks := false }, kinds := [], alts := [], laidByText := true, laidKinds := [.data, .data, .data, .data, .pinned], laidTests := true, laidLooks := .later }
def AstTreesUptoCardSaid : Prop := Claim7.holds Tryz.pinned (.plain (OpenSpec.upto astTreesSpec)) astTreesUptoCard

/-- THE SECOND FORM's CARD OF 'touchstonelaw09.ShowExprs'. -/
def showExprsUptoCard : Claim7 := { stood := { row := showExprsUptoRow, standIns := [], harness := (true, "2b3326e927a21edacd62ae6a944b5251a7a2b6951611b552ad563652efddacf7"), looks := false }, kinds := [], alts := [], laidByText := true, laidKinds := [.data, .data, .data, .data, .pinned], laidTests := true, laidLooks := .later }
def ShowExprsUptoCardSaid : Prop := Claim7.holds Tryz.pinned (.plain (OpenSpec.upto showExprsSpec)) showExprsUptoCard

/-- THE SECOND FORM's CARD OF 'touchstonelaw09.ShowTyped'. -/
def showTypedUptoCard : Claim7 := { stood := { row := showTypedUptoRow, standIns := [], harness := (true, "2b3326e927a21edacd62ae6a944b5251a7a2b6951611b552ad563652efddacf7"), looks := false }, kinds := [], alts := [], laidByText := true, laidKinds := [.data, .data, .data, .data, .pinned], laidTests := true, laidLooks := .later }
def ShowTypedUptoCardSaid : Prop := Claim7.holds Tryz.pinned (.plain (OpenSpec.upto showTypedSpec)) showTypedUptoCard

/-- THE SECOND FORM's CARD OF 'touchstonelaw09.ShowReads'. -/
def showReadsUptoCard : Claim7 := { stood := { row := showReadsUptoRow, standIns := [], harness := (true, "2b3326e927a21edacd62ae6a944b5251a7a2b6951611b552ad563652efddacf7"), looks := false }, kinds := [], alts := [], laidByText := true, laidKinds := [.data, .data, .data, .data, .pinned], laidTests := true, laidLooks := .later }
def ShowReadsUptoCardSaid : Prop := Claim7.holds Tryz.pinned (.plain (OpenSpec.upto showReadsSpec)) showReadsUptoCard

/-- THE SECOND FORM's CARD OF 'touchstonelaw09.ShowBodies'. -/
def showBodiesUptoCard : Claim7 := { stood := { row := showBodiesUptoRow, standIns := [], harness := (true, "2b3326e927a21edacd62ae6a944b5251a7a2b6951611b552ad563652efddacf7"), looks := false }, kinds := [], alts := [], laidByText := true, laidKinds := [.data, .data, .data, .data, .pinned], laidTests := true, laidLooks := .later }
def ShowBodiesUptoCardSaid : Prop := Claim7.holds Tryz.pinned (.plain (OpenSpec.upto showBodiesSpec)) showBodiesUptoCard

/-- THE SECOND FORM's CARD OF 'touchstonelaw09.ShowPrograms'. -/
def showProgramsUptoCard : Claim7 := { stood := { row := showProgramsUptoRow, standIns := [], harness := (true, "2b3326e927a21edacd62ae6a944b5251a7a2b6951611b552ad563652efddacf7"), looks := false }, kinds := [], alts := [], laidByText := true, laidKinds := [.data, .data, .data, .data, .pinned], laidTests := true, laidLooks := .later }
def ShowProgramsUptoCardSaid : Prop := Claim7.holds Tryz.pinned (.plain (OpenSpec.upto showProgramsSpec)) showProgramsUptoCard
end Rows
end Go.Proofs.YtdednahplodojaaGreatDoor
