/-
  DERIVED. GIVEN WITH THE SEED: THE CARDS: each row of YtemkhbmkaalgdaaGreatDoorRows.lean that lists a variable, with what it lists TIED to the program's text (the seventh form; the later family's looks); each row that meets fmt, with fmt's text TOLD by the authors' own Lean function (tested against real Go, not proved from fmt's source: count such statements apart). THE CARD IS WHAT COUNTS. Prove the row's statement (the work); the ties are given (YtemkhbmkaalgdaaGreatDoorTie.lean); close each card by the builder's one call (the guide's Derived/Test/ToyasCard.lean, 'card_holds'). Laid BY PROGRAM, IN A SANDBOX (cutbox-door.mjs). By AI agents, Wed Nov 11 2026. No macro, syntax, notation, axiom, sorry.
-/
import Derived.Test.YtemkhbmkaalgdaaGreatDoorRows
import GoSem.ClaimSeven
namespace Go.Proofs.YtemkhbmkaalgdaaGreatDoor
namespace Rows

/-- THE TIED CARD OF 'touchstonelaw08.AstTrees'. -/
def astTreesCard : Claim7 := { stood := { row := astTreesRow, standIns := [], harness := (true, "2ac759431c51edc36a6af2f15c22d0652b6249a0d60a2ce1fd3982be7a3313a1"), looks := false }, kinds := [], alts := [], laidByText := true, laidKinds := [.data, .data, .data, .data, .pinned], laidTests := true, laidLooks := .later }
def AstTreesCardSaid : Prop := Claim7.holds Tryz.pinned (.plain (OpenSpec.ofChange astTreesSpec)) astTreesCard

/-- THE TIED CARD OF 'touchstonelaw08.AstErase'. -/
def astEraseCard : Claim7 := { stood := { row := astEraseRow, standIns := [], harness := (true, "2ac759431c51edc36a6af2f15c22d0652b6249a0d60a2ce1fd3982be7a3313a1"), looks := false }, kinds := [], alts := [], laidByText := true, laidKinds := [.data, .data, .data, .data, .pinned], laidTests := true, laidLooks := .later }
def AstEraseCardSaid : Prop := Claim7.holds Tryz.pinned (.plain (OpenSpec.ofChange astEraseSpec)) astEraseCard

/-- THE TIED CARD OF 'touchstonelaw08.AstPrograms'. -/
def astProgramsCard : Claim7 := { stood := { row := astProgramsRow, standIns := [], harness := (true, "2ac759431c51edc36a6af2f15c22d0652b6249a0d60a2ce1fd3982be7a3313a1"), looks := false }, kinds := [], alts := [], laidByText := true, laidKinds := [.data, .data, .data, .data, .pinned], laidTests := true, laidLooks := .later }
def AstProgramsCardSaid : Prop := Claim7.holds Tryz.pinned (.plain (OpenSpec.ofChange astProgramsSpec)) astProgramsCard

/-- THE SECOND FORM's CARD OF 'touchstonelaw08.AstTrees'. -/
def astTreesUptoCard : Claim7 := { stood := { row := astTreesUptoRow, standIns := [], harness := (true, "2ac759431c51edc36a6af2f15c22d0652b6249a0d60a2ce1fd3982be7a3313a1"), looks := false }, kinds := [], alts := [], laidByText := true, laidKinds := [.data, .data, .data, .data, .pinned], laidTests := true, laidLooks := .later }
def AstTreesUptoCardSaid : Prop := Claim7.holds Tryz.pinned (.plain (OpenSpec.upto astTreesSpec)) astTreesUptoCard

/-- THE SECOND FORM's CARD OF 'touchstonelaw08.AstErase'. -/
def astEraseUptoCard : Claim7 := { stood := { row := astEraseUptoRow, standIns := [], harness := (true, "2ac759431c51edc36a6af2f15c22d0652b6249a0d60a2ce1fd3982be7a3313a1"), looks := false }, kinds := [], alts := [], laidByText := true, laidKinds := [.data, .data, .data, .data, .pinned], laidTests := true, laidLooks := .later }
def AstEraseUptoCardSaid : Prop := Claim7.holds Tryz.pinned (.plain (OpenSpec.upto astEraseSpec)) astEraseUptoCard

/-- THE SECOND FORM's CARD OF 'touchstonelaw08.AstPrograms'. -/
def astProgramsUptoCard : Claim7 := { stood := { row := astProgramsUptoRow, standIns := [], harness := (true, "2ac759431c51edc36a6af2f15c22d0652b6249a0d60a2ce1fd3982be7a3313a1"), looks := false }, kinds := [], alts := [], laidByText := true, laidKinds := [.data, .data, .data, .data, .pinned], laidTests := true, laidLooks := .later }
def AstProgramsUptoCardSaid : Prop := Claim7.holds Tryz.pinned (.plain (OpenSpec.upto astProgramsSpec)) astProgramsUptoCard
end Rows
end Go.Proofs.YtemkhbmkaalgdaaGreatDoor
