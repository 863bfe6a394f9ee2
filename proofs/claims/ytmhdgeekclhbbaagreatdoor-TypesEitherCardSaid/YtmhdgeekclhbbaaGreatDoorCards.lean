/-
  DERIVED. GIVEN WITH THE SEED: THE CARDS: each row of YtmhdgeekclhbbaaGreatDoorRows.lean that lists a variable, with what it lists TIED to the program's text (the seventh form; the later family's looks); each row that meets fmt, with fmt's text TOLD by the authors' own Lean function (tested against real Go, not proved from fmt's source: count such statements apart). THE CARD IS WHAT COUNTS. Prove the row's statement (the work); the ties are given (YtmhdgeekclhbbaaGreatDoorTie.lean); close each card by the builder's one call (the guide's Derived/Test/ToyasCard.lean, 'card_holds'). Laid BY PROGRAM, IN A SANDBOX (cutbox-door.mjs). By AI agents, Wed Nov 11 2026. No macro, syntax, notation, axiom, sorry.
-/
import Derived.Test.YtmhdgeekclhbbaaGreatDoorRows
import GoSem.ClaimSeven
namespace Go.Proofs.YtmhdgeekclhbbaaGreatDoor
namespace Rows

/-- THE TIED CARD OF 'touchstonelaw10.SigFaces'. -/
def sigFacesCard : Claim7 := { stood := { row := sigFacesRow, standIns := [], harness := (true, "d7b32fdfea93c6c1614583757260bf6d65fbbe1cb7a51f20f12ab3512babff55"), looks := false }, kinds := [], alts := [], laidByText := true, laidKinds := [.data, .data, .data, .data, .pinned], laidTests := true, laidLooks := .later }
def SigFacesCardSaid : Prop := Claim7.holds Tryz.pinned (.plain (OpenSpec.ofChange sigFacesSpec)) sigFacesCard

/-- THE TIED CARD OF 'touchstonelaw11.ScopeRenames'. -/
def scopeRenamesCard : Claim7 := { stood := { row := scopeRenamesRow, standIns := [], harness := (true, "d7b32fdfea93c6c1614583757260bf6d65fbbe1cb7a51f20f12ab3512babff55"), looks := false }, kinds := [], alts := [], laidByText := true, laidKinds := [.data, .data, .data, .data, .pinned], laidTests := true, laidLooks := .later }
def ScopeRenamesCardSaid : Prop := Claim7.holds Tryz.pinned (.plain (OpenSpec.ofChange scopeRenamesSpec)) scopeRenamesCard

/-- THE TIED CARD OF 'touchstonelaw12.TypesEither'. -/
def typesEitherCard : Claim7 := { stood := { row := typesEitherRow, standIns := [], harness := (true, "d7b32fdfea93c6c1614583757260bf6d65fbbe1cb7a51f20f12ab3512babff55"), looks := false }, kinds := [], alts := [], laidByText := true, laidKinds := [.data, .data, .data, .data, .pinned], laidTests := true, laidLooks := .later }
def TypesEitherCardSaid : Prop := Claim7.holds Tryz.pinned (.plain (OpenSpec.ofChange typesEitherSpec)) typesEitherCard

/-- THE TIED CARD OF 'touchstonelaw12.TypesKept'. -/
def typesKeptCard : Claim7 := { stood := { row := typesKeptRow, standIns := [], harness := (true, "d7b32fdfea93c6c1614583757260bf6d65fbbe1cb7a51f20f12ab3512babff55"), looks := false }, kinds := [], alts := [], laidByText := true, laidKinds := [.data, .data, .data, .data, .pinned], laidTests := true, laidLooks := .later }
def TypesKeptCardSaid : Prop := Claim7.holds Tryz.pinned (.plain (OpenSpec.ofChange typesKeptSpec)) typesKeptCard

/-- THE SECOND FORM's CARD OF 'touchstonelaw10.SigFaces'. -/
def sigFacesUptoCard : Claim7 := { stood := { row := sigFacesUptoRow, standIns := [], harness := (true, "d7b32fdfea93c6c1614583757260bf6d65fbbe1cb7a51f20f12ab3512babff55"), looks := false }, kinds := [], alts := [], laidByText := true, laidKinds := [.data, .data, .data, .data, .pinned], laidTests := true, laidLooks := .later }
def SigFacesUptoCardSaid : Prop := Claim7.holds Tryz.pinned (.plain (OpenSpec.upto sigFacesSpec)) sigFacesUptoCard

/-- THE SECOND FORM's CARD OF 'touchstonelaw11.ScopeRenames'. -/
def scopeRenamesUptoCard : Claim7 := { stood := { row := scopeRenamesUptoRow, standIns := [], harness := (true, "d7b32fdfea93c6c1614583757260bf6d65fbbe1cb7a51f20f12ab3512babff55"), looks := false }, kinds := [], alts := [], laidByText := true, laidKinds := [.data, .data, .data, .data, .pinned], laidTests := true, laidLooks := .later }
def ScopeRenamesUptoCardSaid : Prop := Claim7.holds Tryz.pinned (.plain (OpenSpec.upto scopeRenamesSpec)) scopeRenamesUptoCard

/-- THE SECOND FORM's CARD OF 'touchstonelaw12.TypesEither'. -/
def typesEitherUptoCard : Claim7 := { stood := { row := typesEitherUptoRow, standIns := [], harness := (true, "d7b32fdfea93c6c1614583757260bf6d65fbbe1cb7a51f20f12ab3512babff55"), looks := false }, kinds := [], alts := [], laidByText := true, laidKinds := [.data, .data, .data, .data, .pinned], laidTests := true, laidLooks := .later }
def TypesEitherUptoCardSaid : Prop := Claim7.holds Tryz.pinned (.plain (OpenSpec.upto typesEitherSpec)) typesEitherUptoCard

/-- THE SECOND FORM's CARD OF 'touchstonelaw12.TypesKept'. -/
def typesKeptUptoCard : Claim7 := { stood := { row := typesKeptUptoRow, standIns := [], harness := (true, "d7b32fdfea93c6c1614583757260bf6d65fbbe1cb7a51f20f12ab3512babff55"), looks := false }, kinds := [], alts := [], laidByText := true, laidKinds := [.data, .data, .data, .data, .pinned], laidTests := true, laidLooks := .later }
def TypesKeptUptoCardSaid : Prop := Claim7.holds Tryz.pinned (.plain (OpenSpec.upto typesKeptSpec)) typesKeptUptoCard
end Rows
end Go.Proofs.YtmhdgeekclhbbaaGreatDoor
