/-
  DERIVED. GIVEN WITH THE SEED: THE CARDS: each row of YtmleecdnkmoohaaGreatDoorRows.lean that lists a variable, with what it lists TIED to the program's text (the seventh form; the later family's looks); each row that meets fmt, with fmt's text TOLD by the authors' own Lean function (tested against real Go, not proved from fmt's source: count such statements apart). THE CARD IS WHAT COUNTS. Prove the row's statement (the work); the ties are given (YtmleecdnkmoohaaGreatDoorTie.lean); close each card by the builder's one call (the guide's Derived/Test/ToyasCard.lean, 'card_holds'). Laid BY PROGRAM, IN A SANDBOX (cutbox-door.mjs). By AI agents, Wed Nov 11 2026. No macro, syntax, notation, axiom, sorry.
-/
import Derived.Test.YtmleecdnkmoohaaGreatDoorRows
import GoSem.ClaimSeven
namespace Go.Proofs.YtmleecdnkmoohaaGreatDoor
namespace Rows

/-- THE TIED CARD OF 'touchstonelaw12.TypesKept'. -/
def typesKeptCard : Claim7 := { stood := { row := typesKeptRow, standIns := [], harness := (true, "3934e05b5dc4c9609c7428ae50d01eaaf189c689776747f0c8a073bf565dc359"), looks := false }, kinds := [], alts := [], laidByText := true, laidKinds := [.data, .data, .data, .data, .pinned], laidTests := true, laidLooks := .later }
def TypesKeptCardSaid : Prop := Claim7.holds Tryz.pinned (.plain (OpenSpec.ofChange typesKeptSpec)) typesKeptCard

/-- THE TIED CARD OF 'touchstonelaw11.ScopeChecks'. -/
def scopeChecksCard : Claim7 := { stood := { row := scopeChecksRow, standIns := [], harness := (true, "3934e05b5dc4c9609c7428ae50d01eaaf189c689776747f0c8a073bf565dc359"), looks := false }, kinds := [], alts := [], laidByText := true, laidKinds := [.data, .data, .data, .data, .pinned], laidTests := true, laidLooks := .later }
def ScopeChecksCardSaid : Prop := Claim7.holds Tryz.pinned (.plain (OpenSpec.ofChange scopeChecksSpec)) scopeChecksCard

/-- THE TIED CARD OF 'touchstonelaw12.TypesBases'. -/
def typesBasesCard : Claim7 := { stood := { row := typesBasesRow, standIns := [], harness := (true, "3934e05b5dc4c9609c7428ae50d01eaaf189c689776747f0c8a073bf565dc359"), looks := false }, kinds := [], alts := [], laidByText := true, laidKinds := [.data, .data, .data, .data, .pinned], laidTests := true, laidLooks := .later }
def TypesBasesCardSaid : Prop := Claim7.holds Tryz.pinned (.plain (OpenSpec.ofChange typesBasesSpec)) typesBasesCard

/-- THE TIED CARD OF 'touchstonelaw11.ScopeCallees'. -/
def scopeCalleesCard : Claim7 := { stood := { row := scopeCalleesRow, standIns := [], harness := (true, "3934e05b5dc4c9609c7428ae50d01eaaf189c689776747f0c8a073bf565dc359"), looks := false }, kinds := [], alts := [], laidByText := true, laidKinds := [.data, .data, .data, .data, .pinned], laidTests := true, laidLooks := .later }
def ScopeCalleesCardSaid : Prop := Claim7.holds Tryz.pinned (.plain (OpenSpec.ofChange scopeCalleesSpec)) scopeCalleesCard

/-- THE TIED CARD OF 'touchstonelaw12.TypesChecks'. -/
def typesChecksCard : Claim7 := { stood := { row := typesChecksRow, standIns := [], harness := (true, "3934e05b5dc4c9609c7428ae50d01eaaf189c689776747f0c8a073bf565dc359"), looks := false }, kinds := [], alts := [], laidByText := true, laidKinds := [.data, .data, .data, .data, .pinned], laidTests := true, laidLooks := .later }
def TypesChecksCardSaid : Prop := Claim7.holds Tryz.pinned (.plain (OpenSpec.ofChange typesChecksSpec)) typesChecksCard

/-- THE SECOND FORM's CARD OF 'touchstonelaw12.TypesKept'. -/
def typesKeptUptoCard : Claim7 := { stood := { row := typesKeptUptoRow, standIns := [], harness := (true, "3934e05b5dc4c9609c7428ae50d01eaaf189c689776747f0c8a073bf565dc359"), looks := false }, kinds := [], alts := [], laidByText := true, laidKinds := [.data, .data, .data, .data, .pinned], laidTests := true, laidLooks := .later }
def TypesKeptUptoCardSaid : Prop := Claim7.holds Tryz.pinned (.plain (OpenSpec.upto typesKeptSpec)) typesKeptUptoCard

/-- THE SECOND FORM's CARD OF 'touchstonelaw11.ScopeChecks'. -/
def scopeChecksUptoCard : Claim7 := { stood := { row := scopeChecksUptoRow, standIns := [], harness := (true, "3934e05b5dc4c9609c7428ae50d01eaaf189c689776747f0c8a073bf565dc359"), looks := false }, kinds := [], alts := [], laidByText := true, laidKinds := [.data, .data, .data, .data, .pinned], laidTests := true, laidLooks := .later }
def ScopeChecksUptoCardSaid : Prop := Claim7.holds Tryz.pinned (.plain (OpenSpec.upto scopeChecksSpec)) scopeChecksUptoCard

/-- THE SECOND FORM's CARD OF 'touchstonelaw12.TypesBases'. -/
def typesBasesUptoCard : Claim7 := { stood := { row := typesBasesUptoRow, standIns := [], harness := (true, "3934e05b5dc4c9609c7428ae50d01eaaf189c689776747f0c8a073bf565dc359"), looks := false }, kinds := [], alts := [], laidByText := true, laidKinds := [.data, .data, .data, .data, .pinned], laidTests := true, laidLooks := .later }
def TypesBasesUptoCardSaid : Prop := Claim7.holds Tryz.pinned (.plain (OpenSpec.upto typesBasesSpec)) typesBasesUptoCard

/-- THE SECOND FORM's CARD OF 'touchstonelaw11.ScopeCallees'. -/
def scopeCalleesUptoCard : Claim7 := { stood := { row := scopeCalleesUptoRow, standIns := [], harness := (true, "3934e05b5dc4c9609c7428ae50d01eaaf189c689776747f0c8a073bf565dc359"), looks := false }, kinds := [], alts := [], laidByText := true, laidKinds := [.data, .data, .data, .data, .pinned], laidTests := true, laidLooks := .later }
def ScopeCalleesUptoCardSaid : Prop := Claim7.holds Tryz.pinned (.plain (OpenSpec.upto scopeCalleesSpec)) scopeCalleesUptoCard

/-- THE SECOND FORM's CARD OF 'touchstonelaw12.TypesChecks'. -/
def typesChecksUptoCard : Claim7 := { stood := { row := typesChecksUptoRow, standIns := [], harness := (true, "3934e05b5dc4c9609c7428ae50d01eaaf189c689776747f0c8a073bf565dc359"), looks := false }, kinds := [], alts := [], laidByText := true, laidKinds := [.data, .data, .data, .data, .pinned], laidTests := true, laidLooks := .later }
def TypesChecksUptoCardSaid : Prop := Claim7.holds Tryz.pinned (.plain (OpenSpec.upto typesChecksSpec)) typesChecksUptoCard
end Rows
end Go.Proofs.YtmleecdnkmoohaaGreatDoor
