/-
  DERIVED. GIVEN WITH THE SEED: THE CARDS: each row of YtbodlpoomfefcaaGreatDoorRows.lean that lists a variable, with what it lists TIED to the program's text (the seventh form; the later family's looks); each row that meets fmt, with fmt's text TOLD by the authors' own Lean function (tested against real Go, not proved from fmt's source: count such statements apart). THE CARD IS WHAT COUNTS. Prove the row's statement (the work); the ties are given (YtbodlpoomfefcaaGreatDoorTie.lean); close each card by the builder's one call (the guide's Derived/Test/ToyasCard.lean, 'card_holds'). Laid BY PROGRAM, IN A SANDBOX (cutbox-door.mjs). By AI agents, Wed Nov 11 2026. No macro, syntax, notation, axiom, sorry.
-/
import Derived.Test.YtbodlpoomfefcaaGreatDoorRows
import GoSem.ClaimSeven
namespace Go.Proofs.YtbodlpoomfefcaaGreatDoor
namespace Rows

/-- THE TIED CARD OF 'touchstonelaw08.AstTrees'. -/
def astTreesCard : Claim7 := { stood := { row := astTreesRow, standIns := [], harness := (true, "421b428eb44fe15102c44d17a31369a6039c30e6bd9c53fd3308a0f823803b70"), looks := false }, kinds := [], alts := [], laidByText := true, laidKinds := [.data, .data, .data, .data, .pinned], laidTests := true, laidLooks := .later }
def AstTreesCardSaid : Prop := Claim7.holds Tryz.pinned (.plain (OpenSpec.ofChange astTreesSpec)) astTreesCard

/-- THE TIED CARD OF 'touchstonelaw09.ShowPrograms'. -/
def showProgramsCard : Claim7 := { stood := { row := showProgramsRow, standIns := [], harness := (true, "421b428eb44fe15102c44d17a31369a6039c30e6bd9c53fd3308a0f823803b70"), looks := false }, kinds := [], alts := [], laidByText := true, laidKinds := [.data, .data, .data, .data, .pinned], laidTests := true, laidLooks := .later }
def ShowProgramsCardSaid : Prop := Claim7.holds Tryz.pinned (.plain (OpenSpec.ofChange showProgramsSpec)) showProgramsCard

/-- THE TIED CARD OF 'touchstonelaw08.AstFree'. -/
def astFreeCard : Claim7 := { stood := { row := astFreeRow, standIns := [], harness := (true, "421b428eb44fe15102c44d17a31369a6039c30e6bd9c53fd3308a0f823803b70"), looks := false }, kinds := [], alts := [], laidByText := true, laidKinds := [.data, .data, .data, .data, .pinned], laidTests := true, laidLooks := .later }
def AstFreeCardSaid : Prop := Claim7.holds Tryz.pinned (.plain (OpenSpec.ofChange astFreeSpec)) astFreeCard

/-- THE TIED CARD OF 'touchstonelaw11.ScopeForms'. -/
def scopeFormsCard : Claim7 := { stood := { row := scopeFormsRow, standIns := [], harness := (true, "421b428eb44fe15102c44d17a31369a6039c30e6bd9c53fd3308a0f823803b70"), looks := false }, kinds := [], alts := [], laidByText := true, laidKinds := [.data, .data, .data, .data, .pinned], laidTests := true, laidLooks := .later }
def ScopeFormsCardSaid : Prop := Claim7.holds Tryz.pinned (.plain (OpenSpec.ofChange scopeFormsSpec)) scopeFormsCard

/-- THE TIED CARD OF 'touchstonelaw11.ScopeRenames'. -/
def scopeRenamesCard : Claim7 := { stood := { row := scopeRenamesRow, standIns := [], harness := (true, "421b428eb44fe15102c44d17a31369a6039c30e6bd9c53fd3308a0f823803b70"), looks := false }, kinds := [], alts := [], laidByText := true, laidKinds := [.data, .data, .data, .data, .pinned], laidTests := true, laidLooks := .later }
def ScopeRenamesCardSaid : Prop := Claim7.holds Tryz.pinned (.plain (OpenSpec.ofChange scopeRenamesSpec)) scopeRenamesCard

/-- THE TIED CARD OF 'touchstonelaw12.TypesEither'. -/
def typesEitherCard : Claim7 := { stood := { row := typesEitherRow, standIns := [], harness := (true, "421b428eb44fe15102c44d17a31369a6039c30e6bd9c53fd3308a0f823803b70"), looks := false }, kinds := [], alts := [], laidByText := true, laidKinds := [.data, .data, .data, .data, .pinned], laidTests := true, laidLooks := .later }
def TypesEitherCardSaid : Prop := Claim7.holds Tryz.pinned (.plain (OpenSpec.ofChange typesEitherSpec)) typesEitherCard

/-- THE TIED CARD OF 'touchstonelaw12.TypesKept'. -/
def typesKeptCard : Claim7 := { stood := { row := typesKeptRow, standIns := [], harness := (true, "421b428eb44fe15102c44d17a31369a6039c30e6bd9c53fd3308a0f823803b70"), looks := false }, kinds := [], alts := [], laidByText := true, laidKinds := [.data, .data, .data, .data, .pinned], laidTests := true, laidLooks := .later }
def TypesKeptCardSaid : Prop := Claim7.holds Tryz.pinned (.plain (OpenSpec.ofChange typesKeptSpec)) typesKeptCard

/-- THE SECOND FORM's CARD OF 'touchstonelaw08.AstTrees'. -/
def astTreesUptoCard : Claim7 := { stood := { row := astTreesUptoRow, standIns := [], harness := (true, "421b428eb44fe15102c44d17a31369a6039c30e6bd9c53fd3308a0f823803b70"), looks := false }, kinds := [], alts := [], laidByText := true, laidKinds := [.data, .data, .data, .data, .pinned], laidTests := true, laidLooks := .later }
def AstTreesUptoCardSaid : Prop := Claim7.holds Tryz.pinned (.plain (OpenSpec.upto astTreesSpec)) astTreesUptoCard

/-- THE SECOND FORM's CARD OF 'touchstonelaw09.ShowPrograms'. -/
def showProgramsUptoCard : Claim7 := { stood := { row := showProgramsUptoRow, standIns := [], harness := (true, "421b428eb44fe15102c44d17a31369a6039c30e6bd9c53fd3308a0f823803b70"), looks := false }, kinds := [], alts := [], laidByText := true, laidKinds := [.data, .data, .data, .data, .pinned], laidTests := true, laidLooks := .later }
def ShowProgramsUptoCardSaid : Prop := Claim7.holds Tryz.pinned (.plain (OpenSpec.upto showProgramsSpec)) showProgramsUptoCard

/-- THE SECOND FORM's CARD OF 'touchstonelaw08.AstFree'. -/
def astFreeUptoCard : Claim7 := { stood := { row := astFreeUptoRow, standIns := [], harness := (true, "421b428eb44fe15102c44d17a31369a6039c30e6bd9c53fd3308a0f823803b70"), looks := false }, kinds := [], alts := [], laidByText := true, laidKinds := [.data, .data, .data, .data, .pinned], laidTests := true, laidLooks := .later }
def AstFreeUptoCardSaid : Prop := Claim7.holds Tryz.pinned (.plain (OpenSpec.upto astFreeSpec)) astFreeUptoCard

/-- THE SECOND FORM's CARD OF 'touchstonelaw11.ScopeForms'. -/
def scopeFormsUptoCard : Claim7 := { stood := { row := scopeFormsUptoRow, standIns := [], harness := (true, "421b428eb44fe15102c44d17a31369a6039c30e6bd9c53fd3308a0f823803b70"), looks := false }, kinds := [], alts := [], laidByText := true, laidKinds := [.data, .data, .data, .data, .pinned], laidTests := true, laidLooks := .later }
def ScopeFormsUptoCardSaid : Prop := Claim7.holds Tryz.pinned (.plain (OpenSpec.upto scopeFormsSpec)) scopeFormsUptoCard

/-- THE SECOND FORM's CARD OF 'touchstonelaw11.ScopeRenames'. -/
def scopeRenamesUptoCard : Claim7 := { stood := { row := scopeRenamesUptoRow, standIns := [], harness := (true, "421b428eb44fe15102c44d17a31369a6039c30e6bd9c53fd3308a0f823803b70"), looks := false }, kinds := [], alts := [], laidByText := true, laidKinds := [.data, .data, .data, .data, .pinned], laidTests := true, laidLooks := .later }
def ScopeRenamesUptoCardSaid : Prop := Claim7.holds Tryz.pinned (.plain (OpenSpec.upto scopeRenamesSpec)) scopeRenamesUptoCard

/-- THE SECOND FORM's CARD OF 'touchstonelaw12.TypesEither'. -/
def typesEitherUptoCard : Claim7 := { stood := { row := typesEitherUptoRow, standIns := [], harness := (true, "421b428eb44fe15102c44d17a31369a6039c30e6bd9c53fd3308a0f823803b70"), looks := false }, kinds := [], alts := [], laidByText := true, laidKinds := [.data, .data, .data, .data, .pinned], laidTests := true, laidLooks := .later }
def TypesEitherUptoCardSaid : Prop := Claim7.holds Tryz.pinned (.plain (OpenSpec.upto typesEitherSpec)) typesEitherUptoCard

/-- THE SECOND FORM's CARD OF 'touchstonelaw12.TypesKept'. -/
def typesKeptUptoCard : Claim7 := { stood := { row := typesKeptUptoRow, standIns := [], harness := (true, "421b428eb44fe15102c44d17a31369a6039c30e6bd9c53fd3308a0f823803b70"), looks := false }, kinds := [], alts := [], laidByText := true, laidKinds := [.data, .data, .data, .data, .pinned], laidTests := true, laidLooks := .later }
def TypesKeptUptoCardSaid : Prop := Claim7.holds Tryz.pinned (.plain (OpenSpec.upto typesKeptSpec)) typesKeptUptoCard
end Rows
end Go.Proofs.YtbodlpoomfefcaaGreatDoor
