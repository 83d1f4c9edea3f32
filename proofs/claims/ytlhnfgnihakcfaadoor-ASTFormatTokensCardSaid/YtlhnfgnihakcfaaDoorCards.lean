/-
  DERIVED. GIVEN WITH THE SEED: THE CARDS: each row of YtlhnfgnihakcfaaDoorRows.lean that lists a variable, with what it lists TIED to the program's text (the seventh form; the later family's looks); each row that meets fmt, with fmt's text TOLD by the authors' own Lean function (tested against real Go, not proved from fmt's source: count such statements apart). THE CARD IS WHAT COUNTS. Prove the row's statement (the work); the ties are given (YtlhnfgnihakcfaaDoorTie.lean); close each card by the builder's one call (the guide's Derived/Test/ToyasCard.lean, 'card_holds'). Laid BY PROGRAM, IN A SANDBOX (cutbox-door.mjs). By AI agents, Wed Nov 11 2026. No macro, syntax, notation, axiom, sorry.
-/
import Derived.Test.YtlhnfgnihakcfaaDoorRows
import GoSem.ClaimSeven
namespace Go.Proofs.YtlhnfgnihakcfaaDoor
namespace Rows

/-- THE TIED CARD OF 'privitylaw27.ASTValid'. -/
def aSTValidCard : Claim7 := { stood := { row := aSTValidRow, standIns := [], harness := (true, "a8d3779693101ac098a807932006f1fe1475bf0b50b7a4e5c5c84798ab049803"), looks := false }, kinds := [], alts := [], laidByText := true, laidKinds := [.data, .data, .data, .widerDeep, .data, .data], laidTests := true, laidLooks := .later }
def ASTValidCardSaid : Prop := Claim7.holds Tryd.pinned (.plain (OpenSpec.ofChange aSTValidSpec)) aSTValidCard

/-- THE TIED CARD OF 'privitylaw27.ASTEqual'. -/
def aSTEqualCard : Claim7 := { stood := { row := aSTEqualRow, standIns := [], harness := (true, "a8d3779693101ac098a807932006f1fe1475bf0b50b7a4e5c5c84798ab049803"), looks := false }, kinds := [], alts := [], laidByText := true, laidKinds := [.data, .data, .data, .widerDeep, .data, .data], laidTests := true, laidLooks := .later }
def ASTEqualCardSaid : Prop := Claim7.holds Tryd.pinned (.plain (OpenSpec.ofChange aSTEqualSpec)) aSTEqualCard

/-- THE TIED CARD OF 'privitylaw27.ASTFormat'. -/
def aSTFormatCard : Claim7 := { stood := { row := aSTFormatRow, standIns := [], harness := (true, "a8d3779693101ac098a807932006f1fe1475bf0b50b7a4e5c5c84798ab049803"), looks := false }, kinds := [], alts := [], laidByText := true, laidKinds := [.data, .data, .data, .widerDeep, .data, .data], laidTests := true, laidLooks := .later }
def ASTFormatCardSaid : Prop := Claim7.holds Tryd.pinned (.plain (OpenSpec.ofChange aSTFormatSpec)) aSTFormatCard

/-- THE TIED CARD OF 'privitylaw27.ASTFormatInjective'. -/
def aSTFormatInjectiveCard : Claim7 := { stood := { row := aSTFormatInjectiveRow, standIns := [], harness := (true, "a8d3779693101ac098a807932006f1fe1475bf0b50b7a4e5c5c84798ab049803"), looks := false }, kinds := [], alts := [], laidByText := true, laidKinds := [.data, .data, .data, .widerDeep, .data, .data], laidTests := true, laidLooks := .later }
def ASTFormatInjectiveCardSaid : Prop := Claim7.holds Tryd.pinned (.plain (OpenSpec.ofChange aSTFormatInjectiveSpec)) aSTFormatInjectiveCard

/-- THE TIED CARD OF 'privitylaw27.ASTMaxNesting'. -/
def aSTMaxNestingCard : Claim7 := { stood := { row := aSTMaxNestingRow, standIns := [], harness := (true, "a8d3779693101ac098a807932006f1fe1475bf0b50b7a4e5c5c84798ab049803"), looks := false }, kinds := [], alts := [], laidByText := true, laidKinds := [.data, .data, .data, .widerDeep, .data, .data], laidTests := true, laidLooks := .later }
def ASTMaxNestingCardSaid : Prop := Claim7.holds Tryd.pinned (.plain (OpenSpec.ofChange aSTMaxNestingSpec)) aSTMaxNestingCard

/-- THE TIED CARD OF 'privitylaw27.ASTAssociativity'. -/
def aSTAssociativityCard : Claim7 := { stood := { row := aSTAssociativityRow, standIns := [], harness := (true, "a8d3779693101ac098a807932006f1fe1475bf0b50b7a4e5c5c84798ab049803"), looks := false }, kinds := [], alts := [], laidByText := true, laidKinds := [.data, .data, .data, .widerDeep, .data, .data], laidTests := true, laidLooks := .later }
def ASTAssociativityCardSaid : Prop := Claim7.holds Tryd.pinned (.plain (OpenSpec.ofChange aSTAssociativitySpec)) aSTAssociativityCard

/-- THE TIED CARD OF 'privitylaw27.ASTFormatTokens'. -/
def aSTFormatTokensCard : Claim7 := { stood := { row := aSTFormatTokensRow, standIns := [], harness := (true, "a8d3779693101ac098a807932006f1fe1475bf0b50b7a4e5c5c84798ab049803"), looks := false }, kinds := [], alts := [], laidByText := true, laidKinds := [.data, .data, .data, .widerDeep, .data, .data], laidTests := true, laidLooks := .later }
def ASTFormatTokensCardSaid : Prop := Claim7.holds Tryd.pinned (.plain (OpenSpec.ofChange aSTFormatTokensSpec)) aSTFormatTokensCard

/-- THE SECOND FORM's CARD OF 'privitylaw27.ASTValid'. -/
def aSTValidUptoCard : Claim7 := { stood := { row := aSTValidUptoRow, standIns := [], harness := (true, "a8d3779693101ac098a807932006f1fe1475bf0b50b7a4e5c5c84798ab049803"), looks := false }, kinds := [], alts := [], laidByText := true, laidKinds := [.data, .data, .data, .widerDeep, .data, .data], laidTests := true, laidLooks := .later }
def ASTValidUptoCardSaid : Prop := Claim7.holds Tryd.pinned (.plain (OpenSpec.upto aSTValidSpec)) aSTValidUptoCard

/-- THE SECOND FORM's CARD OF 'privitylaw27.ASTEqual'. -/
def aSTEqualUptoCard : Claim7 := { stood := { row := aSTEqualUptoRow, standIns := [], harness := (true, "a8d3779693101ac098a807932006f1fe1475bf0b50b7a4e5c5c84798ab049803"), looks := false }, kinds := [], alts := [], laidByText := true, laidKinds := [.data, .data, .data, .widerDeep, .data, .data], laidTests := true, laidLooks := .later }
def ASTEqualUptoCardSaid : Prop := Claim7.holds Tryd.pinned (.plain (OpenSpec.upto aSTEqualSpec)) aSTEqualUptoCard

/-- THE SECOND FORM's CARD OF 'privitylaw27.ASTFormat'. -/
def aSTFormatUptoCard : Claim7 := { stood := { row := aSTFormatUptoRow, standIns := [], harness := (true, "a8d3779693101ac098a807932006f1fe1475bf0b50b7a4e5c5c84798ab049803"), looks := false }, kinds := [], alts := [], laidByText := true, laidKinds := [.data, .data, .data, .widerDeep, .data, .data], laidTests := true, laidLooks := .later }
def ASTFormatUptoCardSaid : Prop := Claim7.holds Tryd.pinned (.plain (OpenSpec.upto aSTFormatSpec)) aSTFormatUptoCard

/-- THE SECOND FORM's CARD OF 'privitylaw27.ASTFormatInjective'. -/
def aSTFormatInjectiveUptoCard : Claim7 := { stood := { row := aSTFormatInjectiveUptoRow, standIns := [], harness := (true, "a8d3779693101ac098a807932006f1fe1475bf0b50b7a4e5c5c84798ab049803"), looks := false }, kinds := [], alts := [], laidByText := true, laidKinds := [.data, .data, .data, .widerDeep, .data, .data], laidTests := true, laidLooks := .later }
def ASTFormatInjectiveUptoCardSaid : Prop := Claim7.holds Tryd.pinned (.plain (OpenSpec.upto aSTFormatInjectiveSpec)) aSTFormatInjectiveUptoCard

/-- THE SECOND FORM's CARD OF 'privitylaw27.ASTMaxNesting'. -/
def aSTMaxNestingUptoCard : Claim7 := { stood := { row := aSTMaxNestingUptoRow, standIns := [], harness := (true, "a8d3779693101ac098a807932006f1fe1475bf0b50b7a4e5c5c84798ab049803"), looks := false }, kinds := [], alts := [], laidByText := true, laidKinds := [.data, .data, .data, .widerDeep, .data, .data], laidTests := true, laidLooks := .later }
def ASTMaxNestingUptoCardSaid : Prop := Claim7.holds Tryd.pinned (.plain (OpenSpec.upto aSTMaxNestingSpec)) aSTMaxNestingUptoCard

/-- THE SECOND FORM's CARD OF 'privitylaw27.ASTAssociativity'. -/
def aSTAssociativityUptoCard : Claim7 := { stood := { row := aSTAssociativityUptoRow, standIns := [], harness := (true, "a8d3779693101ac098a807932006f1fe1475bf0b50b7a4e5c5c84798ab049803"), looks := false }, kinds := [], alts := [], laidByText := true, laidKinds := [.data, .data, .data, .widerDeep, .data, .data], laidTests := true, laidLooks := .later }
def ASTAssociativityUptoCardSaid : Prop := Claim7.holds Tryd.pinned (.plain (OpenSpec.upto aSTAssociativitySpec)) aSTAssociativityUptoCard

/-- THE SECOND FORM's CARD OF 'privitylaw27.ASTFormatTokens'. -/
def aSTFormatTokensUptoCard : Claim7 := { stood := { row := aSTFormatTokensUptoRow, standIns := [], harness := (true, "a8d3779693101ac098a807932006f1fe1475bf0b50b7a4e5c5c84798ab049803"), looks := false }, kinds := [], alts := [], laidByText := true, laidKinds := [.data, .data, .data, .widerDeep, .data, .data], laidTests := true, laidLooks := .later }
def ASTFormatTokensUptoCardSaid : Prop := Claim7.holds Tryd.pinned (.plain (OpenSpec.upto aSTFormatTokensSpec)) aSTFormatTokensUptoCard
end Rows
end Go.Proofs.YtlhnfgnihakcfaaDoor
