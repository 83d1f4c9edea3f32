/-
  DERIVED. GIVEN WITH THE SEED: THE CARDS: each row of YtanollmhbjlimaaDoorRows.lean that lists a variable, with what it lists TIED to the program's text (the seventh form; the later family's looks); each row that meets fmt, with fmt's text TOLD by the authors' own Lean function (tested against real Go, not proved from fmt's source: count such statements apart). THE CARD IS WHAT COUNTS. Prove the row's statement (the work); the ties are given (YtanollmhbjlimaaDoorTie.lean); close each card by the builder's one call (the guide's Derived/Test/ToyasCard.lean, 'card_holds'). Laid BY PROGRAM, IN A SANDBOX (cutbox-door.mjs). By AI agents, Wed Nov 11 2026. No macro, syntax, notation, axiom, sorry.
-/
import Derived.Test.YtanollmhbjlimaaDoorRows
import GoSem.ClaimSeven
namespace Go.Proofs.YtanollmhbjlimaaDoor
namespace Rows

/-- THE TIED CARD OF 'privitylaw26.LexerLex'. -/
def lexerLexCard : Claim7 := { stood := { row := lexerLexRow, standIns := [], harness := (true, "2ea7058f3c351fd836e7fcfa367bd85907c742b22cfc9d48fa0c160c59a31b68"), looks := true }, kinds := [], alts := [], laidByText := true, laidKinds := [.widerDeep], laidTests := true, laidLooks := .later }
def LexerLexCardSaid : Prop := Claim7.holds Tryd.pinned (.plain (OpenSpec.ofChange lexerLexSpec)) lexerLexCard

/-- THE TIED CARD OF 'privitylaw26.LexerIsName'. -/
def lexerIsNameCard : Claim7 := { stood := { row := lexerIsNameRow, standIns := [], harness := (true, "2ea7058f3c351fd836e7fcfa367bd85907c742b22cfc9d48fa0c160c59a31b68"), looks := true }, kinds := [], alts := [], laidByText := true, laidKinds := [.widerDeep], laidTests := true, laidLooks := .later }
def LexerIsNameCardSaid : Prop := Claim7.holds Tryd.pinned (.plain (OpenSpec.ofChange lexerIsNameSpec)) lexerIsNameCard

/-- THE TIED CARD OF 'privitylaw26.LexerOffsets'. -/
def lexerOffsetsCard : Claim7 := { stood := { row := lexerOffsetsRow, standIns := [], harness := (true, "2ea7058f3c351fd836e7fcfa367bd85907c742b22cfc9d48fa0c160c59a31b68"), looks := true }, kinds := [], alts := [], laidByText := true, laidKinds := [.widerDeep], laidTests := true, laidLooks := .later }
def LexerOffsetsCardSaid : Prop := Claim7.holds Tryd.pinned (.plain (OpenSpec.ofChange lexerOffsetsSpec)) lexerOffsetsCard

/-- THE TIED CARD OF 'privitylaw26.LexerWhiteSpace'. -/
def lexerWhiteSpaceCard : Claim7 := { stood := { row := lexerWhiteSpaceRow, standIns := [], harness := (true, "2ea7058f3c351fd836e7fcfa367bd85907c742b22cfc9d48fa0c160c59a31b68"), looks := true }, kinds := [], alts := [], laidByText := true, laidKinds := [.widerDeep], laidTests := true, laidLooks := .later }
def LexerWhiteSpaceCardSaid : Prop := Claim7.holds Tryd.pinned (.plain (OpenSpec.ofChange lexerWhiteSpaceSpec)) lexerWhiteSpaceCard

/-- THE TIED CARD OF 'privitylaw26.LexerConcatenation'. -/
def lexerConcatenationCard : Claim7 := { stood := { row := lexerConcatenationRow, standIns := [], harness := (true, "2ea7058f3c351fd836e7fcfa367bd85907c742b22cfc9d48fa0c160c59a31b68"), looks := true }, kinds := [], alts := [], laidByText := true, laidKinds := [.widerDeep], laidTests := true, laidLooks := .later }
def LexerConcatenationCardSaid : Prop := Claim7.holds Tryd.pinned (.plain (OpenSpec.ofChange lexerConcatenationSpec)) lexerConcatenationCard

/-- THE TIED CARD OF 'privitylaw27.ASTValid'. -/
def aSTValidCard : Claim7 := { stood := { row := aSTValidRow, standIns := [], harness := (true, "2ea7058f3c351fd836e7fcfa367bd85907c742b22cfc9d48fa0c160c59a31b68"), looks := true }, kinds := [], alts := [], laidByText := true, laidKinds := [.data, .data, .data, .widerDeep, .data, .data], laidTests := true, laidLooks := .later }
def ASTValidCardSaid : Prop := Claim7.holds Tryd.pinned (.plain (OpenSpec.ofChange aSTValidSpec)) aSTValidCard

/-- THE TIED CARD OF 'privitylaw27.ASTEqual'. -/
def aSTEqualCard : Claim7 := { stood := { row := aSTEqualRow, standIns := [], harness := (true, "2ea7058f3c351fd836e7fcfa367bd85907c742b22cfc9d48fa0c160c59a31b68"), looks := true }, kinds := [], alts := [], laidByText := true, laidKinds := [.data, .data, .data, .widerDeep, .data, .data], laidTests := true, laidLooks := .later }
def ASTEqualCardSaid : Prop := Claim7.holds Tryd.pinned (.plain (OpenSpec.ofChange aSTEqualSpec)) aSTEqualCard

/-- THE TIED CARD OF 'privitylaw27.ASTFormat'. -/
def aSTFormatCard : Claim7 := { stood := { row := aSTFormatRow, standIns := [], harness := (true, "2ea7058f3c351fd836e7fcfa367bd85907c742b22cfc9d48fa0c160c59a31b68"), looks := true }, kinds := [], alts := [], laidByText := true, laidKinds := [.data, .data, .data, .widerDeep, .data, .data], laidTests := true, laidLooks := .later }
def ASTFormatCardSaid : Prop := Claim7.holds Tryd.pinned (.plain (OpenSpec.ofChange aSTFormatSpec)) aSTFormatCard

/-- THE TIED CARD OF 'privitylaw27.ASTFormatInjective'. -/
def aSTFormatInjectiveCard : Claim7 := { stood := { row := aSTFormatInjectiveRow, standIns := [], harness := (true, "2ea7058f3c351fd836e7fcfa367bd85907c742b22cfc9d48fa0c160c59a31b68"), looks := true }, kinds := [], alts := [], laidByText := true, laidKinds := [.data, .data, .data, .widerDeep, .data, .data], laidTests := true, laidLooks := .later }
def ASTFormatInjectiveCardSaid : Prop := Claim7.holds Tryd.pinned (.plain (OpenSpec.ofChange aSTFormatInjectiveSpec)) aSTFormatInjectiveCard

/-- THE TIED CARD OF 'privitylaw27.ASTMaxNesting'. -/
def aSTMaxNestingCard : Claim7 := { stood := { row := aSTMaxNestingRow, standIns := [], harness := (true, "2ea7058f3c351fd836e7fcfa367bd85907c742b22cfc9d48fa0c160c59a31b68"), looks := true }, kinds := [], alts := [], laidByText := true, laidKinds := [.data, .data, .data, .widerDeep, .data, .data], laidTests := true, laidLooks := .later }
def ASTMaxNestingCardSaid : Prop := Claim7.holds Tryd.pinned (.plain (OpenSpec.ofChange aSTMaxNestingSpec)) aSTMaxNestingCard

/-- THE TIED CARD OF 'privitylaw27.ASTAssociativity'. -/
def aSTAssociativityCard : Claim7 := { stood := { row := aSTAssociativityRow, standIns := [], harness := (true, "2ea7058f3c351fd836e7fcfa367bd85907c742b22cfc9d48fa0c160c59a31b68"), looks := true }, kinds := [], alts := [], laidByText := true, laidKinds := [.data, .data, .data, .widerDeep, .data, .data], laidTests := true, laidLooks := .later }
def ASTAssociativityCardSaid : Prop := Claim7.holds Tryd.pinned (.plain (OpenSpec.ofChange aSTAssociativitySpec)) aSTAssociativityCard

/-- THE TIED CARD OF 'privitylaw27.ASTFormatTokens'. -/
def aSTFormatTokensCard : Claim7 := { stood := { row := aSTFormatTokensRow, standIns := [], harness := (true, "2ea7058f3c351fd836e7fcfa367bd85907c742b22cfc9d48fa0c160c59a31b68"), looks := true }, kinds := [], alts := [], laidByText := true, laidKinds := [.data, .data, .data, .widerDeep, .data, .data], laidTests := true, laidLooks := .later }
def ASTFormatTokensCardSaid : Prop := Claim7.holds Tryd.pinned (.plain (OpenSpec.ofChange aSTFormatTokensSpec)) aSTFormatTokensCard

/-- THE TIED CARD OF 'privitylaw28.ParserIgnoresParentheses'. -/
def parserIgnoresParenthesesCard : Claim7 := { stood := { row := parserIgnoresParenthesesRow, standIns := [], harness := (true, "2ea7058f3c351fd836e7fcfa367bd85907c742b22cfc9d48fa0c160c59a31b68"), looks := true }, kinds := [], alts := [], laidByText := true, laidKinds := [.data, .data, .data, .widerDeep, .data, .data], laidTests := true, laidLooks := .later }
def ParserIgnoresParenthesesCardSaid : Prop := Claim7.holds Tryd.pinned (.plain (OpenSpec.ofChange parserIgnoresParenthesesSpec)) parserIgnoresParenthesesCard

/-- THE TIED CARD OF 'privitylaw28.ParserPrecedence'. -/
def parserPrecedenceCard : Claim7 := { stood := { row := parserPrecedenceRow, standIns := [], harness := (true, "2ea7058f3c351fd836e7fcfa367bd85907c742b22cfc9d48fa0c160c59a31b68"), looks := true }, kinds := [], alts := [], laidByText := true, laidKinds := [.data, .data, .data, .widerDeep, .data, .data], laidTests := true, laidLooks := .later }
def ParserPrecedenceCardSaid : Prop := Claim7.holds Tryd.pinned (.plain (OpenSpec.ofChange parserPrecedenceSpec)) parserPrecedenceCard

/-- THE TIED CARD OF 'privitylaw28.ParserNestingLimit'. -/
def parserNestingLimitCard : Claim7 := { stood := { row := parserNestingLimitRow, standIns := [], harness := (true, "2ea7058f3c351fd836e7fcfa367bd85907c742b22cfc9d48fa0c160c59a31b68"), looks := true }, kinds := [], alts := [], laidByText := true, laidKinds := [.data, .data, .data, .widerDeep, .data, .data], laidTests := true, laidLooks := .later }
def ParserNestingLimitCardSaid : Prop := Claim7.holds Tryd.pinned (.plain (OpenSpec.ofChange parserNestingLimitSpec)) parserNestingLimitCard

/-- THE TIED CARD OF 'privitylaw28.ParserPrintIsCanonical'. -/
def parserPrintIsCanonicalCard : Claim7 := { stood := { row := parserPrintIsCanonicalRow, standIns := [], harness := (true, "2ea7058f3c351fd836e7fcfa367bd85907c742b22cfc9d48fa0c160c59a31b68"), looks := true }, kinds := [], alts := [], laidByText := true, laidKinds := [.data, .data, .data, .widerDeep, .data, .data], laidTests := true, laidLooks := .later }
def ParserPrintIsCanonicalCardSaid : Prop := Claim7.holds Tryd.pinned (.plain (OpenSpec.ofChange parserPrintIsCanonicalSpec)) parserPrintIsCanonicalCard

/-- THE TIED CARD OF 'privitylaw52.IntersectionProgram'. -/
def intersectionProgramCard : Claim7 := { stood := { row := intersectionProgramRow, standIns := [], harness := (true, "2ea7058f3c351fd836e7fcfa367bd85907c742b22cfc9d48fa0c160c59a31b68"), looks := true }, kinds := [], alts := [], laidByText := true, laidKinds := [.data, .data, .data, .widerDeep, .data, .data], laidTests := true, laidLooks := .later }
def IntersectionProgramCardSaid : Prop := Claim7.holds Tryd.pinned (.plain (OpenSpec.ofChange intersectionProgramSpec)) intersectionProgramCard

/-- THE SECOND FORM's CARD OF 'privitylaw26.LexerLex'. -/
def lexerLexUptoCard : Claim7 := { stood := { row := lexerLexUptoRow, standIns := [], harness := (true, "2ea7058f3c351fd836e7fcfa367bd85907c742b22cfc9d48fa0c160c59a31b68"), looks := true }, kinds := [], alts := [], laidByText := true, laidKinds := [.widerDeep], laidTests := true, laidLooks := .later }
def LexerLexUptoCardSaid : Prop := Claim7.holds Tryd.pinned (.plain (OpenSpec.upto lexerLexSpec)) lexerLexUptoCard

/-- THE SECOND FORM's CARD OF 'privitylaw26.LexerIsName'. -/
def lexerIsNameUptoCard : Claim7 := { stood := { row := lexerIsNameUptoRow, standIns := [], harness := (true, "2ea7058f3c351fd836e7fcfa367bd85907c742b22cfc9d48fa0c160c59a31b68"), looks := true }, kinds := [], alts := [], laidByText := true, laidKinds := [.widerDeep], laidTests := true, laidLooks := .later }
def LexerIsNameUptoCardSaid : Prop := Claim7.holds Tryd.pinned (.plain (OpenSpec.upto lexerIsNameSpec)) lexerIsNameUptoCard

/-- THE SECOND FORM's CARD OF 'privitylaw26.LexerOffsets'. -/
def lexerOffsetsUptoCard : Claim7 := { stood := { row := lexerOffsetsUptoRow, standIns := [], harness := (true, "2ea7058f3c351fd836e7fcfa367bd85907c742b22cfc9d48fa0c160c59a31b68"), looks := true }, kinds := [], alts := [], laidByText := true, laidKinds := [.widerDeep], laidTests := true, laidLooks := .later }
def LexerOffsetsUptoCardSaid : Prop := Claim7.holds Tryd.pinned (.plain (OpenSpec.upto lexerOffsetsSpec)) lexerOffsetsUptoCard

/-- THE SECOND FORM's CARD OF 'privitylaw26.LexerWhiteSpace'. -/
def lexerWhiteSpaceUptoCard : Claim7 := { stood := { row := lexerWhiteSpaceUptoRow, standIns := [], harness := (true, "2ea7058f3c351fd836e7fcfa367bd85907c742b22cfc9d48fa0c160c59a31b68"), looks := true }, kinds := [], alts := [], laidByText := true, laidKinds := [.widerDeep], laidTests := true, laidLooks := .later }
def LexerWhiteSpaceUptoCardSaid : Prop := Claim7.holds Tryd.pinned (.plain (OpenSpec.upto lexerWhiteSpaceSpec)) lexerWhiteSpaceUptoCard

/-- THE SECOND FORM's CARD OF 'privitylaw26.LexerConcatenation'. -/
def lexerConcatenationUptoCard : Claim7 := { stood := { row := lexerConcatenationUptoRow, standIns := [], harness := (true, "2ea7058f3c351fd836e7fcfa367bd85907c742b22cfc9d48fa0c160c59a31b68"), looks := true }, kinds := [], alts := [], laidByText := true, laidKinds := [.widerDeep], laidTests := true, laidLooks := .later }
def LexerConcatenationUptoCardSaid : Prop := Claim7.holds Tryd.pinned (.plain (OpenSpec.upto lexerConcatenationSpec)) lexerConcatenationUptoCard

/-- THE SECOND FORM's CARD OF 'privitylaw27.ASTValid'. -/
def aSTValidUptoCard : Claim7 := { stood := { row := aSTValidUptoRow, standIns := [], harness := (true, "2ea7058f3c351fd836e7fcfa367bd85907c742b22cfc9d48fa0c160c59a31b68"), looks := true }, kinds := [], alts := [], laidByText := true, laidKinds := [.data, .data, .data, .widerDeep, .data, .data], laidTests := true, laidLooks := .later }
def ASTValidUptoCardSaid : Prop := Claim7.holds Tryd.pinned (.plain (OpenSpec.upto aSTValidSpec)) aSTValidUptoCard

/-- THE SECOND FORM's CARD OF 'privitylaw27.ASTEqual'. -/
def aSTEqualUptoCard : Claim7 := { stood := { row := aSTEqualUptoRow, standIns := [], harness := (true, "2ea7058f3c351fd836e7fcfa367bd85907c742b22cfc9d48fa0c160c59a31b68"), looks := true }, kinds := [], alts := [], laidByText := true, laidKinds := [.data, .data, .data, .widerDeep, .data, .data], laidTests := true, laidLooks := .later }
def ASTEqualUptoCardSaid : Prop := Claim7.holds Tryd.pinned (.plain (OpenSpec.upto aSTEqualSpec)) aSTEqualUptoCard

/-- THE SECOND FORM's CARD OF 'privitylaw27.ASTFormat'. -/
def aSTFormatUptoCard : Claim7 := { stood := { row := aSTFormatUptoRow, standIns := [], harness := (true, "2ea7058f3c351fd836e7fcfa367bd85907c742b22cfc9d48fa0c160c59a31b68"), looks := true }, kinds := [], alts := [], laidByText := true, laidKinds := [.data, .data, .data, .widerDeep, .data, .data], laidTests := true, laidLooks := .later }
def ASTFormatUptoCardSaid : Prop := Claim7.holds Tryd.pinned (.plain (OpenSpec.upto aSTFormatSpec)) aSTFormatUptoCard

/-- THE SECOND FORM's CARD OF 'privitylaw27.ASTFormatInjective'. -/
def aSTFormatInjectiveUptoCard : Claim7 := { stood := { row := aSTFormatInjectiveUptoRow, standIns := [], harness := (true, "2ea7058f3c351fd836e7fcfa367bd85907c742b22cfc9d48fa0c160c59a31b68"), looks := true }, kinds := [], alts := [], laidByText := true, laidKinds := [.data, .data, .data, .widerDeep, .data, .data], laidTests := true, laidLooks := .later }
def ASTFormatInjectiveUptoCardSaid : Prop := Claim7.holds Tryd.pinned (.plain (OpenSpec.upto aSTFormatInjectiveSpec)) aSTFormatInjectiveUptoCard

/-- THE SECOND FORM's CARD OF 'privitylaw27.ASTMaxNesting'. -/
def aSTMaxNestingUptoCard : Claim7 := { stood := { row := aSTMaxNestingUptoRow, standIns := [], harness := (true, "2ea7058f3c351fd836e7fcfa367bd85907c742b22cfc9d48fa0c160c59a31b68"), looks := true }, kinds := [], alts := [], laidByText := true, laidKinds := [.data, .data, .data, .widerDeep, .data, .data], laidTests := true, laidLooks := .later }
def ASTMaxNestingUptoCardSaid : Prop := Claim7.holds Tryd.pinned (.plain (OpenSpec.upto aSTMaxNestingSpec)) aSTMaxNestingUptoCard

/-- THE SECOND FORM's CARD OF 'privitylaw27.ASTAssociativity'. -/
def aSTAssociativityUptoCard : Claim7 := { stood := { row := aSTAssociativityUptoRow, standIns := [], harness := (true, "2ea7058f3c351fd836e7fcfa367bd85907c742b22cfc9d48fa0c160c59a31b68"), looks := true }, kinds := [], alts := [], laidByText := true, laidKinds := [.data, .data, .data, .widerDeep, .data, .data], laidTests := true, laidLooks := .later }
def ASTAssociativityUptoCardSaid : Prop := Claim7.holds Tryd.pinned (.plain (OpenSpec.upto aSTAssociativitySpec)) aSTAssociativityUptoCard

/-- THE SECOND FORM's CARD OF 'privitylaw27.ASTFormatTokens'. -/
def aSTFormatTokensUptoCard : Claim7 := { stood := { row := aSTFormatTokensUptoRow, standIns := [], harness := (true, "2ea7058f3c351fd836e7fcfa367bd85907c742b22cfc9d48fa0c160c59a31b68"), looks := true }, kinds := [], alts := [], laidByText := true, laidKinds := [.data, .data, .data, .widerDeep, .data, .data], laidTests := true, laidLooks := .later }
def ASTFormatTokensUptoCardSaid : Prop := Claim7.holds Tryd.pinned (.plain (OpenSpec.upto aSTFormatTokensSpec)) aSTFormatTokensUptoCard

/-- THE SECOND FORM's CARD OF 'privitylaw28.ParserIgnoresParentheses'. -/
def parserIgnoresParenthesesUptoCard : Claim7 := { stood := { row := parserIgnoresParenthesesUptoRow, standIns := [], harness := (true, "2ea7058f3c351fd836e7fcfa367bd85907c742b22cfc9d48fa0c160c59a31b68"), looks := true }, kinds := [], alts := [], laidByText := true, laidKinds := [.data, .data, .data, .widerDeep, .data, .data], laidTests := true, laidLooks := .later }
def ParserIgnoresParenthesesUptoCardSaid : Prop := Claim7.holds Tryd.pinned (.plain (OpenSpec.upto parserIgnoresParenthesesSpec)) parserIgnoresParenthesesUptoCard

/-- THE SECOND FORM's CARD OF 'privitylaw28.ParserPrecedence'. -/
def parserPrecedenceUptoCard : Claim7 := { stood := { row := parserPrecedenceUptoRow, standIns := [], harness := (true, "2ea7058f3c351fd836e7fcfa367bd85907c742b22cfc9d48fa0c160c59a31b68"), looks := true }, kinds := [], alts := [], laidByText := true, laidKinds := [.data, .data, .data, .widerDeep, .data, .data], laidTests := true, laidLooks := .later }
def ParserPrecedenceUptoCardSaid : Prop := Claim7.holds Tryd.pinned (.plain (OpenSpec.upto parserPrecedenceSpec)) parserPrecedenceUptoCard

/-- THE SECOND FORM's CARD OF 'privitylaw28.ParserNestingLimit'. -/
def parserNestingLimitUptoCard : Claim7 := { stood := { row := parserNestingLimitUptoRow, standIns := [], harness := (true, "2ea7058f3c351fd836e7fcfa367bd85907c742b22cfc9d48fa0c160c59a31b68"), looks := true }, kinds := [], alts := [], laidByText := true, laidKinds := [.data, .data, .data, .widerDeep, .data, .data], laidTests := true, laidLooks := .later }
def ParserNestingLimitUptoCardSaid : Prop := Claim7.holds Tryd.pinned (.plain (OpenSpec.upto parserNestingLimitSpec)) parserNestingLimitUptoCard

/-- THE SECOND FORM's CARD OF 'privitylaw28.ParserPrintIsCanonical'. -/
def parserPrintIsCanonicalUptoCard : Claim7 := { stood := { row := parserPrintIsCanonicalUptoRow, standIns := [], harness := (true, "2ea7058f3c351fd836e7fcfa367bd85907c742b22cfc9d48fa0c160c59a31b68"), looks := true }, kinds := [], alts := [], laidByText := true, laidKinds := [.data, .data, .data, .widerDeep, .data, .data], laidTests := true, laidLooks := .later }
def ParserPrintIsCanonicalUptoCardSaid : Prop := Claim7.holds Tryd.pinned (.plain (OpenSpec.upto parserPrintIsCanonicalSpec)) parserPrintIsCanonicalUptoCard

/-- THE SECOND FORM's CARD OF 'privitylaw52.IntersectionProgram'. -/
def intersectionProgramUptoCard : Claim7 := { stood := { row := intersectionProgramUptoRow, standIns := [], harness := (true, "2ea7058f3c351fd836e7fcfa367bd85907c742b22cfc9d48fa0c160c59a31b68"), looks := true }, kinds := [], alts := [], laidByText := true, laidKinds := [.data, .data, .data, .widerDeep, .data, .data], laidTests := true, laidLooks := .later }
def IntersectionProgramUptoCardSaid : Prop := Claim7.holds Tryd.pinned (.plain (OpenSpec.upto intersectionProgramSpec)) intersectionProgramUptoCard
end Rows
end Go.Proofs.YtanollmhbjlimaaDoor
