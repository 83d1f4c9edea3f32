/-
  DERIVED. GIVEN WITH THE SEED: THE PROGRAM's TIES (one call each: nine closed facts by the kernel) AND EACH ROW's TIE, after the 31st guide's Derived/Test/Toyas{Tie, Card}.lean. No idea stands in it: it is a product of the set-up. Laid BY PROGRAM, IN A SANDBOX (cutbox-door.mjs). By AI agents, Wed Nov 11 2026. No macro, syntax, notation, axiom, sorry.
-/
import Derived.Test.YtanollmhbjlimaaDoorRows
import Derived.LaidByTextLater
import Derived.SevenTiedAt
import Derived.LaidSub
import Derived.LaidOnce
namespace Go.Proofs.YtanollmhbjlimaaDoor
open Go
set_option maxRecDepth 100000
theorem seatTie1 : Tryd.prog.laidByTextLater [("math/bits.deBruijn32tab", Rows.laid_math_bits_deBruijn32tab), ("math/bits.deBruijn64tab", Rows.laid_math_bits_deBruijn64tab), ("internal/strconv.uint64pow10", Rows.laid_internal_strconv_uint64pow10), ("privity/lexer.reserved", Rows.laid_privity_lexer_reserved), ("privity/ast.signs", Rows.laid_privity_ast_signs), ("privity/ast.strengths", Rows.laid_privity_ast_strengths)] [.data, .data, .data, .widerDeep, .data, .data] true :=
  Program.laidByTextLater_by_one 39 8 65 (by kernel_rfl) (by kernel_rfl) (by kernel_rfl) (by kernel_rfl) (by kernel_rfl) (by kernel_rfl) (fun _ _ => by kernel_rfl)
theorem noOwnUnsafe : Tryd.pinned.checked.prog.headLifts.contains "ownunsafe" = false := by kernel_rfl
theorem tie : Tryd.prog.laidByTextLater [("privity/lexer.reserved", Rows.laid_privity_lexer_reserved)] [.widerDeep] true :=
  Program.laidByTextLater.sub seatTie1 ["privity/lexer.reserved"] (by kernel_rfl) (by kernel_rfl)
theorem lexerLex_row_tie : Rows.lexerLexRow.laidByTextAt .later Tryd.pinned [.widerDeep] true :=
  OpenClaim.laidByTextAt_later rfl rfl tie noOwnUnsafe
theorem lexerIsName_row_tie : Rows.lexerIsNameRow.laidByTextAt .later Tryd.pinned [.widerDeep] true :=
  OpenClaim.laidByTextAt_later rfl rfl tie noOwnUnsafe
theorem lexerOffsets_row_tie : Rows.lexerOffsetsRow.laidByTextAt .later Tryd.pinned [.widerDeep] true :=
  OpenClaim.laidByTextAt_later rfl rfl tie noOwnUnsafe
theorem lexerWhiteSpace_row_tie : Rows.lexerWhiteSpaceRow.laidByTextAt .later Tryd.pinned [.widerDeep] true :=
  OpenClaim.laidByTextAt_later rfl rfl tie noOwnUnsafe
theorem lexerConcatenation_row_tie : Rows.lexerConcatenationRow.laidByTextAt .later Tryd.pinned [.widerDeep] true :=
  OpenClaim.laidByTextAt_later rfl rfl tie noOwnUnsafe
theorem tie2 : Tryd.prog.laidByTextLater [("math/bits.deBruijn32tab", Rows.laid_math_bits_deBruijn32tab), ("math/bits.deBruijn64tab", Rows.laid_math_bits_deBruijn64tab), ("internal/strconv.uint64pow10", Rows.laid_internal_strconv_uint64pow10), ("privity/lexer.reserved", Rows.laid_privity_lexer_reserved), ("privity/ast.signs", Rows.laid_privity_ast_signs), ("privity/ast.strengths", Rows.laid_privity_ast_strengths)] [.data, .data, .data, .widerDeep, .data, .data] true :=
  Program.laidByTextLater.sub seatTie1 ["math/bits.deBruijn32tab", "math/bits.deBruijn64tab", "internal/strconv.uint64pow10", "privity/lexer.reserved", "privity/ast.signs", "privity/ast.strengths"] (by kernel_rfl) (by kernel_rfl)
theorem aSTValid_row_tie : Rows.aSTValidRow.laidByTextAt .later Tryd.pinned [.data, .data, .data, .widerDeep, .data, .data] true :=
  OpenClaim.laidByTextAt_later rfl rfl tie2 noOwnUnsafe
theorem aSTEqual_row_tie : Rows.aSTEqualRow.laidByTextAt .later Tryd.pinned [.data, .data, .data, .widerDeep, .data, .data] true :=
  OpenClaim.laidByTextAt_later rfl rfl tie2 noOwnUnsafe
theorem aSTFormat_row_tie : Rows.aSTFormatRow.laidByTextAt .later Tryd.pinned [.data, .data, .data, .widerDeep, .data, .data] true :=
  OpenClaim.laidByTextAt_later rfl rfl tie2 noOwnUnsafe
theorem aSTFormatInjective_row_tie : Rows.aSTFormatInjectiveRow.laidByTextAt .later Tryd.pinned [.data, .data, .data, .widerDeep, .data, .data] true :=
  OpenClaim.laidByTextAt_later rfl rfl tie2 noOwnUnsafe
theorem aSTMaxNesting_row_tie : Rows.aSTMaxNestingRow.laidByTextAt .later Tryd.pinned [.data, .data, .data, .widerDeep, .data, .data] true :=
  OpenClaim.laidByTextAt_later rfl rfl tie2 noOwnUnsafe
theorem aSTAssociativity_row_tie : Rows.aSTAssociativityRow.laidByTextAt .later Tryd.pinned [.data, .data, .data, .widerDeep, .data, .data] true :=
  OpenClaim.laidByTextAt_later rfl rfl tie2 noOwnUnsafe
theorem aSTFormatTokens_row_tie : Rows.aSTFormatTokensRow.laidByTextAt .later Tryd.pinned [.data, .data, .data, .widerDeep, .data, .data] true :=
  OpenClaim.laidByTextAt_later rfl rfl tie2 noOwnUnsafe
theorem parserIgnoresParentheses_row_tie : Rows.parserIgnoresParenthesesRow.laidByTextAt .later Tryd.pinned [.data, .data, .data, .widerDeep, .data, .data] true :=
  OpenClaim.laidByTextAt_later rfl rfl tie2 noOwnUnsafe
theorem parserPrecedence_row_tie : Rows.parserPrecedenceRow.laidByTextAt .later Tryd.pinned [.data, .data, .data, .widerDeep, .data, .data] true :=
  OpenClaim.laidByTextAt_later rfl rfl tie2 noOwnUnsafe
theorem parserNestingLimit_row_tie : Rows.parserNestingLimitRow.laidByTextAt .later Tryd.pinned [.data, .data, .data, .widerDeep, .data, .data] true :=
  OpenClaim.laidByTextAt_later rfl rfl tie2 noOwnUnsafe
theorem parserPrintIsCanonical_row_tie : Rows.parserPrintIsCanonicalRow.laidByTextAt .later Tryd.pinned [.data, .data, .data, .widerDeep, .data, .data] true :=
  OpenClaim.laidByTextAt_later rfl rfl tie2 noOwnUnsafe
theorem intersectionProgram_row_tie : Rows.intersectionProgramRow.laidByTextAt .later Tryd.pinned [.data, .data, .data, .widerDeep, .data, .data] true :=
  OpenClaim.laidByTextAt_later rfl rfl tie2 noOwnUnsafe
theorem lexerLexUpto_row_tie : Rows.lexerLexUptoRow.laidByTextAt .later Tryd.pinned [.widerDeep] true :=
  OpenClaim.laidByTextAt_later rfl rfl tie noOwnUnsafe
theorem lexerIsNameUpto_row_tie : Rows.lexerIsNameUptoRow.laidByTextAt .later Tryd.pinned [.widerDeep] true :=
  OpenClaim.laidByTextAt_later rfl rfl tie noOwnUnsafe
theorem lexerOffsetsUpto_row_tie : Rows.lexerOffsetsUptoRow.laidByTextAt .later Tryd.pinned [.widerDeep] true :=
  OpenClaim.laidByTextAt_later rfl rfl tie noOwnUnsafe
theorem lexerWhiteSpaceUpto_row_tie : Rows.lexerWhiteSpaceUptoRow.laidByTextAt .later Tryd.pinned [.widerDeep] true :=
  OpenClaim.laidByTextAt_later rfl rfl tie noOwnUnsafe
theorem lexerConcatenationUpto_row_tie : Rows.lexerConcatenationUptoRow.laidByTextAt .later Tryd.pinned [.widerDeep] true :=
  OpenClaim.laidByTextAt_later rfl rfl tie noOwnUnsafe
theorem aSTValidUpto_row_tie : Rows.aSTValidUptoRow.laidByTextAt .later Tryd.pinned [.data, .data, .data, .widerDeep, .data, .data] true :=
  OpenClaim.laidByTextAt_later rfl rfl tie2 noOwnUnsafe
theorem aSTEqualUpto_row_tie : Rows.aSTEqualUptoRow.laidByTextAt .later Tryd.pinned [.data, .data, .data, .widerDeep, .data, .data] true :=
  OpenClaim.laidByTextAt_later rfl rfl tie2 noOwnUnsafe
theorem aSTFormatUpto_row_tie : Rows.aSTFormatUptoRow.laidByTextAt .later Tryd.pinned [.data, .data, .data, .widerDeep, .data, .data] true :=
  OpenClaim.laidByTextAt_later rfl rfl tie2 noOwnUnsafe
theorem aSTFormatInjectiveUpto_row_tie : Rows.aSTFormatInjectiveUptoRow.laidByTextAt .later Tryd.pinned [.data, .data, .data, .widerDeep, .data, .data] true :=
  OpenClaim.laidByTextAt_later rfl rfl tie2 noOwnUnsafe
theorem aSTMaxNestingUpto_row_tie : Rows.aSTMaxNestingUptoRow.laidByTextAt .later Tryd.pinned [.data, .data, .data, .widerDeep, .data, .data] true :=
  OpenClaim.laidByTextAt_later rfl rfl tie2 noOwnUnsafe
theorem aSTAssociativityUpto_row_tie : Rows.aSTAssociativityUptoRow.laidByTextAt .later Tryd.pinned [.data, .data, .data, .widerDeep, .data, .data] true :=
  OpenClaim.laidByTextAt_later rfl rfl tie2 noOwnUnsafe
theorem aSTFormatTokensUpto_row_tie : Rows.aSTFormatTokensUptoRow.laidByTextAt .later Tryd.pinned [.data, .data, .data, .widerDeep, .data, .data] true :=
  OpenClaim.laidByTextAt_later rfl rfl tie2 noOwnUnsafe
theorem parserIgnoresParenthesesUpto_row_tie : Rows.parserIgnoresParenthesesUptoRow.laidByTextAt .later Tryd.pinned [.data, .data, .data, .widerDeep, .data, .data] true :=
  OpenClaim.laidByTextAt_later rfl rfl tie2 noOwnUnsafe
theorem parserPrecedenceUpto_row_tie : Rows.parserPrecedenceUptoRow.laidByTextAt .later Tryd.pinned [.data, .data, .data, .widerDeep, .data, .data] true :=
  OpenClaim.laidByTextAt_later rfl rfl tie2 noOwnUnsafe
theorem parserNestingLimitUpto_row_tie : Rows.parserNestingLimitUptoRow.laidByTextAt .later Tryd.pinned [.data, .data, .data, .widerDeep, .data, .data] true :=
  OpenClaim.laidByTextAt_later rfl rfl tie2 noOwnUnsafe
theorem parserPrintIsCanonicalUpto_row_tie : Rows.parserPrintIsCanonicalUptoRow.laidByTextAt .later Tryd.pinned [.data, .data, .data, .widerDeep, .data, .data] true :=
  OpenClaim.laidByTextAt_later rfl rfl tie2 noOwnUnsafe
theorem intersectionProgramUpto_row_tie : Rows.intersectionProgramUptoRow.laidByTextAt .later Tryd.pinned [.data, .data, .data, .widerDeep, .data, .data] true :=
  OpenClaim.laidByTextAt_later rfl rfl tie2 noOwnUnsafe
end Go.Proofs.YtanollmhbjlimaaDoor
