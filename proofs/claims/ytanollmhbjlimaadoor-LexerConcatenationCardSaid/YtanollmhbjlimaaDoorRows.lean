/-
  NARROWER THAN 'FOR EVERY INPUT', by the rows' own cells (each row's printed sentence says how): LexerLex: laid · LexerIsName: laid · LexerOffsets: laid · LexerWhiteSpace: laid · LexerConcatenation: laid · ASTValid: loops, laid · ASTEqual: loops, laid · ASTFormat: loops, laid · ASTFormatInjective: loops, laid · ASTMaxNesting: laid · ASTAssociativity: laid · ASTFormatTokens: loops, laid · ParserIgnoresParentheses: laid · ParserPrecedence: laid · ParserNestingLimit: laid · ParserPrintIsCanonical: laid · IntersectionProgram: laid.
  DERIVED. THE GIVEN ROWS OF THIS SEAT. 17 by the template 'for every input the law returns true; each argument reads behind the call as it read before'; 0 by the template 'total and deterministic' (their statements: YtanollmhbjlimaaDoorTotals.lean).
  GIVEN WITH THE SEED: the statements are not yours to turn. If you find one false, say at which input.
  Laid BY PROGRAM, IN A SANDBOX (cutbox-rows.mjs): the forced cells as the released guide's own fill.sh prints them over the translation de42d77e42780fc9… (all of the seat's roots in one cut). By AI agents, Wed Nov 11 2026. No macro, syntax, notation, axiom, sorry.
-/
import Derived.Test.YtanollmhbjlimaaDoorChecked
import GoSem.Claim
import GoSem.ClaimJoined
import GoSem.ClaimMapViews
import Derived.JoinedTies
import Derived.KernelRfl
namespace Go.Proofs.YtanollmhbjlimaaDoor
/- THE CELL 'sum', in the pinned program and in every row, IS THE sha256 OF THE DUMP (.gsa) THAT YtanollmhbjlimaaDoorProg.lean LOADS. Nothing in Lean hashes anything: it is a label: what it is worth is what the hold of that sum in a sandbox is worth. -/
noncomputable def Tryd.pinned : Pinned := { name := "ytanollmhbjlimaadoor", sum := "de42d77e42780fc9547781bfef6d3c2136a792fdb3ac49e6355f02a564a39bac", checked := Tryd.checked }
namespace Rows
def none {H : Type} : Left H := { results := [], args := [] }

/- WHAT THE LISTED PACKAGE-LEVEL VARIABLES READ AS WHEN THE CALL BEGINS. Each datum BY PROGRAM (the guide's laid-datum.mjs) off the statement by which the dump's own 'gosem.cut.vars' lays the variable. In a bare row this is a premise. The card (YtanollmhbjlimaaDoorCards.lean) ties it to the program's text. -/
def laid_privity_lexer_reserved {H : Type} : DataW H := .slice [.lit (.string [105, 110]), .lit (.string [102, 114, 111, 109]), .lit (.string [97, 114, 114, 97, 121]), .lit (.string [105, 102]), .lit (.string [101, 108, 115, 101]), .lit (.string [102, 111, 114]), .lit (.string [116, 111]), .lit (.string [111, 117, 116])] []
def laid_math_bits_deBruijn32tab {H : Type} : DataW H := .agg [.lit (.int .u8 0), .lit (.int .u8 1), .lit (.int .u8 28), .lit (.int .u8 2), .lit (.int .u8 29), .lit (.int .u8 14), .lit (.int .u8 24), .lit (.int .u8 3), .lit (.int .u8 30), .lit (.int .u8 22), .lit (.int .u8 20), .lit (.int .u8 15), .lit (.int .u8 25), .lit (.int .u8 17), .lit (.int .u8 4), .lit (.int .u8 8), .lit (.int .u8 31), .lit (.int .u8 27), .lit (.int .u8 13), .lit (.int .u8 23), .lit (.int .u8 21), .lit (.int .u8 19), .lit (.int .u8 16), .lit (.int .u8 7), .lit (.int .u8 26), .lit (.int .u8 12), .lit (.int .u8 18), .lit (.int .u8 6), .lit (.int .u8 11), .lit (.int .u8 5), .lit (.int .u8 10), .lit (.int .u8 9)]
def laid_math_bits_deBruijn64tab {H : Type} : DataW H := .agg [.lit (.int .u8 0), .lit (.int .u8 1), .lit (.int .u8 56), .lit (.int .u8 2), .lit (.int .u8 57), .lit (.int .u8 49), .lit (.int .u8 28), .lit (.int .u8 3), .lit (.int .u8 61), .lit (.int .u8 58), .lit (.int .u8 42), .lit (.int .u8 50), .lit (.int .u8 38), .lit (.int .u8 29), .lit (.int .u8 17), .lit (.int .u8 4), .lit (.int .u8 62), .lit (.int .u8 47), .lit (.int .u8 59), .lit (.int .u8 36), .lit (.int .u8 45), .lit (.int .u8 43), .lit (.int .u8 51), .lit (.int .u8 22), .lit (.int .u8 53), .lit (.int .u8 39), .lit (.int .u8 33), .lit (.int .u8 30), .lit (.int .u8 24), .lit (.int .u8 18), .lit (.int .u8 12), .lit (.int .u8 5), .lit (.int .u8 63), .lit (.int .u8 55), .lit (.int .u8 48), .lit (.int .u8 27), .lit (.int .u8 60), .lit (.int .u8 41), .lit (.int .u8 37), .lit (.int .u8 16), .lit (.int .u8 46), .lit (.int .u8 35), .lit (.int .u8 44), .lit (.int .u8 21), .lit (.int .u8 52), .lit (.int .u8 32), .lit (.int .u8 23), .lit (.int .u8 11), .lit (.int .u8 54), .lit (.int .u8 26), .lit (.int .u8 40), .lit (.int .u8 15), .lit (.int .u8 34), .lit (.int .u8 20), .lit (.int .u8 31), .lit (.int .u8 10), .lit (.int .u8 25), .lit (.int .u8 14), .lit (.int .u8 19), .lit (.int .u8 9), .lit (.int .u8 13), .lit (.int .u8 8), .lit (.int .u8 7), .lit (.int .u8 6)]
def laid_internal_strconv_uint64pow10 {H : Type} : DataW H := .agg [.lit (.int .u64 1), .lit (.int .u64 10), .lit (.int .u64 100), .lit (.int .u64 1000), .lit (.int .u64 10000), .lit (.int .u64 100000), .lit (.int .u64 1000000), .lit (.int .u64 10000000), .lit (.int .u64 100000000), .lit (.int .u64 1000000000), .lit (.int .u64 10000000000), .lit (.int .u64 100000000000), .lit (.int .u64 1000000000000), .lit (.int .u64 10000000000000), .lit (.int .u64 100000000000000), .lit (.int .u64 1000000000000000), .lit (.int .u64 10000000000000000), .lit (.int .u64 100000000000000000), .lit (.int .u64 1000000000000000000), .lit (.int .u64 10000000000000000000)]
def laid_privity_ast_signs {H : Type} : DataW H := .agg [.lit (.string []), .lit (.string [43]), .lit (.string [45]), .lit (.string [42]), .lit (.string [60]), .lit (.string [61, 61]), .lit (.string [38]), .lit (.string [124])]
def laid_privity_ast_strengths {H : Type} : DataW H := .agg [.lit (.int .i64 0), .lit (.int .i64 6), .lit (.int .i64 6), .lit (.int .i64 7), .lit (.int .i64 5), .lit (.int .i64 4), .lit (.int .i64 3), .lit (.int .i64 2)]

/-- 'privitylaw26.LexerLex': WHATEVER THE INPUT: true; the input reads as it did. -/
def lexerLexSpec : ChangeSpec := { name := "lexerLex", fn := fun _ => fun
  | [d] => { results := [.lit (.bool true)], args := [d] }
  | _ => none }
def lexerLexRow : OpenClaim := { program := "ytanollmhbjlimaadoor", sum := "de42d77e42780fc9547781bfef6d3c2136a792fdb3ac49e6355f02a564a39bac", func := "privity/privitylaw26.LexerLex", spec := "lexerLex", inPlace := ["internal/bytealg.IndexByteString"], named := ["privity/lexer.reserved"], apart := false, laid := [("privity/lexer.reserved", laid_privity_lexer_reserved)] }
def LexerLexSaid : Prop := lexerLexRow.holds Tryd.pinned (OpenSpec.ofChange lexerLexSpec)

/-- ITS FALSE NEIGHBOUR: 'it returns false'. Refute it at one input. -/
def lexerLexWrong : ChangeSpec := { name := "lexerLex", fn := fun _ => fun
  | [d] => { results := [.lit (.bool false)], args := [d] }
  | _ => none }
def LexerLexWrongFalsely : Prop := lexerLexRow.holds Tryd.pinned (OpenSpec.ofChange lexerLexWrong)

/-- 'privitylaw26.LexerIsName': WHATEVER THE INPUT: true; the input reads as it did. -/
def lexerIsNameSpec : ChangeSpec := { name := "lexerIsName", fn := fun _ => fun
  | [d] => { results := [.lit (.bool true)], args := [d] }
  | _ => none }
def lexerIsNameRow : OpenClaim := { program := "ytanollmhbjlimaadoor", sum := "de42d77e42780fc9547781bfef6d3c2136a792fdb3ac49e6355f02a564a39bac", func := "privity/privitylaw26.LexerIsName", spec := "lexerIsName", inPlace := ["internal/bytealg.IndexByteString"], named := ["privity/lexer.reserved"], apart := false, laid := [("privity/lexer.reserved", laid_privity_lexer_reserved)] }
def LexerIsNameSaid : Prop := lexerIsNameRow.holds Tryd.pinned (OpenSpec.ofChange lexerIsNameSpec)

/-- ITS FALSE NEIGHBOUR: 'it returns false'. Refute it at one input. -/
def lexerIsNameWrong : ChangeSpec := { name := "lexerIsName", fn := fun _ => fun
  | [d] => { results := [.lit (.bool false)], args := [d] }
  | _ => none }
def LexerIsNameWrongFalsely : Prop := lexerIsNameRow.holds Tryd.pinned (OpenSpec.ofChange lexerIsNameWrong)

/-- 'privitylaw26.LexerOffsets': WHATEVER THE INPUT: true; the input reads as it did. -/
def lexerOffsetsSpec : ChangeSpec := { name := "lexerOffsets", fn := fun _ => fun
  | [d] => { results := [.lit (.bool true)], args := [d] }
  | _ => none }
def lexerOffsetsRow : OpenClaim := { program := "ytanollmhbjlimaadoor", sum := "de42d77e42780fc9547781bfef6d3c2136a792fdb3ac49e6355f02a564a39bac", func := "privity/privitylaw26.LexerOffsets", spec := "lexerOffsets", inPlace := ["internal/bytealg.IndexByteString"], named := ["privity/lexer.reserved"], apart := false, laid := [("privity/lexer.reserved", laid_privity_lexer_reserved)] }
def LexerOffsetsSaid : Prop := lexerOffsetsRow.holds Tryd.pinned (OpenSpec.ofChange lexerOffsetsSpec)

/-- ITS FALSE NEIGHBOUR: 'it returns false'. Refute it at one input. -/
def lexerOffsetsWrong : ChangeSpec := { name := "lexerOffsets", fn := fun _ => fun
  | [d] => { results := [.lit (.bool false)], args := [d] }
  | _ => none }
def LexerOffsetsWrongFalsely : Prop := lexerOffsetsRow.holds Tryd.pinned (OpenSpec.ofChange lexerOffsetsWrong)

/-- 'privitylaw26.LexerWhiteSpace': WHATEVER THE INPUT: true; the input reads as it did. -/
def lexerWhiteSpaceSpec : ChangeSpec := { name := "lexerWhiteSpace", fn := fun _ => fun
  | [d1, d2] => { results := [.lit (.bool true)], args := [d1, d2] }
  | _ => none }
def lexerWhiteSpaceRow : OpenClaim := { program := "ytanollmhbjlimaadoor", sum := "de42d77e42780fc9547781bfef6d3c2136a792fdb3ac49e6355f02a564a39bac", func := "privity/privitylaw26.LexerWhiteSpace", spec := "lexerWhiteSpace", inPlace := ["internal/bytealg.IndexByteString"], named := ["privity/lexer.reserved"], apart := false, laid := [("privity/lexer.reserved", laid_privity_lexer_reserved)] }
def LexerWhiteSpaceSaid : Prop := lexerWhiteSpaceRow.holds Tryd.pinned (OpenSpec.ofChange lexerWhiteSpaceSpec)

/-- ITS FALSE NEIGHBOUR: 'it returns false'. Refute it at one input. -/
def lexerWhiteSpaceWrong : ChangeSpec := { name := "lexerWhiteSpace", fn := fun _ => fun
  | [d1, d2] => { results := [.lit (.bool false)], args := [d1, d2] }
  | _ => none }
def LexerWhiteSpaceWrongFalsely : Prop := lexerWhiteSpaceRow.holds Tryd.pinned (OpenSpec.ofChange lexerWhiteSpaceWrong)

/-- 'privitylaw26.LexerConcatenation': WHATEVER THE INPUT: true; the input reads as it did. -/
def lexerConcatenationSpec : ChangeSpec := { name := "lexerConcatenation", fn := fun _ => fun
  | [d1, d2] => { results := [.lit (.bool true)], args := [d1, d2] }
  | _ => none }
def lexerConcatenationRow : OpenClaim := { program := "ytanollmhbjlimaadoor", sum := "de42d77e42780fc9547781bfef6d3c2136a792fdb3ac49e6355f02a564a39bac", func := "privity/privitylaw26.LexerConcatenation", spec := "lexerConcatenation", inPlace := ["internal/bytealg.IndexByteString"], named := ["privity/lexer.reserved"], apart := false, laid := [("privity/lexer.reserved", laid_privity_lexer_reserved)] }
def LexerConcatenationSaid : Prop := lexerConcatenationRow.holds Tryd.pinned (OpenSpec.ofChange lexerConcatenationSpec)

/-- ITS FALSE NEIGHBOUR: 'it returns false'. Refute it at one input. -/
def lexerConcatenationWrong : ChangeSpec := { name := "lexerConcatenation", fn := fun _ => fun
  | [d1, d2] => { results := [.lit (.bool false)], args := [d1, d2] }
  | _ => none }
def LexerConcatenationWrongFalsely : Prop := lexerConcatenationRow.holds Tryd.pinned (OpenSpec.ofChange lexerConcatenationWrong)

/-- 'privitylaw27.ASTValid': WHATEVER THE INPUT: true; the input reads as it did. -/
def aSTValidSpec : ChangeSpec := { name := "aSTValid", fn := fun _ => fun
  | [d] => { results := [.lit (.bool true)], args := [d] }
  | _ => none }
def aSTValidRow : OpenClaim := { program := "ytanollmhbjlimaadoor", sum := "de42d77e42780fc9547781bfef6d3c2136a792fdb3ac49e6355f02a564a39bac", func := "privity/privitylaw27.ASTValid", spec := "aSTValid", inPlace := ["internal/abi.NoEscape", "internal/bytealg.MakeNoZero"], unfollowed := true, recurses := true, named := ["privity/lexer.reserved", "internal/strconv.uint64pow10", "math/bits.deBruijn32tab", "math/bits.deBruijn64tab", "privity/ast.strengths", "privity/ast.signs"], loops := true, apart := false, laid := [("math/bits.deBruijn32tab", laid_math_bits_deBruijn32tab), ("math/bits.deBruijn64tab", laid_math_bits_deBruijn64tab), ("internal/strconv.uint64pow10", laid_internal_strconv_uint64pow10), ("privity/lexer.reserved", laid_privity_lexer_reserved), ("privity/ast.signs", laid_privity_ast_signs), ("privity/ast.strengths", laid_privity_ast_strengths)] }
def ASTValidSaid : Prop := aSTValidRow.holds Tryd.pinned (OpenSpec.ofChange aSTValidSpec)

/-- ITS FALSE NEIGHBOUR: 'it returns false'. Refute it at one input. -/
def aSTValidWrong : ChangeSpec := { name := "aSTValid", fn := fun _ => fun
  | [d] => { results := [.lit (.bool false)], args := [d] }
  | _ => none }
def ASTValidWrongFalsely : Prop := aSTValidRow.holds Tryd.pinned (OpenSpec.ofChange aSTValidWrong)

/-- 'privitylaw27.ASTEqual': WHATEVER THE INPUT: true; the input reads as it did. -/
def aSTEqualSpec : ChangeSpec := { name := "aSTEqual", fn := fun _ => fun
  | [d1, d2] => { results := [.lit (.bool true)], args := [d1, d2] }
  | _ => none }
def aSTEqualRow : OpenClaim := { program := "ytanollmhbjlimaadoor", sum := "de42d77e42780fc9547781bfef6d3c2136a792fdb3ac49e6355f02a564a39bac", func := "privity/privitylaw27.ASTEqual", spec := "aSTEqual", inPlace := ["internal/abi.NoEscape", "internal/bytealg.MakeNoZero"], unfollowed := true, recurses := true, named := ["privity/lexer.reserved", "internal/strconv.uint64pow10", "math/bits.deBruijn32tab", "math/bits.deBruijn64tab", "privity/ast.strengths", "privity/ast.signs"], loops := true, apart := false, laid := [("math/bits.deBruijn32tab", laid_math_bits_deBruijn32tab), ("math/bits.deBruijn64tab", laid_math_bits_deBruijn64tab), ("internal/strconv.uint64pow10", laid_internal_strconv_uint64pow10), ("privity/lexer.reserved", laid_privity_lexer_reserved), ("privity/ast.signs", laid_privity_ast_signs), ("privity/ast.strengths", laid_privity_ast_strengths)] }
def ASTEqualSaid : Prop := aSTEqualRow.holds Tryd.pinned (OpenSpec.ofChange aSTEqualSpec)

/-- ITS FALSE NEIGHBOUR: 'it returns false'. Refute it at one input. -/
def aSTEqualWrong : ChangeSpec := { name := "aSTEqual", fn := fun _ => fun
  | [d1, d2] => { results := [.lit (.bool false)], args := [d1, d2] }
  | _ => none }
def ASTEqualWrongFalsely : Prop := aSTEqualRow.holds Tryd.pinned (OpenSpec.ofChange aSTEqualWrong)

/-- 'privitylaw27.ASTFormat': WHATEVER THE INPUT: true; the input reads as it did. -/
def aSTFormatSpec : ChangeSpec := { name := "aSTFormat", fn := fun _ => fun
  | [d] => { results := [.lit (.bool true)], args := [d] }
  | _ => none }
def aSTFormatRow : OpenClaim := { program := "ytanollmhbjlimaadoor", sum := "de42d77e42780fc9547781bfef6d3c2136a792fdb3ac49e6355f02a564a39bac", func := "privity/privitylaw27.ASTFormat", spec := "aSTFormat", inPlace := ["internal/abi.NoEscape", "internal/bytealg.MakeNoZero"], unfollowed := true, recurses := true, named := ["privity/lexer.reserved", "internal/strconv.uint64pow10", "math/bits.deBruijn32tab", "math/bits.deBruijn64tab", "privity/ast.strengths", "privity/ast.signs"], loops := true, apart := false, laid := [("math/bits.deBruijn32tab", laid_math_bits_deBruijn32tab), ("math/bits.deBruijn64tab", laid_math_bits_deBruijn64tab), ("internal/strconv.uint64pow10", laid_internal_strconv_uint64pow10), ("privity/lexer.reserved", laid_privity_lexer_reserved), ("privity/ast.signs", laid_privity_ast_signs), ("privity/ast.strengths", laid_privity_ast_strengths)] }
def ASTFormatSaid : Prop := aSTFormatRow.holds Tryd.pinned (OpenSpec.ofChange aSTFormatSpec)

/-- ITS FALSE NEIGHBOUR: 'it returns false'. Refute it at one input. -/
def aSTFormatWrong : ChangeSpec := { name := "aSTFormat", fn := fun _ => fun
  | [d] => { results := [.lit (.bool false)], args := [d] }
  | _ => none }
def ASTFormatWrongFalsely : Prop := aSTFormatRow.holds Tryd.pinned (OpenSpec.ofChange aSTFormatWrong)

/-- 'privitylaw27.ASTFormatInjective': WHATEVER THE INPUT: true; the input reads as it did. -/
def aSTFormatInjectiveSpec : ChangeSpec := { name := "aSTFormatInjective", fn := fun _ => fun
  | [d1, d2] => { results := [.lit (.bool true)], args := [d1, d2] }
  | _ => none }
def aSTFormatInjectiveRow : OpenClaim := { program := "ytanollmhbjlimaadoor", sum := "de42d77e42780fc9547781bfef6d3c2136a792fdb3ac49e6355f02a564a39bac", func := "privity/privitylaw27.ASTFormatInjective", spec := "aSTFormatInjective", inPlace := ["internal/abi.NoEscape", "internal/bytealg.MakeNoZero"], unfollowed := true, recurses := true, named := ["privity/lexer.reserved", "internal/strconv.uint64pow10", "math/bits.deBruijn32tab", "math/bits.deBruijn64tab", "privity/ast.strengths", "privity/ast.signs"], loops := true, apart := false, laid := [("math/bits.deBruijn32tab", laid_math_bits_deBruijn32tab), ("math/bits.deBruijn64tab", laid_math_bits_deBruijn64tab), ("internal/strconv.uint64pow10", laid_internal_strconv_uint64pow10), ("privity/lexer.reserved", laid_privity_lexer_reserved), ("privity/ast.signs", laid_privity_ast_signs), ("privity/ast.strengths", laid_privity_ast_strengths)] }
def ASTFormatInjectiveSaid : Prop := aSTFormatInjectiveRow.holds Tryd.pinned (OpenSpec.ofChange aSTFormatInjectiveSpec)

/-- ITS FALSE NEIGHBOUR: 'it returns false'. Refute it at one input. -/
def aSTFormatInjectiveWrong : ChangeSpec := { name := "aSTFormatInjective", fn := fun _ => fun
  | [d1, d2] => { results := [.lit (.bool false)], args := [d1, d2] }
  | _ => none }
def ASTFormatInjectiveWrongFalsely : Prop := aSTFormatInjectiveRow.holds Tryd.pinned (OpenSpec.ofChange aSTFormatInjectiveWrong)

/-- 'privitylaw27.ASTMaxNesting': WHATEVER THE INPUT: true; the input reads as it did. -/
def aSTMaxNestingSpec : ChangeSpec := { name := "aSTMaxNesting", fn := fun _ => fun
  | [d1, d2] => { results := [.lit (.bool true)], args := [d1, d2] }
  | _ => none }
def aSTMaxNestingRow : OpenClaim := { program := "ytanollmhbjlimaadoor", sum := "de42d77e42780fc9547781bfef6d3c2136a792fdb3ac49e6355f02a564a39bac", func := "privity/privitylaw27.ASTMaxNesting", spec := "aSTMaxNesting", inPlace := ["internal/abi.NoEscape", "internal/bytealg.MakeNoZero"], unfollowed := true, recurses := true, named := ["privity/lexer.reserved", "internal/strconv.uint64pow10", "math/bits.deBruijn32tab", "math/bits.deBruijn64tab", "privity/ast.strengths", "privity/ast.signs"], apart := false, laid := [("math/bits.deBruijn32tab", laid_math_bits_deBruijn32tab), ("math/bits.deBruijn64tab", laid_math_bits_deBruijn64tab), ("internal/strconv.uint64pow10", laid_internal_strconv_uint64pow10), ("privity/lexer.reserved", laid_privity_lexer_reserved), ("privity/ast.signs", laid_privity_ast_signs), ("privity/ast.strengths", laid_privity_ast_strengths)] }
def ASTMaxNestingSaid : Prop := aSTMaxNestingRow.holds Tryd.pinned (OpenSpec.ofChange aSTMaxNestingSpec)

/-- ITS FALSE NEIGHBOUR: 'it returns false'. Refute it at one input. -/
def aSTMaxNestingWrong : ChangeSpec := { name := "aSTMaxNesting", fn := fun _ => fun
  | [d1, d2] => { results := [.lit (.bool false)], args := [d1, d2] }
  | _ => none }
def ASTMaxNestingWrongFalsely : Prop := aSTMaxNestingRow.holds Tryd.pinned (OpenSpec.ofChange aSTMaxNestingWrong)

/-- 'privitylaw27.ASTAssociativity': WHATEVER THE INPUT: true; the input reads as it did. -/
def aSTAssociativitySpec : ChangeSpec := { name := "aSTAssociativity", fn := fun _ => fun
  | [d1, d2, d3] => { results := [.lit (.bool true)], args := [d1, d2, d3] }
  | _ => none }
def aSTAssociativityRow : OpenClaim := { program := "ytanollmhbjlimaadoor", sum := "de42d77e42780fc9547781bfef6d3c2136a792fdb3ac49e6355f02a564a39bac", func := "privity/privitylaw27.ASTAssociativity", spec := "aSTAssociativity", inPlace := ["internal/abi.NoEscape", "internal/bytealg.MakeNoZero"], unfollowed := true, recurses := true, named := ["internal/strconv.uint64pow10", "math/bits.deBruijn32tab", "math/bits.deBruijn64tab", "privity/ast.strengths", "privity/ast.signs", "privity/lexer.reserved"], apart := false, laid := [("math/bits.deBruijn32tab", laid_math_bits_deBruijn32tab), ("math/bits.deBruijn64tab", laid_math_bits_deBruijn64tab), ("internal/strconv.uint64pow10", laid_internal_strconv_uint64pow10), ("privity/lexer.reserved", laid_privity_lexer_reserved), ("privity/ast.signs", laid_privity_ast_signs), ("privity/ast.strengths", laid_privity_ast_strengths)] }
def ASTAssociativitySaid : Prop := aSTAssociativityRow.holds Tryd.pinned (OpenSpec.ofChange aSTAssociativitySpec)

/-- ITS FALSE NEIGHBOUR: 'it returns false'. Refute it at one input. -/
def aSTAssociativityWrong : ChangeSpec := { name := "aSTAssociativity", fn := fun _ => fun
  | [d1, d2, d3] => { results := [.lit (.bool false)], args := [d1, d2, d3] }
  | _ => none }
def ASTAssociativityWrongFalsely : Prop := aSTAssociativityRow.holds Tryd.pinned (OpenSpec.ofChange aSTAssociativityWrong)

/-- 'privitylaw27.ASTFormatTokens': WHATEVER THE INPUT: true; the input reads as it did. -/
def aSTFormatTokensSpec : ChangeSpec := { name := "aSTFormatTokens", fn := fun _ => fun
  | [d] => { results := [.lit (.bool true)], args := [d] }
  | _ => none }
def aSTFormatTokensRow : OpenClaim := { program := "ytanollmhbjlimaadoor", sum := "de42d77e42780fc9547781bfef6d3c2136a792fdb3ac49e6355f02a564a39bac", func := "privity/privitylaw27.ASTFormatTokens", spec := "aSTFormatTokens", inPlace := ["internal/abi.NoEscape", "internal/bytealg.MakeNoZero", "internal/bytealg.IndexByteString"], unfollowed := true, recurses := true, named := ["privity/lexer.reserved", "internal/strconv.uint64pow10", "math/bits.deBruijn32tab", "math/bits.deBruijn64tab", "privity/ast.strengths", "privity/ast.signs"], loops := true, apart := false, laid := [("math/bits.deBruijn32tab", laid_math_bits_deBruijn32tab), ("math/bits.deBruijn64tab", laid_math_bits_deBruijn64tab), ("internal/strconv.uint64pow10", laid_internal_strconv_uint64pow10), ("privity/lexer.reserved", laid_privity_lexer_reserved), ("privity/ast.signs", laid_privity_ast_signs), ("privity/ast.strengths", laid_privity_ast_strengths)] }
def ASTFormatTokensSaid : Prop := aSTFormatTokensRow.holds Tryd.pinned (OpenSpec.ofChange aSTFormatTokensSpec)

/-- ITS FALSE NEIGHBOUR: 'it returns false'. Refute it at one input. -/
def aSTFormatTokensWrong : ChangeSpec := { name := "aSTFormatTokens", fn := fun _ => fun
  | [d] => { results := [.lit (.bool false)], args := [d] }
  | _ => none }
def ASTFormatTokensWrongFalsely : Prop := aSTFormatTokensRow.holds Tryd.pinned (OpenSpec.ofChange aSTFormatTokensWrong)

/-- 'privitylaw28.ParserIgnoresParentheses': WHATEVER THE INPUT: true; the input reads as it did. -/
def parserIgnoresParenthesesSpec : ChangeSpec := { name := "parserIgnoresParentheses", fn := fun _ => fun
  | [d1, d2] => { results := [.lit (.bool true)], args := [d1, d2] }
  | _ => none }
def parserIgnoresParenthesesRow : OpenClaim := { program := "ytanollmhbjlimaadoor", sum := "de42d77e42780fc9547781bfef6d3c2136a792fdb3ac49e6355f02a564a39bac", func := "privity/privitylaw28.ParserIgnoresParentheses", spec := "parserIgnoresParentheses", inPlace := ["internal/bytealg.IndexByteString", "internal/abi.NoEscape", "internal/bytealg.MakeNoZero"], unfollowed := true, recurses := true, named := ["privity/lexer.reserved", "internal/strconv.uint64pow10", "math/bits.deBruijn32tab", "math/bits.deBruijn64tab", "privity/ast.strengths", "privity/ast.signs"], apart := false, laid := [("math/bits.deBruijn32tab", laid_math_bits_deBruijn32tab), ("math/bits.deBruijn64tab", laid_math_bits_deBruijn64tab), ("internal/strconv.uint64pow10", laid_internal_strconv_uint64pow10), ("privity/lexer.reserved", laid_privity_lexer_reserved), ("privity/ast.signs", laid_privity_ast_signs), ("privity/ast.strengths", laid_privity_ast_strengths)] }
def ParserIgnoresParenthesesSaid : Prop := parserIgnoresParenthesesRow.holds Tryd.pinned (OpenSpec.ofChange parserIgnoresParenthesesSpec)

/-- ITS FALSE NEIGHBOUR: 'it returns false'. Refute it at one input. -/
def parserIgnoresParenthesesWrong : ChangeSpec := { name := "parserIgnoresParentheses", fn := fun _ => fun
  | [d1, d2] => { results := [.lit (.bool false)], args := [d1, d2] }
  | _ => none }
def ParserIgnoresParenthesesWrongFalsely : Prop := parserIgnoresParenthesesRow.holds Tryd.pinned (OpenSpec.ofChange parserIgnoresParenthesesWrong)

/-- 'privitylaw28.ParserPrecedence': WHATEVER THE INPUT: true; the input reads as it did. -/
def parserPrecedenceSpec : ChangeSpec := { name := "parserPrecedence", fn := fun _ => fun
  | [d1, d2] => { results := [.lit (.bool true)], args := [d1, d2] }
  | _ => none }
def parserPrecedenceRow : OpenClaim := { program := "ytanollmhbjlimaadoor", sum := "de42d77e42780fc9547781bfef6d3c2136a792fdb3ac49e6355f02a564a39bac", func := "privity/privitylaw28.ParserPrecedence", spec := "parserPrecedence", inPlace := ["internal/bytealg.IndexByteString", "internal/abi.NoEscape", "internal/bytealg.MakeNoZero"], unfollowed := true, recurses := true, named := ["privity/lexer.reserved", "internal/strconv.uint64pow10", "math/bits.deBruijn32tab", "math/bits.deBruijn64tab", "privity/ast.strengths", "privity/ast.signs"], apart := false, laid := [("math/bits.deBruijn32tab", laid_math_bits_deBruijn32tab), ("math/bits.deBruijn64tab", laid_math_bits_deBruijn64tab), ("internal/strconv.uint64pow10", laid_internal_strconv_uint64pow10), ("privity/lexer.reserved", laid_privity_lexer_reserved), ("privity/ast.signs", laid_privity_ast_signs), ("privity/ast.strengths", laid_privity_ast_strengths)] }
def ParserPrecedenceSaid : Prop := parserPrecedenceRow.holds Tryd.pinned (OpenSpec.ofChange parserPrecedenceSpec)

/-- ITS FALSE NEIGHBOUR: 'it returns false'. Refute it at one input. -/
def parserPrecedenceWrong : ChangeSpec := { name := "parserPrecedence", fn := fun _ => fun
  | [d1, d2] => { results := [.lit (.bool false)], args := [d1, d2] }
  | _ => none }
def ParserPrecedenceWrongFalsely : Prop := parserPrecedenceRow.holds Tryd.pinned (OpenSpec.ofChange parserPrecedenceWrong)

/-- 'privitylaw28.ParserNestingLimit': WHATEVER THE INPUT: true; the input reads as it did. -/
def parserNestingLimitSpec : ChangeSpec := { name := "parserNestingLimit", fn := fun _ => fun
  | [d] => { results := [.lit (.bool true)], args := [d] }
  | _ => none }
def parserNestingLimitRow : OpenClaim := { program := "ytanollmhbjlimaadoor", sum := "de42d77e42780fc9547781bfef6d3c2136a792fdb3ac49e6355f02a564a39bac", func := "privity/privitylaw28.ParserNestingLimit", spec := "parserNestingLimit", inPlace := ["internal/bytealg.IndexByteString", "internal/abi.NoEscape", "internal/bytealg.MakeNoZero"], unfollowed := true, recurses := true, named := ["privity/lexer.reserved", "internal/strconv.uint64pow10", "math/bits.deBruijn32tab", "math/bits.deBruijn64tab", "privity/ast.strengths", "privity/ast.signs"], apart := false, laid := [("math/bits.deBruijn32tab", laid_math_bits_deBruijn32tab), ("math/bits.deBruijn64tab", laid_math_bits_deBruijn64tab), ("internal/strconv.uint64pow10", laid_internal_strconv_uint64pow10), ("privity/lexer.reserved", laid_privity_lexer_reserved), ("privity/ast.signs", laid_privity_ast_signs), ("privity/ast.strengths", laid_privity_ast_strengths)] }
def ParserNestingLimitSaid : Prop := parserNestingLimitRow.holds Tryd.pinned (OpenSpec.ofChange parserNestingLimitSpec)

/-- ITS FALSE NEIGHBOUR: 'it returns false'. Refute it at one input. -/
def parserNestingLimitWrong : ChangeSpec := { name := "parserNestingLimit", fn := fun _ => fun
  | [d] => { results := [.lit (.bool false)], args := [d] }
  | _ => none }
def ParserNestingLimitWrongFalsely : Prop := parserNestingLimitRow.holds Tryd.pinned (OpenSpec.ofChange parserNestingLimitWrong)

/-- 'privitylaw28.ParserPrintIsCanonical': WHATEVER THE INPUT: true; the input reads as it did. -/
def parserPrintIsCanonicalSpec : ChangeSpec := { name := "parserPrintIsCanonical", fn := fun _ => fun
  | [d] => { results := [.lit (.bool true)], args := [d] }
  | _ => none }
def parserPrintIsCanonicalRow : OpenClaim := { program := "ytanollmhbjlimaadoor", sum := "de42d77e42780fc9547781bfef6d3c2136a792fdb3ac49e6355f02a564a39bac", func := "privity/privitylaw28.ParserPrintIsCanonical", spec := "parserPrintIsCanonical", inPlace := ["internal/bytealg.IndexByteString", "internal/abi.NoEscape", "internal/bytealg.MakeNoZero"], unfollowed := true, recurses := true, named := ["privity/lexer.reserved", "internal/strconv.uint64pow10", "math/bits.deBruijn32tab", "math/bits.deBruijn64tab", "privity/ast.strengths", "privity/ast.signs"], apart := false, laid := [("math/bits.deBruijn32tab", laid_math_bits_deBruijn32tab), ("math/bits.deBruijn64tab", laid_math_bits_deBruijn64tab), ("internal/strconv.uint64pow10", laid_internal_strconv_uint64pow10), ("privity/lexer.reserved", laid_privity_lexer_reserved), ("privity/ast.signs", laid_privity_ast_signs), ("privity/ast.strengths", laid_privity_ast_strengths)] }
def ParserPrintIsCanonicalSaid : Prop := parserPrintIsCanonicalRow.holds Tryd.pinned (OpenSpec.ofChange parserPrintIsCanonicalSpec)

/-- ITS FALSE NEIGHBOUR: 'it returns false'. Refute it at one input. -/
def parserPrintIsCanonicalWrong : ChangeSpec := { name := "parserPrintIsCanonical", fn := fun _ => fun
  | [d] => { results := [.lit (.bool false)], args := [d] }
  | _ => none }
def ParserPrintIsCanonicalWrongFalsely : Prop := parserPrintIsCanonicalRow.holds Tryd.pinned (OpenSpec.ofChange parserPrintIsCanonicalWrong)

/-- 'privitylaw52.IntersectionProgram': WHATEVER THE INPUT: true; the input reads as it did. -/
def intersectionProgramSpec : ChangeSpec := { name := "intersectionProgram", fn := fun _ => fun
  | [d1, d2, d3] => { results := [.lit (.bool true)], args := [d1, d2, d3] }
  | _ => none }
def intersectionProgramRow : OpenClaim := { program := "ytanollmhbjlimaadoor", sum := "de42d77e42780fc9547781bfef6d3c2136a792fdb3ac49e6355f02a564a39bac", func := "privity/privitylaw52.IntersectionProgram", spec := "intersectionProgram", inPlace := ["internal/abi.NoEscape", "internal/bytealg.IndexByteString", "internal/bytealg.MakeNoZero"], unfollowed := true, recurses := true, named := ["internal/strconv.uint64pow10", "math/bits.deBruijn32tab", "math/bits.deBruijn64tab", "privity/lexer.reserved", "privity/ast.strengths", "privity/ast.signs"], apart := false, laid := [("math/bits.deBruijn32tab", laid_math_bits_deBruijn32tab), ("math/bits.deBruijn64tab", laid_math_bits_deBruijn64tab), ("internal/strconv.uint64pow10", laid_internal_strconv_uint64pow10), ("privity/lexer.reserved", laid_privity_lexer_reserved), ("privity/ast.signs", laid_privity_ast_signs), ("privity/ast.strengths", laid_privity_ast_strengths)] }
def IntersectionProgramSaid : Prop := intersectionProgramRow.holds Tryd.pinned (OpenSpec.ofChange intersectionProgramSpec)

/-- ITS FALSE NEIGHBOUR: 'it returns false'. Refute it at one input. -/
def intersectionProgramWrong : ChangeSpec := { name := "intersectionProgram", fn := fun _ => fun
  | [d1, d2, d3] => { results := [.lit (.bool false)], args := [d1, d2, d3] }
  | _ => none }
def IntersectionProgramWrongFalsely : Prop := intersectionProgramRow.holds Tryd.pinned (OpenSpec.ofChange intersectionProgramWrong)

/- THE SECOND FORM. 'bulk': how many values and letters a reading holds, each counted each time it is reached (what is shared counts as often as it is met; a slice's spare places count too). A statement '..UptoSaid' is the law's where the arguments, and the package variables that the reading takes, are together of bulk at most 1048576: NARROWER than '..Said'. Prove '..Said' where nothing that the law and all that it calls make is longer than what came in: it says more and counts as full. Else prove '..UptoSaid'. A law counts once. -/
mutual
def uptoBulk {H : Type} : DataW H → Nat
  | .lit (.string bytes) => bytes.length + 1
  | .lit _ => 1
  | .nil => 1
  | .ptr d => uptoBulk d + 1
  | .slice elems spare => uptoBulkAll elems + uptoBulkAll spare + 1
  | .agg parts => uptoBulkAll parts + 1
  | .iface _ d => uptoBulk d + 1
  | .map entries => uptoBulkEntries entries + 1
  | .held _ => 1
def uptoBulkAll {H : Type} : List (DataW H) → Nat
  | [] => 0
  | d :: r => uptoBulk d + uptoBulkAll r
def uptoBulkEntries {H : Type} : List (Lit × DataW H) → Nat
  | [] => 0
  | x :: r => uptoBulkEntry x + uptoBulkEntries r
def uptoBulkEntry {H : Type} : Lit × DataW H → Nat
  | (.string bytes, d) => bytes.length + uptoBulk d + 1
  | (_, d) => uptoBulk d + 1
 end
def uptoSmall : (H : Type) → List (DataW H) → Bool := fun _ ds => decide (uptoBulkAll ds ≤ 1048576)
def OpenSpec.upto (s : _root_.Go.ChangeSpec) : _root_.Go.OpenSpec := { _root_.Go.OpenSpec.ofChange s with cond := some uptoSmall }

/-- 'privitylaw26.LexerLex', WHERE WHAT IT READS IS OF BULK AT MOST 1048576: true; the input reads as it did. -/
def lexerLexUptoRow : OpenClaim := { program := "ytanollmhbjlimaadoor", sum := "de42d77e42780fc9547781bfef6d3c2136a792fdb3ac49e6355f02a564a39bac", func := "privity/privitylaw26.LexerLex", spec := "lexerLex", inPlace := ["internal/bytealg.IndexByteString"], named := ["privity/lexer.reserved"], apart := false, laid := [("privity/lexer.reserved", laid_privity_lexer_reserved)], narrowed := true }
def LexerLexUptoSaid : Prop := lexerLexUptoRow.holds Tryd.pinned (OpenSpec.upto lexerLexSpec)

/-- 'privitylaw26.LexerIsName', WHERE WHAT IT READS IS OF BULK AT MOST 1048576: true; the input reads as it did. -/
def lexerIsNameUptoRow : OpenClaim := { program := "ytanollmhbjlimaadoor", sum := "de42d77e42780fc9547781bfef6d3c2136a792fdb3ac49e6355f02a564a39bac", func := "privity/privitylaw26.LexerIsName", spec := "lexerIsName", inPlace := ["internal/bytealg.IndexByteString"], named := ["privity/lexer.reserved"], apart := false, laid := [("privity/lexer.reserved", laid_privity_lexer_reserved)], narrowed := true }
def LexerIsNameUptoSaid : Prop := lexerIsNameUptoRow.holds Tryd.pinned (OpenSpec.upto lexerIsNameSpec)

/-- 'privitylaw26.LexerOffsets', WHERE WHAT IT READS IS OF BULK AT MOST 1048576: true; the input reads as it did. -/
def lexerOffsetsUptoRow : OpenClaim := { program := "ytanollmhbjlimaadoor", sum := "de42d77e42780fc9547781bfef6d3c2136a792fdb3ac49e6355f02a564a39bac", func := "privity/privitylaw26.LexerOffsets", spec := "lexerOffsets", inPlace := ["internal/bytealg.IndexByteString"], named := ["privity/lexer.reserved"], apart := false, laid := [("privity/lexer.reserved", laid_privity_lexer_reserved)], narrowed := true }
def LexerOffsetsUptoSaid : Prop := lexerOffsetsUptoRow.holds Tryd.pinned (OpenSpec.upto lexerOffsetsSpec)

/-- 'privitylaw26.LexerWhiteSpace', WHERE WHAT IT READS IS OF BULK AT MOST 1048576: true; the input reads as it did. -/
def lexerWhiteSpaceUptoRow : OpenClaim := { program := "ytanollmhbjlimaadoor", sum := "de42d77e42780fc9547781bfef6d3c2136a792fdb3ac49e6355f02a564a39bac", func := "privity/privitylaw26.LexerWhiteSpace", spec := "lexerWhiteSpace", inPlace := ["internal/bytealg.IndexByteString"], named := ["privity/lexer.reserved"], apart := false, laid := [("privity/lexer.reserved", laid_privity_lexer_reserved)], narrowed := true }
def LexerWhiteSpaceUptoSaid : Prop := lexerWhiteSpaceUptoRow.holds Tryd.pinned (OpenSpec.upto lexerWhiteSpaceSpec)

/-- 'privitylaw26.LexerConcatenation', WHERE WHAT IT READS IS OF BULK AT MOST 1048576: true; the input reads as it did. -/
def lexerConcatenationUptoRow : OpenClaim := { program := "ytanollmhbjlimaadoor", sum := "de42d77e42780fc9547781bfef6d3c2136a792fdb3ac49e6355f02a564a39bac", func := "privity/privitylaw26.LexerConcatenation", spec := "lexerConcatenation", inPlace := ["internal/bytealg.IndexByteString"], named := ["privity/lexer.reserved"], apart := false, laid := [("privity/lexer.reserved", laid_privity_lexer_reserved)], narrowed := true }
def LexerConcatenationUptoSaid : Prop := lexerConcatenationUptoRow.holds Tryd.pinned (OpenSpec.upto lexerConcatenationSpec)

/-- 'privitylaw27.ASTValid', WHERE WHAT IT READS IS OF BULK AT MOST 1048576: true; the input reads as it did. -/
def aSTValidUptoRow : OpenClaim := { program := "ytanollmhbjlimaadoor", sum := "de42d77e42780fc9547781bfef6d3c2136a792fdb3ac49e6355f02a564a39bac", func := "privity/privitylaw27.ASTValid", spec := "aSTValid", inPlace := ["internal/abi.NoEscape", "internal/bytealg.MakeNoZero"], unfollowed := true, recurses := true, named := ["privity/lexer.reserved", "internal/strconv.uint64pow10", "math/bits.deBruijn32tab", "math/bits.deBruijn64tab", "privity/ast.strengths", "privity/ast.signs"], loops := true, apart := false, laid := [("math/bits.deBruijn32tab", laid_math_bits_deBruijn32tab), ("math/bits.deBruijn64tab", laid_math_bits_deBruijn64tab), ("internal/strconv.uint64pow10", laid_internal_strconv_uint64pow10), ("privity/lexer.reserved", laid_privity_lexer_reserved), ("privity/ast.signs", laid_privity_ast_signs), ("privity/ast.strengths", laid_privity_ast_strengths)], narrowed := true }
def ASTValidUptoSaid : Prop := aSTValidUptoRow.holds Tryd.pinned (OpenSpec.upto aSTValidSpec)

/-- 'privitylaw27.ASTEqual', WHERE WHAT IT READS IS OF BULK AT MOST 1048576: true; the input reads as it did. -/
def aSTEqualUptoRow : OpenClaim := { program := "ytanollmhbjlimaadoor", sum := "de42d77e42780fc9547781bfef6d3c2136a792fdb3ac49e6355f02a564a39bac", func := "privity/privitylaw27.ASTEqual", spec := "aSTEqual", inPlace := ["internal/abi.NoEscape", "internal/bytealg.MakeNoZero"], unfollowed := true, recurses := true, named := ["privity/lexer.reserved", "internal/strconv.uint64pow10", "math/bits.deBruijn32tab", "math/bits.deBruijn64tab", "privity/ast.strengths", "privity/ast.signs"], loops := true, apart := false, laid := [("math/bits.deBruijn32tab", laid_math_bits_deBruijn32tab), ("math/bits.deBruijn64tab", laid_math_bits_deBruijn64tab), ("internal/strconv.uint64pow10", laid_internal_strconv_uint64pow10), ("privity/lexer.reserved", laid_privity_lexer_reserved), ("privity/ast.signs", laid_privity_ast_signs), ("privity/ast.strengths", laid_privity_ast_strengths)], narrowed := true }
def ASTEqualUptoSaid : Prop := aSTEqualUptoRow.holds Tryd.pinned (OpenSpec.upto aSTEqualSpec)

/-- 'privitylaw27.ASTFormat', WHERE WHAT IT READS IS OF BULK AT MOST 1048576: true; the input reads as it did. -/
def aSTFormatUptoRow : OpenClaim := { program := "ytanollmhbjlimaadoor", sum := "de42d77e42780fc9547781bfef6d3c2136a792fdb3ac49e6355f02a564a39bac", func := "privity/privitylaw27.ASTFormat", spec := "aSTFormat", inPlace := ["internal/abi.NoEscape", "internal/bytealg.MakeNoZero"], unfollowed := true, recurses := true, named := ["privity/lexer.reserved", "internal/strconv.uint64pow10", "math/bits.deBruijn32tab", "math/bits.deBruijn64tab", "privity/ast.strengths", "privity/ast.signs"], loops := true, apart := false, laid := [("math/bits.deBruijn32tab", laid_math_bits_deBruijn32tab), ("math/bits.deBruijn64tab", laid_math_bits_deBruijn64tab), ("internal/strconv.uint64pow10", laid_internal_strconv_uint64pow10), ("privity/lexer.reserved", laid_privity_lexer_reserved), ("privity/ast.signs", laid_privity_ast_signs), ("privity/ast.strengths", laid_privity_ast_strengths)], narrowed := true }
def ASTFormatUptoSaid : Prop := aSTFormatUptoRow.holds Tryd.pinned (OpenSpec.upto aSTFormatSpec)

/-- 'privitylaw27.ASTFormatInjective', WHERE WHAT IT READS IS OF BULK AT MOST 1048576: true; the input reads as it did. -/
def aSTFormatInjectiveUptoRow : OpenClaim := { program := "ytanollmhbjlimaadoor", sum := "de42d77e42780fc9547781bfef6d3c2136a792fdb3ac49e6355f02a564a39bac", func := "privity/privitylaw27.ASTFormatInjective", spec := "aSTFormatInjective", inPlace := ["internal/abi.NoEscape", "internal/bytealg.MakeNoZero"], unfollowed := true, recurses := true, named := ["privity/lexer.reserved", "internal/strconv.uint64pow10", "math/bits.deBruijn32tab", "math/bits.deBruijn64tab", "privity/ast.strengths", "privity/ast.signs"], loops := true, apart := false, laid := [("math/bits.deBruijn32tab", laid_math_bits_deBruijn32tab), ("math/bits.deBruijn64tab", laid_math_bits_deBruijn64tab), ("internal/strconv.uint64pow10", laid_internal_strconv_uint64pow10), ("privity/lexer.reserved", laid_privity_lexer_reserved), ("privity/ast.signs", laid_privity_ast_signs), ("privity/ast.strengths", laid_privity_ast_strengths)], narrowed := true }
def ASTFormatInjectiveUptoSaid : Prop := aSTFormatInjectiveUptoRow.holds Tryd.pinned (OpenSpec.upto aSTFormatInjectiveSpec)

/-- 'privitylaw27.ASTMaxNesting', WHERE WHAT IT READS IS OF BULK AT MOST 1048576: true; the input reads as it did. -/
def aSTMaxNestingUptoRow : OpenClaim := { program := "ytanollmhbjlimaadoor", sum := "de42d77e42780fc9547781bfef6d3c2136a792fdb3ac49e6355f02a564a39bac", func := "privity/privitylaw27.ASTMaxNesting", spec := "aSTMaxNesting", inPlace := ["internal/abi.NoEscape", "internal/bytealg.MakeNoZero"], unfollowed := true, recurses := true, named := ["privity/lexer.reserved", "internal/strconv.uint64pow10", "math/bits.deBruijn32tab", "math/bits.deBruijn64tab", "privity/ast.strengths", "privity/ast.signs"], apart := false, laid := [("math/bits.deBruijn32tab", laid_math_bits_deBruijn32tab), ("math/bits.deBruijn64tab", laid_math_bits_deBruijn64tab), ("internal/strconv.uint64pow10", laid_internal_strconv_uint64pow10), ("privity/lexer.reserved", laid_privity_lexer_reserved), ("privity/ast.signs", laid_privity_ast_signs), ("privity/ast.strengths", laid_privity_ast_strengths)], narrowed := true }
def ASTMaxNestingUptoSaid : Prop := aSTMaxNestingUptoRow.holds Tryd.pinned (OpenSpec.upto aSTMaxNestingSpec)

/-- 'privitylaw27.ASTAssociativity', WHERE WHAT IT READS IS OF BULK AT MOST 1048576: true; the input reads as it did. -/
def aSTAssociativityUptoRow : OpenClaim := { program := "ytanollmhbjlimaadoor", sum := "de42d77e42780fc9547781bfef6d3c2136a792fdb3ac49e6355f02a564a39bac", func := "privity/privitylaw27.ASTAssociativity", spec := "aSTAssociativity", inPlace := ["internal/abi.NoEscape", "internal/bytealg.MakeNoZero"], unfollowed := true, recurses := true, named := ["internal/strconv.uint64pow10", "math/bits.deBruijn32tab", "math/bits.deBruijn64tab", "privity/ast.strengths", "privity/ast.signs", "privity/lexer.reserved"], apart := false, laid := [("math/bits.deBruijn32tab", laid_math_bits_deBruijn32tab), ("math/bits.deBruijn64tab", laid_math_bits_deBruijn64tab), ("internal/strconv.uint64pow10", laid_internal_strconv_uint64pow10), ("privity/lexer.reserved", laid_privity_lexer_reserved), ("privity/ast.signs", laid_privity_ast_signs), ("privity/ast.strengths", laid_privity_ast_strengths)], narrowed := true }
def ASTAssociativityUptoSaid : Prop := aSTAssociativityUptoRow.holds Tryd.pinned (OpenSpec.upto aSTAssociativitySpec)

/-- 'privitylaw27.ASTFormatTokens', WHERE WHAT IT READS IS OF BULK AT MOST 1048576: true; the input reads as it did. -/
def aSTFormatTokensUptoRow : OpenClaim := { program := "ytanollmhbjlimaadoor", sum := "de42d77e42780fc9547781bfef6d3c2136a792fdb3ac49e6355f02a564a39bac", func := "privity/privitylaw27.ASTFormatTokens", spec := "aSTFormatTokens", inPlace := ["internal/abi.NoEscape", "internal/bytealg.MakeNoZero", "internal/bytealg.IndexByteString"], unfollowed := true, recurses := true, named := ["privity/lexer.reserved", "internal/strconv.uint64pow10", "math/bits.deBruijn32tab", "math/bits.deBruijn64tab", "privity/ast.strengths", "privity/ast.signs"], loops := true, apart := false, laid := [("math/bits.deBruijn32tab", laid_math_bits_deBruijn32tab), ("math/bits.deBruijn64tab", laid_math_bits_deBruijn64tab), ("internal/strconv.uint64pow10", laid_internal_strconv_uint64pow10), ("privity/lexer.reserved", laid_privity_lexer_reserved), ("privity/ast.signs", laid_privity_ast_signs), ("privity/ast.strengths", laid_privity_ast_strengths)], narrowed := true }
def ASTFormatTokensUptoSaid : Prop := aSTFormatTokensUptoRow.holds Tryd.pinned (OpenSpec.upto aSTFormatTokensSpec)

/-- 'privitylaw28.ParserIgnoresParentheses', WHERE WHAT IT READS IS OF BULK AT MOST 1048576: true; the input reads as it did. -/
def parserIgnoresParenthesesUptoRow : OpenClaim := { program := "ytanollmhbjlimaadoor", sum := "de42d77e42780fc9547781bfef6d3c2136a792fdb3ac49e6355f02a564a39bac", func := "privity/privitylaw28.ParserIgnoresParentheses", spec := "parserIgnoresParentheses", inPlace := ["internal/bytealg.IndexByteString", "internal/abi.NoEscape", "internal/bytealg.MakeNoZero"], unfollowed := true, recurses := true, named := ["privity/lexer.reserved", "internal/strconv.uint64pow10", "math/bits.deBruijn32tab", "math/bits.deBruijn64tab", "privity/ast.strengths", "privity/ast.signs"], apart := false, laid := [("math/bits.deBruijn32tab", laid_math_bits_deBruijn32tab), ("math/bits.deBruijn64tab", laid_math_bits_deBruijn64tab), ("internal/strconv.uint64pow10", laid_internal_strconv_uint64pow10), ("privity/lexer.reserved", laid_privity_lexer_reserved), ("privity/ast.signs", laid_privity_ast_signs), ("privity/ast.strengths", laid_privity_ast_strengths)], narrowed := true }
def ParserIgnoresParenthesesUptoSaid : Prop := parserIgnoresParenthesesUptoRow.holds Tryd.pinned (OpenSpec.upto parserIgnoresParenthesesSpec)

/-- 'privitylaw28.ParserPrecedence', WHERE WHAT IT READS IS OF BULK AT MOST 1048576: true; the input reads as it did. -/
def parserPrecedenceUptoRow : OpenClaim := { program := "ytanollmhbjlimaadoor", sum := "de42d77e42780fc9547781bfef6d3c2136a792fdb3ac49e6355f02a564a39bac", func := "privity/privitylaw28.ParserPrecedence", spec := "parserPrecedence", inPlace := ["internal/bytealg.IndexByteString", "internal/abi.NoEscape", "internal/bytealg.MakeNoZero"], unfollowed := true, recurses := true, named := ["privity/lexer.reserved", "internal/strconv.uint64pow10", "math/bits.deBruijn32tab", "math/bits.deBruijn64tab", "privity/ast.strengths", "privity/ast.signs"], apart := false, laid := [("math/bits.deBruijn32tab", laid_math_bits_deBruijn32tab), ("math/bits.deBruijn64tab", laid_math_bits_deBruijn64tab), ("internal/strconv.uint64pow10", laid_internal_strconv_uint64pow10), ("privity/lexer.reserved", laid_privity_lexer_reserved), ("privity/ast.signs", laid_privity_ast_signs), ("privity/ast.strengths", laid_privity_ast_strengths)], narrowed := true }
def ParserPrecedenceUptoSaid : Prop := parserPrecedenceUptoRow.holds Tryd.pinned (OpenSpec.upto parserPrecedenceSpec)

/-- 'privitylaw28.ParserNestingLimit', WHERE WHAT IT READS IS OF BULK AT MOST 1048576: true; the input reads as it did. -/
def parserNestingLimitUptoRow : OpenClaim := { program := "ytanollmhbjlimaadoor", sum := "de42d77e42780fc9547781bfef6d3c2136a792fdb3ac49e6355f02a564a39bac", func := "privity/privitylaw28.ParserNestingLimit", spec := "parserNestingLimit", inPlace := ["internal/bytealg.IndexByteString", "internal/abi.NoEscape", "internal/bytealg.MakeNoZero"], unfollowed := true, recurses := true, named := ["privity/lexer.reserved", "internal/strconv.uint64pow10", "math/bits.deBruijn32tab", "math/bits.deBruijn64tab", "privity/ast.strengths", "privity/ast.signs"], apart := false, laid := [("math/bits.deBruijn32tab", laid_math_bits_deBruijn32tab), ("math/bits.deBruijn64tab", laid_math_bits_deBruijn64tab), ("internal/strconv.uint64pow10", laid_internal_strconv_uint64pow10), ("privity/lexer.reserved", laid_privity_lexer_reserved), ("privity/ast.signs", laid_privity_ast_signs), ("privity/ast.strengths", laid_privity_ast_strengths)], narrowed := true }
def ParserNestingLimitUptoSaid : Prop := parserNestingLimitUptoRow.holds Tryd.pinned (OpenSpec.upto parserNestingLimitSpec)

/-- 'privitylaw28.ParserPrintIsCanonical', WHERE WHAT IT READS IS OF BULK AT MOST 1048576: true; the input reads as it did. -/
def parserPrintIsCanonicalUptoRow : OpenClaim := { program := "ytanollmhbjlimaadoor", sum := "de42d77e42780fc9547781bfef6d3c2136a792fdb3ac49e6355f02a564a39bac", func := "privity/privitylaw28.ParserPrintIsCanonical", spec := "parserPrintIsCanonical", inPlace := ["internal/bytealg.IndexByteString", "internal/abi.NoEscape", "internal/bytealg.MakeNoZero"], unfollowed := true, recurses := true, named := ["privity/lexer.reserved", "internal/strconv.uint64pow10", "math/bits.deBruijn32tab", "math/bits.deBruijn64tab", "privity/ast.strengths", "privity/ast.signs"], apart := false, laid := [("math/bits.deBruijn32tab", laid_math_bits_deBruijn32tab), ("math/bits.deBruijn64tab", laid_math_bits_deBruijn64tab), ("internal/strconv.uint64pow10", laid_internal_strconv_uint64pow10), ("privity/lexer.reserved", laid_privity_lexer_reserved), ("privity/ast.signs", laid_privity_ast_signs), ("privity/ast.strengths", laid_privity_ast_strengths)], narrowed := true }
def ParserPrintIsCanonicalUptoSaid : Prop := parserPrintIsCanonicalUptoRow.holds Tryd.pinned (OpenSpec.upto parserPrintIsCanonicalSpec)

/-- 'privitylaw52.IntersectionProgram', WHERE WHAT IT READS IS OF BULK AT MOST 1048576: true; the input reads as it did. -/
def intersectionProgramUptoRow : OpenClaim := { program := "ytanollmhbjlimaadoor", sum := "de42d77e42780fc9547781bfef6d3c2136a792fdb3ac49e6355f02a564a39bac", func := "privity/privitylaw52.IntersectionProgram", spec := "intersectionProgram", inPlace := ["internal/abi.NoEscape", "internal/bytealg.IndexByteString", "internal/bytealg.MakeNoZero"], unfollowed := true, recurses := true, named := ["internal/strconv.uint64pow10", "math/bits.deBruijn32tab", "math/bits.deBruijn64tab", "privity/lexer.reserved", "privity/ast.strengths", "privity/ast.signs"], apart := false, laid := [("math/bits.deBruijn32tab", laid_math_bits_deBruijn32tab), ("math/bits.deBruijn64tab", laid_math_bits_deBruijn64tab), ("internal/strconv.uint64pow10", laid_internal_strconv_uint64pow10), ("privity/lexer.reserved", laid_privity_lexer_reserved), ("privity/ast.signs", laid_privity_ast_signs), ("privity/ast.strengths", laid_privity_ast_strengths)], narrowed := true }
def IntersectionProgramUptoSaid : Prop := intersectionProgramUptoRow.holds Tryd.pinned (OpenSpec.upto intersectionProgramSpec)

end Rows
end Go.Proofs.YtanollmhbjlimaaDoor
