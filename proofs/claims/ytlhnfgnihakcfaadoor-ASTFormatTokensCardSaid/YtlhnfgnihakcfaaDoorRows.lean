/-
  NARROWER THAN 'FOR EVERY INPUT', by the rows' own cells (each row's printed sentence says how): ASTValid: loops, laid · ASTEqual: loops, laid · ASTFormat: loops, laid · ASTFormatInjective: loops, laid · ASTMaxNesting: laid · ASTAssociativity: laid · ASTFormatTokens: loops, laid.
  DERIVED. THE GIVEN ROWS OF THIS SEAT. 7 by the template 'for every input the law returns true; each argument reads behind the call as it read before'; 0 by the template 'total and deterministic' (their statements: YtlhnfgnihakcfaaDoorTotals.lean).
  GIVEN WITH THE SEED: the statements are not yours to turn. If you find one false, say at which input.
  Laid BY PROGRAM, IN A SANDBOX (cutbox-rows.mjs): the forced cells as the released guide's own fill.sh prints them over the translation a8c4c306fa464c79… (all of the seat's roots in one cut). By AI agents, Wed Nov 11 2026. No macro, syntax, notation, axiom, sorry.
-/
import Derived.Test.YtlhnfgnihakcfaaDoorChecked
import GoSem.Claim
import GoSem.ClaimJoined
import GoSem.ClaimMapViews
import Derived.JoinedTies
import Derived.KernelRfl
namespace Go.Proofs.YtlhnfgnihakcfaaDoor
/- THE CELL 'sum', in the pinned program and in every row, IS THE sha256 OF THE DUMP (.gsa) THAT YtlhnfgnihakcfaaDoorProg.lean LOADS. Nothing in Lean hashes anything: it is a label: what it is worth is what the hold of that sum in a sandbox is worth. -/
noncomputable def Tryd.pinned : Pinned := { name := "ytlhnfgnihakcfaadoor", sum := "a8c4c306fa464c79507b52730390cae5a3f834f82048d9e2e467a03af6da4b26", checked := Tryd.checked }
namespace Rows
def none {H : Type} : Left H := { results := [], args := [] }

/- WHAT THE LISTED PACKAGE-LEVEL VARIABLES READ AS WHEN THE CALL BEGINS. Each datum BY PROGRAM (the guide's laid-datum.mjs) off the statement by which the dump's own 'gosem.cut.vars' lays the variable. In a bare row this is a premise. The card (YtlhnfgnihakcfaaDoorCards.lean) ties it to the program's text. -/
def laid_math_bits_deBruijn32tab {H : Type} : DataW H := .agg [.lit (.int .u8 0), .lit (.int .u8 1), .lit (.int .u8 28), .lit (.int .u8 2), .lit (.int .u8 29), .lit (.int .u8 14), .lit (.int .u8 24), .lit (.int .u8 3), .lit (.int .u8 30), .lit (.int .u8 22), .lit (.int .u8 20), .lit (.int .u8 15), .lit (.int .u8 25), .lit (.int .u8 17), .lit (.int .u8 4), .lit (.int .u8 8), .lit (.int .u8 31), .lit (.int .u8 27), .lit (.int .u8 13), .lit (.int .u8 23), .lit (.int .u8 21), .lit (.int .u8 19), .lit (.int .u8 16), .lit (.int .u8 7), .lit (.int .u8 26), .lit (.int .u8 12), .lit (.int .u8 18), .lit (.int .u8 6), .lit (.int .u8 11), .lit (.int .u8 5), .lit (.int .u8 10), .lit (.int .u8 9)]
def laid_math_bits_deBruijn64tab {H : Type} : DataW H := .agg [.lit (.int .u8 0), .lit (.int .u8 1), .lit (.int .u8 56), .lit (.int .u8 2), .lit (.int .u8 57), .lit (.int .u8 49), .lit (.int .u8 28), .lit (.int .u8 3), .lit (.int .u8 61), .lit (.int .u8 58), .lit (.int .u8 42), .lit (.int .u8 50), .lit (.int .u8 38), .lit (.int .u8 29), .lit (.int .u8 17), .lit (.int .u8 4), .lit (.int .u8 62), .lit (.int .u8 47), .lit (.int .u8 59), .lit (.int .u8 36), .lit (.int .u8 45), .lit (.int .u8 43), .lit (.int .u8 51), .lit (.int .u8 22), .lit (.int .u8 53), .lit (.int .u8 39), .lit (.int .u8 33), .lit (.int .u8 30), .lit (.int .u8 24), .lit (.int .u8 18), .lit (.int .u8 12), .lit (.int .u8 5), .lit (.int .u8 63), .lit (.int .u8 55), .lit (.int .u8 48), .lit (.int .u8 27), .lit (.int .u8 60), .lit (.int .u8 41), .lit (.int .u8 37), .lit (.int .u8 16), .lit (.int .u8 46), .lit (.int .u8 35), .lit (.int .u8 44), .lit (.int .u8 21), .lit (.int .u8 52), .lit (.int .u8 32), .lit (.int .u8 23), .lit (.int .u8 11), .lit (.int .u8 54), .lit (.int .u8 26), .lit (.int .u8 40), .lit (.int .u8 15), .lit (.int .u8 34), .lit (.int .u8 20), .lit (.int .u8 31), .lit (.int .u8 10), .lit (.int .u8 25), .lit (.int .u8 14), .lit (.int .u8 19), .lit (.int .u8 9), .lit (.int .u8 13), .lit (.int .u8 8), .lit (.int .u8 7), .lit (.int .u8 6)]
def laid_internal_strconv_uint64pow10 {H : Type} : DataW H := .agg [.lit (.int .u64 1), .lit (.int .u64 10), .lit (.int .u64 100), .lit (.int .u64 1000), .lit (.int .u64 10000), .lit (.int .u64 100000), .lit (.int .u64 1000000), .lit (.int .u64 10000000), .lit (.int .u64 100000000), .lit (.int .u64 1000000000), .lit (.int .u64 10000000000), .lit (.int .u64 100000000000), .lit (.int .u64 1000000000000), .lit (.int .u64 10000000000000), .lit (.int .u64 100000000000000), .lit (.int .u64 1000000000000000), .lit (.int .u64 10000000000000000), .lit (.int .u64 100000000000000000), .lit (.int .u64 1000000000000000000), .lit (.int .u64 10000000000000000000)]
def laid_privity_lexer_reserved {H : Type} : DataW H := .slice [.lit (.string [105, 110]), .lit (.string [102, 114, 111, 109]), .lit (.string [97, 114, 114, 97, 121]), .lit (.string [105, 102]), .lit (.string [101, 108, 115, 101]), .lit (.string [102, 111, 114]), .lit (.string [116, 111]), .lit (.string [111, 117, 116])] []
def laid_privity_ast_signs {H : Type} : DataW H := .agg [.lit (.string []), .lit (.string [43]), .lit (.string [45]), .lit (.string [42]), .lit (.string [60]), .lit (.string [61, 61]), .lit (.string [38]), .lit (.string [124])]
def laid_privity_ast_strengths {H : Type} : DataW H := .agg [.lit (.int .i64 0), .lit (.int .i64 6), .lit (.int .i64 6), .lit (.int .i64 7), .lit (.int .i64 5), .lit (.int .i64 4), .lit (.int .i64 3), .lit (.int .i64 2)]

/-- 'privitylaw27.ASTValid': WHATEVER THE INPUT: true; the input reads as it did. -/
def aSTValidSpec : ChangeSpec := { name := "aSTValid", fn := fun _ => fun
  | [d] => { results := [.lit (.bool true)], args := [d] }
  | _ => none }
def aSTValidRow : OpenClaim := { program := "ytlhnfgnihakcfaadoor", sum := "a8c4c306fa464c79507b52730390cae5a3f834f82048d9e2e467a03af6da4b26", func := "privity/privitylaw27.ASTValid", spec := "aSTValid", inPlace := ["internal/abi.NoEscape", "internal/bytealg.MakeNoZero"], unfollowed := true, recurses := true, named := ["privity/lexer.reserved", "internal/strconv.uint64pow10", "math/bits.deBruijn32tab", "math/bits.deBruijn64tab", "privity/ast.strengths", "privity/ast.signs"], loops := true, apart := false, laid := [("math/bits.deBruijn32tab", laid_math_bits_deBruijn32tab), ("math/bits.deBruijn64tab", laid_math_bits_deBruijn64tab), ("internal/strconv.uint64pow10", laid_internal_strconv_uint64pow10), ("privity/lexer.reserved", laid_privity_lexer_reserved), ("privity/ast.signs", laid_privity_ast_signs), ("privity/ast.strengths", laid_privity_ast_strengths)] }
def ASTValidSaid : Prop := aSTValidRow.holds Tryd.pinned (OpenSpec.ofChange aSTValidSpec)

/-- ITS FALSE NEIGHBOUR: 'it returns false'. Refute it at one input. -/
def aSTValidWrong : ChangeSpec := { name := "aSTValid", fn := fun _ => fun
  | [d] => { results := [.lit (.bool false)], args := [d] }
  | _ => none }
def ASTValidWrongFalsely : Prop := aSTValidRow.holds Tryd.pinned (OpenSpec.ofChange aSTValidWrong)

/-- 'privitylaw27.ASTEqual': WHATEVER THE INPUT: true; the input reads as it did. -/
def aSTEqualSpec : ChangeSpec := { name := "aSTEqual", fn := fun _ => fun
  | [d1, d2] => { results := [.lit (.bool true)], args := [d1, d2] }
  | _ => none }
def aSTEqualRow : OpenClaim := { program := "ytlhnfgnihakcfaadoor", sum := "a8c4c306fa464c79507b52730390cae5a3f834f82048d9e2e467a03af6da4b26", func := "privity/privitylaw27.ASTEqual", spec := "aSTEqual", inPlace := ["internal/abi.NoEscape", "internal/bytealg.MakeNoZero"], unfollowed := true, recurses := true, named := ["privity/lexer.reserved", "internal/strconv.uint64pow10", "math/bits.deBruijn32tab", "math/bits.deBruijn64tab", "privity/ast.strengths", "privity/ast.signs"], loops := true, apart := false, laid := [("math/bits.deBruijn32tab", laid_math_bits_deBruijn32tab), ("math/bits.deBruijn64tab", laid_math_bits_deBruijn64tab), ("internal/strconv.uint64pow10", laid_internal_strconv_uint64pow10), ("privity/lexer.reserved", laid_privity_lexer_reserved), ("privity/ast.signs", laid_privity_ast_signs), ("privity/ast.strengths", laid_privity_ast_strengths)] }
def ASTEqualSaid : Prop := aSTEqualRow.holds Tryd.pinned (OpenSpec.ofChange aSTEqualSpec)

/-- ITS FALSE NEIGHBOUR: 'it returns false'. Refute it at one input. -/
def aSTEqualWrong : ChangeSpec := { name := "aSTEqual", fn := fun _ => fun
  | [d1, d2] => { results := [.lit (.bool false)], args := [d1, d2] }
  | _ => none }
def ASTEqualWrongFalsely : Prop := aSTEqualRow.holds Tryd.pinned (OpenSpec.ofChange aSTEqualWrong)

/-- 'privitylaw27.ASTFormat': WHATEVER THE INPUT: true; the input reads as it did. -/
def aSTFormatSpec : ChangeSpec := { name := "aSTFormat", fn := fun _ => fun
  | [d] => { results := [.lit (.bool true)], args := [d] }
  | _ => none }
def aSTFormatRow : OpenClaim := { program := "ytlhnfgnihakcfaadoor", sum := "a8c4c306fa464c79507b52730390cae5a3f834f82048d9e2e467a03af6da4b26", func := "privity/privitylaw27.ASTFormat", spec := "aSTFormat", inPlace := ["internal/abi.NoEscape", "internal/bytealg.MakeNoZero"], unfollowed := true, recurses := true, named := ["privity/lexer.reserved", "internal/strconv.uint64pow10", "math/bits.deBruijn32tab", "math/bits.deBruijn64tab", "privity/ast.strengths", "privity/ast.signs"], loops := true, apart := false, laid := [("math/bits.deBruijn32tab", laid_math_bits_deBruijn32tab), ("math/bits.deBruijn64tab", laid_math_bits_deBruijn64tab), ("internal/strconv.uint64pow10", laid_internal_strconv_uint64pow10), ("privity/lexer.reserved", laid_privity_lexer_reserved), ("privity/ast.signs", laid_privity_ast_signs), ("privity/ast.strengths", laid_privity_ast_strengths)] }
def ASTFormatSaid : Prop := aSTFormatRow.holds Tryd.pinned (OpenSpec.ofChange aSTFormatSpec)

/-- ITS FALSE NEIGHBOUR: 'it returns false'. Refute it at one input. -/
def aSTFormatWrong : ChangeSpec := { name := "aSTFormat", fn := fun _ => fun
  | [d] => { results := [.lit (.bool false)], args := [d] }
  | _ => none }
def ASTFormatWrongFalsely : Prop := aSTFormatRow.holds Tryd.pinned (OpenSpec.ofChange aSTFormatWrong)

/-- 'privitylaw27.ASTFormatInjective': WHATEVER THE INPUT: true; the input reads as it did. -/
def aSTFormatInjectiveSpec : ChangeSpec := { name := "aSTFormatInjective", fn := fun _ => fun
  | [d1, d2] => { results := [.lit (.bool true)], args := [d1, d2] }
  | _ => none }
def aSTFormatInjectiveRow : OpenClaim := { program := "ytlhnfgnihakcfaadoor", sum := "a8c4c306fa464c79507b52730390cae5a3f834f82048d9e2e467a03af6da4b26", func := "privity/privitylaw27.ASTFormatInjective", spec := "aSTFormatInjective", inPlace := ["internal/abi.NoEscape", "internal/bytealg.MakeNoZero"], unfollowed := true, recurses := true, named := ["privity/lexer.reserved", "internal/strconv.uint64pow10", "math/bits.deBruijn32tab", "math/bits.deBruijn64tab", "privity/ast.strengths", "privity/ast.signs"], loops := true, apart := false, laid := [("math/bits.deBruijn32tab", laid_math_bits_deBruijn32tab), ("math/bits.deBruijn64tab", laid_math_bits_deBruijn64tab), ("internal/strconv.uint64pow10", laid_internal_strconv_uint64pow10), ("privity/lexer.reserved", laid_privity_lexer_reserved), ("privity/ast.signs", laid_privity_ast_signs), ("privity/ast.strengths", laid_privity_ast_strengths)] }
def ASTFormatInjectiveSaid : Prop := aSTFormatInjectiveRow.holds Tryd.pinned (OpenSpec.ofChange aSTFormatInjectiveSpec)

/-- ITS FALSE NEIGHBOUR: 'it returns false'. Refute it at one input. -/
def aSTFormatInjectiveWrong : ChangeSpec := { name := "aSTFormatInjective", fn := fun _ => fun
  | [d1, d2] => { results := [.lit (.bool false)], args := [d1, d2] }
  | _ => none }
def ASTFormatInjectiveWrongFalsely : Prop := aSTFormatInjectiveRow.holds Tryd.pinned (OpenSpec.ofChange aSTFormatInjectiveWrong)

/-- 'privitylaw27.ASTMaxNesting': WHATEVER THE INPUT: true; the input reads as it did. -/
def aSTMaxNestingSpec : ChangeSpec := { name := "aSTMaxNesting", fn := fun _ => fun
  | [d1, d2] => { results := [.lit (.bool true)], args := [d1, d2] }
  | _ => none }
def aSTMaxNestingRow : OpenClaim := { program := "ytlhnfgnihakcfaadoor", sum := "a8c4c306fa464c79507b52730390cae5a3f834f82048d9e2e467a03af6da4b26", func := "privity/privitylaw27.ASTMaxNesting", spec := "aSTMaxNesting", inPlace := ["internal/abi.NoEscape", "internal/bytealg.MakeNoZero"], unfollowed := true, recurses := true, named := ["privity/lexer.reserved", "internal/strconv.uint64pow10", "math/bits.deBruijn32tab", "math/bits.deBruijn64tab", "privity/ast.strengths", "privity/ast.signs"], apart := false, laid := [("math/bits.deBruijn32tab", laid_math_bits_deBruijn32tab), ("math/bits.deBruijn64tab", laid_math_bits_deBruijn64tab), ("internal/strconv.uint64pow10", laid_internal_strconv_uint64pow10), ("privity/lexer.reserved", laid_privity_lexer_reserved), ("privity/ast.signs", laid_privity_ast_signs), ("privity/ast.strengths", laid_privity_ast_strengths)] }
def ASTMaxNestingSaid : Prop := aSTMaxNestingRow.holds Tryd.pinned (OpenSpec.ofChange aSTMaxNestingSpec)

/-- ITS FALSE NEIGHBOUR: 'it returns false'. Refute it at one input. -/
def aSTMaxNestingWrong : ChangeSpec := { name := "aSTMaxNesting", fn := fun _ => fun
  | [d1, d2] => { results := [.lit (.bool false)], args := [d1, d2] }
  | _ => none }
def ASTMaxNestingWrongFalsely : Prop := aSTMaxNestingRow.holds Tryd.pinned (OpenSpec.ofChange aSTMaxNestingWrong)

/-- 'privitylaw27.ASTAssociativity': WHATEVER THE INPUT: true; the input reads as it did. -/
def aSTAssociativitySpec : ChangeSpec := { name := "aSTAssociativity", fn := fun _ => fun
  | [d1, d2, d3] => { results := [.lit (.bool true)], args := [d1, d2, d3] }
  | _ => none }
def aSTAssociativityRow : OpenClaim := { program := "ytlhnfgnihakcfaadoor", sum := "a8c4c306fa464c79507b52730390cae5a3f834f82048d9e2e467a03af6da4b26", func := "privity/privitylaw27.ASTAssociativity", spec := "aSTAssociativity", inPlace := ["internal/abi.NoEscape", "internal/bytealg.MakeNoZero"], unfollowed := true, recurses := true, named := ["internal/strconv.uint64pow10", "math/bits.deBruijn32tab", "math/bits.deBruijn64tab", "privity/ast.strengths", "privity/ast.signs", "privity/lexer.reserved"], apart := false, laid := [("math/bits.deBruijn32tab", laid_math_bits_deBruijn32tab), ("math/bits.deBruijn64tab", laid_math_bits_deBruijn64tab), ("internal/strconv.uint64pow10", laid_internal_strconv_uint64pow10), ("privity/lexer.reserved", laid_privity_lexer_reserved), ("privity/ast.signs", laid_privity_ast_signs), ("privity/ast.strengths", laid_privity_ast_strengths)] }
def ASTAssociativitySaid : Prop := aSTAssociativityRow.holds Tryd.pinned (OpenSpec.ofChange aSTAssociativitySpec)

/-- ITS FALSE NEIGHBOUR: 'it returns false'. Refute it at one input. -/
def aSTAssociativityWrong : ChangeSpec := { name := "aSTAssociativity", fn := fun _ => fun
  | [d1, d2, d3] => { results := [.lit (.bool false)], args := [d1, d2, d3] }
  | _ => none }
def ASTAssociativityWrongFalsely : Prop := aSTAssociativityRow.holds Tryd.pinned (OpenSpec.ofChange aSTAssociativityWrong)

/-- 'privitylaw27.ASTFormatTokens': WHATEVER THE INPUT: true; the input reads as it did. -/
def aSTFormatTokensSpec : ChangeSpec := { name := "aSTFormatTokens", fn := fun _ => fun
  | [d] => { results := [.lit (.bool true)], args := [d] }
  | _ => none }
def aSTFormatTokensRow : OpenClaim := { program := "ytlhnfgnihakcfaadoor", sum := "a8c4c306fa464c79507b52730390cae5a3f834f82048d9e2e467a03af6da4b26", func := "privity/privitylaw27.ASTFormatTokens", spec := "aSTFormatTokens", inPlace := ["internal/abi.NoEscape", "internal/bytealg.MakeNoZero", "internal/bytealg.IndexByteString"], unfollowed := true, recurses := true, named := ["privity/lexer.reserved", "internal/strconv.uint64pow10", "math/bits.deBruijn32tab", "math/bits.deBruijn64tab", "privity/ast.strengths", "privity/ast.signs"], loops := true, apart := false, laid := [("math/bits.deBruijn32tab", laid_math_bits_deBruijn32tab), ("math/bits.deBruijn64tab", laid_math_bits_deBruijn64tab), ("internal/strconv.uint64pow10", laid_internal_strconv_uint64pow10), ("privity/lexer.reserved", laid_privity_lexer_reserved), ("privity/ast.signs", laid_privity_ast_signs), ("privity/ast.strengths", laid_privity_ast_strengths)] }
def ASTFormatTokensSaid : Prop := aSTFormatTokensRow.holds Tryd.pinned (OpenSpec.ofChange aSTFormatTokensSpec)

/-- ITS FALSE NEIGHBOUR: 'it returns false'. Refute it at one input. -/
def aSTFormatTokensWrong : ChangeSpec := { name := "aSTFormatTokens", fn := fun _ => fun
  | [d] => { results := [.lit (.bool false)], args := [d] }
  | _ => none }
def ASTFormatTokensWrongFalsely : Prop := aSTFormatTokensRow.holds Tryd.pinned (OpenSpec.ofChange aSTFormatTokensWrong)

/- THE SECOND FORM. 'bulk': how many values and letters a reading holds, each counted each time it is reached (what is shared counts as often as it is met; a slice's spare places count too). A statement '..UptoSaid' is the law's where the arguments, and the package variables that the reading takes, are together of bulk at most 1048576: NARROWER than '..Said'. Prove '..Said' where nothing that the law and all that it calls make is longer than what came in: it says more and counts as full. Else prove '..UptoSaid'. A law counts once. -/
mutual
def uptoBulk {H : Type} : DataW H → Nat
  | .lit (.string bytes) => bytes.length + 1
  | .lit _ => 1
  | .nil => 1
  | .ptr d => uptoBulk d + 1
  | .slice elems spare => uptoBulkAll elems + uptoBulkAll spare + 1
  | .agg parts => uptoBulkAll parts + 1
  | .iface _ d => uptoBulk d + 1
  | .map entries => uptoBulkEntries entries + 1
  | .held _ => 1
def uptoBulkAll {H : Type} : List (DataW H) → Nat
  | [] => 0
  | d :: r => uptoBulk d + uptoBulkAll r
def uptoBulkEntries {H : Type} : List (Lit × DataW H) → Nat
  | [] => 0
  | x :: r => uptoBulkEntry x + uptoBulkEntries r
def uptoBulkEntry {H : Type} : Lit × DataW H → Nat
  | (.string bytes, d) => bytes.length + uptoBulk d + 1
  | (_, d) => uptoBulk d + 1
 end
def uptoSmall : (H : Type) → List (DataW H) → Bool := fun _ ds => decide (uptoBulkAll ds ≤ 1048576)
def OpenSpec.upto (s : _root_.Go.ChangeSpec) : _root_.Go.OpenSpec := { _root_.Go.OpenSpec.ofChange s with cond := some uptoSmall }

/-- 'privitylaw27.ASTValid', WHERE WHAT IT READS IS OF BULK AT MOST 1048576: true; the input reads as it did. -/
def aSTValidUptoRow : OpenClaim := { program := "ytlhnfgnihakcfaadoor", sum := "a8c4c306fa464c79507b52730390cae5a3f834f82048d9e2e467a03af6da4b26", func := "privity/privitylaw27.ASTValid", spec := "aSTValid", inPlace := ["internal/abi.NoEscape", "internal/bytealg.MakeNoZero"], unfollowed := true, recurses := true, named := ["privity/lexer.reserved", "internal/strconv.uint64pow10", "math/bits.deBruijn32tab", "math/bits.deBruijn64tab", "privity/ast.strengths", "privity/ast.signs"], loops := true, apart := false, laid := [("math/bits.deBruijn32tab", laid_math_bits_deBruijn32tab), ("math/bits.deBruijn64tab", laid_math_bits_deBruijn64tab), ("internal/strconv.uint64pow10", laid_internal_strconv_uint64pow10), ("privity/lexer.reserved", laid_privity_lexer_reserved), ("privity/ast.signs", laid_privity_ast_signs), ("privity/ast.strengths", laid_privity_ast_strengths)], narrowed := true }
def ASTValidUptoSaid : Prop := aSTValidUptoRow.holds Tryd.pinned (OpenSpec.upto aSTValidSpec)

/-- 'privitylaw27.ASTEqual', WHERE WHAT IT READS IS OF BULK AT MOST 1048576: true; the input reads as it did. -/
def aSTEqualUptoRow : OpenClaim := { program := "ytlhnfgnihakcfaadoor", sum := "a8c4c306fa464c79507b52730390cae5a3f834f82048d9e2e467a03af6da4b26", func := "privity/privitylaw27.ASTEqual", spec := "aSTEqual", inPlace := ["internal/abi.NoEscape", "internal/bytealg.MakeNoZero"], unfollowed := true, recurses := true, named := ["privity/lexer.reserved", "internal/strconv.uint64pow10", "math/bits.deBruijn32tab", "math/bits.deBruijn64tab", "privity/ast.strengths", "privity/ast.signs"], loops := true, apart := false, laid := [("math/bits.deBruijn32tab", laid_math_bits_deBruijn32tab), ("math/bits.deBruijn64tab", laid_math_bits_deBruijn64tab), ("internal/strconv.uint64pow10", laid_internal_strconv_uint64pow10), ("privity/lexer.reserved", laid_privity_lexer_reserved), ("privity/ast.signs", laid_privity_ast_signs), ("privity/ast.strengths", laid_privity_ast_strengths)], narrowed := true }
def ASTEqualUptoSaid : Prop := aSTEqualUptoRow.holds Tryd.pinned (OpenSpec.upto aSTEqualSpec)

/-- 'privitylaw27.ASTFormat', WHERE WHAT IT READS IS OF BULK AT MOST 1048576: true; the input reads as it did. -/
def aSTFormatUptoRow : OpenClaim := { program := "ytlhnfgnihakcfaadoor", sum := "a8c4c306fa464c79507b52730390cae5a3f834f82048d9e2e467a03af6da4b26", func := "privity/privitylaw27.ASTFormat", spec := "aSTFormat", inPlace := ["internal/abi.NoEscape", "internal/bytealg.MakeNoZero"], unfollowed := true, recurses := true, named := ["privity/lexer.reserved", "internal/strconv.uint64pow10", "math/bits.deBruijn32tab", "math/bits.deBruijn64tab", "privity/ast.strengths", "privity/ast.signs"], loops := true, apart := false, laid := [("math/bits.deBruijn32tab", laid_math_bits_deBruijn32tab), ("math/bits.deBruijn64tab", laid_math_bits_deBruijn64tab), ("internal/strconv.uint64pow10", laid_internal_strconv_uint64pow10), ("privity/lexer.reserved", laid_privity_lexer_reserved), ("privity/ast.signs", laid_privity_ast_signs), ("privity/ast.strengths", laid_privity_ast_strengths)], narrowed := true }
def ASTFormatUptoSaid : Prop := aSTFormatUptoRow.holds Tryd.pinned (OpenSpec.upto aSTFormatSpec)

/-- 'privitylaw27.ASTFormatInjective', WHERE WHAT IT READS IS OF BULK AT MOST 1048576: true; the input reads as it did. -/
def aSTFormatInjectiveUptoRow : OpenClaim := { program := "ytlhnfgnihakcfaadoor", sum := "a8c4c306fa464c79507b52730390cae5a3f834f82048d9e2e467a03af6da4b26", func := "privity/privitylaw27.ASTFormatInjective", spec := "aSTFormatInjective", inPlace := ["internal/abi.NoEscape", "internal/bytealg.MakeNoZero"], unfollowed := true, recurses := true, named := ["privity/lexer.reserved", "internal/strconv.uint64pow10", "math/bits.deBruijn32tab", "math/bits.deBruijn64tab", "privity/ast.strengths", "privity/ast.signs"], loops := true, apart := false, laid := [("math/bits.deBruijn32tab", laid_math_bits_deBruijn32tab), ("math/bits.deBruijn64tab", laid_math_bits_deBruijn64tab), ("internal/strconv.uint64pow10", laid_internal_strconv_uint64pow10), ("privity/lexer.reserved", laid_privity_lexer_reserved), ("privity/ast.signs", laid_privity_ast_signs), ("privity/ast.strengths", laid_privity_ast_strengths)], narrowed := true }
def ASTFormatInjectiveUptoSaid : Prop := aSTFormatInjectiveUptoRow.holds Tryd.pinned (OpenSpec.upto aSTFormatInjectiveSpec)

/-- 'privitylaw27.ASTMaxNesting', WHERE WHAT IT READS IS OF BULK AT MOST 1048576: true; the input reads as it did. -/
def aSTMaxNestingUptoRow : OpenClaim := { program := "ytlhnfgnihakcfaadoor", sum := "a8c4c306fa464c79507b52730390cae5a3f834f82048d9e2e467a03af6da4b26", func := "privity/privitylaw27.ASTMaxNesting", spec := "aSTMaxNesting", inPlace := ["internal/abi.NoEscape", "internal/bytealg.MakeNoZero"], unfollowed := true, recurses := true, named := ["privity/lexer.reserved", "internal/strconv.uint64pow10", "math/bits.deBruijn32tab", "math/bits.deBruijn64tab", "privity/ast.strengths", "privity/ast.signs"], apart := false, laid := [("math/bits.deBruijn32tab", laid_math_bits_deBruijn32tab), ("math/bits.deBruijn64tab", laid_math_bits_deBruijn64tab), ("internal/strconv.uint64pow10", laid_internal_strconv_uint64pow10), ("privity/lexer.reserved", laid_privity_lexer_reserved), ("privity/ast.signs", laid_privity_ast_signs), ("privity/ast.strengths", laid_privity_ast_strengths)], narrowed := true }
def ASTMaxNestingUptoSaid : Prop := aSTMaxNestingUptoRow.holds Tryd.pinned (OpenSpec.upto aSTMaxNestingSpec)

/-- 'privitylaw27.ASTAssociativity', WHERE WHAT IT READS IS OF BULK AT MOST 1048576: true; the input reads as it did. -/
def aSTAssociativityUptoRow : OpenClaim := { program := "ytlhnfgnihakcfaadoor", sum := "a8c4c306fa464c79507b52730390cae5a3f834f82048d9e2e467a03af6da4b26", func := "privity/privitylaw27.ASTAssociativity", spec := "aSTAssociativity", inPlace := ["internal/abi.NoEscape", "internal/bytealg.MakeNoZero"], unfollowed := true, recurses := true, named := ["internal/strconv.uint64pow10", "math/bits.deBruijn32tab", "math/bits.deBruijn64tab", "privity/ast.strengths", "privity/ast.signs", "privity/lexer.reserved"], apart := false, laid := [("math/bits.deBruijn32tab", laid_math_bits_deBruijn32tab), ("math/bits.deBruijn64tab", laid_math_bits_deBruijn64tab), ("internal/strconv.uint64pow10", laid_internal_strconv_uint64pow10), ("privity/lexer.reserved", laid_privity_lexer_reserved), ("privity/ast.signs", laid_privity_ast_signs), ("privity/ast.strengths", laid_privity_ast_strengths)], narrowed := true }
def ASTAssociativityUptoSaid : Prop := aSTAssociativityUptoRow.holds Tryd.pinned (OpenSpec.upto aSTAssociativitySpec)

/-- 'privitylaw27.ASTFormatTokens', WHERE WHAT IT READS IS OF BULK AT MOST 1048576: true; the input reads as it did. -/
def aSTFormatTokensUptoRow : OpenClaim := { program := "ytlhnfgnihakcfaadoor", sum := "a8c4c306fa464c79507b52730390cae5a3f834f82048d9e2e467a03af6da4b26", func := "privity/privitylaw27.ASTFormatTokens", spec := "aSTFormatTokens", inPlace := ["internal/abi.NoEscape", "internal/bytealg.MakeNoZero", "internal/bytealg.IndexByteString"], unfollowed := true, recurses := true, named := ["privity/lexer.reserved", "internal/strconv.uint64pow10", "math/bits.deBruijn32tab", "math/bits.deBruijn64tab", "privity/ast.strengths", "privity/ast.signs"], loops := true, apart := false, laid := [("math/bits.deBruijn32tab", laid_math_bits_deBruijn32tab), ("math/bits.deBruijn64tab", laid_math_bits_deBruijn64tab), ("internal/strconv.uint64pow10", laid_internal_strconv_uint64pow10), ("privity/lexer.reserved", laid_privity_lexer_reserved), ("privity/ast.signs", laid_privity_ast_signs), ("privity/ast.strengths", laid_privity_ast_strengths)], narrowed := true }
def ASTFormatTokensUptoSaid : Prop := aSTFormatTokensUptoRow.holds Tryd.pinned (OpenSpec.upto aSTFormatTokensSpec)

end Rows
end Go.Proofs.YtlhnfgnihakcfaaDoor
