import Derived.Test.YtanollmhbjlimaaDoorPlx19
import Derived.Test.YtanollmhbjlimaaDoorPuLex
namespace Go.Proofs.YtanollmhbjlimaaDoor.Pure
open Go.RowKit Go.Proofs.YtanollmhbjlimaaDoor.Pl Go.Proofs.YtanollmhbjlimaaDoor.Kn Go.Proofs.YtanollmhbjlimaaDoor.Lx Go.Proofs.YtanollmhbjlimaaDoorW.PrintWords
theorem LexerLex : privitylaw26_LexerLex.Pure := by
  intro a0 h0
  unfold privitylaw26_LexerLex.f
  by_cases h : (a0.size : Int) > 1500
  · rw [if_pos h, awake_f]; rfl
  · have hl := lexR_len a0
    rw [if_neg h, lex_f a0 (by omega), awake_f, show privityref26_Lex.f a0 = lexer_Lex.f a0 from rfl, lex_f a0 (by omega)]
    simp only [Option.bind_some, if_true]
    rw [same_f (by omega) (by omega), same_refl]
    simp
end Go.Proofs.YtanollmhbjlimaaDoor.Pure
