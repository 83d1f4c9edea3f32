import Derived.Test.YtanollmhbjlimaaDoorPlx24
import Derived.Test.YtanollmhbjlimaaDoorPuLex
import Derived.Test.YtanollmhbjlimaaDoorRfA1
set_option linter.unusedSimpArgs false
namespace Go.Proofs.YtanollmhbjlimaaDoor.Pure
open Go.RowKit Go.Proofs.YtanollmhbjlimaaDoor.Pl Go.Proofs.YtanollmhbjlimaaDoor.Kn Go.Proofs.YtanollmhbjlimaaDoor.Lx Go.Proofs.YtanollmhbjlimaaDoorW.PrintWords
theorem con_j0 (x0 x1 : ByteArray) (h0 : x0.size ≤ 700) (h1 : x1.size ≤ 700) (k : Nat) : privitylaw26_LexerConcatenation.j0 (k + 1) x0 x1 false = some true := by
  have s1 : (x0 ++ (⟨#[10]⟩ : ByteArray)).size = x0.size + 1 := by rw [ByteArray.size_append]; rfl
  have s2 : (x0 ++ (⟨#[10]⟩ : ByteArray) ++ x1).size = x0.size + 1 + x1.size := by rw [ByteArray.size_append, s1]
  have hd : (x0 ++ (⟨#[10]⟩ : ByteArray) ++ x1).data.toList = x0.data.toList ++ 10 :: x1.data.toList := by simp [ByteArray.data_append]
  have hj := Px.lexA_join x1.data.toList 0 x0.data.toList
  have hsh := Px.lexA_shift (x0.size + 1) 0 x1.data.toList
  rw [size_list, Nat.zero_add] at hj
  rw [Nat.zero_add] at hsh
  rw [hsh] at hj
  have hp0 := Px.lexA_placed x0.data.toList 0 x0.data.toList (by simp) (by omega)
  have hp1 := Px.lexA_placed x1.data.toList 0 x1.data.toList (by simp) (by omega)
  have hl0 := lexA_len 0 x0.data.toList
  have hl1 := lexA_len 0 x1.data.toList
  rw [privitylaw26_LexerConcatenation.j0, if_neg (by simp), lex_f x0 (by omega), lex_f x1 (by omega), lex_f (x0 ++ (⟨#[10]⟩ : ByteArray) ++ x1) (by omega), hd, hj, awake_f]
  simp only [Option.bind_some, if_true]
  rw [if_pos (by omega), s1, if_pos (by omega)]
  cases e0 : Px.lexA 0 x0.data.toList with
  | error e =>
    rw [e0] at hp0
    have he : (e.2 : Int) ≠ 0 := by have := hp0.2; omega
    refine (if_neg he).trans ?_
    show some ((e.2 : Int) == (e.2 : Int)) = some true
    simp
  | ok ts =>
    rw [e0] at hl0
    have hl0 : ts.length ≤ x0.data.toList.length := hl0
    rw [size_list] at hl0
    refine (if_pos (c := (0 : Int) = 0) rfl).trans ?_
    cases e1 : Px.lexA 0 x1.data.toList with
    | error e =>
      rw [e1] at hp1
      have he : (e.2 : Int) ≠ 0 := by have := hp1.2; omega
      have hle := hp1.1
      rw [size_list] at hle
      refine (if_neg he).trans ?_
      show (if (e.2 : Int) = (e.2 : Int) then some (((e.1 + (x0.size + 1) : Nat) : Int) == wrap64 (wrap64 ((x0.size : Int) + 1) + (e.1 : Int))) else some false) = some true
      rw [if_pos rfl, Rf.w64_1 x0.size (by omega), Rf.w64s (x0.size + 1) e.1 (by omega), Nat.add_comm e.1]
      simp
    | ok us =>
      rw [e1] at hl1
      have hl1 : us.length ≤ x1.data.toList.length := hl1
      rw [size_list] at hl1
      refine (if_pos (c := (0 : Int) = 0) rfl).trans ?_
      refine (if_pos (c := (0 : Int) = 0) rfl).trans ?_
      show (if ([] : List S31).length + (ts.map tokS).length < 3518437208883 then (if ([] ++ ts.map tokS : List S31).length + (us.map tokS).length < 3518437208883 then ((privityref26_Same.f (([] ++ ts.map tokS) ++ us.map tokS) ((ts ++ us.map fun t : Px.Tok => { t with at_ := t.at_ + (x0.size + 1) }).map tokS) true).bind fun t => some t) else none) else none) = some true
      rw [if_pos (by simp; omega), if_pos (by simp; omega), List.nil_append, ← List.map_append, same_f (by simp; omega) (by simp; omega), same_bare]
      · rfl
      · rw [List.map_append, List.map_append, List.map_map]
        rfl
theorem LexerConcatenation : privitylaw26_LexerConcatenation.Pure := by
  intro a0 a1 h0 h1
  refine ⟨0 + 1, ?_⟩
  unfold privitylaw26_LexerConcatenation.f
  have hy : privitylaw26_LexerConcatenation.j0 (0 + 1) a0 a1 true = some true := by
    rw [privitylaw26_LexerConcatenation.j0, if_pos rfl, awake_f]; rfl
  by_cases h : (a0.size : Int) > 700
  · rw [if_pos h]; exact hy
  · rw [if_neg h]
    by_cases h2 : (a1.size : Int) > 700
    · rw [decide_eq_true h2]; exact hy
    · rw [decide_eq_false h2]
      exact con_j0 a0 a1 (by omega) (by omega) 0
end Go.Proofs.YtanollmhbjlimaaDoor.Pure
