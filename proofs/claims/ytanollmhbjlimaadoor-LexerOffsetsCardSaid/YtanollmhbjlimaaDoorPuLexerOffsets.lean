import Derived.Test.YtanollmhbjlimaaDoorPlx22
import Derived.Test.YtanollmhbjlimaaDoorPuLex
import Derived.Test.YtanollmhbjlimaaDoorRfA1
namespace Go.Proofs.YtanollmhbjlimaaDoor.Pure
open Go.RowKit Go.Proofs.YtanollmhbjlimaaDoor.Pl Go.Proofs.YtanollmhbjlimaaDoor.Kn Go.Proofs.YtanollmhbjlimaaDoor.Lx Go.Proofs.YtanollmhbjlimaaDoorW.PrintWords
theorem rd_tok (ts : List Px.Tok) (i : Nat) (h : i < ts.length) : rd_T31 (ts.map tokS) (i : Int) = tokS ts[i] := by
  simp [rd_T31, List.getD_eq_getElem?_getD, h]
theorem offsets_l0 (s : ByteArray) (ts : List Px.Tok) (hs : s.size ≤ 1500) (hlen : ts.length ≤ s.size) : ∀ (m i e k : Nat), ts.length - i = m → i ≤ ts.length → m < k → Px.Placed s.data.toList e (ts.drop i) →
    privitylaw26_LexerOffsets.l0 k s (ts.map tokS) (e : Int) (i : Int) = some true := by
  intro m
  induction m with
  | zero =>
    intro i e k hm hi hk hp
    obtain ⟨k, rfl⟩ : ∃ j, k = j + 1 := ⟨k - 1, by omega⟩
    rw [privitylaw26_LexerOffsets.l0, if_neg (by simp; omega), awake_f]
    rfl
  | succ m ih =>
    intro i e k hm hi hk hp
    obtain ⟨k, rfl⟩ : ∃ j, k = j + 1 := ⟨k - 1, by omega⟩
    have hlt : i < ts.length := by omega
    have hd := List.drop_eq_getElem_cons hlt
    have hrd := rd_tok ts i hlt
    generalize ht : ts[i] = t at hd hrd
    rw [hd] at hp
    obtain ⟨h1, h2, h3, h4, h5, h6, h7, hrest⟩ := hp
    rw [size_list] at h3
    have ih := ih (i + 1) (t.at_ + t.text.length) k (by omega) (by omega) (by omega) hrest
    have hsz : ((tokS t).f1.size : Int) = (t.text.length : Int) := by simp [tokS, ByteArray.size]
    have e1 : (tokS t).f3 = (t.at_ : Int) := rfl
    have e2 : (tokS t).f0 = (t.kind : Int) := rfl
    have e3 : (tokS t).f2 = (t.num : Int) := rfl
    have hx : (s.extract ((t.at_ : Int)).toNat (((t.at_ + t.text.length : Nat) : Int)).toNat).toList = (tokS t).f1.toList := by
      rw [ByteArray.toList_eq, ByteArray.toList_eq]
      simp only [Int.toNat_natCast, ByteArray.data_extract, Array.toList_extract, List.extract_eq_take_drop, tokS]
      rw [show t.at_ + t.text.length - t.at_ = t.text.length by omega, h4]
    rw [privitylaw26_LexerOffsets.l0, hrd, hsz, e1, e2, e3, Rf.w64s t.at_ t.text.length (by omega), Rf.w64_1 i (by omega)]
    rw [if_pos (by simp; omega), if_pos (by omega), if_neg (by omega), if_neg (by omega), if_neg (by omega), if_pos (by omega), if_pos (by omega), if_pos (by omega), if_pos hx, if_neg (by omega), if_neg (by omega)]
    by_cases hk2 : t.kind = 2
    · rw [if_pos (by omega)]; exact ih
    · rw [if_neg (by omega), h7 hk2, if_pos (c := ((0 : Nat) : Int) = 0) rfl]; exact ih
theorem LexerOffsets : privitylaw26_LexerOffsets.Pure := by
  intro a0 h0
  refine ⟨2000, ?_⟩
  unfold privitylaw26_LexerOffsets.f
  by_cases h : (a0.size : Int) > 1500
  · rw [if_pos h, awake_f]; rfl
  · have hp := Px.lexA_placed a0.data.toList 0 a0.data.toList (by simp) (by omega)
    have hl := lexA_len 0 a0.data.toList
    rw [if_neg h, lex_f a0 (by omega)]
    simp only [Option.bind_some]
    cases hx : Px.lexA 0 a0.data.toList with
    | error e =>
      rw [hx] at hp
      obtain ⟨hp1, hp2⟩ := hp
      rw [size_list] at hp1
      have he : (e.2 : Int) ≠ 0 := by omega
      refine (if_neg he).trans ?_
      rw [awake_f]
      show (if ((0 : Nat) : Int) = 0 then (if (0 : Int) ≤ (e.1 : Int) then some (decide ((e.1 : Int) ≤ (a0.size : Int))) else some false) else some false) = some true
      rw [if_pos (c := ((0 : Nat) : Int) = 0) rfl, if_pos (by omega), decide_eq_true (by omega)]
    | ok ts =>
      rw [hx] at hp hl
      have hl : ts.length ≤ a0.data.toList.length := hl
      rw [size_list] at hl
      refine (if_pos (c := (0 : Int) = 0) rfl).trans ?_
      exact offsets_l0 a0 ts (by omega) hl ts.length 0 0 2000 (by omega) (by omega) (by omega) hp
end Go.Proofs.YtanollmhbjlimaaDoor.Pure
