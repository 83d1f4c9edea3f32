import Derived.Test.YtanollmhbjlimaaDoorPxLexLaws
set_option linter.unusedSimpArgs false
namespace Px
theorem ws_blanks (l : Bs) : ws false l = (l.takeWhile blankc).length + ws false (l.drop (l.takeWhile blankc).length) := by
  induction l with
  | nil => simp
  | cons c l ih =>
    by_cases h : blankc c = true
    · rw [ws_blank c l h]; simp only [List.takeWhile_cons, h, if_true, List.length_cons, List.drop_succ_cons]; omega
    · simp [List.takeWhile_cons, h]
theorem tw_drop_head (p : UInt8 → Bool) (l : Bs) : ∀ c r, l.drop (l.takeWhile p).length = c :: r → p c = false := by
  induction l with
  | nil => intro c r h; simp at h
  | cons d l ih =>
    intro c r h
    by_cases hd : p d = true
    · simp only [List.takeWhile_cons, hd, if_true, List.length_cons, List.drop_succ_cons] at h; exact ih c r h
    · simp only [List.takeWhile_cons, hd] at h
      simp at h
      rw [← h.1]; simpa using hd
/-- where neither a blank nor a comment begins, there is no white space -/
theorem ws_stop (l : Bs) (h1 : ∀ c r, l = c :: r → blankc c = false) (h2 : ([47, 47] : Bs).isPrefixOf l = false) : ws false l = 0 := by
  cases l with
  | nil => rfl
  | cons c l =>
    have hb := h1 c l rfl
    rw [ws_f, if_neg (by simp [hb])]
    rw [if_neg]
    intro hc
    simp only [Bool.and_eq_true, beq_iff_eq] at hc
    obtain ⟨rfl, hh⟩ := hc
    cases l with
    | nil => simp at hh
    | cons d l => simp at hh; subst hh; simp [List.isPrefixOf] at h2
theorem ws_slash (l : Bs) (h : ([47, 47] : Bs).isPrefixOf l = true) : ∃ r, l = 47 :: 47 :: r ∧ ws false l = 2 + ws true r := by
  rw [List.isPrefixOf_iff_prefix] at h
  obtain ⟨r, rfl⟩ := h
  refine ⟨r, rfl, ?_⟩
  show ws false (47 :: 47 :: r) = _
  rw [ws_f]; simp [blankc, ws_t]; omega
theorem ws_true_idx : ∀ (r : Bs) (e : Nat), r.idxOf? 10 = some e → ws true r = e + ws false (r.drop e) := by
  intro r
  induction r with
  | nil => intro e h; simp at h
  | cons c r ih =>
    intro e h
    rw [List.idxOf?_cons] at h
    by_cases hc : (c == 10) = true
    · simp only [hc, if_true, Option.some.injEq] at h
      subst h
      have : c = 10 := by simpa using hc
      subst this
      simp [ws_t, ws_blank 10 r (by decide)]
    · have hc' : (c != 10) = true := by simpa using hc
      simp only [hc] at h
      simp only [Bool.false_eq_true, if_false, Option.map_eq_some_iff] at h
      obtain ⟨e', he', rfl⟩ := h
      rw [ws_t, hc', ih e' he']; simp; omega
theorem ws_note_idx (l : Bs) (h : ([47, 47] : Bs).isPrefixOf l = true) (e : Nat) (he : l.idxOf? 10 = some e) : ws false l = e + ws false (l.drop e) := by
  obtain ⟨r, rfl, hw⟩ := ws_slash l h
  rw [List.idxOf?_cons, List.idxOf?_cons] at he
  simp at he
  obtain ⟨e', he', rfl⟩ := he
  rw [hw, ws_true_idx r e' he']; simp; omega
theorem ws_note_end (l : Bs) (h : ([47, 47] : Bs).isPrefixOf l = true) (he : l.idxOf? 10 = none) : ws false l = l.length := by
  obtain ⟨r, rfl, hw⟩ := ws_slash l h
  rw [hw, ws_true_all r (by
    intro c hc
    rw [List.idxOf?_eq_none_iff] at he
    rintro rfl
    exact he (by simp [hc]))]
  simp; omega
theorem idx_le {l : Bs} {e : Nat} (h : l.idxOf? 10 = some e) : e < l.length ∧ 0 < l.length := by
  induction l generalizing e with
  | nil => simp at h
  | cons c l ih =>
    rw [List.idxOf?_cons] at h
    by_cases hc : (c == 10) = true
    · simp [hc] at h; subst h; simp
    · simp only [hc] at h
      simp only [Bool.false_eq_true, if_false, Option.map_eq_some_iff] at h
      obtain ⟨e', he', rfl⟩ := h
      have := ih he'; simp; omega
/-! numbers -/
theorem numVal_snoc_none {l : Bs} {n : Nat} (h : numVal n l = none) (t : Bs) : numVal n (l ++ t) = none := by
  induction l generalizing n with
  | nil => simp [numVal] at h
  | cons c l ih =>
    simp only [List.cons_append, numVal] at h ⊢
    split
    · rename_i hlt; rw [if_pos hlt] at h; exact ih h
    · rfl
theorem numVal_append {l : Bs} {n v : Nat} (h : numVal n l = some v) (t : Bs) : numVal n (l ++ t) = numVal v t := by
  induction l generalizing n with
  | nil => simp [numVal] at h; subst h; rfl
  | cons c l ih =>
    simp only [List.cons_append, numVal] at h ⊢
    split
    · rename_i hlt; rw [if_pos hlt] at h; exact ih h
    · rename_i hlt; rw [if_neg hlt] at h; cases h
theorem numVal_lt {l : Bs} {n v : Nat} (hn : n < 1152921504606846976) (h : numVal n l = some v) : v < 1152921504606846976 := by
  induction l generalizing n with
  | nil => simp [numVal] at h; omega
  | cons c l ih =>
    simp only [numVal] at h
    split at h
    · rename_i hlt; exact ih hlt h
    · cases h
end Px
