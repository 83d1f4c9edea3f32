import Derived.Test.YtanollmhbjlimaaDoorPxLexFacts
set_option linter.unusedSimpArgs false
namespace Px
theorem tw_eq (p : UInt8 → Bool) (l : Bs) : l.take (l.takeWhile p).length = l.takeWhile p := by
  induction l with
  | nil => rfl
  | cons c l ih =>
    by_cases h : p c = true
    · simp [List.takeWhile_cons, h, ih]
    · simp [List.takeWhile_cons, h]
theorem tw_stop (p : UInt8 → Bool) (l t : Bs) (c : UInt8) (h : p c = false) : (l ++ c :: t).takeWhile p = l.takeWhile p := by
  induction l with
  | nil => simp [h]
  | cons d l ih => simp only [List.cons_append, List.takeWhile_cons, ih]
theorem tw_self (p : UInt8 → Bool) (l t : Bs) (c : UInt8) (h : p c = false) (hl : ∀ d ∈ l, p d = true) : (l ++ c :: t).takeWhile p = l := by
  rw [tw_stop p l t c h]
  induction l with
  | nil => rfl
  | cons d l ih => rw [List.takeWhile_cons, hl d (by simp)]; simp only [if_true]; rw [ih (fun e he => hl e (by simp [he]))]
theorem tw_all (p : UInt8 → Bool) (l : Bs) : ∀ d ∈ l.takeWhile p, p d = true := by
  induction l with
  | nil => simp
  | cons c l ih =>
    by_cases h : p c = true
    · simp only [List.takeWhile_cons, h, if_true, List.mem_cons]
      rintro d (rfl | hd)
      · exact h
      · exact ih d hd
    · simp [List.takeWhile_cons, h]
/-- a text that is one token, whatever blank stands behind it -/
inductive Kinded : Tok → Prop
  | num (c : UInt8) (l : Bs) (v : Nat) : digit c = true → (∀ d ∈ l, digit d = true) → numVal 0 (c :: l) = some v → Kinded ⟨2, c :: l, v, 0⟩
  | word (c : UInt8) (l : Bs) (k : Nat) : digit c = false → letter c = true → (∀ d ∈ l, wordc d = true) → (c :: l).length ≤ 20 → k = (if reserved.contains (c :: l) then 3 else 1) → Kinded ⟨k, c :: l, 0, 0⟩
  | sign (c : UInt8) : digit c = false → letter c = false → signc c = true → Kinded ⟨4, [c], 0, 0⟩
  | eq : Kinded ⟨4, [61, 61], 0, 0⟩
theorem take_kinded {l : Bs} {t : Tok} (h : take l = .ok t) : Kinded t ∧ t.text = l.take t.text.length := by
  unfold take at h
  split at h
  · cases h
  · rename_i c r
    by_cases hd : digit c = true
    · simp only [hd, if_true] at h
      have e : (c :: r).takeWhile digit = c :: r.takeWhile digit := by simp [List.takeWhile_cons, hd]
      split at h
      · rename_i v hv
        injection h with h
        subst h
        exact ⟨by rw [e] at hv ⊢; exact .num c _ v hd (tw_all _ _) hv, (tw_eq _ _).symm⟩
      · cases h
    · simp only [hd, Bool.false_eq_true, if_false] at h
      by_cases hl : letter c = true
      · simp only [hl, if_true] at h
        have hw : wordc c = true := by simp [wordc, hl]
        have e : (c :: r).takeWhile wordc = c :: r.takeWhile wordc := by simp [List.takeWhile_cons, hw]
        split at h
        · cases h
        · rename_i h20
          injection h with h
          subst h
          exact ⟨by rw [e] at h20 ⊢; exact .word c _ _ (by simpa using hd) hl (tw_all _ _) (by omega) rfl, (tw_eq _ _).symm⟩
      · simp only [hl, Bool.false_eq_true, if_false] at h
        by_cases hs : signc c = true
        · simp only [hs, if_true] at h
          injection h with h
          subst h
          by_cases h2 : ((c :: r).take 2 == [61, 61]) = true
          · simp only [h2, if_true]
            exact ⟨.eq, by simpa using (beq_iff_eq.mp h2).symm⟩
          · simp only [h2]
            exact ⟨.sign c (by simpa using hd) (by simpa using hl) hs, by simp⟩
        · simp [hs] at h
theorem take_ne {l : Bs} {t : Tok} (h : take l = .ok t) : 0 < t.text.length := by
  have := (take_kinded h).1
  cases this <;> simp
theorem take_range {l : Bs} {t : Tok} (h : take l = .ok t) : 1 ≤ t.kind ∧ t.kind ≤ 4 ∧ (t.kind ≠ 2 → t.num = 0) ∧ t.at_ = 0 := by
  have := (take_kinded h).1
  cases this with
  | num => simp
  | word c l k _ _ _ _ hk => subst hk; split <;> simp
  | sign => simp
  | eq => simp
theorem blank_not_word {c : UInt8} (h : blankc c = true) : wordc c = false ∧ digit c = false ∧ c ≠ 61 := by
  simp only [blankc, Bool.or_eq_true, beq_iff_eq] at h
  rcases h with (rfl | rfl) | rfl <;> decide
/-- a token's text, a blank behind it, is that token -/
theorem take_again {t : Tok} (h : Kinded t) (b : UInt8) (hb : blankc b = true) (rest : Bs) : take (t.text ++ b :: rest) = .ok t := by
  obtain ⟨hw, hd, h61⟩ := blank_not_word hb
  cases h with
  | num c l v hc hl hv =>
    have e : (c :: l ++ b :: rest).takeWhile digit = c :: l := tw_self _ _ _ _ hd (by
      intro d hd'
      rcases List.mem_cons.1 hd' with rfl | hd'
      · exact hc
      · exact hl d hd')
    show take (c :: (l ++ b :: rest)) = _
    rw [List.cons_append] at e
    simp only [take, hc, if_true, e, hv]
  | word c l k hc hl ha hlen hk =>
    have e : (c :: l ++ b :: rest).takeWhile wordc = c :: l := tw_self _ _ _ _ hw (by
      intro d hd
      rcases List.mem_cons.1 hd with rfl | hd
      · simp [wordc, hl]
      · exact ha d hd)
    show take (c :: (l ++ b :: rest)) = _
    rw [List.cons_append] at e
    simp only [take, hc, hl, if_true, e, Bool.false_eq_true, if_false]
    rw [if_neg (by omega), hk]
  | sign c hc hl hs =>
    show take (c :: (b :: rest)) = _
    have e : (((c :: b :: rest).take 2) == [61, 61]) = false := by simp [h61]
    simp only [take, hc, hl, hs, if_true, e, Bool.false_eq_true, if_false]
  | eq =>
    show take (61 :: 61 :: b :: rest) = _
    rfl
theorem take_newline (r t : Bs) (hr : r ≠ []) : take (r ++ 10 :: t) = take r := by
  cases r with
  | nil => exact absurd rfl hr
  | cons c r =>
    have e1 := tw_stop digit (c :: r) t 10 (by decide)
    have e2 := tw_stop wordc (c :: r) t 10 (by decide)
    have e3 : (((c :: (r ++ 10 :: t)).take 2) == [61, 61]) = ((c :: r).take 2 == [61, 61]) := by
      cases r with
      | nil => simp
      | cons d r => simp
    rw [List.cons_append] at e1 e2 ⊢
    simp only [take, e1, e2, e3]
theorem kinded_head {t : Tok} (h : Kinded t) : ∃ c r, t.text = c :: r ∧ blankc c = false ∧ c ≠ 47 := by
  have hdig : ∀ c : UInt8, digit c = true → blankc c = false ∧ c ≠ 47 := by
    intro c h
    simp only [digit, Bool.and_eq_true, decide_eq_true_eq] at h
    have h1 := UInt8.le_iff_toNat_le.1 h.1
    have h2 := UInt8.le_iff_toNat_le.1 h.2
    refine ⟨?_, ?_⟩
    · simp only [blankc, Bool.or_eq_false_iff, beq_eq_false_iff_ne]
      refine ⟨⟨?_, ?_⟩, ?_⟩ <;> (rintro rfl; simp at h1)
    · rintro rfl; simp at h1
  have hlet : ∀ c : UInt8, letter c = true → blankc c = false ∧ c ≠ 47 := by
    intro c h
    have h1 : 65 ≤ c.toNat := by
      simp only [letter, Bool.or_eq_true, Bool.and_eq_true, decide_eq_true_eq] at h
      rcases h with h | h
      · have := UInt8.le_iff_toNat_le.1 h.1; simp at this; omega
      · have := UInt8.le_iff_toNat_le.1 h.1; simpa using this
    refine ⟨?_, ?_⟩
    · simp only [blankc, Bool.or_eq_false_iff, beq_eq_false_iff_ne]
      refine ⟨⟨?_, ?_⟩, ?_⟩ <;> (rintro rfl; simp at h1)
    · rintro rfl; simp at h1
  cases h with
  | num c l v hc => exact ⟨c, l, rfl, hdig c hc⟩
  | word c l k _ hl => exact ⟨c, l, rfl, hlet c hl⟩
  | sign c _ _ hs =>
    refine ⟨c, [], rfl, ?_⟩
    simp only [signc, signs, List.contains_iff_mem, List.mem_cons, List.not_mem_nil, or_false] at hs
    rcases hs with rfl | rfl | rfl | rfl | rfl | rfl | rfl | rfl | rfl | rfl | rfl | rfl | rfl | rfl | rfl | rfl | rfl | rfl <;> decide
  | eq => exact ⟨61, [61], rfl, by decide⟩
end Px
