/- Plain lists of bytes: the lexer's functions as structural recursions. -/
namespace Px
abbrev Bs := List UInt8
def letter (c : UInt8) : Bool := (97 ≤ c && c ≤ 122) || (65 ≤ c && c ≤ 90)
def digit (c : UInt8) : Bool := 48 ≤ c && c ≤ 57
def wordc (c : UInt8) : Bool := letter c || digit c || c == 95
def blankc (c : UInt8) : Bool := c == 32 || c == 9 || c == 10
def signs : Bs := [40, 41, 91, 93, 123, 125, 59, 44, 58, 61, 43, 45, 42, 60, 38, 124, 33, 63]
def signc (c : UInt8) : Bool := signs.contains c
def reserved : List Bs := [[105, 110], [102, 114, 111, 109], [97, 114, 114, 97, 121], [105, 102], [101, 108, 115, 101], [102, 111, 114], [116, 111], [111, 117, 116]]
/-- the length of the white space at the head; in a comment or not -/
def ws : Bool → Bs → Nat
  | _, [] => 0
  | true, c :: l => 1 + ws (c != 10) l
  | false, c :: l => if blankc c then 1 + ws false l else if c == 47 && l.head? == some 47 then 1 + ws true l else 0
def numVal : Nat → Bs → Option Nat
  | n, [] => some n
  | n, c :: l => if n * 10 + (c.toNat - 48) < 1152921504606846976 then numVal (n * 10 + (c.toNat - 48)) l else none
structure Tok where
  kind : Nat
  text : Bs
  num : Nat
  at_ : Nat
deriving DecidableEq
/-- the first token of a text that is not empty; or the error's number -/
def take (l : Bs) : Except Nat Tok :=
  match l with
  | [] => .error 3
  | c :: _ =>
    if digit c then
      match numVal 0 (l.takeWhile digit) with
      | some v => .ok ⟨2, l.takeWhile digit, v, 0⟩
      | none => .error 2
    else if letter c then
      if (l.takeWhile wordc).length > 20 then .error 2
      else .ok ⟨if reserved.contains (l.takeWhile wordc) then 3 else 1, l.takeWhile wordc, 0, 0⟩
    else if signc c then .ok ⟨4, if l.take 2 == [61, 61] then [61, 61] else [c], 0, 0⟩
    else .error 3
/-- all tokens from offset at on; or the offset and the error -/
def lexF : Nat → Nat → Bs → Except (Nat × Nat) (List Tok)
  | 0, _, _ => .ok []
  | k + 1, at_, l =>
    match l.drop (ws false l) with
    | [] => .ok []
    | r@(_ :: _) =>
      match take r with
      | .error e => .error (at_ + ws false l, e)
      | .ok t =>
        match lexF k (at_ + ws false l + t.text.length) (r.drop t.text.length) with
        | .error e => .error e
        | .ok ts => .ok ({ t with at_ := at_ + ws false l } :: ts)
def lex (l : Bs) : Except (Nat × Nat) (List Tok) := lexF (l.length + 1) 0 l
def isName (l : Bs) : Bool :=
  match l with
  | [] => false
  | c :: _ => letter c && l.all wordc && l.length ≤ 20 && !reserved.contains l
end Px
namespace Px
theorem ws_le : ∀ (b : Bool) (l : Bs), ws b l ≤ l.length := by
  intro b l
  induction l generalizing b with
  | nil => cases b <;> simp [ws]
  | cons c l ih =>
    cases b with
    | true => simp only [ws, List.length_cons]; have := ih (c != 10); omega
    | false =>
      simp only [ws, List.length_cons]
      split
      · have := ih false; omega
      · split
        · have := ih true; omega
        · omega
/-- what stands behind the white space is neither blank nor a comment -/
def starts (l : Bs) : Prop := l = [] ∨ (∃ c r, l = c :: r ∧ blankc c = false ∧ (c == 47 && r.head? == some 47) = false)
theorem ws_true_all : ∀ (l : Bs), (∀ c ∈ l, c ≠ 10) → ws true l = l.length := by
  intro l
  induction l with
  | nil => intro _; simp [ws]
  | cons c l ih =>
    intro h
    have hc : (c != 10) = true := by simpa using h c (by simp)
    simp only [ws, hc, List.length_cons]
    rw [ih (fun d hd => h d (by simp [hd]))]; omega
theorem ws_true_note (n l : Bs) (h : ∀ c ∈ n, c ≠ 10) : ws true (n ++ 10 :: l) = n.length + 1 + ws false l := by
  induction n with
  | nil => simp [ws]
  | cons c n ih =>
    have hc : (c != 10) = true := by simpa using h c (by simp)
    simp only [List.cons_append, ws, hc, List.length_cons]
    rw [ih (fun d hd => h d (by simp [hd]))]; omega
theorem ws_comment (n l : Bs) (h : ∀ c ∈ n, c ≠ 10) : ws false (47 :: 47 :: (n ++ 10 :: l)) = n.length + 3 + ws false l := by
  have h1 : ws true (47 :: (n ++ 10 :: l)) = 1 + (n.length + 1 + ws false l) := by
    have := ws_true_note n l h
    simp only [ws]; simp [this]
  rw [ws]; simp only [blankc]; simp [h1]; omega
theorem ws_blank (c : UInt8) (l : Bs) (h : blankc c = true) : ws false (c :: l) = 1 + ws false l := by simp [ws, h]
theorem ws_t (c : UInt8) (l : Bs) : ws true (c :: l) = 1 + ws (c != 10) l := rfl
theorem ws_f (c : UInt8) (l : Bs) : ws false (c :: l) = if blankc c then 1 + ws false l else if c == 47 && l.head? == some 47 then 1 + ws true l else 0 := rfl
theorem head_app (t r : Bs) : ((r ++ 10 :: t).head? == some 47) = (r.head? == some 47) := by
  cases r with
  | nil => simp
  | cons d r => simp
theorem ws_append (t : Bs) : ∀ (r : Bs) (b : Bool), ws b (r ++ 10 :: t) = if ws b r < r.length then ws b r else r.length + 1 + ws false t := by
  intro r
  induction r with
  | nil => intro b; cases b <;> simp [ws, blankc]
  | cons c r ih =>
    have key : ∀ (b b' : Bool), ws b (c :: r) = 1 + ws b' r → ws b (c :: (r ++ 10 :: t)) = 1 + ws b' (r ++ 10 :: t) → ws b (c :: r ++ 10 :: t) = if ws b (c :: r) < (c :: r).length then ws b (c :: r) else (c :: r).length + 1 + ws false t := by
      intro b b' h1 h2
      rw [List.cons_append, h2, ih, List.length_cons]
      by_cases h : ws b' r < r.length
      · rw [if_pos h, if_pos (by omega)]; omega
      · rw [if_neg h, if_neg (by omega)]; omega
    intro b
    cases b with
    | true => exact key _ _ (ws_t _ _) (ws_t _ _)
    | false =>
      by_cases hb : blankc c = true
      · exact key _ false (by rw [ws_f, if_pos hb]) (by rw [ws_f, if_pos hb])
      · by_cases hc : (c == 47 && r.head? == some 47) = true
        · exact key _ true (by rw [ws_f, if_neg hb, if_pos hc]) (by rw [ws_f, if_neg hb, head_app, if_pos hc])
        · have h1 : ws false (c :: r) = 0 := by rw [ws_f, if_neg hb, if_neg hc]
          rw [List.cons_append, ws_f, if_neg hb, head_app, if_neg hc, if_pos (by rw [h1]; simp), h1]
theorem ws_starts : ∀ (l : Bs), starts (l.drop (ws false l)) := by
  intro l
  suffices h : ∀ b, b = false ∨ l.drop (ws b l) = [] ∨ True → starts (l.drop (ws b l)) from h false (.inl rfl)
  induction l with
  | nil => intro b _; left; simp
  | cons c l ih =>
    intro b _
    cases b with
    | true =>
      simp only [ws]
      rw [show 1 + ws (c != 10) l = ws (c != 10) l + 1 from by omega, List.drop_succ_cons]
      exact ih _ (.inr (.inr trivial))
    | false =>
      simp only [ws]
      by_cases hb : blankc c = true
      · simp only [hb, if_true]
        rw [show 1 + ws false l = ws false l + 1 from by omega, List.drop_succ_cons]
        exact ih _ (.inr (.inr trivial))
      · simp only [hb]
        by_cases hc : ((c == 47) && l.head? == some 47) = true
        · simp only [hc, if_true]
          rw [show (if false = true then 1 + ws false l else 1 + ws true l) = ws true l + 1 from by simp; omega, List.drop_succ_cons]
          exact ih _ (.inr (.inr trivial))
        · simp only [hc, Bool.false_eq_true, if_false, List.drop_zero]
          exact .inr ⟨c, l, rfl, by simpa using hb, by simpa using hc⟩
theorem ws_zero (c : UInt8) (r : Bs) (h1 : blankc c = false) (h2 : c ≠ 47) : ws false (c :: r) = 0 := by
  simp [ws, h1, h2]
end Px
set_option linter.unusedSimpArgs false
set_option linter.unusedVariables false
namespace Px
theorem tw_eq (p : UInt8 → Bool) (l : Bs) : l.take (l.takeWhile p).length = l.takeWhile p := by
  induction l with
  | nil => rfl
  | cons c l ih =>
    by_cases h : p c = true
    · simp [List.takeWhile_cons, h, ih]
    · simp [List.takeWhile_cons, h]
theorem tw_stop (p : UInt8 → Bool) (l t : Bs) (c : UInt8) (h : p c = false) : (l ++ c :: t).takeWhile p = l.takeWhile p := by
  induction l with
  | nil => simp [h]
  | cons d l ih => simp only [List.cons_append, List.takeWhile_cons, ih]
theorem tw_self (p : UInt8 → Bool) (l t : Bs) (c : UInt8) (h : p c = false) (hl : ∀ d ∈ l, p d = true) : (l ++ c :: t).takeWhile p = l := by
  rw [tw_stop p l t c h]
  induction l with
  | nil => rfl
  | cons d l ih => rw [List.takeWhile_cons, hl d (by simp)]; simp only [if_true]; rw [ih (fun e he => hl e (by simp [he]))]
theorem tw_all (p : UInt8 → Bool) (l : Bs) : ∀ d ∈ l.takeWhile p, p d = true := by
  induction l with
  | nil => simp
  | cons c l ih =>
    by_cases h : p c = true
    · simp only [List.takeWhile_cons, h, if_true, List.mem_cons]
      rintro d (rfl | hd)
      · exact h
      · exact ih d hd
    · simp [List.takeWhile_cons, h]
/-- a text that is one token, whatever blank stands behind it -/
inductive Kinded : Tok → Prop
  | num (c : UInt8) (l : Bs) (v : Nat) : digit c = true → (∀ d ∈ l, digit d = true) → numVal 0 (c :: l) = some v → Kinded ⟨2, c :: l, v, 0⟩
  | word (c : UInt8) (l : Bs) (k : Nat) : digit c = false → letter c = true → (∀ d ∈ l, wordc d = true) → (c :: l).length ≤ 20 → k = (if reserved.contains (c :: l) then 3 else 1) → Kinded ⟨k, c :: l, 0, 0⟩
  | sign (c : UInt8) : digit c = false → letter c = false → signc c = true → Kinded ⟨4, [c], 0, 0⟩
  | eq : Kinded ⟨4, [61, 61], 0, 0⟩
theorem take_kinded {l : Bs} {t : Tok} (h : take l = .ok t) : Kinded t ∧ t.text = l.take t.text.length := by
  unfold take at h
  split at h
  · cases h
  · rename_i c r
    by_cases hd : digit c = true
    · simp only [hd, if_true] at h
      have e : (c :: r).takeWhile digit = c :: r.takeWhile digit := by simp [List.takeWhile_cons, hd]
      split at h
      · rename_i v hv
        injection h with h
        subst h
        exact ⟨by rw [e] at hv ⊢; exact .num c _ v hd (tw_all _ _) hv, (tw_eq _ _).symm⟩
      · cases h
    · simp only [hd, Bool.false_eq_true, if_false] at h
      by_cases hl : letter c = true
      · simp only [hl, if_true] at h
        have hw : wordc c = true := by simp [wordc, hl]
        have e : (c :: r).takeWhile wordc = c :: r.takeWhile wordc := by simp [List.takeWhile_cons, hw]
        split at h
        · cases h
        · rename_i h20
          injection h with h
          subst h
          exact ⟨by rw [e] at h20 ⊢; exact .word c _ _ (by simpa using hd) hl (tw_all _ _) (by omega) rfl, (tw_eq _ _).symm⟩
      · simp only [hl, Bool.false_eq_true, if_false] at h
        by_cases hs : signc c = true
        · simp only [hs, if_true] at h
          injection h with h
          subst h
          by_cases h2 : ((c :: r).take 2 == [61, 61]) = true
          · simp only [h2, if_true]
            exact ⟨.eq, by simpa using (beq_iff_eq.mp h2).symm⟩
          · simp only [h2]
            exact ⟨.sign c (by simpa using hd) (by simpa using hl) hs, by simp⟩
        · simp [hs] at h
theorem take_ne {l : Bs} {t : Tok} (h : take l = .ok t) : 0 < t.text.length := by
  have := (take_kinded h).1
  cases this <;> simp
theorem take_range {l : Bs} {t : Tok} (h : take l = .ok t) : 1 ≤ t.kind ∧ t.kind ≤ 4 ∧ (t.kind ≠ 2 → t.num = 0) ∧ t.at_ = 0 := by
  have := (take_kinded h).1
  cases this with
  | num => simp
  | word c l k _ _ _ _ hk => subst hk; split <;> simp
  | sign => simp
  | eq => simp
theorem blank_not_word {c : UInt8} (h : blankc c = true) : wordc c = false ∧ digit c = false ∧ c ≠ 61 := by
  simp only [blankc, Bool.or_eq_true, beq_iff_eq] at h
  rcases h with (rfl | rfl) | rfl <;> decide
/-- a token's text, a blank behind it, is that token -/
theorem take_again {t : Tok} (h : Kinded t) (b : UInt8) (hb : blankc b = true) (rest : Bs) : take (t.text ++ b :: rest) = .ok t := by
  obtain ⟨hw, hd, h61⟩ := blank_not_word hb
  cases h with
  | num c l v hc hl hv =>
    have e : (c :: l ++ b :: rest).takeWhile digit = c :: l := tw_self _ _ _ _ hd (by
      intro d hd'
      rcases List.mem_cons.1 hd' with rfl | hd'
      · exact hc
      · exact hl d hd')
    show take (c :: (l ++ b :: rest)) = _
    rw [List.cons_append] at e
    simp only [take, hc, if_true, e, hv]
  | word c l k hc hl ha hlen hk =>
    have e : (c :: l ++ b :: rest).takeWhile wordc = c :: l := tw_self _ _ _ _ hw (by
      intro d hd
      rcases List.mem_cons.1 hd with rfl | hd
      · simp [wordc, hl]
      · exact ha d hd)
    show take (c :: (l ++ b :: rest)) = _
    rw [List.cons_append] at e
    simp only [take, hc, hl, if_true, e, Bool.false_eq_true, if_false]
    rw [if_neg (by omega), hk]
  | sign c hc hl hs =>
    show take (c :: (b :: rest)) = _
    have e : (((c :: b :: rest).take 2) == [61, 61]) = false := by simp [h61]
    simp only [take, hc, hl, hs, if_true, e, Bool.false_eq_true, if_false]
  | eq =>
    show take (61 :: 61 :: b :: rest) = _
    rfl
theorem take_newline (r t : Bs) (hr : r ≠ []) : take (r ++ 10 :: t) = take r := by
  cases r with
  | nil => exact absurd rfl hr
  | cons c r =>
    have e1 := tw_stop digit (c :: r) t 10 (by decide)
    have e2 := tw_stop wordc (c :: r) t 10 (by decide)
    have e3 : (((c :: (r ++ 10 :: t)).take 2) == [61, 61]) = ((c :: r).take 2 == [61, 61]) := by
      cases r with
      | nil => simp
      | cons d r => simp
    rw [List.cons_append] at e1 e2 ⊢
    simp only [take, e1, e2, e3]
theorem kinded_head {t : Tok} (h : Kinded t) : ∃ c r, t.text = c :: r ∧ blankc c = false ∧ c ≠ 47 := by
  have hdig : ∀ c : UInt8, digit c = true → blankc c = false ∧ c ≠ 47 := by
    intro c h
    simp only [digit, Bool.and_eq_true, decide_eq_true_eq] at h
    have h1 := UInt8.le_iff_toNat_le.1 h.1
    have h2 := UInt8.le_iff_toNat_le.1 h.2
    refine ⟨?_, ?_⟩
    · simp only [blankc, Bool.or_eq_false_iff, beq_eq_false_iff_ne]
      refine ⟨⟨?_, ?_⟩, ?_⟩ <;> (rintro rfl; simp at h1)
    · rintro rfl; simp at h1
  have hlet : ∀ c : UInt8, letter c = true → blankc c = false ∧ c ≠ 47 := by
    intro c h
    have h1 : 65 ≤ c.toNat := by
      simp only [letter, Bool.or_eq_true, Bool.and_eq_true, decide_eq_true_eq] at h
      rcases h with h | h
      · have := UInt8.le_iff_toNat_le.1 h.1; simp at this; omega
      · have := UInt8.le_iff_toNat_le.1 h.1; simpa using this
    refine ⟨?_, ?_⟩
    · simp only [blankc, Bool.or_eq_false_iff, beq_eq_false_iff_ne]
      refine ⟨⟨?_, ?_⟩, ?_⟩ <;> (rintro rfl; simp at h1)
    · rintro rfl; simp at h1
  cases h with
  | num c l v hc => exact ⟨c, l, rfl, hdig c hc⟩
  | word c l k _ hl => exact ⟨c, l, rfl, hlet c hl⟩
  | sign c _ _ hs =>
    refine ⟨c, [], rfl, ?_⟩
    simp only [signc, signs, List.contains_iff_mem, List.mem_cons, List.not_mem_nil, or_false] at hs
    rcases hs with rfl | rfl | rfl | rfl | rfl | rfl | rfl | rfl | rfl | rfl | rfl | rfl | rfl | rfl | rfl | rfl | rfl | rfl <;> decide
  | eq => exact ⟨61, [61], rfl, by decide⟩
end Px
set_option linter.unusedSimpArgs false
set_option linter.unusedVariables false
namespace Px
def lexStep (at_ : Nat) (l : Bs) (next : Nat → Bs → Except (Nat × Nat) (List Tok)) : Except (Nat × Nat) (List Tok) :=
  match l.drop (ws false l) with
  | [] => .ok []
  | r@(_ :: _) =>
    match take r with
    | .error e => .error (at_ + ws false l, e)
    | .ok t =>
      match next (at_ + ws false l + t.text.length) (r.drop t.text.length) with
      | .error e => .error e
      | .ok ts => .ok ({ t with at_ := at_ + ws false l } :: ts)
theorem lexF_succ (k at_ : Nat) (l : Bs) : lexF (k + 1) at_ l = lexStep at_ l (lexF k) := rfl
/-- one step, by what stands behind the white space -/
theorem lexStep_nil {at_ : Nat} {l : Bs} {next} (h : l.drop (ws false l) = []) : lexStep at_ l next = .ok [] := by
  unfold lexStep; rw [h]
theorem lexStep_err {at_ : Nat} {l : Bs} {next} {e : Nat} (h : l.drop (ws false l) ≠ []) (ht : take (l.drop (ws false l)) = .error e) : lexStep at_ l next = .error (at_ + ws false l, e) := by
  unfold lexStep
  generalize hr : l.drop (ws false l) = r at *
  cases r with
  | nil => exact absurd rfl h
  | cons c r => simp only [ht]
theorem lexStep_tok {at_ : Nat} {l : Bs} {next} {t : Tok} (ht : take (l.drop (ws false l)) = .ok t) :
    lexStep at_ l next = match next (at_ + ws false l + t.text.length) ((l.drop (ws false l)).drop t.text.length) with
      | .error e => .error e
      | .ok ts => .ok ({ t with at_ := at_ + ws false l } :: ts) := by
  unfold lexStep
  generalize hr : l.drop (ws false l) = r at *
  cases r with
  | nil => simp [take] at ht
  | cons c r => simp only [ht]
theorem lexF_fuel : ∀ (k k' at_ : Nat) (l : Bs), l.length < k → l.length < k' → lexF k at_ l = lexF k' at_ l := by
  intro k
  induction k with
  | zero => intro _ _ _ h; omega
  | succ k ih =>
    intro k' at_ l h h'
    obtain ⟨k', rfl⟩ : ∃ m, k' = m + 1 := ⟨k' - 1, by omega⟩
    rw [lexF_succ, lexF_succ]
    cases ht : take (l.drop (ws false l)) with
    | error e =>
      by_cases hn : l.drop (ws false l) = []
      · rw [lexStep_nil hn, lexStep_nil hn]
      · rw [lexStep_err hn ht, lexStep_err hn ht]
    | ok t =>
      have := take_ne ht
      have hne : l.drop (ws false l) ≠ [] := by rintro e; rw [e] at ht; simp [take] at ht
      have hl : ((l.drop (ws false l)).drop t.text.length).length < l.length := by
        have := List.length_pos_iff.2 hne
        simp only [List.length_drop] at this ⊢; omega
      rw [lexStep_tok ht, lexStep_tok ht, ih k' _ _ (by omega) (by omega)]
def lexA (at_ : Nat) (l : Bs) : Except (Nat × Nat) (List Tok) := lexF (l.length + 1) at_ l
theorem lexA_eq (at_ : Nat) (l : Bs) : lexA at_ l = lexStep at_ l lexA := by
  show lexF (l.length + 1) at_ l = _
  rw [lexF_succ]
  cases ht : take (l.drop (ws false l)) with
  | error e =>
    by_cases hn : l.drop (ws false l) = []
    · rw [lexStep_nil hn, lexStep_nil hn]
    · rw [lexStep_err hn ht, lexStep_err hn ht]
  | ok t =>
    have := take_ne ht
    have hne : l.drop (ws false l) ≠ [] := by rintro e; rw [e] at ht; simp [take] at ht
    have hl : ((l.drop (ws false l)).drop t.text.length).length < l.length := by
      have := List.length_pos_iff.2 hne
      simp only [List.length_drop] at this ⊢; omega
    rw [lexStep_tok ht, lexStep_tok ht, lexF_fuel _ (((l.drop (ws false l)).drop t.text.length).length + 1) _ _ (by omega) (by omega)]
    rfl
theorem lexF_lexA {k at_ : Nat} {l : Bs} (h : l.length < k) : lexF k at_ l = lexA at_ l := lexF_fuel _ _ _ _ h (by omega)
/-- induction along the lexer's own steps -/
theorem lex_induction (P : Nat → Bs → Except (Nat × Nat) (List Tok) → Prop)
    (hnil : ∀ a l, l.drop (ws false l) = [] → P a l (.ok []))
    (herr : ∀ a l e, l.drop (ws false l) ≠ [] → take (l.drop (ws false l)) = .error e → P a l (.error (a + ws false l, e)))
    (htok : ∀ a l t, l.drop (ws false l) ≠ [] → take (l.drop (ws false l)) = .ok t →
      ∀ r, P (a + ws false l + t.text.length) ((l.drop (ws false l)).drop t.text.length) r →
        P a l (match r with | .error e => .error e | .ok ts => .ok ({ t with at_ := a + ws false l } :: ts))) :
    ∀ a l, P a l (lexA a l) := by
  intro a l
  induction hn : l.length using Nat.strongRecOn generalizing a l with
  | _ n ih =>
    rw [lexA_eq]
    cases ht : take (l.drop (ws false l)) with
    | error e =>
      by_cases hne : l.drop (ws false l) = []
      · rw [lexStep_nil hne]; exact hnil a l hne
      · rw [lexStep_err hne ht]; exact herr a l e hne ht
    | ok t =>
      have := take_ne ht
      have hne : l.drop (ws false l) ≠ [] := by rintro e; rw [e] at ht; simp [take] at ht
      have hl : ((l.drop (ws false l)).drop t.text.length).length < l.length := by
        have := List.length_pos_iff.2 hne
        simp only [List.length_drop] at this ⊢; omega
      rw [lexStep_tok ht]
      exact htok a l t hne ht _ (ih _ (by omega) _ _ rfl)
/-! offsets -/
def Placed (s : Bs) : Nat → List Tok → Prop
  | _, [] => True
  | e, t :: ts => e ≤ t.at_ ∧ 0 < t.text.length ∧ t.at_ + t.text.length ≤ s.length ∧ (s.drop t.at_).take t.text.length = t.text ∧ 1 ≤ t.kind ∧ t.kind ≤ 4 ∧ (t.kind ≠ 2 → t.num = 0) ∧ Placed s (t.at_ + t.text.length) ts
theorem lexA_placed (s : Bs) : ∀ a l, s.drop a = l → a ≤ s.length → match lexA a l with
    | .ok ts => Placed s a ts
    | .error e => e.1 ≤ s.length ∧ (e.2 = 2 ∨ e.2 = 3) := by
  refine lex_induction (fun a l r => s.drop a = l → a ≤ s.length → match r with
    | .ok ts => Placed s a ts
    | .error e => e.1 ≤ s.length ∧ (e.2 = 2 ∨ e.2 = 3)) ?_ ?_ ?_
  · intro a l _ _ _; trivial
  · intro a l e hne he hs ha
    have hw := ws_le false l
    have hl : l.length = s.length - a := by rw [← hs, List.length_drop]
    refine ⟨by show a + ws false l ≤ s.length; omega, ?_⟩
    clear hne
    generalize l.drop (ws false l) = r at he
    unfold take at he
    split at he
    · injection he with he; exact .inr he.symm
    · split at he
      · split at he
        · cases he
        · injection he with he; exact .inl he.symm
      · split at he
        · split at he
          · injection he with he; exact .inl he.symm
          · cases he
        · split at he
          · cases he
          · injection he with he; exact .inr he.symm
  · intro a l t hne ht r ih hs ha
    have hw := ws_le false l
    have hl : l.length = s.length - a := by rw [← hs, List.length_drop]
    obtain ⟨_, hpre⟩ := take_kinded ht
    have hlen : t.text.length ≤ (l.drop (ws false l)).length := by
      have := congrArg List.length hpre
      rw [List.length_take] at this; omega
    have hlen' := hlen
    rw [List.length_drop] at hlen'
    have hpos := take_ne ht
    obtain ⟨h1, h2, h3, _⟩ := take_range ht
    have hs2 : s.drop (a + ws false l + t.text.length) = (l.drop (ws false l)).drop t.text.length := by
      rw [← hs, List.drop_drop, List.drop_drop]; congr 1; omega
    have := ih hs2 (by omega)
    cases r with
    | error e => exact this
    | ok ts =>
      refine ⟨by show a ≤ a + ws false l; omega, hpos, by show a + ws false l + t.text.length ≤ s.length; omega, ?_, h1, h2, h3, this⟩
      show (s.drop (a + ws false l)).take t.text.length = t.text
      rw [← List.drop_drop, hs, ← hpre]
/-! white space between the tokens -/
def bare (t : Tok) : Tok := { t with at_ := 0 }
def AllKinded (ts : List Tok) : Prop := ∀ t ∈ ts, Kinded (bare t)
theorem lexA_kinded : ∀ a l, match lexA a l with
    | .ok ts => AllKinded ts
    | .error _ => True := by
  refine lex_induction (fun _ _ r => match r with | .ok ts => AllKinded ts | .error _ => True) ?_ ?_ ?_
  · intro _ _ _ t ht; simp at ht
  · intros; trivial
  · intro a l t hne ht r ih
    cases r with
    | error e => trivial
    | ok ts =>
      intro u hu
      rcases List.mem_cons.1 hu with rfl | hu
      · obtain ⟨_, _, _, h0⟩ := take_range ht
        have : bare { t with at_ := a + ws false l } = t := by cases t; simp_all [bare]
        rw [this]; exact (take_kinded ht).1
      · exact ih u hu
/-- a separator: it begins with a blank and is white space whatever follows -/
structure Sep (sep : Bs) : Prop where
  blank : ∃ b r, sep = b :: r ∧ blankc b = true
  white : ∀ rest, ws false (sep ++ rest) = sep.length + ws false rest
theorem kinded_at {t : Tok} (h : Kinded t) : t.at_ = 0 := by cases h <;> rfl
theorem lexA_sep {sep : Bs} (hsep : Sep sep) : ∀ (ts : List Tok) (a : Nat) (pre : Bs), AllKinded ts → (∀ rest, ws false (pre ++ rest) = pre.length + ws false rest) →
    ∃ us, lexA a (pre ++ ts.flatMap (fun t => t.text ++ sep)) = .ok us ∧ us.map bare = ts.map bare := by
  intro ts
  induction ts with
  | nil =>
    intro a pre _ hpre
    refine ⟨[], ?_, rfl⟩
    rw [lexA_eq, lexStep_nil]
    have := hpre []
    simp only [List.flatMap_nil, List.append_nil] at this ⊢
    rw [this]; simp [ws]
  | cons t ts ih =>
    intro a pre hk hpre
    have hkt : Kinded (bare t) := hk t (by simp)
    obtain ⟨c, r, hc, hb, h47⟩ := kinded_head hkt
    have hc' : t.text = c :: r := hc
    obtain ⟨b, sr, hs, hbl⟩ := hsep.blank
    have hw : ws false (pre ++ (t :: ts).flatMap (fun t => t.text ++ sep)) = pre.length := by
      rw [hpre, List.flatMap_cons, hc']
      simp only [List.cons_append]
      rw [ws_zero c _ hb h47, Nat.add_zero]
    have hd : (pre ++ (t :: ts).flatMap (fun t => t.text ++ sep)).drop pre.length = t.text ++ (sep ++ ts.flatMap (fun t => t.text ++ sep)) := by
      rw [List.drop_left, List.flatMap_cons, List.append_assoc]
    have ht : take (t.text ++ (sep ++ ts.flatMap (fun t => t.text ++ sep))) = .ok (bare t) := by
      rw [hs, List.cons_append]
      exact take_again hkt b hbl _
    obtain ⟨us, hu, he⟩ := ih (a + pre.length + t.text.length) sep (fun u hu => hk u (by simp [hu])) hsep.white
    refine ⟨{ bare t with at_ := a + pre.length } :: us, ?_, ?_⟩
    · rw [lexA_eq, lexStep_tok (t := bare t) (by rw [hw, hd]; exact ht), hw, hd]
      show (match lexA (a + pre.length + t.text.length) ((t.text ++ (sep ++ ts.flatMap (fun t => t.text ++ sep))).drop t.text.length) with | .error e => Except.error e | .ok ts => .ok ({ bare t with at_ := a + pre.length } :: ts)) = _
      rw [List.drop_left, hu]
    · simp only [List.map_cons, he]; rfl
theorem sep_blank : Sep [32] := ⟨⟨32, [], rfl, by decide⟩, fun rest => by rw [List.cons_append, ws_blank _ _ (by decide)]; simp⟩
theorem sep_note (note : Bs) (h : ∀ c ∈ note, c ≠ 10) : Sep (9 :: 47 :: 47 :: (note ++ [10])) :=
  ⟨⟨9, _, rfl, by decide⟩, fun rest => by
    rw [List.cons_append, ws_blank _ _ (by decide)]
    have := ws_comment note rest h
    simp only [List.cons_append, List.append_assoc, List.nil_append]
    rw [this]; simp only [List.length_cons, List.length_append, List.length_nil]; omega⟩
theorem pre_note (note : Bs) (h : ∀ c ∈ note, c ≠ 10) : ∀ rest, ws false ((47 :: 47 :: (note ++ [10])) ++ rest) = (47 :: 47 :: (note ++ [10])).length + ws false rest := by
  intro rest
  have := ws_comment note rest h
  simp only [List.cons_append, List.append_assoc, List.nil_append]
  rw [this]; simp only [List.length_cons, List.length_append, List.length_nil]
/-! two texts, joined by a line feed -/
theorem lexA_shift (n : Nat) : ∀ a l, lexA (a + n) l = match lexA a l with
    | .error e => .error (e.1 + n, e.2)
    | .ok ts => .ok (ts.map fun t => { t with at_ := t.at_ + n }) := by
  refine lex_induction (fun a l r => lexA (a + n) l = match r with
    | .error e => .error (e.1 + n, e.2)
    | .ok ts => .ok (ts.map fun t => { t with at_ := t.at_ + n })) ?_ ?_ ?_
  · intro a l h; rw [lexA_eq, lexStep_nil h]; rfl
  · intro a l e hne he
    rw [lexA_eq, lexStep_err hne he]
    show Except.error (a + n + ws false l, e) = Except.error (a + ws false l + n, e)
    rw [show a + n + ws false l = a + ws false l + n by omega]
  · intro a l t hne ht r ih
    rw [lexA_eq, lexStep_tok ht, show a + n + ws false l + t.text.length = a + ws false l + t.text.length + n by omega, ih]
    cases r with
    | error e => rfl
    | ok ts =>
      show Except.ok ({ t with at_ := a + n + ws false l } :: _) = Except.ok ({ t with at_ := a + ws false l + n } :: _)
      rw [show a + n + ws false l = a + ws false l + n by omega]
theorem lexA_join (t : Bs) : ∀ a s, lexA a (s ++ 10 :: t) = match lexA a s with
    | .error e => .error e
    | .ok ts => match lexA (a + s.length + 1) t with
      | .error e => .error e
      | .ok us => .ok (ts ++ us) := by
  refine lex_induction (fun a s r => lexA a (s ++ 10 :: t) = match r with
    | .error e => .error e
    | .ok ts => match lexA (a + s.length + 1) t with
      | .error e => .error e
      | .ok us => .ok (ts ++ us)) ?_ ?_ ?_
  · intro a s h
    have hw := ws_le false s
    have hw2 : ws false s = s.length := by
      have := List.drop_eq_nil_iff.1 h; omega
    have e1 : ws false (s ++ 10 :: t) = s.length + 1 + ws false t := by rw [ws_append, if_neg (by omega)]
    have e2 : (s ++ 10 :: t).drop (ws false (s ++ 10 :: t)) = t.drop (ws false t) := by
      rw [e1, show s.length + 1 + ws false t = s.length + (1 + ws false t) by omega, ← List.drop_drop, List.drop_left, Nat.add_comm 1, List.drop_succ_cons]
    show lexA a (s ++ 10 :: t) = match lexA (a + s.length + 1) t with | .error e => .error e | .ok us => .ok ([] ++ us)
    rw [lexA_eq, lexA_eq (a + s.length + 1)]
    cases ht : take (t.drop (ws false t)) with
    | error e =>
      by_cases hn : t.drop (ws false t) = []
      · rw [lexStep_nil hn, lexStep_nil (by rw [e2]; exact hn)]; rfl
      · rw [lexStep_err hn ht, lexStep_err (by rw [e2]; exact hn) (by rw [e2]; exact ht), e1, show a + (s.length + 1 + ws false t) = a + s.length + 1 + ws false t by omega]
    | ok u =>
      rw [lexStep_tok ht, lexStep_tok (t := u) (by rw [e2]; exact ht), e2, e1, show a + (s.length + 1 + ws false t) = a + s.length + 1 + ws false t by omega]
      cases lexA (a + s.length + 1 + ws false t + u.text.length) ((t.drop (ws false t)).drop u.text.length) <;> rfl
  · intro a s e hne he
    have hlt : ws false s < s.length := by
      rcases Nat.lt_or_ge (ws false s) s.length with h | h
      · exact h
      · exact absurd (List.drop_eq_nil_of_le h) hne
    have e1 : ws false (s ++ 10 :: t) = ws false s := by rw [ws_append, if_pos hlt]
    have e2 : (s ++ 10 :: t).drop (ws false s) = s.drop (ws false s) ++ 10 :: t := List.drop_append_of_le_length (by omega)
    rw [lexA_eq, lexStep_err (e := e) (by rw [e1, e2]; simp) (by rw [e1, e2, take_newline _ _ hne]; exact he), e1]
  · intro a s u hne hu r ih
    have hlt : ws false s < s.length := by
      rcases Nat.lt_or_ge (ws false s) s.length with h | h
      · exact h
      · exact absurd (List.drop_eq_nil_of_le h) hne
    have e1 : ws false (s ++ 10 :: t) = ws false s := by rw [ws_append, if_pos hlt]
    have e2 : (s ++ 10 :: t).drop (ws false s) = s.drop (ws false s) ++ 10 :: t := List.drop_append_of_le_length (by omega)
    obtain ⟨_, hpre⟩ := take_kinded hu
    have hlen : u.text.length ≤ (s.drop (ws false s)).length := by
      have := congrArg List.length hpre
      rw [List.length_take] at this; omega
    have e3 : (s.drop (ws false s) ++ 10 :: t).drop u.text.length = (s.drop (ws false s)).drop u.text.length ++ 10 :: t := List.drop_append_of_le_length hlen
    rw [lexA_eq, lexStep_tok (t := u) (by rw [e1, e2, take_newline _ _ hne]; exact hu), e1, e2, e3, ih]
    have el : a + ws false s + u.text.length + ((s.drop (ws false s)).drop u.text.length).length + 1 = a + s.length + 1 := by
      simp only [List.length_drop] at hlen ⊢; omega
    rw [el]
    cases r with
    | error e => rfl
    | ok ts => cases lexA (a + s.length + 1) t <;> rfl
end Px
set_option linter.unusedSimpArgs false
set_option linter.unusedVariables false
namespace Px
theorem ws_blanks (l : Bs) : ws false l = (l.takeWhile blankc).length + ws false (l.drop (l.takeWhile blankc).length) := by
  induction l with
  | nil => simp
  | cons c l ih =>
    by_cases h : blankc c = true
    · rw [ws_blank c l h]; simp only [List.takeWhile_cons, h, if_true, List.length_cons, List.drop_succ_cons]; omega
    · simp [List.takeWhile_cons, h]
theorem tw_drop_head (p : UInt8 → Bool) (l : Bs) : ∀ c r, l.drop (l.takeWhile p).length = c :: r → p c = false := by
  induction l with
  | nil => intro c r h; simp at h
  | cons d l ih =>
    intro c r h
    by_cases hd : p d = true
    · simp only [List.takeWhile_cons, hd, if_true, List.length_cons, List.drop_succ_cons] at h; exact ih c r h
    · simp only [List.takeWhile_cons, hd] at h
      simp at h
      rw [← h.1]; simpa using hd
/-- where neither a blank nor a comment begins, there is no white space -/
theorem ws_stop (l : Bs) (h1 : ∀ c r, l = c :: r → blankc c = false) (h2 : ([47, 47] : Bs).isPrefixOf l = false) : ws false l = 0 := by
  cases l with
  | nil => rfl
  | cons c l =>
    have hb := h1 c l rfl
    rw [ws_f, if_neg (by simp [hb])]
    rw [if_neg]
    intro hc
    simp only [Bool.and_eq_true, beq_iff_eq] at hc
    obtain ⟨rfl, hh⟩ := hc
    cases l with
    | nil => simp at hh
    | cons d l => simp at hh; subst hh; simp [List.isPrefixOf] at h2
theorem ws_slash (l : Bs) (h : ([47, 47] : Bs).isPrefixOf l = true) : ∃ r, l = 47 :: 47 :: r ∧ ws false l = 2 + ws true r := by
  rw [List.isPrefixOf_iff_prefix] at h
  obtain ⟨r, rfl⟩ := h
  refine ⟨r, rfl, ?_⟩
  show ws false (47 :: 47 :: r) = _
  rw [ws_f]; simp [blankc, ws_t]; omega
theorem ws_true_idx : ∀ (r : Bs) (e : Nat), r.idxOf? 10 = some e → ws true r = e + ws false (r.drop e) := by
  intro r
  induction r with
  | nil => intro e h; simp at h
  | cons c r ih =>
    intro e h
    rw [List.idxOf?_cons] at h
    by_cases hc : (c == 10) = true
    · simp only [hc, if_true, Option.some.injEq] at h
      subst h
      have : c = 10 := by simpa using hc
      subst this
      simp [ws_t, ws_blank 10 r (by decide)]
    · have hc' : (c != 10) = true := by simpa using hc
      simp only [hc] at h
      simp only [Bool.false_eq_true, if_false, Option.map_eq_some_iff] at h
      obtain ⟨e', he', rfl⟩ := h
      rw [ws_t, hc', ih e' he']; simp; omega
theorem ws_note_idx (l : Bs) (h : ([47, 47] : Bs).isPrefixOf l = true) (e : Nat) (he : l.idxOf? 10 = some e) : ws false l = e + ws false (l.drop e) := by
  obtain ⟨r, rfl, hw⟩ := ws_slash l h
  rw [List.idxOf?_cons, List.idxOf?_cons] at he
  simp at he
  obtain ⟨e', he', rfl⟩ := he
  rw [hw, ws_true_idx r e' he']; simp; omega
theorem ws_note_end (l : Bs) (h : ([47, 47] : Bs).isPrefixOf l = true) (he : l.idxOf? 10 = none) : ws false l = l.length := by
  obtain ⟨r, rfl, hw⟩ := ws_slash l h
  rw [hw, ws_true_all r (by
    intro c hc
    rw [List.idxOf?_eq_none_iff] at he
    rintro rfl
    exact he (by simp [hc]))]
  simp; omega
theorem idx_le {l : Bs} {e : Nat} (h : l.idxOf? 10 = some e) : e < l.length ∧ 0 < l.length := by
  induction l generalizing e with
  | nil => simp at h
  | cons c l ih =>
    rw [List.idxOf?_cons] at h
    by_cases hc : (c == 10) = true
    · simp [hc] at h; subst h; simp
    · simp only [hc] at h
      simp only [Bool.false_eq_true, if_false, Option.map_eq_some_iff] at h
      obtain ⟨e', he', rfl⟩ := h
      have := ih he'; simp; omega
/-! numbers -/
theorem numVal_snoc_none {l : Bs} {n : Nat} (h : numVal n l = none) (t : Bs) : numVal n (l ++ t) = none := by
  induction l generalizing n with
  | nil => simp [numVal] at h
  | cons c l ih =>
    simp only [List.cons_append, numVal] at h ⊢
    split
    · rename_i hlt; rw [if_pos hlt] at h; exact ih h
    · rfl
theorem numVal_append {l : Bs} {n v : Nat} (h : numVal n l = some v) (t : Bs) : numVal n (l ++ t) = numVal v t := by
  induction l generalizing n with
  | nil => simp [numVal] at h; subst h; rfl
  | cons c l ih =>
    simp only [List.cons_append, numVal] at h ⊢
    split
    · rename_i hlt; rw [if_pos hlt] at h; exact ih h
    · rename_i hlt; rw [if_neg hlt] at h; cases h
theorem numVal_lt {l : Bs} {n v : Nat} (hn : n < 1152921504606846976) (h : numVal n l = some v) : v < 1152921504606846976 := by
  induction l generalizing n with
  | nil => simp [numVal] at h; omega
  | cons c l ih =>
    simp only [numVal] at h
    split at h
    · rename_i hlt; exact ih hlt h
    · cases h
end Px
