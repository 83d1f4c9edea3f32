namespace Px
abbrev Bs := List UInt8
def letter (c : UInt8) : Bool := (97 ≤ c && c ≤ 122) || (65 ≤ c && c ≤ 90)
def digit (c : UInt8) : Bool := 48 ≤ c && c ≤ 57
def wordc (c : UInt8) : Bool := letter c || digit c || c == 95
def blankc (c : UInt8) : Bool := c == 32 || c == 9 || c == 10
def signs : Bs := [40, 41, 91, 93, 123, 125, 59, 44, 58, 61, 43, 45, 42, 60, 38, 124, 33, 63]
def signc (c : UInt8) : Bool := signs.contains c
def reserved : List Bs := [[105, 110], [102, 114, 111, 109], [97, 114, 114, 97, 121], [105, 102], [101, 108, 115, 101], [102, 111, 114], [116, 111], [111, 117, 116]]
def ws : Bool → Bs → Nat
  | _, [] => 0
  | true, c :: l => 1 + ws (c != 10) l
  | false, c :: l => if blankc c then 1 + ws false l else if c == 47 && l.head? == some 47 then 1 + ws true l else 0
def numVal : Nat → Bs → Option Nat
  | n, [] => some n
  | n, c :: l => if n * 10 + (c.toNat - 48) < 1152921504606846976 then numVal (n * 10 + (c.toNat - 48)) l else none
structure Tok where
  kind : Nat
  text : Bs
  num : Nat
  at_ : Nat
deriving DecidableEq
def take (l : Bs) : Except Nat Tok :=
  match l with
  | [] => .error 3
  | c :: _ =>
    if digit c then
      match numVal 0 (l.takeWhile digit) with
      | some v => .ok ⟨2, l.takeWhile digit, v, 0⟩
      | none => .error 2
    else if letter c then
      if (l.takeWhile wordc).length > 20 then .error 2
      else .ok ⟨if reserved.contains (l.takeWhile wordc) then 3 else 1, l.takeWhile wordc, 0, 0⟩
    else if signc c then .ok ⟨4, if l.take 2 == [61, 61] then [61, 61] else [c], 0, 0⟩
    else .error 3
def lexF : Nat → Nat → Bs → Except (Nat × Nat) (List Tok)
  | 0, _, _ => .ok []
  | k + 1, at_, l =>
    match l.drop (ws false l) with
    | [] => .ok []
    | r@(_ :: _) =>
      match take r with
      | .error e => .error (at_ + ws false l, e)
      | .ok t =>
        match lexF k (at_ + ws false l + t.text.length) (r.drop t.text.length) with
        | .error e => .error e
        | .ok ts => .ok ({ t with at_ := at_ + ws false l } :: ts)
def isName (l : Bs) : Bool :=
  match l with
  | [] => false
  | c :: _ => letter c && l.all wordc && l.length ≤ 20 && !reserved.contains l
end Px
namespace Px
theorem ws_le : ∀ (b : Bool) (l : Bs), ws b l ≤ l.length := by
  intro b l
  induction l generalizing b with
  | nil => cases b <;> simp [ws]
  | cons c l ih =>
    cases b with
    | true => simp only [ws, List.length_cons]; have := ih (c != 10); omega
    | false =>
      simp only [ws, List.length_cons]
      split
      · have := ih false; omega
      · split
        · have := ih true; omega
        · omega
theorem ws_true_all : ∀ (l : Bs), (∀ c ∈ l, c ≠ 10) → ws true l = l.length := by
  intro l
  induction l with
  | nil => intro _; simp [ws]
  | cons c l ih =>
    intro h
    have hc : (c != 10) = true := by simpa using h c (by simp)
    simp only [ws, hc, List.length_cons]
    rw [ih (fun d hd => h d (by simp [hd]))]; omega
theorem ws_blank (c : UInt8) (l : Bs) (h : blankc c = true) : ws false (c :: l) = 1 + ws false l := by simp [ws, h]
theorem ws_t (c : UInt8) (l : Bs) : ws true (c :: l) = 1 + ws (c != 10) l := rfl
theorem ws_f (c : UInt8) (l : Bs) : ws false (c :: l) = if blankc c then 1 + ws false l else if c == 47 && l.head? == some 47 then 1 + ws true l else 0 := rfl
theorem ws_zero (c : UInt8) (r : Bs) (h1 : blankc c = false) (h2 : c ≠ 47) : ws false (c :: r) = 0 := by
  simp [ws, h1, h2]
end Px
set_option linter.unusedSimpArgs false
set_option linter.unusedVariables false
namespace Px
theorem tw_eq (p : UInt8 → Bool) (l : Bs) : l.take (l.takeWhile p).length = l.takeWhile p := by
  induction l with
  | nil => rfl
  | cons c l ih =>
    by_cases h : p c = true
    · simp [List.takeWhile_cons, h, ih]
    · simp [List.takeWhile_cons, h]
theorem tw_stop (p : UInt8 → Bool) (l t : Bs) (c : UInt8) (h : p c = false) : (l ++ c :: t).takeWhile p = l.takeWhile p := by
  induction l with
  | nil => simp [h]
  | cons d l ih => simp only [List.cons_append, List.takeWhile_cons, ih]
theorem tw_self (p : UInt8 → Bool) (l t : Bs) (c : UInt8) (h : p c = false) (hl : ∀ d ∈ l, p d = true) : (l ++ c :: t).takeWhile p = l := by
  rw [tw_stop p l t c h]
  induction l with
  | nil => rfl
  | cons d l ih => rw [List.takeWhile_cons, hl d (by simp)]; simp only [if_true]; rw [ih (fun e he => hl e (by simp [he]))]
theorem tw_all (p : UInt8 → Bool) (l : Bs) : ∀ d ∈ l.takeWhile p, p d = true := by
  induction l with
  | nil => simp
  | cons c l ih =>
    by_cases h : p c = true
    · simp only [List.takeWhile_cons, h, if_true, List.mem_cons]
      rintro d (rfl | hd)
      · exact h
      · exact ih d hd
    · simp [List.takeWhile_cons, h]
inductive Kinded : Tok → Prop
  | num (c : UInt8) (l : Bs) (v : Nat) : digit c = true → (∀ d ∈ l, digit d = true) → numVal 0 (c :: l) = some v → Kinded ⟨2, c :: l, v, 0⟩
  | word (c : UInt8) (l : Bs) (k : Nat) : digit c = false → letter c = true → (∀ d ∈ l, wordc d = true) → (c :: l).length ≤ 20 → k = (if reserved.contains (c :: l) then 3 else 1) → Kinded ⟨k, c :: l, 0, 0⟩
  | sign (c : UInt8) : digit c = false → letter c = false → signc c = true → Kinded ⟨4, [c], 0, 0⟩
  | eq : Kinded ⟨4, [61, 61], 0, 0⟩
theorem take_kinded {l : Bs} {t : Tok} (h : take l = .ok t) : Kinded t ∧ t.text = l.take t.text.length := by
  unfold take at h
  split at h
  · cases h
  · rename_i c r
    by_cases hd : digit c = true
    · simp only [hd, if_true] at h
      have e : (c :: r).takeWhile digit = c :: r.takeWhile digit := by simp [List.takeWhile_cons, hd]
      split at h
      · rename_i v hv
        injection h with h
        subst h
        exact ⟨by rw [e] at hv ⊢; exact .num c _ v hd (tw_all _ _) hv, (tw_eq _ _).symm⟩
      · cases h
    · simp only [hd, Bool.false_eq_true, if_false] at h
      by_cases hl : letter c = true
      · simp only [hl, if_true] at h
        have hw : wordc c = true := by simp [wordc, hl]
        have e : (c :: r).takeWhile wordc = c :: r.takeWhile wordc := by simp [List.takeWhile_cons, hw]
        split at h
        · cases h
        · rename_i h20
          injection h with h
          subst h
          exact ⟨by rw [e] at h20 ⊢; exact .word c _ _ (by simpa using hd) hl (tw_all _ _) (by omega) rfl, (tw_eq _ _).symm⟩
      · simp only [hl, Bool.false_eq_true, if_false] at h
        by_cases hs : signc c = true
        · simp only [hs, if_true] at h
          injection h with h
          subst h
          by_cases h2 : ((c :: r).take 2 == [61, 61]) = true
          · simp only [h2, if_true]
            exact ⟨.eq, by simpa using (beq_iff_eq.mp h2).symm⟩
          · simp only [h2]
            exact ⟨.sign c (by simpa using hd) (by simpa using hl) hs, by simp⟩
        · simp [hs] at h
theorem take_ne {l : Bs} {t : Tok} (h : take l = .ok t) : 0 < t.text.length := by
  have := (take_kinded h).1
  cases this <;> simp
theorem take_range {l : Bs} {t : Tok} (h : take l = .ok t) : 1 ≤ t.kind ∧ t.kind ≤ 4 ∧ (t.kind ≠ 2 → t.num = 0) ∧ t.at_ = 0 := by
  have := (take_kinded h).1
  cases this with
  | num => simp
  | word c l k _ _ _ _ hk => subst hk; split <;> simp
  | sign => simp
  | eq => simp
end Px
set_option linter.unusedSimpArgs false
set_option linter.unusedVariables false
namespace Px
def lexStep (at_ : Nat) (l : Bs) (next : Nat → Bs → Except (Nat × Nat) (List Tok)) : Except (Nat × Nat) (List Tok) :=
  match l.drop (ws false l) with
  | [] => .ok []
  | r@(_ :: _) =>
    match take r with
    | .error e => .error (at_ + ws false l, e)
    | .ok t =>
      match next (at_ + ws false l + t.text.length) (r.drop t.text.length) with
      | .error e => .error e
      | .ok ts => .ok ({ t with at_ := at_ + ws false l } :: ts)
theorem lexF_succ (k at_ : Nat) (l : Bs) : lexF (k + 1) at_ l = lexStep at_ l (lexF k) := rfl
theorem lexStep_nil {at_ : Nat} {l : Bs} {next} (h : l.drop (ws false l) = []) : lexStep at_ l next = .ok [] := by
  unfold lexStep; rw [h]
theorem lexStep_err {at_ : Nat} {l : Bs} {next} {e : Nat} (h : l.drop (ws false l) ≠ []) (ht : take (l.drop (ws false l)) = .error e) : lexStep at_ l next = .error (at_ + ws false l, e) := by
  unfold lexStep
  generalize hr : l.drop (ws false l) = r at *
  cases r with
  | nil => exact absurd rfl h
  | cons c r => simp only [ht]
theorem lexStep_tok {at_ : Nat} {l : Bs} {next} {t : Tok} (ht : take (l.drop (ws false l)) = .ok t) :
    lexStep at_ l next = match next (at_ + ws false l + t.text.length) ((l.drop (ws false l)).drop t.text.length) with
      | .error e => .error e
      | .ok ts => .ok ({ t with at_ := at_ + ws false l } :: ts) := by
  unfold lexStep
  generalize hr : l.drop (ws false l) = r at *
  cases r with
  | nil => simp [take] at ht
  | cons c r => simp only [ht]
theorem lexF_fuel : ∀ (k k' at_ : Nat) (l : Bs), l.length < k → l.length < k' → lexF k at_ l = lexF k' at_ l := by
  intro k
  induction k with
  | zero => intro _ _ _ h; omega
  | succ k ih =>
    intro k' at_ l h h'
    obtain ⟨k', rfl⟩ : ∃ m, k' = m + 1 := ⟨k' - 1, by omega⟩
    rw [lexF_succ, lexF_succ]
    cases ht : take (l.drop (ws false l)) with
    | error e =>
      by_cases hn : l.drop (ws false l) = []
      · rw [lexStep_nil hn, lexStep_nil hn]
      · rw [lexStep_err hn ht, lexStep_err hn ht]
    | ok t =>
      have := take_ne ht
      have hne : l.drop (ws false l) ≠ [] := by rintro e; rw [e] at ht; simp [take] at ht
      have hl : ((l.drop (ws false l)).drop t.text.length).length < l.length := by
        have := List.length_pos_iff.2 hne
        simp only [List.length_drop] at this ⊢; omega
      rw [lexStep_tok ht, lexStep_tok ht, ih k' _ _ (by omega) (by omega)]
def lexA (at_ : Nat) (l : Bs) : Except (Nat × Nat) (List Tok) := lexF (l.length + 1) at_ l
theorem lexA_eq (at_ : Nat) (l : Bs) : lexA at_ l = lexStep at_ l lexA := by
  show lexF (l.length + 1) at_ l = _
  rw [lexF_succ]
  cases ht : take (l.drop (ws false l)) with
  | error e =>
    by_cases hn : l.drop (ws false l) = []
    · rw [lexStep_nil hn, lexStep_nil hn]
    · rw [lexStep_err hn ht, lexStep_err hn ht]
  | ok t =>
    have := take_ne ht
    have hne : l.drop (ws false l) ≠ [] := by rintro e; rw [e] at ht; simp [take] at ht
    have hl : ((l.drop (ws false l)).drop t.text.length).length < l.length := by
      have := List.length_pos_iff.2 hne
      simp only [List.length_drop] at this ⊢; omega
    rw [lexStep_tok ht, lexStep_tok ht, lexF_fuel _ (((l.drop (ws false l)).drop t.text.length).length + 1) _ _ (by omega) (by omega)]
    rfl
theorem lex_induction (P : Nat → Bs → Except (Nat × Nat) (List Tok) → Prop)
    (hnil : ∀ a l, l.drop (ws false l) = [] → P a l (.ok []))
    (herr : ∀ a l e, l.drop (ws false l) ≠ [] → take (l.drop (ws false l)) = .error e → P a l (.error (a + ws false l, e)))
    (htok : ∀ a l t, l.drop (ws false l) ≠ [] → take (l.drop (ws false l)) = .ok t →
      ∀ r, P (a + ws false l + t.text.length) ((l.drop (ws false l)).drop t.text.length) r →
        P a l (match r with | .error e => .error e | .ok ts => .ok ({ t with at_ := a + ws false l } :: ts))) :
    ∀ a l, P a l (lexA a l) := by
  intro a l
  induction hn : l.length using Nat.strongRecOn generalizing a l with
  | _ n ih =>
    rw [lexA_eq]
    cases ht : take (l.drop (ws false l)) with
    | error e =>
      by_cases hne : l.drop (ws false l) = []
      · rw [lexStep_nil hne]; exact hnil a l hne
      · rw [lexStep_err hne ht]; exact herr a l e hne ht
    | ok t =>
      have := take_ne ht
      have hne : l.drop (ws false l) ≠ [] := by rintro e; rw [e] at ht; simp [take] at ht
      have hl : ((l.drop (ws false l)).drop t.text.length).length < l.length := by
        have := List.length_pos_iff.2 hne
        simp only [List.length_drop] at this ⊢; omega
      rw [lexStep_tok ht]
      exact htok a l t hne ht _ (ih _ (by omega) _ _ rfl)
def Placed (s : Bs) : Nat → List Tok → Prop
  | _, [] => True
  | e, t :: ts => e ≤ t.at_ ∧ 0 < t.text.length ∧ t.at_ + t.text.length ≤ s.length ∧ (s.drop t.at_).take t.text.length = t.text ∧ 1 ≤ t.kind ∧ t.kind ≤ 4 ∧ (t.kind ≠ 2 → t.num = 0) ∧ Placed s (t.at_ + t.text.length) ts
theorem lexA_placed (s : Bs) : ∀ a l, s.drop a = l → a ≤ s.length → match lexA a l with
    | .ok ts => Placed s a ts
    | .error e => e.1 ≤ s.length ∧ (e.2 = 2 ∨ e.2 = 3) := by
  refine lex_induction (fun a l r => s.drop a = l → a ≤ s.length → match r with
    | .ok ts => Placed s a ts
    | .error e => e.1 ≤ s.length ∧ (e.2 = 2 ∨ e.2 = 3)) ?_ ?_ ?_
  · intro a l _ _ _; trivial
  · intro a l e hne he hs ha
    have hw := ws_le false l
    have hl : l.length = s.length - a := by rw [← hs, List.length_drop]
    refine ⟨by show a + ws false l ≤ s.length; omega, ?_⟩
    clear hne
    generalize l.drop (ws false l) = r at he
    unfold take at he
    split at he
    · injection he with he; exact .inr he.symm
    · split at he
      · split at he
        · cases he
        · injection he with he; exact .inl he.symm
      · split at he
        · split at he
          · injection he with he; exact .inl he.symm
          · cases he
        · split at he
          · cases he
          · injection he with he; exact .inr he.symm
  · intro a l t hne ht r ih hs ha
    have hw := ws_le false l
    have hl : l.length = s.length - a := by rw [← hs, List.length_drop]
    obtain ⟨_, hpre⟩ := take_kinded ht
    have hlen : t.text.length ≤ (l.drop (ws false l)).length := by
      have := congrArg List.length hpre
      rw [List.length_take] at this; omega
    have hlen' := hlen
    rw [List.length_drop] at hlen'
    have hpos := take_ne ht
    obtain ⟨h1, h2, h3, _⟩ := take_range ht
    have hs2 : s.drop (a + ws false l + t.text.length) = (l.drop (ws false l)).drop t.text.length := by
      rw [← hs, List.drop_drop, List.drop_drop]; congr 1; omega
    have := ih hs2 (by omega)
    cases r with
    | error e => exact this
    | ok ts =>
      refine ⟨by show a ≤ a + ws false l; omega, hpos, by show a + ws false l + t.text.length ≤ s.length; omega, ?_, h1, h2, h3, this⟩
      show (s.drop (a + ws false l)).take t.text.length = t.text
      rw [← List.drop_drop, hs, ← hpre]
structure Sep (sep : Bs) : Prop where
  blank : ∃ b r, sep = b :: r ∧ blankc b = true
  white : ∀ rest, ws false (sep ++ rest) = sep.length + ws false rest
theorem lexA_shift (n : Nat) : ∀ a l, lexA (a + n) l = match lexA a l with
    | .error e => .error (e.1 + n, e.2)
    | .ok ts => .ok (ts.map fun t => { t with at_ := t.at_ + n }) := by
  refine lex_induction (fun a l r => lexA (a + n) l = match r with
    | .error e => .error (e.1 + n, e.2)
    | .ok ts => .ok (ts.map fun t => { t with at_ := t.at_ + n })) ?_ ?_ ?_
  · intro a l h; rw [lexA_eq, lexStep_nil h]; rfl
  · intro a l e hne he
    rw [lexA_eq, lexStep_err hne he]
    show Except.error (a + n + ws false l, e) = Except.error (a + ws false l + n, e)
    rw [show a + n + ws false l = a + ws false l + n by omega]
  · intro a l t hne ht r ih
    rw [lexA_eq, lexStep_tok ht, show a + n + ws false l + t.text.length = a + ws false l + t.text.length + n by omega, ih]
    cases r with
    | error e => rfl
    | ok ts =>
      show Except.ok ({ t with at_ := a + n + ws false l } :: _) = Except.ok ({ t with at_ := a + ws false l + n } :: _)
      rw [show a + n + ws false l = a + ws false l + n by omega]
end Px
set_option linter.unusedSimpArgs false
set_option linter.unusedVariables false
namespace Px
theorem ws_blanks (l : Bs) : ws false l = (l.takeWhile blankc).length + ws false (l.drop (l.takeWhile blankc).length) := by
  induction l with
  | nil => simp
  | cons c l ih =>
    by_cases h : blankc c = true
    · rw [ws_blank c l h]; simp only [List.takeWhile_cons, h, if_true, List.length_cons, List.drop_succ_cons]; omega
    · simp [List.takeWhile_cons, h]
theorem tw_drop_head (p : UInt8 → Bool) (l : Bs) : ∀ c r, l.drop (l.takeWhile p).length = c :: r → p c = false := by
  induction l with
  | nil => intro c r h; simp at h
  | cons d l ih =>
    intro c r h
    by_cases hd : p d = true
    · simp only [List.takeWhile_cons, hd, if_true, List.length_cons, List.drop_succ_cons] at h; exact ih c r h
    · simp only [List.takeWhile_cons, hd] at h
      simp at h
      rw [← h.1]; simpa using hd
theorem ws_stop (l : Bs) (h1 : ∀ c r, l = c :: r → blankc c = false) (h2 : ([47, 47] : Bs).isPrefixOf l = false) : ws false l = 0 := by
  cases l with
  | nil => rfl
  | cons c l =>
    have hb := h1 c l rfl
    rw [ws_f, if_neg (by simp [hb])]
    rw [if_neg]
    intro hc
    simp only [Bool.and_eq_true, beq_iff_eq] at hc
    obtain ⟨rfl, hh⟩ := hc
    cases l with
    | nil => simp at hh
    | cons d l => simp at hh; subst hh; simp [List.isPrefixOf] at h2
theorem ws_slash (l : Bs) (h : ([47, 47] : Bs).isPrefixOf l = true) : ∃ r, l = 47 :: 47 :: r ∧ ws false l = 2 + ws true r := by
  rw [List.isPrefixOf_iff_prefix] at h
  obtain ⟨r, rfl⟩ := h
  refine ⟨r, rfl, ?_⟩
  show ws false (47 :: 47 :: r) = _
  rw [ws_f]; simp [blankc, ws_t]; omega
theorem ws_true_idx : ∀ (r : Bs) (e : Nat), r.idxOf? 10 = some e → ws true r = e + ws false (r.drop e) := by
  intro r
  induction r with
  | nil => intro e h; simp at h
  | cons c r ih =>
    intro e h
    rw [List.idxOf?_cons] at h
    by_cases hc : (c == 10) = true
    · simp only [hc, if_true, Option.some.injEq] at h
      subst h
      have : c = 10 := by simpa using hc
      subst this
      simp [ws_t, ws_blank 10 r (by decide)]
    · have hc' : (c != 10) = true := by simpa using hc
      simp only [hc] at h
      simp only [Bool.false_eq_true, if_false, Option.map_eq_some_iff] at h
      obtain ⟨e', he', rfl⟩ := h
      rw [ws_t, hc', ih e' he']; simp; omega
theorem ws_note_idx (l : Bs) (h : ([47, 47] : Bs).isPrefixOf l = true) (e : Nat) (he : l.idxOf? 10 = some e) : ws false l = e + ws false (l.drop e) := by
  obtain ⟨r, rfl, hw⟩ := ws_slash l h
  rw [List.idxOf?_cons, List.idxOf?_cons] at he
  simp at he
  obtain ⟨e', he', rfl⟩ := he
  rw [hw, ws_true_idx r e' he']; simp; omega
theorem ws_note_end (l : Bs) (h : ([47, 47] : Bs).isPrefixOf l = true) (he : l.idxOf? 10 = none) : ws false l = l.length := by
  obtain ⟨r, rfl, hw⟩ := ws_slash l h
  rw [hw, ws_true_all r (by
    intro c hc
    rw [List.idxOf?_eq_none_iff] at he
    rintro rfl
    exact he (by simp [hc]))]
  simp; omega
theorem idx_le {l : Bs} {e : Nat} (h : l.idxOf? 10 = some e) : e < l.length ∧ 0 < l.length := by
  induction l generalizing e with
  | nil => simp at h
  | cons c l ih =>
    rw [List.idxOf?_cons] at h
    by_cases hc : (c == 10) = true
    · simp [hc] at h; subst h; simp
    · simp only [hc] at h
      simp only [Bool.false_eq_true, if_false, Option.map_eq_some_iff] at h
      obtain ⟨e', he', rfl⟩ := h
      have := ih he'; simp; omega
theorem numVal_append {l : Bs} {n v : Nat} (h : numVal n l = some v) (t : Bs) : numVal n (l ++ t) = numVal v t := by
  induction l generalizing n with
  | nil => simp [numVal] at h; subst h; rfl
  | cons c l ih =>
    simp only [List.cons_append, numVal] at h ⊢
    split
    · rename_i hlt; rw [if_pos hlt] at h; exact ih h
    · rename_i hlt; rw [if_neg hlt] at h; cases h
end Px
