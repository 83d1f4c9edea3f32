import Derived.Test.YtanollmhbjlimaaDoorPxLexTake
set_option linter.unusedSimpArgs false
namespace Px
def lexStep (at_ : Nat) (l : Bs) (next : Nat → Bs → Except (Nat × Nat) (List Tok)) : Except (Nat × Nat) (List Tok) :=
  match l.drop (ws false l) with
  | [] => .ok []
  | r@(_ :: _) =>
    match take r with
    | .error e => .error (at_ + ws false l, e)
    | .ok t =>
      match next (at_ + ws false l + t.text.length) (r.drop t.text.length) with
      | .error e => .error e
      | .ok ts => .ok ({ t with at_ := at_ + ws false l } :: ts)
theorem lexF_succ (k at_ : Nat) (l : Bs) : lexF (k + 1) at_ l = lexStep at_ l (lexF k) := rfl
/-- one step, by what stands behind the white space -/
theorem lexStep_nil {at_ : Nat} {l : Bs} {next} (h : l.drop (ws false l) = []) : lexStep at_ l next = .ok [] := by
  unfold lexStep; rw [h]
theorem lexStep_err {at_ : Nat} {l : Bs} {next} {e : Nat} (h : l.drop (ws false l) ≠ []) (ht : take (l.drop (ws false l)) = .error e) : lexStep at_ l next = .error (at_ + ws false l, e) := by
  unfold lexStep
  generalize hr : l.drop (ws false l) = r at *
  cases r with
  | nil => exact absurd rfl h
  | cons c r => simp only [ht]
theorem lexStep_tok {at_ : Nat} {l : Bs} {next} {t : Tok} (ht : take (l.drop (ws false l)) = .ok t) :
    lexStep at_ l next = match next (at_ + ws false l + t.text.length) ((l.drop (ws false l)).drop t.text.length) with
      | .error e => .error e
      | .ok ts => .ok ({ t with at_ := at_ + ws false l } :: ts) := by
  unfold lexStep
  generalize hr : l.drop (ws false l) = r at *
  cases r with
  | nil => simp [take] at ht
  | cons c r => simp only [ht]
theorem lexF_fuel : ∀ (k k' at_ : Nat) (l : Bs), l.length < k → l.length < k' → lexF k at_ l = lexF k' at_ l := by
  intro k
  induction k with
  | zero => intro _ _ _ h; omega
  | succ k ih =>
    intro k' at_ l h h'
    obtain ⟨k', rfl⟩ : ∃ m, k' = m + 1 := ⟨k' - 1, by omega⟩
    rw [lexF_succ, lexF_succ]
    cases ht : take (l.drop (ws false l)) with
    | error e =>
      by_cases hn : l.drop (ws false l) = []
      · rw [lexStep_nil hn, lexStep_nil hn]
      · rw [lexStep_err hn ht, lexStep_err hn ht]
    | ok t =>
      have := take_ne ht
      have hne : l.drop (ws false l) ≠ [] := by rintro e; rw [e] at ht; simp [take] at ht
      have hl : ((l.drop (ws false l)).drop t.text.length).length < l.length := by
        have := List.length_pos_iff.2 hne
        simp only [List.length_drop] at this ⊢; omega
      rw [lexStep_tok ht, lexStep_tok ht, ih k' _ _ (by omega) (by omega)]
def lexA (at_ : Nat) (l : Bs) : Except (Nat × Nat) (List Tok) := lexF (l.length + 1) at_ l
theorem lexA_eq (at_ : Nat) (l : Bs) : lexA at_ l = lexStep at_ l lexA := by
  show lexF (l.length + 1) at_ l = _
  rw [lexF_succ]
  cases ht : take (l.drop (ws false l)) with
  | error e =>
    by_cases hn : l.drop (ws false l) = []
    · rw [lexStep_nil hn, lexStep_nil hn]
    · rw [lexStep_err hn ht, lexStep_err hn ht]
  | ok t =>
    have := take_ne ht
    have hne : l.drop (ws false l) ≠ [] := by rintro e; rw [e] at ht; simp [take] at ht
    have hl : ((l.drop (ws false l)).drop t.text.length).length < l.length := by
      have := List.length_pos_iff.2 hne
      simp only [List.length_drop] at this ⊢; omega
    rw [lexStep_tok ht, lexStep_tok ht, lexF_fuel _ (((l.drop (ws false l)).drop t.text.length).length + 1) _ _ (by omega) (by omega)]
    rfl
theorem lexF_lexA {k at_ : Nat} {l : Bs} (h : l.length < k) : lexF k at_ l = lexA at_ l := lexF_fuel _ _ _ _ h (by omega)
/-- induction along the lexer's own steps -/
theorem lex_induction (P : Nat → Bs → Except (Nat × Nat) (List Tok) → Prop)
    (hnil : ∀ a l, l.drop (ws false l) = [] → P a l (.ok []))
    (herr : ∀ a l e, l.drop (ws false l) ≠ [] → take (l.drop (ws false l)) = .error e → P a l (.error (a + ws false l, e)))
    (htok : ∀ a l t, l.drop (ws false l) ≠ [] → take (l.drop (ws false l)) = .ok t →
      ∀ r, P (a + ws false l + t.text.length) ((l.drop (ws false l)).drop t.text.length) r →
        P a l (match r with | .error e => .error e | .ok ts => .ok ({ t with at_ := a + ws false l } :: ts))) :
    ∀ a l, P a l (lexA a l) := by
  intro a l
  induction hn : l.length using Nat.strongRecOn generalizing a l with
  | _ n ih =>
    rw [lexA_eq]
    cases ht : take (l.drop (ws false l)) with
    | error e =>
      by_cases hne : l.drop (ws false l) = []
      · rw [lexStep_nil hne]; exact hnil a l hne
      · rw [lexStep_err hne ht]; exact herr a l e hne ht
    | ok t =>
      have := take_ne ht
      have hne : l.drop (ws false l) ≠ [] := by rintro e; rw [e] at ht; simp [take] at ht
      have hl : ((l.drop (ws false l)).drop t.text.length).length < l.length := by
        have := List.length_pos_iff.2 hne
        simp only [List.length_drop] at this ⊢; omega
      rw [lexStep_tok ht]
      exact htok a l t hne ht _ (ih _ (by omega) _ _ rfl)
/-! offsets -/
def Placed (s : Bs) : Nat → List Tok → Prop
  | _, [] => True
  | e, t :: ts => e ≤ t.at_ ∧ 0 < t.text.length ∧ t.at_ + t.text.length ≤ s.length ∧ (s.drop t.at_).take t.text.length = t.text ∧ 1 ≤ t.kind ∧ t.kind ≤ 4 ∧ (t.kind ≠ 2 → t.num = 0) ∧ Placed s (t.at_ + t.text.length) ts
theorem lexA_placed (s : Bs) : ∀ a l, s.drop a = l → a ≤ s.length → match lexA a l with
    | .ok ts => Placed s a ts
    | .error e => e.1 ≤ s.length ∧ (e.2 = 2 ∨ e.2 = 3) := by
  refine lex_induction (fun a l r => s.drop a = l → a ≤ s.length → match r with
    | .ok ts => Placed s a ts
    | .error e => e.1 ≤ s.length ∧ (e.2 = 2 ∨ e.2 = 3)) ?_ ?_ ?_
  · intro a l _ _ _; trivial
  · intro a l e hne he hs ha
    have hw := ws_le false l
    have hl : l.length = s.length - a := by rw [← hs, List.length_drop]
    refine ⟨by show a + ws false l ≤ s.length; omega, ?_⟩
    clear hne
    generalize l.drop (ws false l) = r at he
    unfold take at he
    split at he
    · injection he with he; exact .inr he.symm
    · split at he
      · split at he
        · cases he
        · injection he with he; exact .inl he.symm
      · split at he
        · split at he
          · injection he with he; exact .inl he.symm
          · cases he
        · split at he
          · cases he
          · injection he with he; exact .inr he.symm
  · intro a l t hne ht r ih hs ha
    have hw := ws_le false l
    have hl : l.length = s.length - a := by rw [← hs, List.length_drop]
    obtain ⟨_, hpre⟩ := take_kinded ht
    have hlen : t.text.length ≤ (l.drop (ws false l)).length := by
      have := congrArg List.length hpre
      rw [List.length_take] at this; omega
    have hlen' := hlen
    rw [List.length_drop] at hlen'
    have hpos := take_ne ht
    obtain ⟨h1, h2, h3, _⟩ := take_range ht
    have hs2 : s.drop (a + ws false l + t.text.length) = (l.drop (ws false l)).drop t.text.length := by
      rw [← hs, List.drop_drop, List.drop_drop]; congr 1; omega
    have := ih hs2 (by omega)
    cases r with
    | error e => exact this
    | ok ts =>
      refine ⟨by show a ≤ a + ws false l; omega, hpos, by show a + ws false l + t.text.length ≤ s.length; omega, ?_, h1, h2, h3, this⟩
      show (s.drop (a + ws false l)).take t.text.length = t.text
      rw [← List.drop_drop, hs, ← hpre]
/-! white space between the tokens -/
def bare (t : Tok) : Tok := { t with at_ := 0 }
def AllKinded (ts : List Tok) : Prop := ∀ t ∈ ts, Kinded (bare t)
theorem lexA_kinded : ∀ a l, match lexA a l with
    | .ok ts => AllKinded ts
    | .error _ => True := by
  refine lex_induction (fun _ _ r => match r with | .ok ts => AllKinded ts | .error _ => True) ?_ ?_ ?_
  · intro _ _ _ t ht; simp at ht
  · intros; trivial
  · intro a l t hne ht r ih
    cases r with
    | error e => trivial
    | ok ts =>
      intro u hu
      rcases List.mem_cons.1 hu with rfl | hu
      · obtain ⟨_, _, _, h0⟩ := take_range ht
        have : bare { t with at_ := a + ws false l } = t := by cases t; simp_all [bare]
        rw [this]; exact (take_kinded ht).1
      · exact ih u hu
/-- a separator: it begins with a blank and is white space whatever follows -/
structure Sep (sep : Bs) : Prop where
  blank : ∃ b r, sep = b :: r ∧ blankc b = true
  white : ∀ rest, ws false (sep ++ rest) = sep.length + ws false rest
theorem kinded_at {t : Tok} (h : Kinded t) : t.at_ = 0 := by cases h <;> rfl
theorem lexA_sep {sep : Bs} (hsep : Sep sep) : ∀ (ts : List Tok) (a : Nat) (pre : Bs), AllKinded ts → (∀ rest, ws false (pre ++ rest) = pre.length + ws false rest) →
    ∃ us, lexA a (pre ++ ts.flatMap (fun t => t.text ++ sep)) = .ok us ∧ us.map bare = ts.map bare := by
  intro ts
  induction ts with
  | nil =>
    intro a pre _ hpre
    refine ⟨[], ?_, rfl⟩
    rw [lexA_eq, lexStep_nil]
    have := hpre []
    simp only [List.flatMap_nil, List.append_nil] at this ⊢
    rw [this]; simp [ws]
  | cons t ts ih =>
    intro a pre hk hpre
    have hkt : Kinded (bare t) := hk t (by simp)
    obtain ⟨c, r, hc, hb, h47⟩ := kinded_head hkt
    have hc' : t.text = c :: r := hc
    obtain ⟨b, sr, hs, hbl⟩ := hsep.blank
    have hw : ws false (pre ++ (t :: ts).flatMap (fun t => t.text ++ sep)) = pre.length := by
      rw [hpre, List.flatMap_cons, hc']
      simp only [List.cons_append]
      rw [ws_zero c _ hb h47, Nat.add_zero]
    have hd : (pre ++ (t :: ts).flatMap (fun t => t.text ++ sep)).drop pre.length = t.text ++ (sep ++ ts.flatMap (fun t => t.text ++ sep)) := by
      rw [List.drop_left, List.flatMap_cons, List.append_assoc]
    have ht : take (t.text ++ (sep ++ ts.flatMap (fun t => t.text ++ sep))) = .ok (bare t) := by
      rw [hs, List.cons_append]
      exact take_again hkt b hbl _
    obtain ⟨us, hu, he⟩ := ih (a + pre.length + t.text.length) sep (fun u hu => hk u (by simp [hu])) hsep.white
    refine ⟨{ bare t with at_ := a + pre.length } :: us, ?_, ?_⟩
    · rw [lexA_eq, lexStep_tok (t := bare t) (by rw [hw, hd]; exact ht), hw, hd]
      show (match lexA (a + pre.length + t.text.length) ((t.text ++ (sep ++ ts.flatMap (fun t => t.text ++ sep))).drop t.text.length) with | .error e => Except.error e | .ok ts => .ok ({ bare t with at_ := a + pre.length } :: ts)) = _
      rw [List.drop_left, hu]
    · simp only [List.map_cons, he]; rfl
theorem sep_blank : Sep [32] := ⟨⟨32, [], rfl, by decide⟩, fun rest => by rw [List.cons_append, ws_blank _ _ (by decide)]; simp⟩
theorem sep_note (note : Bs) (h : ∀ c ∈ note, c ≠ 10) : Sep (9 :: 47 :: 47 :: (note ++ [10])) :=
  ⟨⟨9, _, rfl, by decide⟩, fun rest => by
    rw [List.cons_append, ws_blank _ _ (by decide)]
    have := ws_comment note rest h
    simp only [List.cons_append, List.append_assoc, List.nil_append]
    rw [this]; simp only [List.length_cons, List.length_append, List.length_nil]; omega⟩
theorem pre_note (note : Bs) (h : ∀ c ∈ note, c ≠ 10) : ∀ rest, ws false ((47 :: 47 :: (note ++ [10])) ++ rest) = (47 :: 47 :: (note ++ [10])).length + ws false rest := by
  intro rest
  have := ws_comment note rest h
  simp only [List.cons_append, List.append_assoc, List.nil_append]
  rw [this]; simp only [List.length_cons, List.length_append, List.length_nil]
/-! two texts, joined by a line feed -/
theorem lexA_shift (n : Nat) : ∀ a l, lexA (a + n) l = match lexA a l with
    | .error e => .error (e.1 + n, e.2)
    | .ok ts => .ok (ts.map fun t => { t with at_ := t.at_ + n }) := by
  refine lex_induction (fun a l r => lexA (a + n) l = match r with
    | .error e => .error (e.1 + n, e.2)
    | .ok ts => .ok (ts.map fun t => { t with at_ := t.at_ + n })) ?_ ?_ ?_
  · intro a l h; rw [lexA_eq, lexStep_nil h]; rfl
  · intro a l e hne he
    rw [lexA_eq, lexStep_err hne he]
    show Except.error (a + n + ws false l, e) = Except.error (a + ws false l + n, e)
    rw [show a + n + ws false l = a + ws false l + n by omega]
  · intro a l t hne ht r ih
    rw [lexA_eq, lexStep_tok ht, show a + n + ws false l + t.text.length = a + ws false l + t.text.length + n by omega, ih]
    cases r with
    | error e => rfl
    | ok ts =>
      show Except.ok ({ t with at_ := a + n + ws false l } :: _) = Except.ok ({ t with at_ := a + ws false l + n } :: _)
      rw [show a + n + ws false l = a + ws false l + n by omega]
theorem lexA_join (t : Bs) : ∀ a s, lexA a (s ++ 10 :: t) = match lexA a s with
    | .error e => .error e
    | .ok ts => match lexA (a + s.length + 1) t with
      | .error e => .error e
      | .ok us => .ok (ts ++ us) := by
  refine lex_induction (fun a s r => lexA a (s ++ 10 :: t) = match r with
    | .error e => .error e
    | .ok ts => match lexA (a + s.length + 1) t with
      | .error e => .error e
      | .ok us => .ok (ts ++ us)) ?_ ?_ ?_
  · intro a s h
    have hw := ws_le false s
    have hw2 : ws false s = s.length := by
      have := List.drop_eq_nil_iff.1 h; omega
    have e1 : ws false (s ++ 10 :: t) = s.length + 1 + ws false t := by rw [ws_append, if_neg (by omega)]
    have e2 : (s ++ 10 :: t).drop (ws false (s ++ 10 :: t)) = t.drop (ws false t) := by
      rw [e1, show s.length + 1 + ws false t = s.length + (1 + ws false t) by omega, ← List.drop_drop, List.drop_left, Nat.add_comm 1, List.drop_succ_cons]
    show lexA a (s ++ 10 :: t) = match lexA (a + s.length + 1) t with | .error e => .error e | .ok us => .ok ([] ++ us)
    rw [lexA_eq, lexA_eq (a + s.length + 1)]
    cases ht : take (t.drop (ws false t)) with
    | error e =>
      by_cases hn : t.drop (ws false t) = []
      · rw [lexStep_nil hn, lexStep_nil (by rw [e2]; exact hn)]; rfl
      · rw [lexStep_err hn ht, lexStep_err (by rw [e2]; exact hn) (by rw [e2]; exact ht), e1, show a + (s.length + 1 + ws false t) = a + s.length + 1 + ws false t by omega]
    | ok u =>
      rw [lexStep_tok ht, lexStep_tok (t := u) (by rw [e2]; exact ht), e2, e1, show a + (s.length + 1 + ws false t) = a + s.length + 1 + ws false t by omega]
      cases lexA (a + s.length + 1 + ws false t + u.text.length) ((t.drop (ws false t)).drop u.text.length) <;> rfl
  · intro a s e hne he
    have hlt : ws false s < s.length := by
      rcases Nat.lt_or_ge (ws false s) s.length with h | h
      · exact h
      · exact absurd (List.drop_eq_nil_of_le h) hne
    have e1 : ws false (s ++ 10 :: t) = ws false s := by rw [ws_append, if_pos hlt]
    have e2 : (s ++ 10 :: t).drop (ws false s) = s.drop (ws false s) ++ 10 :: t := List.drop_append_of_le_length (by omega)
    rw [lexA_eq, lexStep_err (e := e) (by rw [e1, e2]; simp) (by rw [e1, e2, take_newline _ _ hne]; exact he), e1]
  · intro a s u hne hu r ih
    have hlt : ws false s < s.length := by
      rcases Nat.lt_or_ge (ws false s) s.length with h | h
      · exact h
      · exact absurd (List.drop_eq_nil_of_le h) hne
    have e1 : ws false (s ++ 10 :: t) = ws false s := by rw [ws_append, if_pos hlt]
    have e2 : (s ++ 10 :: t).drop (ws false s) = s.drop (ws false s) ++ 10 :: t := List.drop_append_of_le_length (by omega)
    obtain ⟨_, hpre⟩ := take_kinded hu
    have hlen : u.text.length ≤ (s.drop (ws false s)).length := by
      have := congrArg List.length hpre
      rw [List.length_take] at this; omega
    have e3 : (s.drop (ws false s) ++ 10 :: t).drop u.text.length = (s.drop (ws false s)).drop u.text.length ++ 10 :: t := List.drop_append_of_le_length hlen
    rw [lexA_eq, lexStep_tok (t := u) (by rw [e1, e2, take_newline _ _ hne]; exact hu), e1, e2, e3, ih]
    have el : a + ws false s + u.text.length + ((s.drop (ws false s)).drop u.text.length).length + 1 = a + s.length + 1 := by
      simp only [List.length_drop] at hlen ⊢; omega
    rw [el]
    cases r with
    | error e => rfl
    | ok ts => cases lexA (a + s.length + 1) t <;> rfl
end Px
