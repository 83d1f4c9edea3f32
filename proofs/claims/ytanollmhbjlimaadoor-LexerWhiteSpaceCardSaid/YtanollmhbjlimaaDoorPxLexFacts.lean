import Derived.Test.YtanollmhbjlimaaDoorPxLex
namespace Px
theorem ws_le : ∀ (b : Bool) (l : Bs), ws b l ≤ l.length := by
  intro b l
  induction l generalizing b with
  | nil => cases b <;> simp [ws]
  | cons c l ih =>
    cases b with
    | true => simp only [ws, List.length_cons]; have := ih (c != 10); omega
    | false =>
      simp only [ws, List.length_cons]
      split
      · have := ih false; omega
      · split
        · have := ih true; omega
        · omega
/-- what stands behind the white space is neither blank nor a comment -/
def starts (l : Bs) : Prop := l = [] ∨ (∃ c r, l = c :: r ∧ blankc c = false ∧ (c == 47 && r.head? == some 47) = false)
theorem ws_true_all : ∀ (l : Bs), (∀ c ∈ l, c ≠ 10) → ws true l = l.length := by
  intro l
  induction l with
  | nil => intro _; simp [ws]
  | cons c l ih =>
    intro h
    have hc : (c != 10) = true := by simpa using h c (by simp)
    simp only [ws, hc, List.length_cons]
    rw [ih (fun d hd => h d (by simp [hd]))]; omega
theorem ws_true_note (n l : Bs) (h : ∀ c ∈ n, c ≠ 10) : ws true (n ++ 10 :: l) = n.length + 1 + ws false l := by
  induction n with
  | nil => simp [ws]
  | cons c n ih =>
    have hc : (c != 10) = true := by simpa using h c (by simp)
    simp only [List.cons_append, ws, hc, List.length_cons]
    rw [ih (fun d hd => h d (by simp [hd]))]; omega
theorem ws_comment (n l : Bs) (h : ∀ c ∈ n, c ≠ 10) : ws false (47 :: 47 :: (n ++ 10 :: l)) = n.length + 3 + ws false l := by
  have h1 : ws true (47 :: (n ++ 10 :: l)) = 1 + (n.length + 1 + ws false l) := by
    have := ws_true_note n l h
    simp only [ws]; simp [this]
  rw [ws]; simp only [blankc]; simp [h1]; omega
theorem ws_blank (c : UInt8) (l : Bs) (h : blankc c = true) : ws false (c :: l) = 1 + ws false l := by simp [ws, h]
theorem ws_t (c : UInt8) (l : Bs) : ws true (c :: l) = 1 + ws (c != 10) l := rfl
theorem ws_f (c : UInt8) (l : Bs) : ws false (c :: l) = if blankc c then 1 + ws false l else if c == 47 && l.head? == some 47 then 1 + ws true l else 0 := rfl
theorem head_app (t r : Bs) : ((r ++ 10 :: t).head? == some 47) = (r.head? == some 47) := by
  cases r with
  | nil => simp
  | cons d r => simp
theorem ws_append (t : Bs) : ∀ (r : Bs) (b : Bool), ws b (r ++ 10 :: t) = if ws b r < r.length then ws b r else r.length + 1 + ws false t := by
  intro r
  induction r with
  | nil => intro b; cases b <;> simp [ws, blankc]
  | cons c r ih =>
    have key : ∀ (b b' : Bool), ws b (c :: r) = 1 + ws b' r → ws b (c :: (r ++ 10 :: t)) = 1 + ws b' (r ++ 10 :: t) → ws b (c :: r ++ 10 :: t) = if ws b (c :: r) < (c :: r).length then ws b (c :: r) else (c :: r).length + 1 + ws false t := by
      intro b b' h1 h2
      rw [List.cons_append, h2, ih, List.length_cons]
      by_cases h : ws b' r < r.length
      · rw [if_pos h, if_pos (by omega)]; omega
      · rw [if_neg h, if_neg (by omega)]; omega
    intro b
    cases b with
    | true => exact key _ _ (ws_t _ _) (ws_t _ _)
    | false =>
      by_cases hb : blankc c = true
      · exact key _ false (by rw [ws_f, if_pos hb]) (by rw [ws_f, if_pos hb])
      · by_cases hc : (c == 47 && r.head? == some 47) = true
        · exact key _ true (by rw [ws_f, if_neg hb, if_pos hc]) (by rw [ws_f, if_neg hb, head_app, if_pos hc])
        · have h1 : ws false (c :: r) = 0 := by rw [ws_f, if_neg hb, if_neg hc]
          rw [List.cons_append, ws_f, if_neg hb, head_app, if_neg hc, if_pos (by rw [h1]; simp), h1]
theorem ws_starts : ∀ (l : Bs), starts (l.drop (ws false l)) := by
  intro l
  suffices h : ∀ b, b = false ∨ l.drop (ws b l) = [] ∨ True → starts (l.drop (ws b l)) from h false (.inl rfl)
  induction l with
  | nil => intro b _; left; simp
  | cons c l ih =>
    intro b _
    cases b with
    | true =>
      simp only [ws]
      rw [show 1 + ws (c != 10) l = ws (c != 10) l + 1 from by omega, List.drop_succ_cons]
      exact ih _ (.inr (.inr trivial))
    | false =>
      simp only [ws]
      by_cases hb : blankc c = true
      · simp only [hb, if_true]
        rw [show 1 + ws false l = ws false l + 1 from by omega, List.drop_succ_cons]
        exact ih _ (.inr (.inr trivial))
      · simp only [hb]
        by_cases hc : ((c == 47) && l.head? == some 47) = true
        · simp only [hc, if_true]
          rw [show (if false = true then 1 + ws false l else 1 + ws true l) = ws true l + 1 from by simp; omega, List.drop_succ_cons]
          exact ih _ (.inr (.inr trivial))
        · simp only [hc, Bool.false_eq_true, if_false, List.drop_zero]
          exact .inr ⟨c, l, rfl, by simpa using hb, by simpa using hc⟩
theorem ws_zero (c : UInt8) (r : Bs) (h1 : blankc c = false) (h2 : c ≠ 47) : ws false (c :: r) = 0 := by
  simp [ws, h1, h2]
end Px
