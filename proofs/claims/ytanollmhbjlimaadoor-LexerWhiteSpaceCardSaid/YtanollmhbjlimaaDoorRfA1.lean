import Derived.Test.YtanollmhbjlimaaDoorRfA
import Derived.Test.YtanollmhbjlimaaDoorPxLexWalk
import Derived.IntWalk
set_option linter.unusedSimpArgs false
set_option linter.unusedVariables false
/- The reference's small functions, as they are printed, against the plain spec. -/
namespace Go.Proofs.YtanollmhbjlimaaDoor.Rf
open Go.RowKit Go.Proofs.YtanollmhbjlimaaDoorW.PrintWords
theorem w64 (n : Nat) (h : n ≤ 4611686018427387904) : wrap64 (n : Int) = (n : Int) := IntWalk.wrap64_in _ ⟨by omega, by omega⟩
theorem w64s (n m : Nat) (h : n + m ≤ 4611686018427387904) : wrap64 ((n : Int) + (m : Int)) = ((n + m : Nat) : Int) := by
  rw [IntWalk.wrap64_in _ ⟨by omega, by omega⟩]; omega
theorem w64_1 (n : Nat) (h : n ≤ 4611686018427387) : wrap64 ((n : Int) + 1) = ((n + 1 : Nat) : Int) := w64s n 1 (by omega)
theorem w64_2 (n : Nat) (h : n ≤ 4611686018427387) : wrap64 ((n : Int) + 2) = ((n + 2 : Nat) : Int) := w64s n 2 (by omega)
theorem size_list (s : ByteArray) : s.data.toList.length = s.size := by rw [Array.length_toList]; rfl
theorem drop_cons (s : ByteArray) (n : Nat) (h : n < s.size) : ∃ c : UInt8, s.data.toList.drop n = c :: s.data.toList.drop (n + 1) ∧ bt s (n : Int) = (c.toNat : Int) := by
  have hl : n < s.data.toList.length := by rw [size_list]; exact h
  refine ⟨s.data.toList[n], List.drop_eq_getElem_cons hl, ?_⟩
  unfold bt
  rw [dif_pos (by simpa using h)]
  simp only [Int.toNat_natCast, Array.getElem_toList]
  rfl
theorem drop_nil (s : ByteArray) (n : Nat) (h : s.size ≤ n) : s.data.toList.drop n = [] := List.drop_eq_nil_of_le (by rw [size_list]; exact h)
theorem digit_f (c : UInt8) : privityref26_digit.f (c.toNat : Int) = some (Px.digit c) := by
  have hh : ∀ c : Fin 256, privityref26_digit.f (c.val : Int) = some (Px.digit (UInt8.ofNat c.val)) := by unfold privityref26_digit.f; decide +kernel
  simpa using hh ⟨c.toNat, c.toNat_lt⟩
theorem letter_f (c : UInt8) : privityref26_letter.f (c.toNat : Int) = some (Px.letter c) := by
  have hh : ∀ c : Fin 256, privityref26_letter.f (c.val : Int) = some (Px.letter (UInt8.ofNat c.val)) := by unfold privityref26_letter.f; decide +kernel
  simpa using hh ⟨c.toNat, c.toNat_lt⟩
theorem eq_byte (c : UInt8) (n : Nat) (hn : n < 256) : ((c.toNat : Int) = (n : Int)) ↔ c = UInt8.ofNat n := by
  constructor
  · intro h
    have : c.toNat = n := by omega
    rw [← this]; simp
  · rintro rfl
    simp [UInt8.toNat_ofNat']; omega
def longP (d : Bool) (c : UInt8) : Bool := Px.digit c || (!d && (Px.letter c || c == 95))
theorem longP_true : longP true = Px.digit := by funext c; simp [longP]
theorem longP_false : longP false = Px.wordc := by funext c; simp [longP, Px.wordc, Bool.or_comm, Bool.or_left_comm, Bool.or_assoc]
theorem long_l0 (s : ByteArray) (d : Bool) (hs : s.size ≤ 140737488351232) : ∀ (m n k : Nat), s.size - n = m → n ≤ s.size → m < k →
    privityref26_long.l0 k s d (n : Int) = some (((n + ((s.data.toList.drop n).takeWhile (longP d)).length : Nat)) : Int) := by
  intro m
  induction m with
  | zero =>
    intro n k hm hn hk
    obtain ⟨k, rfl⟩ : ∃ j, k = j + 1 := ⟨k - 1, by omega⟩
    unfold privityref26_long.l0
    rw [if_neg (by omega), drop_nil s n (by omega)]
    simp
  | succ m ih =>
    intro n k hm hn hk
    obtain ⟨k, rfl⟩ : ∃ j, k = j + 1 := ⟨k - 1, by omega⟩
    obtain ⟨c, hc, hb⟩ := drop_cons s n (by omega)
    have ih := ih (n + 1) k (by omega) (by omega) (by omega)
    unfold privityref26_long.l0
    rw [if_pos (by omega), if_pos (by omega), hb, digit_f, letter_f, w64_1 n (by omega), hc]
    simp only [Option.bind_some]
    have e95 : ((c.toNat : Int) = 95) ↔ c = 95 := eq_byte c 95 (by omega)
    by_cases h1 : Px.digit c = true
    · rw [if_pos h1, ih, List.takeWhile_cons, if_pos (by simp [longP, h1])]
      simp; omega
    · rw [if_neg h1]
      have h1' : Px.digit c = false := by simpa using h1
      by_cases h2 : d = true
      · rw [if_pos h2, List.takeWhile_cons, if_neg (by simp [longP, h1', h2])]; simp
      · rw [if_neg h2]
        have h2' : d = false := by simpa using h2
        by_cases h3 : Px.letter c = true
        · rw [if_pos h3, ih, List.takeWhile_cons, if_pos (by simp [longP, h2', h3])]
          simp; omega
        · rw [if_neg h3]
          have h3' : Px.letter c = false := by simpa using h3
          by_cases h4 : c = 95
          · rw [if_pos (e95.2 h4), ih, List.takeWhile_cons, if_pos (by simp [longP, h2', h4])]
            simp; omega
          · rw [if_neg (fun h => h4 (e95.1 h)), List.takeWhile_cons, if_neg (by simp [longP, h1', h2', h3', h4])]; simp
theorem long_f (s : ByteArray) (d : Bool) (hs : s.size ≤ 140737488351232) (k : Nat) (hk : s.size < k) : privityref26_long.f k s d = some ((s.data.toList.takeWhile (longP d)).length : Int) := by
  have := long_l0 s d hs s.size 0 k (by omega) (by omega) hk
  simpa [privityref26_long.f] using this
/-- white space, and inside a comment -/
theorem blank_both (s : ByteArray) (hs : s.size ≤ 140737488351232) : ∀ (m n : Nat), s.size - n = m → n ≤ s.size →
    (∀ k, 5 * m + 1 ≤ k → privityref26_blank.l0 k s (n : Int) = some ((n + Px.ws false (s.data.toList.drop n) : Nat) : Int)) ∧
    (∀ k, 5 * m + 2 ≤ k → privityref26_blank.l1 k s (n : Int) = some ((n + Px.ws true (s.data.toList.drop n) : Nat) : Int)) := by
  intro m
  induction m using Nat.strongRecOn with
  | ind m ih =>
    intro n hm hn
    have h0 : ∀ k, 5 * m + 1 ≤ k → privityref26_blank.l0 k s (n : Int) = some ((n + Px.ws false (s.data.toList.drop n) : Nat) : Int) := by
      intro k hk
      obtain ⟨k, rfl⟩ : ∃ j, k = j + 1 := ⟨k - 1, by omega⟩
      rcases Nat.lt_or_ge n s.size with hlt | hge
      · obtain ⟨c, hc, hb⟩ := drop_cons s n hlt
        obtain ⟨k, rfl⟩ : ∃ j, k = j + 1 := ⟨k - 1, by omega⟩
        have ih := ih (m - 1) (by omega) (n + 1) (by omega) (by omega)
        have e32 : ((c.toNat : Int) = 32) ↔ c = 32 := eq_byte c 32 (by omega)
        have e9 : ((c.toNat : Int) = 9) ↔ c = 9 := eq_byte c 9 (by omega)
        have e10 : ((c.toNat : Int) = 10) ↔ c = 10 := eq_byte c 10 (by omega)
        have bl : Px.blankc c = true → privityref26_blank.j1 (k + 1) s (n : Int) true = some ((n + Px.ws false (s.data.toList.drop n) : Nat) : Int) := by
          intro hbl
          unfold privityref26_blank.j1
          rw [if_pos rfl, w64_1 n (by omega), ih.1 k (by omega), hc, Px.ws_blank _ _ hbl, Nat.add_assoc]
        unfold privityref26_blank.l0
        rw [if_pos (by omega), if_pos (by omega), hb]
        by_cases h1 : c = 32
        · rw [if_pos (e32.2 h1)]; exact bl (by subst h1; rfl)
        rw [if_neg (fun h => h1 (e32.1 h))]
        by_cases h2 : c = 9
        · rw [if_pos (e9.2 h2)]; exact bl (by subst h2; rfl)
        rw [if_neg (fun h => h2 (e9.1 h))]
        by_cases h3 : c = 10
        · rw [show ((c.toNat : Int) == 10) = true from by rw [beq_iff_eq]; exact e10.2 h3]; exact bl (by subst h3; rfl)
        rw [show ((c.toNat : Int) == 10) = false from by rw [beq_eq_false_iff_ne]; exact fun h => h3 (e10.1 h)]
        have hnb : Px.blankc c = false := by simp [Px.blankc, h1, h2, h3]
        unfold privityref26_blank.j1
        rw [if_neg (by simp), w64_1 n (by omega), w64_2 n (by omega)]
        by_cases h4 : n + 1 < s.size
        · obtain ⟨c2, hc2, hb2⟩ := drop_cons s (n + 1) h4
          rw [if_pos (by omega), if_pos (by omega), if_pos (by omega), if_pos (by omega)]
          have hx : (s.extract ((n : Int)).toNat (((n + 2 : Nat) : Int)).toNat).toList = [c, c2] := by
            rw [ByteArray.toList_eq]
            simp only [Int.toNat_natCast, ByteArray.data_extract, Array.toList_extract, List.extract_eq_take_drop]
            rw [hc, hc2, show n + 2 - n = 2 by omega]; rfl
          rw [hx, hc, Px.ws_f, if_neg (by rw [hnb]; simp)]
          obtain ⟨k, rfl⟩ : ∃ j, k = j + 1 := ⟨k - 1, by omega⟩
          unfold privityref26_blank.j2
          by_cases h5 : c = 47 ∧ c2 = 47
          · obtain ⟨rfl, rfl⟩ := h5
            rw [if_pos (by decide), if_pos (by rw [hc2]; rfl)]
            obtain ⟨k, rfl⟩ : ∃ j, k = j + 1 := ⟨k - 1, by omega⟩
            unfold privityref26_blank.l1
            rw [if_pos (by omega), if_pos (by omega), hb, if_neg (by decide), w64_1 n (by omega), ih.2 k (by omega)]
            congr 2
            omega
          · rw [if_neg (by simp only [List.cons_beq_cons, Bool.and_eq_true, beq_iff_eq]; rintro ⟨rfl, rfl, _⟩; exact h5 ⟨rfl, rfl⟩), if_neg (by rw [hc2]; simp only [List.head?_cons, Bool.and_eq_true, beq_iff_eq, Option.some.injEq]; exact h5)]
            rfl
        · rw [if_neg (by omega), hc, Px.ws_f, if_neg (by rw [hnb]; simp), drop_nil s (n + 1) (by omega)]
          obtain ⟨k, rfl⟩ : ∃ j, k = j + 1 := ⟨k - 1, by omega⟩
          unfold privityref26_blank.j2
          simp
      · unfold privityref26_blank.l0
        rw [if_neg (by omega), drop_nil s n hge]
        simp [Px.ws]
    refine ⟨h0, ?_⟩
    intro k hk
    obtain ⟨k, rfl⟩ : ∃ j, k = j + 1 := ⟨k - 1, by omega⟩
    rcases Nat.lt_or_ge n s.size with hlt | hge
    · obtain ⟨c, hc, hb⟩ := drop_cons s n hlt
      have ih := ih (m - 1) (by omega) (n + 1) (by omega) (by omega)
      have e10 : ((c.toNat : Int) = 10) ↔ c = 10 := eq_byte c 10 (by omega)
      unfold privityref26_blank.l1
      rw [if_pos (by omega), if_pos (by omega), hb]
      by_cases h3 : c = 10
      · rw [if_pos (e10.2 h3), h0 k (by omega), hc, h3, Px.ws_t, Px.ws_blank _ _ (by decide)]
        rfl
      · rw [if_neg (fun h => h3 (e10.1 h)), w64_1 n (by omega), ih.2 k (by omega), hc, Px.ws_t, show (c != 10) = true by simp [h3]]
        congr 2
        omega
    · unfold privityref26_blank.l1
      rw [if_neg (by omega), h0 k (by omega), drop_nil s n hge]
      simp [Px.ws]
theorem blank_f (s : ByteArray) (hs : s.size ≤ 140737488351232) (k : Nat) (hk : 5 * s.size + 1 ≤ k) : privityref26_blank.f k s = some (Px.ws false s.data.toList : Int) := by
  have := (blank_both s hs s.size 0 (by omega) (by omega)).1 k hk
  simpa [privityref26_blank.f] using this
theorem word_f (s : ByteArray) (k : Nat) (hk : 10 ≤ k) : privityref26_Word.f k s = some (Px.reserved.contains s.data.toList) := by
  obtain ⟨k, rfl⟩ : ∃ j, k = j + 10 := ⟨k - 10, by omega⟩
  have hx := ByteArray.toList_eq s
  unfold privityref26_Word.f
  generalize hL : s.data.toList = L
  rw [hL] at hx
  have st : ∀ (i : Nat) (k : Nat) (l : List ByteArray) (b : ByteArray), l[i]? = some b → i < 1000 → privityref26_Word.l0 (k + 1) s l (i : Int) = if L = b.toList then some true else privityref26_Word.l0 k s l ((i + 1 : Nat) : Int) := by
    intro i k l b hb hi
    have hlt : i < l.length := by
      rcases Nat.lt_or_ge i l.length with h | h
      · exact h
      · rw [List.getElem?_eq_none h] at hb; cases hb
    conv => lhs; unfold privityref26_Word.l0
    rw [if_pos (by omega), if_pos (by omega), hx, w64_1 i (by omega)]
    have : rdOf ByteArray.empty l (i : Int) = b := by simp [rdOf, List.getD_eq_getElem?_getD, hb]
    rw [this]
  have en : ∀ (k : Nat) (l : List ByteArray) (n : Nat), l.length = n → privityref26_Word.l0 (k + 1) s l (n : Int) = some false := by
    intro k l n hn
    unfold privityref26_Word.l0
    rw [if_neg (by omega)]
  rw [show (0 : Int) = ((0 : Nat) : Int) from rfl, st 0 _ _ _ rfl (by omega), st 1 _ _ _ rfl (by omega), st 2 _ _ _ rfl (by omega), st 3 _ _ _ rfl (by omega), st 4 _ _ _ rfl (by omega), st 5 _ _ _ rfl (by omega), st 6 _ _ _ rfl (by omega), st 7 _ _ _ rfl (by omega), en _ _ (7 + 1) rfl]
  simp only [ByteArray.toList_eq]
  unfold Px.reserved
  simp only [List.contains_cons, List.contains_nil, Bool.or_false]
  repeat' (split; (rename_i h; rw [h]; rfl))
  simp_all
end Go.Proofs.YtanollmhbjlimaaDoor.Rf
