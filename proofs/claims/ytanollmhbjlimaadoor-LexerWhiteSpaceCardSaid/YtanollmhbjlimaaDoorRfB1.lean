import Derived.Test.YtanollmhbjlimaaDoorRfB
import Derived.Test.YtanollmhbjlimaaDoorRfA1
import Derived.Test.YtanollmhbjlimaaDoorPxLexTake
set_option linter.unusedSimpArgs false
set_option linter.unusedVariables false
namespace Go.Proofs.YtanollmhbjlimaaDoor.Rf
open Go.RowKit Go.Proofs.YtanollmhbjlimaaDoorW.PrintWords
def numR : Option Nat → Int × Bool
  | some v => ((v : Int), true)
  | none => (0, false)
theorem number_l0 (s : ByteArray) (hs : s.size ≤ 140737488351232) : ∀ (m n k v : Nat), s.size - n = m → n ≤ s.size → m < k → v < 1152921504606846976 → (∀ c ∈ s.data.toList.drop n, Px.digit c = true) →
    privityref26_number.l0 k s (v : Int) (n : Int) = some (numR (Px.numVal v (s.data.toList.drop n))) := by
  intro m
  induction m with
  | zero =>
    intro n k v hm hn hk hv hd
    obtain ⟨k, rfl⟩ : ∃ j, k = j + 1 := ⟨k - 1, by omega⟩
    unfold privityref26_number.l0
    rw [if_neg (by omega), drop_nil s n (by omega)]
    rfl
  | succ m ih =>
    intro n k v hm hn hk hv hd
    obtain ⟨k, rfl⟩ : ∃ j, k = j + 1 := ⟨k - 1, by omega⟩
    obtain ⟨c, hc, hb⟩ := drop_cons s n (by omega)
    rw [hc] at hd
    have hdc := hd c (by simp)
    have hr : 48 ≤ c.toNat ∧ c.toNat ≤ 57 := by simpa [Px.digit, UInt8.le_iff_toNat_le] using hdc
    unfold privityref26_number.l0
    have e1 : IntKind.u64.wrap (IntKind.u64.wrap ((v : Int) * 10) + ((bt s (n : Int)) - 48) % 256) = ((v * 10 + (c.toNat - 48) : Nat) : Int) := by
      rw [hb, IntKind.wrap_u64, IntKind.wrap_u64]
      omega
    rw [if_pos (by omega), if_pos (by omega), e1, hc, Px.numVal]
    by_cases hlt : v * 10 + (c.toNat - 48) < 1152921504606846976
    · rw [if_neg (by omega), if_pos hlt, w64_1 n (by omega), ih (n + 1) k _ (by omega) (by omega) (by omega) hlt (fun d hd' => hd d (by simp [hd']))]
    · rw [if_pos (by omega), if_neg hlt]; rfl
theorem number_f (s : ByteArray) (hs : s.size ≤ 140737488351232) (k : Nat) (hk : s.size < k) (hd : ∀ c ∈ s.data.toList, Px.digit c = true) : privityref26_number.f k s = some (numR (Px.numVal 0 s.data.toList)) := by
  have := number_l0 s hs s.size 0 k 0 (by omega) (by omega) hk (by omega) (by simpa using hd)
  simpa [privityref26_number.f] using this
theorem sign_l0 (s : ByteArray) (c : UInt8) (h0 : 0 < s.size) (hb : bt s 0 = (c.toNat : Int)) (k : Nat) (hk : 20 ≤ k) :
    privityref26_sign.l0 k s (⟨#[40, 41, 91, 93, 123, 125, 59, 44, 58, 61, 43, 45, 42, 60, 38, 124, 33, 63]⟩ : ByteArray) 0 = some (if Px.signc c then 1 else 0) := by
  have hbt : ∀ i : Fin 18, bt (⟨#[40, 41, 91, 93, 123, 125, 59, 44, 58, 61, 43, 45, 42, 60, 38, 124, 33, 63]⟩ : ByteArray) (i.val : Int) = ((Px.signs[i.val]'(i.isLt)).toNat : Int) := by decide +kernel
  generalize hl : (⟨#[40, 41, 91, 93, 123, 125, 59, 44, 58, 61, 43, 45, 42, 60, 38, 124, 33, 63]⟩ : ByteArray) = l at *
  have hls : l.size = 18 := by rw [← hl]; rfl
  have key : ∀ (m i : Nat), i + m = 18 → ∀ k, m < k → privityref26_sign.l0 k s l (i : Int) = some (if (Px.signs.drop i).contains c then 1 else 0) := by
    intro m
    induction m with
    | zero =>
      intro i hi k hk
      obtain ⟨k, rfl⟩ : ∃ j, k = j + 1 := ⟨k - 1, by omega⟩
      obtain rfl : i = 18 := by omega
      unfold privityref26_sign.l0
      rw [if_neg (by omega)]
      rfl
    | succ m ih =>
      intro i hi k hk
      obtain ⟨k, rfl⟩ : ∃ j, k = j + 1 := ⟨k - 1, by omega⟩
      have hlt : i < 18 := by omega
      have hlt2 : i < Px.signs.length := hlt
      have hb2 : bt l (i : Int) = ((Px.signs[i]'hlt2).toNat : Int) := hbt ⟨i, hlt⟩
      unfold privityref26_sign.l0
      rw [if_pos (by omega), if_pos (by omega), if_pos (by omega), hb, hb2, w64_1 i (by omega), ih (i + 1) (by omega) k (by omega), List.drop_eq_getElem_cons hlt2, List.contains_cons]
      have : ((c.toNat : Int) = ((Px.signs[i]'hlt2).toNat : Int)) ↔ c = Px.signs[i]'hlt2 := ⟨fun h => UInt8.toNat_inj.1 (by omega), fun h => by rw [← h]⟩
      by_cases h : c = Px.signs[i]'hlt2
      · rw [if_pos (this.2 h), show (c == Px.signs[i]'hlt2) = true by simpa using h]; rfl
      · rw [if_neg (fun x => h (this.1 x)), show (c == Px.signs[i]'hlt2) = false by simpa using h, Bool.false_or]
  exact key 18 0 rfl k (by omega)
theorem sign_f (s : ByteArray) (c : UInt8) (r : Px.Bs) (hL : s.data.toList = c :: r) (k : Nat) (hk : 21 ≤ k) :
    privityref26_sign.f k s = some (if Px.signc c then (((if (c :: r).take 2 == [61, 61] then [61, 61] else [c] : Px.Bs).length : Nat) : Int) else 0) := by
  have hsz := size_list s
  rw [hL] at hsz
  simp only [List.length_cons] at hsz
  obtain ⟨c', hc', hb⟩ := drop_cons s 0 (by omega)
  rw [List.drop_zero, hL] at hc'
  injection hc' with h1 h2
  subst h1
  have hb : bt s 0 = (c.toNat : Int) := hb
  obtain ⟨k, rfl⟩ : ∃ j, k = j + 1 := ⟨k - 1, by omega⟩
  have hl0 := sign_l0 s c (by omega) hb k (by omega)
  unfold privityref26_sign.f
  have hno : (c :: r).take 2 ≠ [61, 61] → privityref26_sign.j0 (k + 1) s false = some (if Px.signc c then (((if (c :: r).take 2 == [61, 61] then [61, 61] else [c] : Px.Bs).length : Nat) : Int) else 0) := by
    intro h
    have hj : privityref26_sign.j0 (k + 1) s false = privityref26_sign.l0 k s (⟨#[40, 41, 91, 93, 123, 125, 59, 44, 58, 61, 43, 45, 42, 60, 38, 124, 33, 63]⟩ : ByteArray) 0 := by simp [privityref26_sign.j0]
    rw [hj, hl0, show ((c :: r).take 2 == [61, 61]) = false by simpa using h]
    rfl
  by_cases h1 : (1 : Int) < (s.size : Int)
  · rw [if_pos h1, if_pos (by decide), if_pos (by omega)]
    have hx : (s.extract 0 2).toList = (c :: r).take 2 := by
      rw [ByteArray.toList_eq]
      simp only [ByteArray.data_extract, Array.toList_extract, List.extract_eq_take_drop, hL]
      rfl
    rw [hx]
    by_cases h2 : (c :: r).take 2 = [61, 61]
    · rw [h2]
      have : c = 61 := by
        cases r with
        | nil => simp at h2
        | cons d r => simp at h2; exact h2.1
      subst this
      have hj : privityref26_sign.j0 (k + 1) s ([61, 61] == ([61, 61] : List UInt8)) = some 2 := by simp [privityref26_sign.j0]
      rw [hj, if_pos (by decide)]
      rfl
    · rw [show ((c :: r).take 2 == [61, 61]) = false by simpa using h2] at hno ⊢
      exact hno h2
  · rw [if_neg h1]
    apply hno
    cases r with
    | nil => simp
    | cons d r => simp at hsz; omega
def oneR : Except Nat Px.Tok → Int × ByteArray × Int × Int × Int × Int
  | .ok t => ((t.kind : Int), ⟨t.text.toArray⟩, (t.num : Int), 0, (t.text.length : Int), 0)
  | .error e => (0, ⟨#[]⟩, 0, 0, 0, (e : Int))
theorem ext_list (s : ByteArray) (n : Nat) : (s.extract 0 ((n : Int)).toNat).data.toList = s.data.toList.take n := by
  simp [ByteArray.data_extract, Array.toList_extract, List.extract_eq_take_drop]
theorem ba_eq (s : ByteArray) (l : Px.Bs) (h : s.data.toList = l) : s = ⟨l.toArray⟩ := by
  rw [← h]
theorem one_f (s : ByteArray) (c : UInt8) (r : Px.Bs) (hL : s.data.toList = c :: r) (hs : s.size ≤ 140737488351232) (k : Nat) (hk : 5 * s.size + 40 ≤ k) : privityref26_one.f k s = some (oneR (Px.take s.data.toList)) := by
  have hsz := size_list s
  have hsz2 := hsz
  rw [hL] at hsz2
  simp only [List.length_cons] at hsz2
  obtain ⟨c', hc', hb⟩ := drop_cons s 0 (by omega)
  rw [List.drop_zero, hL] at hc'
  injection hc' with h1 h2
  subst h1
  have hb : bt s 0 = (c.toNat : Int) := hb
  have hle : ∀ p, (s.data.toList.takeWhile p).length ≤ s.size := by
    intro p; rw [← hsz]; exact (List.takeWhile_prefix p).length_le
  unfold privityref26_one.f
  rw [if_pos (by omega), hb, digit_f, letter_f]
  simp only [Option.bind_some]
  have htk : Px.take s.data.toList = if Px.digit c then
      match Px.numVal 0 (s.data.toList.takeWhile Px.digit) with
      | some v => .ok ⟨2, s.data.toList.takeWhile Px.digit, v, 0⟩
      | none => .error 2
    else if Px.letter c then
      if (s.data.toList.takeWhile Px.wordc).length > 20 then .error 2
      else .ok ⟨if Px.reserved.contains (s.data.toList.takeWhile Px.wordc) then 3 else 1, s.data.toList.takeWhile Px.wordc, 0, 0⟩
    else if Px.signc c then .ok ⟨4, if s.data.toList.take 2 == [61, 61] then [61, 61] else [c], 0, 0⟩
    else .error 3 := by
    rw [hL]; rfl
  rw [htk]
  by_cases h1 : Px.digit c = true
  · rw [if_pos h1, if_pos h1, long_f s true hs k (by omega), longP_true]
    simp only [Option.bind_some]
    have hl := hle Px.digit
    rw [if_pos (by omega), if_pos (by omega)]
    have ht : (s.extract 0 (((s.data.toList.takeWhile Px.digit).length : Int)).toNat).data.toList = s.data.toList.takeWhile Px.digit := by rw [ext_list, Px.tw_eq]
    have hsz3 : (s.extract 0 (((s.data.toList.takeWhile Px.digit).length : Int)).toNat).size ≤ s.size := by
      rw [← size_list, ht]; exact hl
    rw [number_f _ (by omega) k (by omega) (by rw [ht]; exact Px.tw_all _ _), ht]
    cases hv : Px.numVal 0 (s.data.toList.takeWhile Px.digit) with
    | none => simp [numR, oneR]
    | some v => simp only [numR, oneR, Option.bind_some, if_true]; rw [ba_eq _ _ ht]; rfl
  · rw [if_neg h1, if_neg h1]
    by_cases h2 : Px.letter c = true
    · rw [if_pos h2, if_pos h2, long_f s false hs k (by omega), longP_false]
      simp only [Option.bind_some]
      have hl := hle Px.wordc
      by_cases h3 : (s.data.toList.takeWhile Px.wordc).length > 20
      · rw [if_pos (by omega), if_pos h3]; rfl
      · rw [if_neg (by omega), if_neg h3, if_pos (by omega), if_pos (by omega)]
        have ht : (s.extract 0 (((s.data.toList.takeWhile Px.wordc).length : Int)).toNat).data.toList = s.data.toList.takeWhile Px.wordc := by rw [ext_list, Px.tw_eq]
        rw [word_f _ k (by omega), ht]
        simp only [Option.bind_some]
        by_cases h4 : Px.reserved.contains (s.data.toList.takeWhile Px.wordc) = true
        · rw [if_pos h4, if_pos h4, ba_eq _ _ ht]; rfl
        · rw [if_neg h4, if_neg h4, ba_eq _ _ ht]; rfl
    · rw [if_neg h2, if_neg h2, sign_f s c r hL k (by omega)]
      simp only [Option.bind_some]
      by_cases h3 : Px.signc c = true
      · rw [if_pos h3, if_pos h3, ← hL]
        have hlen : (if s.data.toList.take 2 == [61, 61] then [61, 61] else [c] : Px.Bs) = s.data.toList.take (if s.data.toList.take 2 == [61, 61] then [61, 61] else [c] : Px.Bs).length := by
          by_cases h4 : s.data.toList.take 2 = [61, 61]
          · rw [h4]; simp [h4]
          · rw [if_neg (by simpa using h4), hL]; rfl
        have hpos : 0 < (if s.data.toList.take 2 == [61, 61] then [61, 61] else [c] : Px.Bs).length := by split <;> simp
        have hle2 : (if s.data.toList.take 2 == [61, 61] then [61, 61] else [c] : Px.Bs).length ≤ s.size := by
          have := congrArg List.length hlen
          rw [List.length_take, hsz] at this
          omega
        generalize hS : (if s.data.toList.take 2 == [61, 61] then [61, 61] else [c] : Px.Bs) = S at *
        rw [if_neg (by omega), if_pos (by omega), if_pos (by omega), ba_eq _ _ (ext_list s S.length), ← hlen]
        rfl
      · rw [if_neg h3, if_neg h3, if_pos rfl]; rfl
end Go.Proofs.YtanollmhbjlimaaDoor.Rf
