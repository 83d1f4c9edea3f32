/- Plain lists of bytes: the lexer's functions as structural recursions. -/
namespace Px
abbrev Bs := List UInt8
def letter (c : UInt8) : Bool := (97 ≤ c && c ≤ 122) || (65 ≤ c && c ≤ 90)
def digit (c : UInt8) : Bool := 48 ≤ c && c ≤ 57
def wordc (c : UInt8) : Bool := letter c || digit c || c == 95
def blankc (c : UInt8) : Bool := c == 32 || c == 9 || c == 10
def signs : Bs := [40, 41, 91, 93, 123, 125, 59, 44, 58, 61, 43, 45, 42, 60, 38, 124, 33, 63]
def signc (c : UInt8) : Bool := signs.contains c
def reserved : List Bs := [[105, 110], [102, 114, 111, 109], [97, 114, 114, 97, 121], [105, 102], [101, 108, 115, 101], [102, 111, 114], [116, 111], [111, 117, 116]]
/-- the length of the white space at the head; in a comment or not -/
def ws : Bool → Bs → Nat
  | _, [] => 0
  | true, c :: l => 1 + ws (c != 10) l
  | false, c :: l => if blankc c then 1 + ws false l else if c == 47 && l.head? == some 47 then 1 + ws true l else 0
def numVal : Nat → Bs → Option Nat
  | n, [] => some n
  | n, c :: l => if n * 10 + (c.toNat - 48) < 1152921504606846976 then numVal (n * 10 + (c.toNat - 48)) l else none
structure Tok where
  kind : Nat
  text : Bs
  num : Nat
  at_ : Nat
deriving DecidableEq
/-- the first token of a text that is not empty; or the error's number -/
def take (l : Bs) : Except Nat Tok :=
  match l with
  | [] => .error 3
  | c :: _ =>
    if digit c then
      match numVal 0 (l.takeWhile digit) with
      | some v => .ok ⟨2, l.takeWhile digit, v, 0⟩
      | none => .error 2
    else if letter c then
      if (l.takeWhile wordc).length > 20 then .error 2
      else .ok ⟨if reserved.contains (l.takeWhile wordc) then 3 else 1, l.takeWhile wordc, 0, 0⟩
    else if signc c then .ok ⟨4, if l.take 2 == [61, 61] then [61, 61] else [c], 0, 0⟩
    else .error 3
def isName (l : Bs) : Bool :=
  match l with
  | [] => false
  | c :: _ => letter c && l.all wordc && l.length ≤ 20 && !reserved.contains l
end Px
namespace Px
end Px
set_option linter.unusedSimpArgs false
set_option linter.unusedVariables false
namespace Px
theorem tw_eq (p : UInt8 → Bool) (l : Bs) : l.take (l.takeWhile p).length = l.takeWhile p := by
  induction l with
  | nil => rfl
  | cons c l ih =>
    by_cases h : p c = true
    · simp [List.takeWhile_cons, h, ih]
    · simp [List.takeWhile_cons, h]
theorem tw_all (p : UInt8 → Bool) (l : Bs) : ∀ d ∈ l.takeWhile p, p d = true := by
  induction l with
  | nil => simp
  | cons c l ih =>
    by_cases h : p c = true
    · simp only [List.takeWhile_cons, h, if_true, List.mem_cons]
      rintro d (rfl | hd)
      · exact h
      · exact ih d hd
    · simp [List.takeWhile_cons, h]
/-- a text that is one token, whatever blank stands behind it -/
inductive Kinded : Tok → Prop
  | num (c : UInt8) (l : Bs) (v : Nat) : digit c = true → (∀ d ∈ l, digit d = true) → numVal 0 (c :: l) = some v → Kinded ⟨2, c :: l, v, 0⟩
  | word (c : UInt8) (l : Bs) (k : Nat) : digit c = false → letter c = true → (∀ d ∈ l, wordc d = true) → (c :: l).length ≤ 20 → k = (if reserved.contains (c :: l) then 3 else 1) → Kinded ⟨k, c :: l, 0, 0⟩
  | sign (c : UInt8) : digit c = false → letter c = false → signc c = true → Kinded ⟨4, [c], 0, 0⟩
  | eq : Kinded ⟨4, [61, 61], 0, 0⟩
end Px
set_option linter.unusedSimpArgs false
set_option linter.unusedVariables false
namespace Px
/-! offsets -/
/-! white space between the tokens -/
/-- a separator: it begins with a blank and is white space whatever follows -/
structure Sep (sep : Bs) : Prop where
  blank : ∃ b r, sep = b :: r ∧ blankc b = true
  white : ∀ rest, ws false (sep ++ rest) = sep.length + ws false rest
/-! two texts, joined by a line feed -/
end Px
set_option linter.unusedSimpArgs false
set_option linter.unusedVariables false
namespace Px
/-! numbers -/
end Px
