/- Plain lists of bytes: the lexer's functions as structural recursions. -/
namespace Px
abbrev Bs := List UInt8
def letter (c : UInt8) : Bool := (97 ≤ c && c ≤ 122) || (65 ≤ c && c ≤ 90)
def digit (c : UInt8) : Bool := 48 ≤ c && c ≤ 57
def wordc (c : UInt8) : Bool := letter c || digit c || c == 95
def blankc (c : UInt8) : Bool := c == 32 || c == 9 || c == 10
def signs : Bs := [40, 41, 91, 93, 123, 125, 59, 44, 58, 61, 43, 45, 42, 60, 38, 124, 33, 63]
def signc (c : UInt8) : Bool := signs.contains c
def reserved : List Bs := [[105, 110], [102, 114, 111, 109], [97, 114, 114, 97, 121], [105, 102], [101, 108, 115, 101], [102, 111, 114], [116, 111], [111, 117, 116]]
/-- the length of the white space at the head; in a comment or not -/
def ws : Bool → Bs → Nat
  | _, [] => 0
  | true, c :: l => 1 + ws (c != 10) l
  | false, c :: l => if blankc c then 1 + ws false l else if c == 47 && l.head? == some 47 then 1 + ws true l else 0
def numVal : Nat → Bs → Option Nat
  | n, [] => some n
  | n, c :: l => if n * 10 + (c.toNat - 48) < 1152921504606846976 then numVal (n * 10 + (c.toNat - 48)) l else none
structure Tok where
  kind : Nat
  text : Bs
  num : Nat
  at_ : Nat
deriving DecidableEq
/-- the first token of a text that is not empty; or the error's number -/
def take (l : Bs) : Except Nat Tok :=
  match l with
  | [] => .error 3
  | c :: _ =>
    if digit c then
      match numVal 0 (l.takeWhile digit) with
      | some v => .ok ⟨2, l.takeWhile digit, v, 0⟩
      | none => .error 2
    else if letter c then
      if (l.takeWhile wordc).length > 20 then .error 2
      else .ok ⟨if reserved.contains (l.takeWhile wordc) then 3 else 1, l.takeWhile wordc, 0, 0⟩
    else if signc c then .ok ⟨4, if l.take 2 == [61, 61] then [61, 61] else [c], 0, 0⟩
    else .error 3
/-- all tokens from offset at on; or the offset and the error -/
def lexF : Nat → Nat → Bs → Except (Nat × Nat) (List Tok)
  | 0, _, _ => .ok []
  | k + 1, at_, l =>
    match l.drop (ws false l) with
    | [] => .ok []
    | r@(_ :: _) =>
      match take r with
      | .error e => .error (at_ + ws false l, e)
      | .ok t =>
        match lexF k (at_ + ws false l + t.text.length) (r.drop t.text.length) with
        | .error e => .error e
        | .ok ts => .ok ({ t with at_ := at_ + ws false l } :: ts)
def lex (l : Bs) : Except (Nat × Nat) (List Tok) := lexF (l.length + 1) 0 l
def isName (l : Bs) : Bool :=
  match l with
  | [] => false
  | c :: _ => letter c && l.all wordc && l.length ≤ 20 && !reserved.contains l
end Px
