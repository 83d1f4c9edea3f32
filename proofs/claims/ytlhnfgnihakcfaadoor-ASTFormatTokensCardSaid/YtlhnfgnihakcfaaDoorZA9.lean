import Derived.Test.YtlhnfgnihakcfaaDoorZA8
import Derived.Test.YtlhnfgnihakcfaaDoorZA5
import Derived.Test.YtlhnfgnihakcfaaDoorZPi
import Derived.Test.YtlhnfgnihakcfaaDoorZLx
import Derived.IntWalk
set_option linter.unusedSimpArgs false
set_option linter.unusedVariables false
namespace Go.Proofs.YtlhnfgnihakcfaaDoor.Ax
open Go.RowKit Hp Kn
open Go.Proofs.YtlhnfgnihakcfaaDoorW.PrintWords Go.Proofs.YtlhnfgnihakcfaaDoorW.PrintLast Go.Proofs.YtlhnfgnihakcfaaDoorW.PrintMore
theorem list1 {α : Type} {l : List α} (h : l.length = 1) : ∃ a, l = [a] := List.length_eq_one_iff.1 h
theorem list2 {α : Type} {l : List α} (h : l.length = 2) : ∃ a b, l = [a, b] := by
  match l, h with
  | [a, b], _ => exact ⟨a, b, rfl⟩
theorem list3 {α : Type} {l : List α} (h : l.length = 3) : ∃ a b c, l = [a, b, c] := by
  match l, h with
  | [a, b, c], _ => exact ⟨a, b, c, rfl⟩
theorem cE_pos (n : Nat) (x : S40) : cE (n + 1) x = 1 + (x.f4.map (cE n)).sum := rfl
theorem txt_nodes : ∀ (n : Nat) (x : S40), exprB n x = true → (txt n x).size + 4 ≤ 36 * cE n x
  | 0, x, h => by cases h
  | n + 1, x, h => by
    have N := node_of h
    have hl := N.len
    rw [cE_pos]
    unfold txt
    by_cases e1 : x.f0 = 1
    · rw [if_pos e1]
      have h2 := N.num e1
      have := dec_size x.f2.toNat (by omega)
      omega
    rw [if_neg e1]
    by_cases e2 : x.f0 = 2
    · rw [if_pos e2]
      have := N.name (.inl e2)
      omega
    rw [if_neg e2]
    by_cases e3 : x.f0 = 3
    · rw [if_pos e3]
      have h3 := N.name (.inr e3)
      obtain ⟨a, ha⟩ := list1 (show x.f4.length = 1 by rw [e3] at hl; simp [kidsN] at hl; omega)
      have k0 : kidE x 0 = a := by simp [kidE, ha]
      have := txt_nodes n a (N.kids _ (by rw [ha]; simp))
      rw [k0, ha]
      simp only [ByteArray.size_append, lit1, List.map_cons, List.map_nil, List.sum_cons, List.sum_nil]
      omega
    rw [if_neg e3]
    by_cases e5 : x.f0 = 5
    · rw [if_pos e5]
      obtain ⟨a, ha⟩ := list1 (show x.f4.length = 1 by rw [e5] at hl; simp [kidsN] at hl; omega)
      have k0 : kidE x 0 = a := by simp [kidE, ha]
      have := txt_nodes n a (N.kids _ (by rw [ha]; simp))
      have h6 := hld_size a 8 (txt n a)
      rw [k0, ha]
      simp only [ByteArray.size_append, lit1, List.map_cons, List.map_nil, List.sum_cons, List.sum_nil]
      omega
    rw [if_neg e5]
    by_cases e6 : x.f0 = 6
    · rw [if_pos e6]
      obtain ⟨a, b, c, ha⟩ := list3 (show x.f4.length = 3 by rw [e6] at hl; simp [kidsN] at hl; omega)
      have k0 : kidE x 0 = a := by simp [kidE, ha]
      have k1 : kidE x 1 = b := by simp [kidE, ha]
      have k2 : kidE x 2 = c := by simp [kidE, ha]
      have t0 := txt_nodes n a (N.kids _ (by rw [ha]; simp))
      have t1 := txt_nodes n b (N.kids _ (by rw [ha]; simp))
      have t2 := txt_nodes n c (N.kids _ (by rw [ha]; simp))
      have h6 := hld_size a 2 (txt n a)
      rw [k0, k1, k2, ha]
      simp only [ByteArray.size_append, lit3, List.map_cons, List.map_nil, List.sum_cons, List.sum_nil]
      omega
    rw [if_neg e6]
    have e4 : x.f0 = 4 := by have := N.kind; omega
    obtain ⟨a, b, ha⟩ := list2 (show x.f4.length = 2 by rw [e4] at hl; simp [kidsN] at hl; omega)
    have k0 : kidE x 0 = a := by simp [kidE, ha]
    have k1 : kidE x 1 = b := by simp [kidE, ha]
    have t0 := txt_nodes n a (N.kids _ (by rw [ha]; simp))
    have t1 := txt_nodes n b (N.kids _ (by rw [ha]; simp))
    have h0 := hld_size a (strengthL.getD x.f1.toNat 0) (txt n a)
    have h1 := hld_size b (strengthL.getD x.f1.toNat 0 + 1) (txt n b)
    have h2 := signL_le x.f1.toNat
    rw [k0, k1, ha]
    simp only [ByteArray.size_append, lit1, List.map_cons, List.map_nil, List.sum_cons, List.sum_nil]
    omega
theorem bts_len (a : ByteArray) : (bts a).length = a.size := by unfold bts; rw [Array.length_toList]; rfl
theorem lineT_len (m : Nat) (ps : List ByteArray) : (lineT m ps).length = 2 * m + (ps.map ByteArray.size).sum + 1 := by
  unfold lineT
  simp only [List.length_append, repeatL_len, List.length_cons, List.length_nil]
  have : (ps.flatMap bts).length = (ps.map ByteArray.size).sum := by
    induction ps with
    | nil => rfl
    | cons a l ih => simp only [List.flatMap_cons, List.length_append, bts_len, ih, List.map_cons, List.sum_cons]
  omega
theorem sname {n : Nat} {x : S64} (h : stmtB (n + 1) x = true) : x.f1.size ≤ 20 := by
  simp only [stmtB, Bool.and_eq_true, shapeS] at h
  obtain ⟨⟨⟨⟨_, hn⟩, _⟩, _⟩, _⟩ := h
  split at hn
  · exact name_size hn
  · have e : x.f1.toList = [] := by simpa using hn
    rw [Lib.toList_data] at e
    have : x.f1.data.toList.length = 0 := by rw [e]; rfl
    rw [Array.length_toList] at this
    have h2 : x.f1.size = x.f1.data.size := rfl
    omega
theorem flatMap_le {α : Type} (f : α → List UInt8) (g : α → Nat) (k : Nat) : ∀ (l : List α), (∀ x ∈ l, (f x).length ≤ k * g x) → (l.flatMap f).length ≤ k * (l.map g).sum
  | [], _ => by simp
  | a :: l, h => by
    have h1 := h a (by simp)
    have h2 := flatMap_le f g k l (fun x hx => h x (by simp [hx]))
    simp only [List.flatMap_cons, List.length_append, List.map_cons, List.sum_cons, Nat.mul_add]
    omega
set_option maxHeartbeats 1000000 in
theorem stT_nodes : ∀ (n m : Nat) (x : S64), m + n ≤ 30 → stmtB n x = true → (stT n m x).length ≤ 300 * cS n x
  | 0, m, x, _, h => by cases h
  | n + 1, m, x, hm, h => by
    have N := snode_of h
    have hl := N.len
    have hname := sname h
    have I3 := flatMap_le (stT n (m + 1)) (cS n) 300 x.f3 (fun y hy => stT_nodes n (m + 1) y (by omega) (List.all_eq_true.1 N.then_ y hy))
    have I4 := flatMap_le (stT n (m + 1)) (cS n) 300 x.f4 (fun y hy => stT_nodes n (m + 1) y (by omega) (List.all_eq_true.1 N.else_ y hy))
    show (stT (n + 1) m x).length ≤ 300 * (1 + (x.f2.map (cE n)).sum + (x.f3.map (cS n)).sum + (x.f4.map (cS n)).sum)
    have one : ∀ a, x.f2 = [a] → (txt n a).size + 4 ≤ 36 * (x.f2.map (cE n)).sum := fun a ha => by
      have := txt_nodes n a (N.kids _ (by rw [ha]; simp))
      rw [ha]
      simp only [List.map_cons, List.map_nil, List.sum_cons, List.sum_nil]
      omega
    have two : ∀ a b, x.f2 = [a, b] → (txt n a).size + (txt n b).size + 8 ≤ 36 * (x.f2.map (cE n)).sum := fun a b ha => by
      have := txt_nodes n a (N.kids _ (by rw [ha]; simp))
      have := txt_nodes n b (N.kids _ (by rw [ha]; simp))
      rw [ha]
      simp only [List.map_cons, List.map_nil, List.sum_cons, List.sum_nil]
      omega
    unfold stT
    rcases N.kind with e | e | e | e | e
    · obtain ⟨a, ha⟩ := list1 (show x.f2.length = 1 by rw [e] at hl; simp [partsN] at hl; omega)
      have k0 : kidS x 0 = a := by simp [kidS, ha]
      have t := one a ha
      rw [e, k0]
      rw [if_pos rfl, lineT_len]
      simp only [List.map_cons, List.map_nil, List.sum_cons, List.sum_nil, lit1, lit3]
      omega
    · obtain ⟨a, b, ha⟩ := list2 (show x.f2.length = 2 by rw [e] at hl; simp [partsN] at hl; omega)
      have k0 : kidS x 0 = a := by simp [kidS, ha]
      have k1 : kidS x 1 = b := by simp [kidS, ha]
      have t := two a b ha
      rw [e, k0, k1]
      rw [if_neg (by decide), if_pos rfl, lineT_len]
      simp only [List.map_cons, List.map_nil, List.sum_cons, List.sum_nil, lit1, show ∀ a b c d : UInt8, ByteArray.size ⟨#[a, b, c, d]⟩ = 4 from fun _ _ _ _ => rfl]
      omega
    · obtain ⟨a, ha⟩ := list1 (show x.f2.length = 1 by rw [e] at hl; simp [partsN] at hl; omega)
      have k0 : kidS x 0 = a := by simp [kidS, ha]
      have t := one a ha
      rw [e, k0]
      rw [if_neg (by decide), if_neg (by decide), if_neg (by decide), if_pos rfl]
      simp only [List.length_append, lineT_len, List.map_cons, List.map_nil, List.sum_cons, List.sum_nil, lit1, lit3, show ∀ a b c d : UInt8, ByteArray.size ⟨#[a, b, c, d]⟩ = 4 from fun _ _ _ _ => rfl]
      split
      · simp only [List.length_append, lineT_len, List.map_cons, List.map_nil, List.sum_cons, List.sum_nil, show ∀ a b c d e f g h : UInt8, ByteArray.size ⟨#[a, b, c, d, e, f, g, h]⟩ = 8 from fun _ _ _ _ _ _ _ _ => rfl]
        omega
      · simp only [List.length_nil]
        omega
    · obtain ⟨a, b, ha⟩ := list2 (show x.f2.length = 2 by rw [e] at hl; simp [partsN] at hl; omega)
      have k0 : kidS x 0 = a := by simp [kidS, ha]
      have k1 : kidS x 1 = b := by simp [kidS, ha]
      have t := two a b ha
      rw [e, k0, k1]
      rw [if_neg (by decide), if_neg (by decide), if_neg (by decide), if_neg (by decide)]
      simp only [List.length_append, lineT_len, List.map_cons, List.map_nil, List.sum_cons, List.sum_nil, lit1, lit3, show ∀ a b : UInt8, ByteArray.size ⟨#[a, b]⟩ = 2 from fun _ _ => rfl, show ∀ a b c d : UInt8, ByteArray.size ⟨#[a, b, c, d]⟩ = 4 from fun _ _ _ _ => rfl]
      omega
    · obtain ⟨a, ha⟩ := list1 (show x.f2.length = 1 by rw [e] at hl; simp [partsN] at hl; omega)
      have k0 : kidS x 0 = a := by simp [kidS, ha]
      have t := one a ha
      rw [e, k0]
      rw [if_neg (by decide), if_neg (by decide), if_pos rfl, lineT_len]
      simp only [List.map_cons, List.map_nil, List.sum_cons, List.sum_nil, lit1, show ∀ a b c d : UInt8, ByteArray.size ⟨#[a, b, c, d]⟩ = 4 from fun _ _ _ _ => rfl]
      omega
theorem inT_len {x : S55} (h : inB x = true) : (inT x).length ≤ 200 := by
  simp only [inB, Bool.and_eq_true, Bool.not_eq_true', decide_eq_false_iff_not] at h
  have hn := name_size h.1.1.1.1.1.1
  have d1 := dec_size x.f1.toNat (by omega)
  have d2 := dec_size x.f2.toNat (by omega)
  have d3 := dec_size x.f3.toNat (by omega)
  have hs : (sizeT x.f3).size ≤ 22 := by
    unfold sizeT
    split <;> first | (simp only [ByteArray.size_append, lit1]; omega) | (show 0 ≤ 22; omega)
  unfold inT inP
  rw [lineT_len]
  simp only [List.map_cons, List.map_nil, List.sum_cons, List.sum_nil, lit1, lit3, show ∀ a b : UInt8, ByteArray.size ⟨#[a, b]⟩ = 2 from fun _ _ => rfl, show ∀ a b c d e f : UInt8, ByteArray.size ⟨#[a, b, c, d, e, f]⟩ = 6 from fun _ _ _ _ _ _ => rfl]
  omega
theorem arT_len {x : S58} (h : arB x = true) : (arT x).length ≤ 200 := by
  simp only [arB, Bool.and_eq_true, Bool.not_eq_true', decide_eq_false_iff_not] at h
  have hn := name_size h.1.1
  have d1 := dec_size x.f1.toNat (by omega)
  unfold arT arP
  rw [lineT_len]
  simp only [List.map_cons, List.map_nil, List.sum_cons, List.sum_nil, lit1, show ∀ a b : UInt8, ByteArray.size ⟨#[a, b]⟩ = 2 from fun _ _ => rfl, show ∀ a b c d e f : UInt8, ByteArray.size ⟨#[a, b, c, d, e, f]⟩ = 6 from fun _ _ _ _ _ _ => rfl]
  omega
theorem sum_one {α : Type} (l : List α) : (l.map fun _ => 1).sum = l.length := by
  induction l with
  | nil => rfl
  | cons a l ih => simp only [List.map_cons, List.sum_cons, ih, List.length_cons]; omega
theorem fmtB_short {l0 : List S55} {l1 : List S58} {l2 : List S64} (h0 : l0.length ≤ 40) (h1 : l1.length ≤ 40) (h2 : ∀ n, (l2.map (cS n)).sum ≤ 200) (b0 : l0.all inB = true) (b1 : l1.all arB = true) (b2 : l2.all (stmtB 24) = true) : (fmtB l0 l1 l2).length ≤ 100000 := by
  have i0 := flatMap_le inT (fun _ => 1) 200 l0 (fun x hx => inT_len (List.all_eq_true.1 b0 x hx))
  have i1 := flatMap_le arT (fun _ => 1) 200 l1 (fun x hx => arT_len (List.all_eq_true.1 b1 x hx))
  have i2 := flatMap_le (stT 24 0) (cS 24) 300 l2 (fun x hx => stT_nodes 24 0 x (by omega) (List.all_eq_true.1 b2 x hx))
  have h3 := h2 24
  rw [sum_one] at i0 i1
  unfold fmtB
  simp only [List.length_append]
  omega
end Go.Proofs.YtlhnfgnihakcfaaDoor.Ax
set_option linter.unusedSimpArgs false
set_option linter.unusedVariables false
namespace Go.Proofs.YtlhnfgnihakcfaaDoor.Ax
open Go.RowKit Hp Kn
open Go.Proofs.YtlhnfgnihakcfaaDoorW.PrintWords Go.Proofs.YtlhnfgnihakcfaaDoorW.PrintLast Go.Proofs.YtlhnfgnihakcfaaDoorW.PrintMore
def rkids (k : Int) : Int := if k = 1 ∨ k = 2 then 0 else if k = 3 ∨ k = 5 then 1 else if k = 4 then 2 else if k = 6 then 3 else -1
set_option maxRecDepth 100000 in
theorem rkids_calls (x : S40) (A : Option Addr) (c : Nat) (w : World) :
    Calls Tryd.prog 99 #[exV A c x] w fun e w' => e = .returned (.int .i64 (rkids x.f0)) ∧ Below w.heap.size w w' := by
  have HB := Lib.hid ((Below.refl w.heap.size w).alloc (Nat.le_refl _) (.cells #[.int .i64 x.f0, .int .i64 x.f1, .int .u64 x.f2, .string x.f3, .slice A x.f4.length c] 40))
  cases e1 : (x.f0 == 1) <;> cases e2 : (x.f0 == 2) <;> cases e3 : (x.f0 == 3) <;> cases e5 : (x.f0 == 5) <;> cases e4 : (x.f0 == 4) <;> cases e6 : (x.f0 == 6)
  all_goals first
    | (exfalso; simp only [beq_iff_eq] at *; omega)
    | (have hr : ∃ r, rkids x.f0 = r := ⟨_, rfl⟩
       obtain ⟨r, hr⟩ := hr
       have HR := Lib.hid hr
       clear hr
       go_enter Tryd.func99, Tryd.ntmps99
       unfold exV
       go_wp2_with fail
       go_ret
       refine ⟨?_, HB.out⟩
       simp only [beq_iff_eq, beq_eq_false_iff_ne] at e1 e2 e3 e4 e5 e6
       simp [rkids, *])
end Go.Proofs.YtlhnfgnihakcfaaDoor.Ax
set_option linter.unusedSimpArgs false
set_option linter.unusedVariables false
namespace Go.Proofs.YtlhnfgnihakcfaaDoor.Ax
open Go.RowKit Hp Kn
open Go.Proofs.YtlhnfgnihakcfaaDoorW.PrintWords Go.Proofs.YtlhnfgnihakcfaaDoorW.PrintLast Go.Proofs.YtlhnfgnihakcfaaDoorW.PrintMore
def rk (x : S40) : Bool := rkids x.f0 == (x.f4.length : Int)
def rn (x : S40) : Bool := if x.f0 = 2 ∨ x.f0 = 3 then Px.isName x.f3.data.toList else x.f3.toList == []
def ro (x : S40) : Bool := if x.f0 = 4 then decide (1 ≤ x.f1) && decide (x.f1 ≤ 7) else x.f1 == 0
def ru (x : S40) : Bool := decide (x.f2 ≤ 1152921504606846975) && (x.f0 == 1 || x.f2 == 0)
theorem rshape (x : S40) : (rk x && rn x && ro x && ru x) = (shapeOk x && kindOk x) := by
  have e0 : (⟨#[]⟩ : ByteArray).toList = [] := by rw [Lib.toList_data]
  by_cases h : x.f0 = 1 ∨ x.f0 = 2 ∨ x.f0 = 3 ∨ x.f0 = 4 ∨ x.f0 = 5 ∨ x.f0 = 6
  · rw [Bool.eq_iff_iff]
    unfold rk shapeOk
    generalize x.f4.length = n
    by_cases hp : x.f3.toList = [] <;> by_cases hq : Px.isName x.f3.data.toList = true <;> rcases h with h | h | h | h | h | h <;>
      (simp [rn, ro, ru, kindOk, known, bareOp, bareNum, bareName, rkids, kidsN, h, e0, Bool.and_eq_true, hp, hq]; try omega)
  · have h1 : rkids x.f0 = -1 := by unfold rkids; rw [if_neg (by omega), if_neg (by omega), if_neg (by omega), if_neg (by omega)]
    have h2 : rk x = false := by unfold rk; rw [h1]; simp only [beq_eq_false_iff_ne]; omega
    have h3 : known x.f0 = false := by simp only [known, Bool.or_eq_false_iff, beq_eq_false_iff_ne]; omega
    rw [h2]
    simp [shapeOk, h3]
end Go.Proofs.YtlhnfgnihakcfaaDoor.Ax
set_option linter.unusedSimpArgs false
set_option linter.unusedVariables false
namespace Go.Proofs.YtlhnfgnihakcfaaDoor.Pi
open Go.RowKit Go.Proofs.YtlhnfgnihakcfaaDoorW.PrintWords Go.Proofs.YtlhnfgnihakcfaaDoor.Lx
theorem w64s (n m : Nat) (h : n + m ≤ 4611686018427387904) : wrap64 ((n : Int) + (m : Int)) = ((n + m : Nat) : Int) := by
  rw [IntWalk.wrap64_in _ ⟨by omega, by omega⟩]; omega
theorem w64_1 (n : Nat) (h : n ≤ 4611686018427387) : wrap64 ((n : Int) + 1) = ((n + 1 : Nat) : Int) := w64s n 1 (by omega)
theorem size_list (s : ByteArray) : s.data.toList.length = s.size := by rw [Array.length_toList]; rfl
theorem drop_cons (s : ByteArray) (n : Nat) (h : n < s.size) : ∃ c : UInt8, s.data.toList.drop n = c :: s.data.toList.drop (n + 1) ∧ bt s (n : Int) = (c.toNat : Int) := by
  have hl : n < s.data.toList.length := by rw [size_list]; exact h
  refine ⟨s.data.toList[n], List.drop_eq_getElem_cons hl, ?_⟩
  unfold bt
  rw [dif_pos (by simpa using h)]
  simp only [Int.toNat_natCast, Array.getElem_toList]
  rfl
theorem drop_nil (s : ByteArray) (n : Nat) (h : s.size ≤ n) : s.data.toList.drop n = [] := List.drop_eq_nil_of_le (by rw [size_list]; exact h)
theorem digit_f (c : UInt8) : privityref26_digit.f (c.toNat : Int) = some (Px.digit c) := by
  have hh : ∀ c : Fin 256, privityref26_digit.f (c.val : Int) = some (Px.digit (UInt8.ofNat c.val)) := by unfold privityref26_digit.f; decide +kernel
  simpa using hh ⟨c.toNat, c.toNat_lt⟩
theorem letter_f (c : UInt8) : privityref26_letter.f (c.toNat : Int) = some (Px.letter c) := by
  have hh : ∀ c : Fin 256, privityref26_letter.f (c.val : Int) = some (Px.letter (UInt8.ofNat c.val)) := by unfold privityref26_letter.f; decide +kernel
  simpa using hh ⟨c.toNat, c.toNat_lt⟩
theorem eq_byte (c : UInt8) (n : Nat) (hn : n < 256) : ((c.toNat : Int) = (n : Int)) ↔ c = UInt8.ofNat n := by
  constructor
  · intro h
    have : c.toNat = n := by omega
    rw [← this]; simp
  · rintro rfl
    simp [UInt8.toNat_ofNat']; omega
def longP (d : Bool) (c : UInt8) : Bool := Px.digit c || (!d && (Px.letter c || c == 95))
theorem longP_false : longP false = Px.wordc := by funext c; simp [longP, Px.wordc, Bool.or_comm, Bool.or_left_comm, Bool.or_assoc]
theorem long_l0 (s : ByteArray) (d : Bool) (hs : s.size ≤ 140737488351232) : ∀ (m n k : Nat), s.size - n = m → n ≤ s.size → m < k →
    privityref26_long.l0 k s d (n : Int) = some (((n + ((s.data.toList.drop n).takeWhile (longP d)).length : Nat)) : Int) := by
  intro m
  induction m with
  | zero =>
    intro n k hm hn hk
    obtain ⟨k, rfl⟩ : ∃ j, k = j + 1 := ⟨k - 1, by omega⟩
    unfold privityref26_long.l0
    rw [if_neg (by omega), drop_nil s n (by omega)]
    simp
  | succ m ih =>
    intro n k hm hn hk
    obtain ⟨k, rfl⟩ : ∃ j, k = j + 1 := ⟨k - 1, by omega⟩
    obtain ⟨c, hc, hb⟩ := drop_cons s n (by omega)
    have ih := ih (n + 1) k (by omega) (by omega) (by omega)
    unfold privityref26_long.l0
    rw [if_pos (by omega), if_pos (by omega), hb, digit_f, letter_f, w64_1 n (by omega), hc]
    simp only [Option.bind_some]
    have e95 : ((c.toNat : Int) = 95) ↔ c = 95 := eq_byte c 95 (by omega)
    by_cases h1 : Px.digit c = true
    · rw [if_pos h1, ih, List.takeWhile_cons, if_pos (by simp [longP, h1])]
      simp; omega
    · rw [if_neg h1]
      have h1' : Px.digit c = false := by simpa using h1
      by_cases h2 : d = true
      · rw [if_pos h2, List.takeWhile_cons, if_neg (by simp [longP, h1', h2])]; simp
      · rw [if_neg h2]
        have h2' : d = false := by simpa using h2
        by_cases h3 : Px.letter c = true
        · rw [if_pos h3, ih, List.takeWhile_cons, if_pos (by simp [longP, h2', h3])]
          simp; omega
        · rw [if_neg h3]
          have h3' : Px.letter c = false := by simpa using h3
          by_cases h4 : c = 95
          · rw [if_pos (e95.2 h4), ih, List.takeWhile_cons, if_pos (by simp [longP, h2', h4])]
            simp; omega
          · rw [if_neg (fun h => h4 (e95.1 h)), List.takeWhile_cons, if_neg (by simp [longP, h1', h2', h3', h4])]; simp
theorem long_f (s : ByteArray) (d : Bool) (hs : s.size ≤ 140737488351232) (k : Nat) (hk : s.size < k) : privityref26_long.f k s d = some ((s.data.toList.takeWhile (longP d)).length : Int) := by
  have := long_l0 s d hs s.size 0 k (by omega) (by omega) hk
  simpa [privityref26_long.f] using this
theorem word_f (s : ByteArray) (k : Nat) (hk : 10 ≤ k) : privityref26_Word.f k s = some (Px.reserved.contains s.data.toList) := by
  obtain ⟨k, rfl⟩ : ∃ j, k = j + 10 := ⟨k - 10, by omega⟩
  have hx := ByteArray.toList_eq s
  unfold privityref26_Word.f
  generalize hL : s.data.toList = L
  rw [hL] at hx
  have st : ∀ (i : Nat) (k : Nat) (l : List ByteArray) (b : ByteArray), l[i]? = some b → i < 1000 → privityref26_Word.l0 (k + 1) s l (i : Int) = if L = b.toList then some true else privityref26_Word.l0 k s l ((i + 1 : Nat) : Int) := by
    intro i k l b hb hi
    have hlt : i < l.length := by
      rcases Nat.lt_or_ge i l.length with h | h
      · exact h
      · rw [List.getElem?_eq_none h] at hb; cases hb
    conv => lhs; unfold privityref26_Word.l0
    rw [if_pos (by omega), if_pos (by omega), hx, w64_1 i (by omega)]
    have : rdOf ByteArray.empty l (i : Int) = b := by simp [rdOf, List.getD_eq_getElem?_getD, hb]
    rw [this]
  have en : ∀ (k : Nat) (l : List ByteArray) (n : Nat), l.length = n → privityref26_Word.l0 (k + 1) s l (n : Int) = some false := by
    intro k l n hn
    unfold privityref26_Word.l0
    rw [if_neg (by omega)]
  rw [show (0 : Int) = ((0 : Nat) : Int) from rfl, st 0 _ _ _ rfl (by omega), st 1 _ _ _ rfl (by omega), st 2 _ _ _ rfl (by omega), st 3 _ _ _ rfl (by omega), st 4 _ _ _ rfl (by omega), st 5 _ _ _ rfl (by omega), st 6 _ _ _ rfl (by omega), st 7 _ _ _ rfl (by omega), en _ _ (7 + 1) rfl]
  simp only [ByteArray.toList_eq]
  unfold Px.reserved
  simp only [List.contains_cons, List.contains_nil, Bool.or_false]
  repeat' (split; (rename_i h; rw [h]; rfl))
  simp_all
theorem ref_isName (s : ByteArray) (k : Nat) (hk : 200 ≤ k) : privityref26_IsName.f k s = some (Px.isName s.data.toList) := by
  have hsz := size_list s
  unfold privityref26_IsName.f
  by_cases h0 : (1 : Int) ≤ (s.size : Int)
  · rw [if_pos h0]
    obtain ⟨c, hc, hb⟩ := drop_cons s 0 (by omega)
    rw [List.drop_zero] at hc
    have hb : bt s 0 = (c.toNat : Int) := hb
    generalize hr : s.data.toList.drop (0 + 1) = r at hc
    by_cases h20 : (s.size : Int) ≤ 20
    · rw [if_pos h20, if_pos (by omega), hb, letter_f]
      simp only [Option.bind_some]
      by_cases hl : Px.letter c = true
      · rw [if_pos hl, long_f s false (by omega) k (by omega), longP_false]
        simp only [Option.bind_some]
        by_cases ha : s.data.toList.all Px.wordc = true
        · rw [tw_full _ _ (List.all_eq_true.1 ha), hsz, if_pos rfl, word_f s k (by omega)]
          simp only [Option.bind_some]
          rw [hc] at ha hsz ⊢
          have : (c :: r).length ≤ 20 := by omega
          simp only [Px.isName, hl, ha, this, decide_true, Bool.true_and]
        · have hne : (s.data.toList.takeWhile Px.wordc).length ≠ s.size := by
            intro e
            apply ha
            have : s.data.toList.takeWhile Px.wordc = s.data.toList := by
              have hp := Px.tw_eq Px.wordc s.data.toList
              rw [e, ← hsz, List.take_length] at hp
              exact hp.symm
            rw [← this]
            exact List.all_eq_true.2 (Px.tw_all _ _)
          rw [if_neg (by omega)]
          have : s.data.toList.all Px.wordc = false := by simpa using ha
          rw [hc] at this ⊢
          simp [Px.isName, this]
      · rw [if_neg hl, hc]
        have : Px.letter c = false := by simpa using hl
        simp [Px.isName, this]
    · rw [if_neg h20, hc]
      rw [hc] at hsz
      have : ¬ (c :: r).length ≤ 20 := by omega
      simp only [Px.isName, this, decide_false, Bool.and_false, Bool.false_and]
  · rw [if_neg h0]
    have : s.data.toList = [] := List.eq_nil_of_length_eq_zero (by omega)
    rw [this]; rfl
theorem rIsName_calls (s : ByteArray) (w : World) :
    Calls Tryd.prog 30 #[.string s] w fun e w' => e = .returned (.bool (Px.isName s.data.toList)) ∧ Below w.heap.size w w' :=
  privityref26_IsName.calls 200 s _ w (ref_isName s 200 (by omega))
end Go.Proofs.YtlhnfgnihakcfaaDoor.Pi
set_option linter.unusedSimpArgs false
set_option linter.unusedVariables false
namespace Go.Proofs.YtlhnfgnihakcfaaDoor.Ax
open Go.RowKit Hp Kn
open Go.Proofs.YtlhnfgnihakcfaaDoorW.PrintWords Go.Proofs.YtlhnfgnihakcfaaDoorW.PrintLast Go.Proofs.YtlhnfgnihakcfaaDoorW.PrintMore
set_option maxRecDepth 100000 in
theorem rexpr_deep (x : S40) (A : Option Addr) (c : Nat) (level : Int) (hl : 24 < level) (w : World) :
    Calls Tryd.prog 82 #[exV A c x, .int .i64 level] w fun e w' => e = .returned (.bool false) ∧ Below w.heap.size w w' := by
  have HB := Lib.hid ((Below.refl w.heap.size w).alloc (Nat.le_refl _) (.cells #[.int .i64 x.f0, .int .i64 x.f1, .int .u64 x.f2, .string x.f3, .slice A x.f4.length c] 40))
  go_enter Tryd.func82, Tryd.ntmps82
  unfold exV
  go_wp2_with fail
  have hS : True := trivial
  refine Rg.region_steps (S := fun _ => True) [.any 0, .any 1, .any 2, .take 3, .any 4, .any 5, .take 6, .any 7, .any 8, .any 9] (by kernel_rfl) (by kernel_rfl) trivial ?_
  refine Rg.p 7 ?_ ?_ rfl rfl (fun _ _ _ h => h) (by rfl) ?_ ?_ ?_; rotate_left 2; (intro w'; go_simp; with_reducible rfl); (simp only [Rg.pq, Rg.pz, Rg.ps]; rfl)
  refine Rg.p 8 ?_ ?_ rfl rfl (fun _ _ _ h => h) (by rfl) ?_ ?_ ?_; rotate_left 2; (intro w'; go_simp; with_reducible rfl); (simp only [Rg.pq, Rg.pz, Rg.ps]; rfl)
  refine Rg.p 9 ?_ ?_ rfl rfl (fun _ _ _ h => h) (by rfl) ?_ ?_ ?_; rotate_left 2; (intro w'; go_simp; with_reducible rfl); (simp only [Rg.pq, Rg.pz, Rg.ps]; rfl)
  refine Rg.s_takeOff (N := some 10) (a' := ?_) rfl rfl (fun _ _ _ h => h) (by assumption) (by rfl) ?_ ?_; rotate_left; (simp only [Act.put, List.setIfInBounds_toArray, List.set_cons_zero, List.set_cons_succ]; rfl)
  refine Rg.s_off (N := some 11) (a' := ?_) rfl rfl (fun _ _ _ h => h) (by rfl) ?_ ?_; rotate_left; (simp only [Act.put, List.setIfInBounds_toArray, List.set_cons_zero, List.set_cons_succ]; rfl)
  refine Rg.s_off (N := some 12) (a' := ?_) rfl rfl (fun _ _ _ h => h) (by rfl) ?_ ?_; rotate_left; (simp only [Act.put, List.setIfInBounds_toArray, List.set_cons_zero, List.set_cons_succ]; rfl)
  refine Rg.s_takeOff (N := some 13) (a' := ?_) rfl rfl (fun _ _ _ h => h) (by assumption) (by rfl) ?_ ?_; rotate_left; (simp only [Act.put, List.setIfInBounds_toArray, List.set_cons_zero, List.set_cons_succ]; rfl)
  refine Rg.s_off (N := some 14) (a' := ?_) rfl rfl (fun _ _ _ h => h) (by rfl) ?_ ?_; rotate_left; (simp only [Act.put, List.setIfInBounds_toArray, List.set_cons_zero, List.set_cons_succ]; rfl)
  refine Rg.s_off (N := some 15) (a' := ?_) rfl rfl (fun _ _ _ h => h) (by rfl) ?_ ?_; rotate_left; (simp only [Act.put, List.setIfInBounds_toArray, List.set_cons_zero, List.set_cons_succ]; rfl)
  refine Rg.p 16 ?_ ?_ rfl rfl (fun _ _ _ h => h) (by rfl) ?_ ?_ ?_; rotate_left 2; (intro w'; go_simp; with_reducible rfl); (simp only [Rg.pq, Rg.pz, Rg.ps]; rfl)
  refine Rg.s_done ?_
  go_wp2_with fail
  go_ret
  exact ⟨rfl, HB.out.drew⟩
set_option maxRecDepth 100000 in
theorem rexpr_kids (x : S40) (A : Option Addr) (c : Nat) (level : Int) (hl : level ≤ 24) (hk : rk x = false) (w : World) :
    Calls Tryd.prog 82 #[exV A c x, .int .i64 level] w fun e w' => e = .returned (.bool false) ∧ Below w.heap.size w w' := by
  have HB := Lib.hid ((Below.refl w.heap.size w).alloc (Nat.le_refl _) (.cells #[.int .i64 x.f0, .int .i64 x.f1, .int .u64 x.f2, .string x.f3, .slice A x.f4.length c] 40))
  have HS := Lib.hid (TCells.new w x A c)
  have hq : (rkids x.f0 != (x.f4.length : Int)) = true := by unfold rk at hk; simpa using hk
  have HQ := Lib.hid hq
  clear hq hk
  have hl2 : decide (24 < level) = false := by simp; omega
  go_enter Tryd.func82, Tryd.ntmps82
  unfold exV
  go_wp2_with fail
  have hS : (fun W => TCells w.heap.size x A c W) (w.alloc (.cells #[.int .i64 x.f0, .int .i64 x.f1, .int .u64 x.f2, .string x.f3, .slice A x.f4.length c] 40)).drew := HS.out
  refine Rg.region_steps (S := (fun W => TCells w.heap.size x A c W)) [.any 0, .any 1, .any 2, .take 3, .any 5, .take 6, .any 7, .one 4, .any 8, .any 9] (by kernel_rfl) (by kernel_rfl) hS ?_
  refine Rg.p 7 ?_ ?_ rfl rfl (fun _ _ _ h => h) (by rfl) ?_ ?_ ?_; rotate_left 2; (intro w'; go_simp; with_reducible rfl); (simp only [Rg.pq, Rg.pz, Rg.ps]; rfl)
  refine Rg.p 8 ?_ ?_ rfl rfl (fun _ _ _ h => h) (by rfl) ?_ ?_ ?_; rotate_left 2; (intro w'; go_simp; with_reducible rfl); (simp only [Rg.pq, Rg.pz, Rg.ps]; rfl)
  refine Rg.p 9 ?_ ?_ rfl rfl (fun _ _ _ h => h) (by rfl) ?_ ?_ ?_; rotate_left 2; (intro w'; go_simp; with_reducible rfl); (simp only [Rg.pq, Rg.pz, Rg.ps]; rfl)
  refine Rg.t 10 ?_ ?_ rfl rfl (fun _ _ _ h => h) (by assumption) (by rfl) ?_ ?_ ?_; rotate_left 2; (rintro w' ⟨x0, x1, x2, x3, x4⟩; go_simp; with_reducible rfl); (simp only [Rg.pq, Rg.pz, Rg.ps]; rfl)
  refine Rg.p 12 ?_ ?_ rfl rfl (fun _ _ _ h => h) (by rfl) ?_ ?_ ?_; rotate_left 2; (intro w'; go_simp; with_reducible rfl); (simp only [Rg.pq, Rg.pz, Rg.ps]; rfl)
  refine Rg.t 13 ?_ ?_ rfl rfl (fun _ _ _ h => h) (by assumption) (by rfl) ?_ ?_ ?_; rotate_left 2; (rintro w' ⟨x0, x1, x2, x3, x4⟩; go_simp; with_reducible rfl); (simp only [Rg.pq, Rg.pz, Rg.ps]; rfl)
  refine Rg.p 14 ?_ ?_ rfl rfl (fun _ _ _ h => h) (by rfl) ?_ ?_ ?_; rotate_left 2; (intro w'; go_simp; with_reducible rfl); (simp only [Rg.pq, Rg.pz, Rg.ps]; rfl)
  have HS1 := Lib.hid hS
  refine Rg.s_call (N := some 11) rfl rfl Tryd.func99 (by kernel_rfl) rfl #[.agg #[.int .i64 x.f0, .int .i64 x.f1, .int .u64 x.f2, .string x.f3, .slice A x.f4.length c]] (by rfl) rfl (by (try simp only [List.map_toArray, List.map_cons, List.map_nil]); first | done | rfl) ?_
  refine (rkids_calls x A c _).mono ?_
  rintro e w2 ⟨rfl, hc⟩
  have HD := Lib.hid (below_next HB.out.drew (by simp) hc)
  have HS2 := Lib.hid (HS1.out.below hc)
  clear hc
  refine ⟨HS2.out, ?_⟩
  refine Rg.s_norm (a' := ?_) ?_ ?_; rotate_left; (simp only [Act.put, List.setIfInBounds_toArray, List.set_cons_zero, List.set_cons_succ]; rfl)
  refine Rg.p 15 ?_ ?_ rfl rfl (fun _ _ _ h => h) (by rfl) ?_ ?_ ?_; rotate_left 2; (intro w'; go_simp; with_reducible rfl); (simp only [Rg.pq, Rg.pz, Rg.ps]; rfl)
  refine Rg.p 16 ?_ ?_ rfl rfl (fun _ _ _ h => h) (by rfl) ?_ ?_ ?_; rotate_left 2; (intro w'; go_simp; with_reducible rfl); (simp only [Rg.pq, Rg.pz, Rg.ps]; rfl)
  refine Rg.s_done ?_
  have hq := HQ.out
  go_wp2_with fail
  go_ret
  exact ⟨rfl, HD.out⟩
end Go.Proofs.YtlhnfgnihakcfaaDoor.Ax
set_option linter.unusedSimpArgs false
set_option linter.unusedVariables false
namespace Go.Proofs.YtlhnfgnihakcfaaDoor.Ax
open Go.RowKit Hp Kn
open Go.Proofs.YtlhnfgnihakcfaaDoorW.PrintWords Go.Proofs.YtlhnfgnihakcfaaDoorW.PrintLast Go.Proofs.YtlhnfgnihakcfaaDoorW.PrintMore
theorem all_false_at {α : Type} {l : List α} {p : α → Bool} {k : Nat} {a : α} (h : l[k]? = some a) (hp : p a = false) : l.all p = false := by
  rw [List.all_eq_false]; exact ⟨a, List.mem_of_getElem? h, by simp [hp]⟩
theorem all_true_at {α : Type} {l : List α} {p : α → Bool} (h : ∀ (j : Nat) a, l[j]? = some a → p a = true) : l.all p = true := by
  rw [List.all_eq_true]; intro a ha; obtain ⟨j, hj, e⟩ := List.mem_iff_getElem.1 ha; exact h j a (by rw [List.getElem?_eq_getElem hj, e])
def RIx (n : Nat) (level : Int) : Prop := ∀ (y : S40) (A4 : Option Addr) (c4 : Nat) (w1 : World), Kd.C k40 w1 A4 y.f4.length y.f4 → y.f4.length ≤ c4 → Calls Tryd.prog 82 #[exV A4 c4 y, .int .i64 (level + 1)] w1 fun e w2 => e = .returned (.bool (exprB n y)) ∧ Below w1.heap.size w1 w2
theorem rk_len {x : S40} (h : rk x = true) : x.f4.length ≤ 3 := by
  have : rkids x.f0 = (x.f4.length : Int) := by simpa [rk] using h
  unfold rkids at this
  (repeat' split at this) <;> omega
theorem cls_n2 {x : S40} (hf : x.f0 = 2) : (rn x && ro x && ru x) = true ↔ (Px.isName x.f3.data.toList = true ∧ (x.f1 != 0) = false ∧ decide (1152921504606846975 < x.f2) = false ∧ (x.f2 != 0) = false) := by
  have e0 : (⟨#[]⟩ : ByteArray).toList = [] := by rw [Lib.toList_data]
  simp [rn, ro, ru, hf, e0, Bool.and_eq_true, and_assoc]
  try omega
theorem cls_n3 {x : S40} (hf : x.f0 = 3) : (rn x && ro x && ru x) = true ↔ (Px.isName x.f3.data.toList = true ∧ (x.f1 != 0) = false ∧ decide (1152921504606846975 < x.f2) = false ∧ (x.f2 != 0) = false) := by
  have e0 : (⟨#[]⟩ : ByteArray).toList = [] := by rw [Lib.toList_data]
  simp [rn, ro, ru, hf, e0, Bool.and_eq_true, and_assoc]
  try omega
theorem cls_c4 {x : S40} (hf : x.f0 = 4) : (rn x && ro x && ru x) = true ↔ (x.f3.toList.isEmpty = true ∧ decide (x.f1 < 1) = false ∧ decide (7 < x.f1) = false ∧ decide (1152921504606846975 < x.f2) = false ∧ (x.f2 != 0) = false) := by
  have e0 : (⟨#[]⟩ : ByteArray).toList = [] := by rw [Lib.toList_data]
  simp [rn, ro, ru, hf, e0, Bool.and_eq_true, and_assoc]
  try omega
theorem cls_c1 {x : S40} (hf : x.f0 = 1) : (rn x && ro x && ru x) = true ↔ (x.f3.toList.isEmpty = true ∧ (x.f1 != 0) = false ∧ decide (1152921504606846975 < x.f2) = false) := by
  have e0 : (⟨#[]⟩ : ByteArray).toList = [] := by rw [Lib.toList_data]
  simp [rn, ro, ru, hf, e0, Bool.and_eq_true, and_assoc]
  try omega
theorem cls_co {x : S40} (hf : x.f0 ≠ 1 ∧ x.f0 ≠ 2 ∧ x.f0 ≠ 3 ∧ x.f0 ≠ 4) : (rn x && ro x && ru x) = true ↔ (x.f3.toList.isEmpty = true ∧ (x.f1 != 0) = false ∧ decide (1152921504606846975 < x.f2) = false ∧ (x.f2 != 0) = false) := by
  have e0 : (⟨#[]⟩ : ByteArray).toList = [] := by rw [Lib.toList_data]
  obtain ⟨h1, h2, h3, h4⟩ := hf
  simp [rn, ro, ru, h1, h2, h3, h4, e0, Bool.and_eq_true, and_assoc]
  try omega
set_option maxRecDepth 100000 in
set_option maxHeartbeats 2000000 in
theorem rexpr_n2 (n : Nat) (x : S40) (A : Option Addr) (c : Nat) (level : Int) (hl0 : 0 ≤ level) (hl : level ≤ 24) (hk : rk x = true) (w : World) (hC : Kd.C k40 w A x.f4.length x.f4) (hc : x.f4.length ≤ c) (IH : RIx n level) (hf : x.f0 = 2) (r : Bool) (hr : (rn x && ro x && ru x) = r) :
    Calls Tryd.prog 82 #[exV A c x, .int .i64 level] w fun e w' => e = .returned (.bool (r && x.f4.all (exprB n))) ∧ Below w.heap.size w w' := by
  have HL := Lib.hid (rk_len hk)
  have HC := Lib.hid hC
  have HI := Lib.hid IH
  have HR := Lib.hid (hr ▸ cls_n2 hf)
  clear hC IH hr
  have HB := Lib.hid ((Below.refl w.heap.size w).alloc (Nat.le_refl _) (.cells #[.int .i64 x.f0, .int .i64 x.f1, .int .u64 x.f2, .string x.f3, .slice A x.f4.length c] 40))
  have HS := Lib.hid (TCells.new w x A c)
  have hq : (rkids x.f0 != (x.f4.length : Int)) = false := by unfold rk at hk; simpa using hk
  have HF := Lib.hid hf
  clear hf hk
  have hl2 : decide (24 < level) = false := by simp; omega
  go_enter Tryd.func82, Tryd.ntmps82
  unfold exV
  go_wp2_with fail
  have hS : (fun W => TCells w.heap.size x A c W) (w.alloc (.cells #[.int .i64 x.f0, .int .i64 x.f1, .int .u64 x.f2, .string x.f3, .slice A x.f4.length c] 40)).drew := HS.out
  refine Rg.region_steps (S := (fun W => TCells w.heap.size x A c W)) [.any 0, .any 1, .any 2, .take 3, .any 5, .take 6, .any 7, .one 4, .any 8, .any 9] (by kernel_rfl) (by kernel_rfl) hS ?_
  refine Rg.p 7 ?_ ?_ rfl rfl (fun _ _ _ h => h) (by rfl) ?_ ?_ ?_; rotate_left 2; (intro w'; go_simp; with_reducible rfl); (simp only [Rg.pq, Rg.pz, Rg.ps]; rfl)
  refine Rg.p 8 ?_ ?_ rfl rfl (fun _ _ _ h => h) (by rfl) ?_ ?_ ?_; rotate_left 2; (intro w'; go_simp; with_reducible rfl); (simp only [Rg.pq, Rg.pz, Rg.ps]; rfl)
  refine Rg.p 9 ?_ ?_ rfl rfl (fun _ _ _ h => h) (by rfl) ?_ ?_ ?_; rotate_left 2; (intro w'; go_simp; with_reducible rfl); (simp only [Rg.pq, Rg.pz, Rg.ps]; rfl)
  refine Rg.t 10 ?_ ?_ rfl rfl (fun _ _ _ h => h) (by assumption) (by rfl) ?_ ?_ ?_; rotate_left 2; (rintro w' ⟨x0, x1, x2, x3, x4⟩; go_simp; with_reducible rfl); (simp only [Rg.pq, Rg.pz, Rg.ps]; rfl)
  refine Rg.p 12 ?_ ?_ rfl rfl (fun _ _ _ h => h) (by rfl) ?_ ?_ ?_; rotate_left 2; (intro w'; go_simp; with_reducible rfl); (simp only [Rg.pq, Rg.pz, Rg.ps]; rfl)
  refine Rg.t 13 ?_ ?_ rfl rfl (fun _ _ _ h => h) (by assumption) (by rfl) ?_ ?_ ?_; rotate_left 2; (rintro w' ⟨x0, x1, x2, x3, x4⟩; go_simp; with_reducible rfl); (simp only [Rg.pq, Rg.pz, Rg.ps]; rfl)
  refine Rg.p 14 ?_ ?_ rfl rfl (fun _ _ _ h => h) (by rfl) ?_ ?_ ?_; rotate_left 2; (intro w'; go_simp; with_reducible rfl); (simp only [Rg.pq, Rg.pz, Rg.ps]; rfl)
  have HS1 := Lib.hid hS
  refine Rg.s_call (N := some 11) rfl rfl Tryd.func99 (by kernel_rfl) rfl #[.agg #[.int .i64 x.f0, .int .i64 x.f1, .int .u64 x.f2, .string x.f3, .slice A x.f4.length c]] (by rfl) rfl (by (try simp only [List.map_toArray, List.map_cons, List.map_nil]); first | done | rfl) ?_
  refine (rkids_calls x A c _).mono ?_
  rintro e w2 ⟨rfl, hc⟩
  have HD := Lib.hid (below_next HB.out.drew (by simp) hc)
  have HS2 := Lib.hid (HS1.out.below hc)
  clear hc
  refine ⟨HS2.out, ?_⟩
  refine Rg.s_norm (a' := ?_) ?_ ?_; rotate_left; (simp only [Act.put, List.setIfInBounds_toArray, List.set_cons_zero, List.set_cons_succ]; rfl)
  refine Rg.p 15 ?_ ?_ rfl rfl (fun _ _ _ h => h) (by rfl) ?_ ?_ ?_; rotate_left 2; (intro w'; go_simp; with_reducible rfl); (simp only [Rg.pq, Rg.pz, Rg.ps]; rfl)
  refine Rg.p 16 ?_ ?_ rfl rfl (fun _ _ _ h => h) (by rfl) ?_ ?_ ?_; rotate_left 2; (intro w'; go_simp; with_reducible rfl); (simp only [Rg.pq, Rg.pz, Rg.ps]; rfl)
  refine Rg.s_done ?_
  obtain ⟨x0, x1, x2, x3, x4⟩ := HS2.out
  have e2 : (x.f0 == 2) = true := by have := HF.out; simp; omega
  have e3 : (x.f0 == 3) = false := by have := HF.out; simp; omega
  have e4 : (x.f0 == 4) = false := by have := HF.out; simp; omega
  have g4 : (x.f0 != 4) = true := by have := HF.out; simp; omega
  have g1 : (x.f0 != 1) = true := by have := HF.out; simp; omega
  go_wp2_with fail
  refine (Pi.rIsName_calls x.f3 _).mono ?_
  rintro e w3 ⟨rfl, hc⟩
  have HS3 := Lib.hid (HS2.out.below hc)
  have HD3 := Lib.hid (below_next HD.out (Nat.le_refl _) hc)
  clear hc x0 x1 x2 x3 x4 HS2 HD
  have HD := HD3
  have HS2 := HS3
  clear HD3 HS3
  obtain ⟨x0, x1, x2, x3, x4⟩ := HS2.out
  cases t0 : Px.isName x.f3.data.toList with
  | false =>
    have HN := Lib.hid (no_of HR.out fun h => Bool.noConfusion (t0.symm.trans h.1))
    go_wp2_with fail
    go_ret
    exact ⟨by rw [HN.out]; rfl, HD.out⟩
  | true =>
  cases t1 : (x.f1 != 0) with
  | true =>
    have HN := Lib.hid (no_of HR.out fun h => Bool.noConfusion (t1.symm.trans h.2.1))
    go_wp2_with fail
    go_ret
    exact ⟨by rw [HN.out]; rfl, HD.out⟩
  | false =>
  cases t3 : decide (1152921504606846975 < x.f2) with
  | true =>
    have HN := Lib.hid (no_of HR.out fun h => Bool.noConfusion (t3.symm.trans h.2.2.1))
    go_wp2_with fail
    go_ret
    exact ⟨by rw [HN.out]; rfl, HD.out⟩
  | false =>
  cases t4 : (x.f2 != 0) with
  | true =>
    have HN := Lib.hid (no_of HR.out fun h => Bool.noConfusion (t4.symm.trans h.2.2.2))
    go_wp2_with fail
    go_ret
    exact ⟨by rw [HN.out]; rfl, HD.out⟩
  | false =>
  have HN := Lib.hid (HR.out.2 ⟨t0, t1, t3, t4⟩)
  go_wp2
  clear e2 e3 e4 g4 g1 t0 t1 t3 t4 x0 x1 x2 x3 x4
  go_loopw [6] (fun i wr => ∃ k : Nat, k ≤ x.f4.length ∧ i = .int .i64 k ∧ Hid (∀ (j : Nat) a, j < k → x.f4[j]? = some a → exprB n a = true) ∧ Hid (Below w.heap.size w wr ∧ TCells w.heap.size x A c wr)) (fun i _ => x.f4.length - (intOf i).toNat)
  case atStart => exact ⟨0, by omega, rfl, Lib.hid (fun j a h => absurd h (by omega)), Lib.hid ⟨HD.out, HS2.out⟩⟩
  case round =>
    obtain ⟨k, hk, rfl, hst, hb⟩ := hrel
    have s4 := hb.out.2.2.2.2.2
    by_cases hlt : k < x.f4.length
    · have hi1 : (k : Int) < (x.f4.length : Int) := by omega
      have hle : x.f4.length ≤ 140737488351232 := by have := HL.out; omega
      obtain ⟨ad, rfl⟩ := some_addr HC.out (by omega)
      obtain ⟨a, ha⟩ : ∃ a, x.f4[k]? = some a := ⟨_, List.getElem?_eq_getElem hlt⟩
      obtain ⟨aA, ac, aE, al, aC⟩ := kid_at (Kd.C_below HC.out hb.out.1) k ha
      have HH := Lib.hid (And.intro ha (And.intro al aC))
      clear ha al aC
      obtain ⟨a0, a1, a2, a3, a4⟩ := aE
      go_wp2_with fail
      refine (HI.out a aA ac _ HH.out.2.2 HH.out.2.1).mono ?_
      rintro e w4 ⟨rfl, hc⟩
      clear s4 a0 a1 a2 a3 a4
      have HG := Lib.hid (below_next hb.out.1 (Nat.le_refl _) hc)
      have HM := Lib.hid (hb.out.2.below hc)
      clear hc
      cases hp : exprB n a with
      | false =>
        go_wp2_with fail
        go_ret
        exact ⟨by rw [all_false_at HH.out.1 hp, Bool.and_false]; rfl, HG.out⟩
      | true =>
        go_wp2_with fail
        go_roundw
        case rel =>
          refine ⟨k + 1, by omega, by go_num, Lib.hid (fun j u hj hu => ?_), Lib.hid ⟨HG.out, HM.out⟩⟩
          rcases Nat.lt_or_ge j k with h | h
          · exact hst.out j u h hu
          · obtain rfl : j = k := by omega
            have h1 := HH.out.1
            rw [hu] at h1
            cases h1
            exact hp
        case measure => simp [intOf]; omega
    · go_wp2_with fail
      go_ret
      exact ⟨by rw [HN.out, all_true_at (fun j u h => hst.out j u (by have := (List.getElem?_eq_some_iff.1 h).1; omega) h)]; rfl, hb.out.1⟩
set_option maxRecDepth 100000 in
set_option maxHeartbeats 2000000 in
theorem rexpr_n3 (n : Nat) (x : S40) (A : Option Addr) (c : Nat) (level : Int) (hl0 : 0 ≤ level) (hl : level ≤ 24) (hk : rk x = true) (w : World) (hC : Kd.C k40 w A x.f4.length x.f4) (hc : x.f4.length ≤ c) (IH : RIx n level) (hf : x.f0 = 3) (r : Bool) (hr : (rn x && ro x && ru x) = r) :
    Calls Tryd.prog 82 #[exV A c x, .int .i64 level] w fun e w' => e = .returned (.bool (r && x.f4.all (exprB n))) ∧ Below w.heap.size w w' := by
  have HL := Lib.hid (rk_len hk)
  have HC := Lib.hid hC
  have HI := Lib.hid IH
  have HR := Lib.hid (hr ▸ cls_n3 hf)
  clear hC IH hr
  have HB := Lib.hid ((Below.refl w.heap.size w).alloc (Nat.le_refl _) (.cells #[.int .i64 x.f0, .int .i64 x.f1, .int .u64 x.f2, .string x.f3, .slice A x.f4.length c] 40))
  have HS := Lib.hid (TCells.new w x A c)
  have hq : (rkids x.f0 != (x.f4.length : Int)) = false := by unfold rk at hk; simpa using hk
  have HF := Lib.hid hf
  clear hf hk
  have hl2 : decide (24 < level) = false := by simp; omega
  go_enter Tryd.func82, Tryd.ntmps82
  unfold exV
  go_wp2_with fail
  have hS : (fun W => TCells w.heap.size x A c W) (w.alloc (.cells #[.int .i64 x.f0, .int .i64 x.f1, .int .u64 x.f2, .string x.f3, .slice A x.f4.length c] 40)).drew := HS.out
  refine Rg.region_steps (S := (fun W => TCells w.heap.size x A c W)) [.any 0, .any 1, .any 2, .take 3, .any 5, .take 6, .any 7, .one 4, .any 8, .any 9] (by kernel_rfl) (by kernel_rfl) hS ?_
  refine Rg.p 7 ?_ ?_ rfl rfl (fun _ _ _ h => h) (by rfl) ?_ ?_ ?_; rotate_left 2; (intro w'; go_simp; with_reducible rfl); (simp only [Rg.pq, Rg.pz, Rg.ps]; rfl)
  refine Rg.p 8 ?_ ?_ rfl rfl (fun _ _ _ h => h) (by rfl) ?_ ?_ ?_; rotate_left 2; (intro w'; go_simp; with_reducible rfl); (simp only [Rg.pq, Rg.pz, Rg.ps]; rfl)
  refine Rg.p 9 ?_ ?_ rfl rfl (fun _ _ _ h => h) (by rfl) ?_ ?_ ?_; rotate_left 2; (intro w'; go_simp; with_reducible rfl); (simp only [Rg.pq, Rg.pz, Rg.ps]; rfl)
  refine Rg.t 10 ?_ ?_ rfl rfl (fun _ _ _ h => h) (by assumption) (by rfl) ?_ ?_ ?_; rotate_left 2; (rintro w' ⟨x0, x1, x2, x3, x4⟩; go_simp; with_reducible rfl); (simp only [Rg.pq, Rg.pz, Rg.ps]; rfl)
  refine Rg.p 12 ?_ ?_ rfl rfl (fun _ _ _ h => h) (by rfl) ?_ ?_ ?_; rotate_left 2; (intro w'; go_simp; with_reducible rfl); (simp only [Rg.pq, Rg.pz, Rg.ps]; rfl)
  refine Rg.t 13 ?_ ?_ rfl rfl (fun _ _ _ h => h) (by assumption) (by rfl) ?_ ?_ ?_; rotate_left 2; (rintro w' ⟨x0, x1, x2, x3, x4⟩; go_simp; with_reducible rfl); (simp only [Rg.pq, Rg.pz, Rg.ps]; rfl)
  refine Rg.p 14 ?_ ?_ rfl rfl (fun _ _ _ h => h) (by rfl) ?_ ?_ ?_; rotate_left 2; (intro w'; go_simp; with_reducible rfl); (simp only [Rg.pq, Rg.pz, Rg.ps]; rfl)
  have HS1 := Lib.hid hS
  refine Rg.s_call (N := some 11) rfl rfl Tryd.func99 (by kernel_rfl) rfl #[.agg #[.int .i64 x.f0, .int .i64 x.f1, .int .u64 x.f2, .string x.f3, .slice A x.f4.length c]] (by rfl) rfl (by (try simp only [List.map_toArray, List.map_cons, List.map_nil]); first | done | rfl) ?_
  refine (rkids_calls x A c _).mono ?_
  rintro e w2 ⟨rfl, hc⟩
  have HD := Lib.hid (below_next HB.out.drew (by simp) hc)
  have HS2 := Lib.hid (HS1.out.below hc)
  clear hc
  refine ⟨HS2.out, ?_⟩
  refine Rg.s_norm (a' := ?_) ?_ ?_; rotate_left; (simp only [Act.put, List.setIfInBounds_toArray, List.set_cons_zero, List.set_cons_succ]; rfl)
  refine Rg.p 15 ?_ ?_ rfl rfl (fun _ _ _ h => h) (by rfl) ?_ ?_ ?_; rotate_left 2; (intro w'; go_simp; with_reducible rfl); (simp only [Rg.pq, Rg.pz, Rg.ps]; rfl)
  refine Rg.p 16 ?_ ?_ rfl rfl (fun _ _ _ h => h) (by rfl) ?_ ?_ ?_; rotate_left 2; (intro w'; go_simp; with_reducible rfl); (simp only [Rg.pq, Rg.pz, Rg.ps]; rfl)
  refine Rg.s_done ?_
  obtain ⟨x0, x1, x2, x3, x4⟩ := HS2.out
  have e2 : (x.f0 == 2) = false := by have := HF.out; simp; omega
  have e3 : (x.f0 == 3) = true := by have := HF.out; simp; omega
  have e4 : (x.f0 == 4) = false := by have := HF.out; simp; omega
  have g4 : (x.f0 != 4) = true := by have := HF.out; simp; omega
  have g1 : (x.f0 != 1) = true := by have := HF.out; simp; omega
  go_wp2_with fail
  refine (Pi.rIsName_calls x.f3 _).mono ?_
  rintro e w3 ⟨rfl, hc⟩
  have HS3 := Lib.hid (HS2.out.below hc)
  have HD3 := Lib.hid (below_next HD.out (Nat.le_refl _) hc)
  clear hc x0 x1 x2 x3 x4 HS2 HD
  have HD := HD3
  have HS2 := HS3
  clear HD3 HS3
  obtain ⟨x0, x1, x2, x3, x4⟩ := HS2.out
  cases t0 : Px.isName x.f3.data.toList with
  | false =>
    have HN := Lib.hid (no_of HR.out fun h => Bool.noConfusion (t0.symm.trans h.1))
    go_wp2_with fail
    go_ret
    exact ⟨by rw [HN.out]; rfl, HD.out⟩
  | true =>
  cases t1 : (x.f1 != 0) with
  | true =>
    have HN := Lib.hid (no_of HR.out fun h => Bool.noConfusion (t1.symm.trans h.2.1))
    go_wp2_with fail
    go_ret
    exact ⟨by rw [HN.out]; rfl, HD.out⟩
  | false =>
  cases t3 : decide (1152921504606846975 < x.f2) with
  | true =>
    have HN := Lib.hid (no_of HR.out fun h => Bool.noConfusion (t3.symm.trans h.2.2.1))
    go_wp2_with fail
    go_ret
    exact ⟨by rw [HN.out]; rfl, HD.out⟩
  | false =>
  cases t4 : (x.f2 != 0) with
  | true =>
    have HN := Lib.hid (no_of HR.out fun h => Bool.noConfusion (t4.symm.trans h.2.2.2))
    go_wp2_with fail
    go_ret
    exact ⟨by rw [HN.out]; rfl, HD.out⟩
  | false =>
  have HN := Lib.hid (HR.out.2 ⟨t0, t1, t3, t4⟩)
  go_wp2
  clear e2 e3 e4 g4 g1 t0 t1 t3 t4 x0 x1 x2 x3 x4
  go_loopw [6] (fun i wr => ∃ k : Nat, k ≤ x.f4.length ∧ i = .int .i64 k ∧ Hid (∀ (j : Nat) a, j < k → x.f4[j]? = some a → exprB n a = true) ∧ Hid (Below w.heap.size w wr ∧ TCells w.heap.size x A c wr)) (fun i _ => x.f4.length - (intOf i).toNat)
  case atStart => exact ⟨0, by omega, rfl, Lib.hid (fun j a h => absurd h (by omega)), Lib.hid ⟨HD.out, HS2.out⟩⟩
  case round =>
    obtain ⟨k, hk, rfl, hst, hb⟩ := hrel
    have s4 := hb.out.2.2.2.2.2
    by_cases hlt : k < x.f4.length
    · have hi1 : (k : Int) < (x.f4.length : Int) := by omega
      have hle : x.f4.length ≤ 140737488351232 := by have := HL.out; omega
      obtain ⟨ad, rfl⟩ := some_addr HC.out (by omega)
      obtain ⟨a, ha⟩ : ∃ a, x.f4[k]? = some a := ⟨_, List.getElem?_eq_getElem hlt⟩
      obtain ⟨aA, ac, aE, al, aC⟩ := kid_at (Kd.C_below HC.out hb.out.1) k ha
      have HH := Lib.hid (And.intro ha (And.intro al aC))
      clear ha al aC
      obtain ⟨a0, a1, a2, a3, a4⟩ := aE
      go_wp2_with fail
      refine (HI.out a aA ac _ HH.out.2.2 HH.out.2.1).mono ?_
      rintro e w4 ⟨rfl, hc⟩
      clear s4 a0 a1 a2 a3 a4
      have HG := Lib.hid (below_next hb.out.1 (Nat.le_refl _) hc)
      have HM := Lib.hid (hb.out.2.below hc)
      clear hc
      cases hp : exprB n a with
      | false =>
        go_wp2_with fail
        go_ret
        exact ⟨by rw [all_false_at HH.out.1 hp, Bool.and_false]; rfl, HG.out⟩
      | true =>
        go_wp2_with fail
        go_roundw
        case rel =>
          refine ⟨k + 1, by omega, by go_num, Lib.hid (fun j u hj hu => ?_), Lib.hid ⟨HG.out, HM.out⟩⟩
          rcases Nat.lt_or_ge j k with h | h
          · exact hst.out j u h hu
          · obtain rfl : j = k := by omega
            have h1 := HH.out.1
            rw [hu] at h1
            cases h1
            exact hp
        case measure => simp [intOf]; omega
    · go_wp2_with fail
      go_ret
      exact ⟨by rw [HN.out, all_true_at (fun j u h => hst.out j u (by have := (List.getElem?_eq_some_iff.1 h).1; omega) h)]; rfl, hb.out.1⟩
set_option maxRecDepth 100000 in
set_option maxHeartbeats 2000000 in
theorem rexpr_c4 (n : Nat) (x : S40) (A : Option Addr) (c : Nat) (level : Int) (hl0 : 0 ≤ level) (hl : level ≤ 24) (hk : rk x = true) (w : World) (hC : Kd.C k40 w A x.f4.length x.f4) (hc : x.f4.length ≤ c) (IH : RIx n level) (hf : x.f0 = 4) (r : Bool) (hr : (rn x && ro x && ru x) = r) :
    Calls Tryd.prog 82 #[exV A c x, .int .i64 level] w fun e w' => e = .returned (.bool (r && x.f4.all (exprB n))) ∧ Below w.heap.size w w' := by
  have HL := Lib.hid (rk_len hk)
  have HC := Lib.hid hC
  have HI := Lib.hid IH
  have HR := Lib.hid (hr ▸ cls_c4 hf)
  clear hC IH hr
  have HB := Lib.hid ((Below.refl w.heap.size w).alloc (Nat.le_refl _) (.cells #[.int .i64 x.f0, .int .i64 x.f1, .int .u64 x.f2, .string x.f3, .slice A x.f4.length c] 40))
  have HS := Lib.hid (TCells.new w x A c)
  have hq : (rkids x.f0 != (x.f4.length : Int)) = false := by unfold rk at hk; simpa using hk
  have HF := Lib.hid hf
  clear hf hk
  have hl2 : decide (24 < level) = false := by simp; omega
  go_enter Tryd.func82, Tryd.ntmps82
  unfold exV
  go_wp2_with fail
  have hS : (fun W => TCells w.heap.size x A c W) (w.alloc (.cells #[.int .i64 x.f0, .int .i64 x.f1, .int .u64 x.f2, .string x.f3, .slice A x.f4.length c] 40)).drew := HS.out
  refine Rg.region_steps (S := (fun W => TCells w.heap.size x A c W)) [.any 0, .any 1, .any 2, .take 3, .any 5, .take 6, .any 7, .one 4, .any 8, .any 9] (by kernel_rfl) (by kernel_rfl) hS ?_
  refine Rg.p 7 ?_ ?_ rfl rfl (fun _ _ _ h => h) (by rfl) ?_ ?_ ?_; rotate_left 2; (intro w'; go_simp; with_reducible rfl); (simp only [Rg.pq, Rg.pz, Rg.ps]; rfl)
  refine Rg.p 8 ?_ ?_ rfl rfl (fun _ _ _ h => h) (by rfl) ?_ ?_ ?_; rotate_left 2; (intro w'; go_simp; with_reducible rfl); (simp only [Rg.pq, Rg.pz, Rg.ps]; rfl)
  refine Rg.p 9 ?_ ?_ rfl rfl (fun _ _ _ h => h) (by rfl) ?_ ?_ ?_; rotate_left 2; (intro w'; go_simp; with_reducible rfl); (simp only [Rg.pq, Rg.pz, Rg.ps]; rfl)
  refine Rg.t 10 ?_ ?_ rfl rfl (fun _ _ _ h => h) (by assumption) (by rfl) ?_ ?_ ?_; rotate_left 2; (rintro w' ⟨x0, x1, x2, x3, x4⟩; go_simp; with_reducible rfl); (simp only [Rg.pq, Rg.pz, Rg.ps]; rfl)
  refine Rg.p 12 ?_ ?_ rfl rfl (fun _ _ _ h => h) (by rfl) ?_ ?_ ?_; rotate_left 2; (intro w'; go_simp; with_reducible rfl); (simp only [Rg.pq, Rg.pz, Rg.ps]; rfl)
  refine Rg.t 13 ?_ ?_ rfl rfl (fun _ _ _ h => h) (by assumption) (by rfl) ?_ ?_ ?_; rotate_left 2; (rintro w' ⟨x0, x1, x2, x3, x4⟩; go_simp; with_reducible rfl); (simp only [Rg.pq, Rg.pz, Rg.ps]; rfl)
  refine Rg.p 14 ?_ ?_ rfl rfl (fun _ _ _ h => h) (by rfl) ?_ ?_ ?_; rotate_left 2; (intro w'; go_simp; with_reducible rfl); (simp only [Rg.pq, Rg.pz, Rg.ps]; rfl)
  have HS1 := Lib.hid hS
  refine Rg.s_call (N := some 11) rfl rfl Tryd.func99 (by kernel_rfl) rfl #[.agg #[.int .i64 x.f0, .int .i64 x.f1, .int .u64 x.f2, .string x.f3, .slice A x.f4.length c]] (by rfl) rfl (by (try simp only [List.map_toArray, List.map_cons, List.map_nil]); first | done | rfl) ?_
  refine (rkids_calls x A c _).mono ?_
  rintro e w2 ⟨rfl, hc⟩
  have HD := Lib.hid (below_next HB.out.drew (by simp) hc)
  have HS2 := Lib.hid (HS1.out.below hc)
  clear hc
  refine ⟨HS2.out, ?_⟩
  refine Rg.s_norm (a' := ?_) ?_ ?_; rotate_left; (simp only [Act.put, List.setIfInBounds_toArray, List.set_cons_zero, List.set_cons_succ]; rfl)
  refine Rg.p 15 ?_ ?_ rfl rfl (fun _ _ _ h => h) (by rfl) ?_ ?_ ?_; rotate_left 2; (intro w'; go_simp; with_reducible rfl); (simp only [Rg.pq, Rg.pz, Rg.ps]; rfl)
  refine Rg.p 16 ?_ ?_ rfl rfl (fun _ _ _ h => h) (by rfl) ?_ ?_ ?_; rotate_left 2; (intro w'; go_simp; with_reducible rfl); (simp only [Rg.pq, Rg.pz, Rg.ps]; rfl)
  refine Rg.s_done ?_
  obtain ⟨x0, x1, x2, x3, x4⟩ := HS2.out
  have e2 : (x.f0 == 2) = false := by have := HF.out; simp; omega
  have e3 : (x.f0 == 3) = false := by have := HF.out; simp; omega
  have e4 : (x.f0 == 4) = true := by have := HF.out; simp; omega
  have g4 : (x.f0 != 4) = false := by have := HF.out; simp; omega
  have g1 : (x.f0 != 1) = true := by have := HF.out; simp; omega
  cases t0 : x.f3.toList.isEmpty with
  | false =>
    have HN := Lib.hid (no_of HR.out fun h => Bool.noConfusion (t0.symm.trans h.1))
    go_wp2_with fail
    go_ret
    exact ⟨by rw [HN.out]; rfl, HD.out⟩
  | true =>
  cases t1 : decide (x.f1 < 1) with
  | true =>
    have HN := Lib.hid (no_of HR.out fun h => Bool.noConfusion (t1.symm.trans h.2.1))
    go_wp2_with fail
    go_ret
    exact ⟨by rw [HN.out]; rfl, HD.out⟩
  | false =>
  cases t2 : decide (7 < x.f1) with
  | true =>
    have HN := Lib.hid (no_of HR.out fun h => Bool.noConfusion (t2.symm.trans h.2.2.1))
    go_wp2_with fail
    go_ret
    exact ⟨by rw [HN.out]; rfl, HD.out⟩
  | false =>
  cases t3 : decide (1152921504606846975 < x.f2) with
  | true =>
    have HN := Lib.hid (no_of HR.out fun h => Bool.noConfusion (t3.symm.trans h.2.2.2.1))
    go_wp2_with fail
    go_ret
    exact ⟨by rw [HN.out]; rfl, HD.out⟩
  | false =>
  cases t4 : (x.f2 != 0) with
  | true =>
    have HN := Lib.hid (no_of HR.out fun h => Bool.noConfusion (t4.symm.trans h.2.2.2.2))
    go_wp2_with fail
    go_ret
    exact ⟨by rw [HN.out]; rfl, HD.out⟩
  | false =>
  have HN := Lib.hid (HR.out.2 ⟨t0, t1, t2, t3, t4⟩)
  go_wp2
  clear e2 e3 e4 g4 g1 t0 t1 t2 t3 t4 x0 x1 x2 x3 x4
  go_loopw [6] (fun i wr => ∃ k : Nat, k ≤ x.f4.length ∧ i = .int .i64 k ∧ Hid (∀ (j : Nat) a, j < k → x.f4[j]? = some a → exprB n a = true) ∧ Hid (Below w.heap.size w wr ∧ TCells w.heap.size x A c wr)) (fun i _ => x.f4.length - (intOf i).toNat)
  case atStart => exact ⟨0, by omega, rfl, Lib.hid (fun j a h => absurd h (by omega)), Lib.hid ⟨HD.out, HS2.out⟩⟩
  case round =>
    obtain ⟨k, hk, rfl, hst, hb⟩ := hrel
    have s4 := hb.out.2.2.2.2.2
    by_cases hlt : k < x.f4.length
    · have hi1 : (k : Int) < (x.f4.length : Int) := by omega
      have hle : x.f4.length ≤ 140737488351232 := by have := HL.out; omega
      obtain ⟨ad, rfl⟩ := some_addr HC.out (by omega)
      obtain ⟨a, ha⟩ : ∃ a, x.f4[k]? = some a := ⟨_, List.getElem?_eq_getElem hlt⟩
      obtain ⟨aA, ac, aE, al, aC⟩ := kid_at (Kd.C_below HC.out hb.out.1) k ha
      have HH := Lib.hid (And.intro ha (And.intro al aC))
      clear ha al aC
      obtain ⟨a0, a1, a2, a3, a4⟩ := aE
      go_wp2_with fail
      refine (HI.out a aA ac _ HH.out.2.2 HH.out.2.1).mono ?_
      rintro e w4 ⟨rfl, hc⟩
      clear s4 a0 a1 a2 a3 a4
      have HG := Lib.hid (below_next hb.out.1 (Nat.le_refl _) hc)
      have HM := Lib.hid (hb.out.2.below hc)
      clear hc
      cases hp : exprB n a with
      | false =>
        go_wp2_with fail
        go_ret
        exact ⟨by rw [all_false_at HH.out.1 hp, Bool.and_false]; rfl, HG.out⟩
      | true =>
        go_wp2_with fail
        go_roundw
        case rel =>
          refine ⟨k + 1, by omega, by go_num, Lib.hid (fun j u hj hu => ?_), Lib.hid ⟨HG.out, HM.out⟩⟩
          rcases Nat.lt_or_ge j k with h | h
          · exact hst.out j u h hu
          · obtain rfl : j = k := by omega
            have h1 := HH.out.1
            rw [hu] at h1
            cases h1
            exact hp
        case measure => simp [intOf]; omega
    · go_wp2_with fail
      go_ret
      exact ⟨by rw [HN.out, all_true_at (fun j u h => hst.out j u (by have := (List.getElem?_eq_some_iff.1 h).1; omega) h)]; rfl, hb.out.1⟩
set_option maxRecDepth 100000 in
set_option maxHeartbeats 2000000 in
theorem rexpr_c1 (n : Nat) (x : S40) (A : Option Addr) (c : Nat) (level : Int) (hl0 : 0 ≤ level) (hl : level ≤ 24) (hk : rk x = true) (w : World) (hC : Kd.C k40 w A x.f4.length x.f4) (hc : x.f4.length ≤ c) (IH : RIx n level) (hf : x.f0 = 1) (r : Bool) (hr : (rn x && ro x && ru x) = r) :
    Calls Tryd.prog 82 #[exV A c x, .int .i64 level] w fun e w' => e = .returned (.bool (r && x.f4.all (exprB n))) ∧ Below w.heap.size w w' := by
  have HL := Lib.hid (rk_len hk)
  have HC := Lib.hid hC
  have HI := Lib.hid IH
  have HR := Lib.hid (hr ▸ cls_c1 hf)
  clear hC IH hr
  have HB := Lib.hid ((Below.refl w.heap.size w).alloc (Nat.le_refl _) (.cells #[.int .i64 x.f0, .int .i64 x.f1, .int .u64 x.f2, .string x.f3, .slice A x.f4.length c] 40))
  have HS := Lib.hid (TCells.new w x A c)
  have hq : (rkids x.f0 != (x.f4.length : Int)) = false := by unfold rk at hk; simpa using hk
  have HF := Lib.hid hf
  clear hf hk
  have hl2 : decide (24 < level) = false := by simp; omega
  go_enter Tryd.func82, Tryd.ntmps82
  unfold exV
  go_wp2_with fail
  have hS : (fun W => TCells w.heap.size x A c W) (w.alloc (.cells #[.int .i64 x.f0, .int .i64 x.f1, .int .u64 x.f2, .string x.f3, .slice A x.f4.length c] 40)).drew := HS.out
  refine Rg.region_steps (S := (fun W => TCells w.heap.size x A c W)) [.any 0, .any 1, .any 2, .take 3, .any 5, .take 6, .any 7, .one 4, .any 8, .any 9] (by kernel_rfl) (by kernel_rfl) hS ?_
  refine Rg.p 7 ?_ ?_ rfl rfl (fun _ _ _ h => h) (by rfl) ?_ ?_ ?_; rotate_left 2; (intro w'; go_simp; with_reducible rfl); (simp only [Rg.pq, Rg.pz, Rg.ps]; rfl)
  refine Rg.p 8 ?_ ?_ rfl rfl (fun _ _ _ h => h) (by rfl) ?_ ?_ ?_; rotate_left 2; (intro w'; go_simp; with_reducible rfl); (simp only [Rg.pq, Rg.pz, Rg.ps]; rfl)
  refine Rg.p 9 ?_ ?_ rfl rfl (fun _ _ _ h => h) (by rfl) ?_ ?_ ?_; rotate_left 2; (intro w'; go_simp; with_reducible rfl); (simp only [Rg.pq, Rg.pz, Rg.ps]; rfl)
  refine Rg.t 10 ?_ ?_ rfl rfl (fun _ _ _ h => h) (by assumption) (by rfl) ?_ ?_ ?_; rotate_left 2; (rintro w' ⟨x0, x1, x2, x3, x4⟩; go_simp; with_reducible rfl); (simp only [Rg.pq, Rg.pz, Rg.ps]; rfl)
  refine Rg.p 12 ?_ ?_ rfl rfl (fun _ _ _ h => h) (by rfl) ?_ ?_ ?_; rotate_left 2; (intro w'; go_simp; with_reducible rfl); (simp only [Rg.pq, Rg.pz, Rg.ps]; rfl)
  refine Rg.t 13 ?_ ?_ rfl rfl (fun _ _ _ h => h) (by assumption) (by rfl) ?_ ?_ ?_; rotate_left 2; (rintro w' ⟨x0, x1, x2, x3, x4⟩; go_simp; with_reducible rfl); (simp only [Rg.pq, Rg.pz, Rg.ps]; rfl)
  refine Rg.p 14 ?_ ?_ rfl rfl (fun _ _ _ h => h) (by rfl) ?_ ?_ ?_; rotate_left 2; (intro w'; go_simp; with_reducible rfl); (simp only [Rg.pq, Rg.pz, Rg.ps]; rfl)
  have HS1 := Lib.hid hS
  refine Rg.s_call (N := some 11) rfl rfl Tryd.func99 (by kernel_rfl) rfl #[.agg #[.int .i64 x.f0, .int .i64 x.f1, .int .u64 x.f2, .string x.f3, .slice A x.f4.length c]] (by rfl) rfl (by (try simp only [List.map_toArray, List.map_cons, List.map_nil]); first | done | rfl) ?_
  refine (rkids_calls x A c _).mono ?_
  rintro e w2 ⟨rfl, hc⟩
  have HD := Lib.hid (below_next HB.out.drew (by simp) hc)
  have HS2 := Lib.hid (HS1.out.below hc)
  clear hc
  refine ⟨HS2.out, ?_⟩
  refine Rg.s_norm (a' := ?_) ?_ ?_; rotate_left; (simp only [Act.put, List.setIfInBounds_toArray, List.set_cons_zero, List.set_cons_succ]; rfl)
  refine Rg.p 15 ?_ ?_ rfl rfl (fun _ _ _ h => h) (by rfl) ?_ ?_ ?_; rotate_left 2; (intro w'; go_simp; with_reducible rfl); (simp only [Rg.pq, Rg.pz, Rg.ps]; rfl)
  refine Rg.p 16 ?_ ?_ rfl rfl (fun _ _ _ h => h) (by rfl) ?_ ?_ ?_; rotate_left 2; (intro w'; go_simp; with_reducible rfl); (simp only [Rg.pq, Rg.pz, Rg.ps]; rfl)
  refine Rg.s_done ?_
  obtain ⟨x0, x1, x2, x3, x4⟩ := HS2.out
  have e2 : (x.f0 == 2) = false := by have := HF.out; simp; omega
  have e3 : (x.f0 == 3) = false := by have := HF.out; simp; omega
  have e4 : (x.f0 == 4) = false := by have := HF.out; simp; omega
  have g4 : (x.f0 != 4) = true := by have := HF.out; simp; omega
  have g1 : (x.f0 != 1) = false := by have := HF.out; simp; omega
  cases t0 : x.f3.toList.isEmpty with
  | false =>
    have HN := Lib.hid (no_of HR.out fun h => Bool.noConfusion (t0.symm.trans h.1))
    go_wp2_with fail
    go_ret
    exact ⟨by rw [HN.out]; rfl, HD.out⟩
  | true =>
  cases t1 : (x.f1 != 0) with
  | true =>
    have HN := Lib.hid (no_of HR.out fun h => Bool.noConfusion (t1.symm.trans h.2.1))
    go_wp2_with fail
    go_ret
    exact ⟨by rw [HN.out]; rfl, HD.out⟩
  | false =>
  cases t3 : decide (1152921504606846975 < x.f2) with
  | true =>
    have HN := Lib.hid (no_of HR.out fun h => Bool.noConfusion (t3.symm.trans h.2.2))
    go_wp2_with fail
    go_ret
    exact ⟨by rw [HN.out]; rfl, HD.out⟩
  | false =>
  have HN := Lib.hid (HR.out.2 ⟨t0, t1, t3⟩)
  go_wp2
  clear e2 e3 e4 g4 g1 t0 t1 t3 x0 x1 x2 x3 x4
  go_loopw [6] (fun i wr => ∃ k : Nat, k ≤ x.f4.length ∧ i = .int .i64 k ∧ Hid (∀ (j : Nat) a, j < k → x.f4[j]? = some a → exprB n a = true) ∧ Hid (Below w.heap.size w wr ∧ TCells w.heap.size x A c wr)) (fun i _ => x.f4.length - (intOf i).toNat)
  case atStart => exact ⟨0, by omega, rfl, Lib.hid (fun j a h => absurd h (by omega)), Lib.hid ⟨HD.out, HS2.out⟩⟩
  case round =>
    obtain ⟨k, hk, rfl, hst, hb⟩ := hrel
    have s4 := hb.out.2.2.2.2.2
    by_cases hlt : k < x.f4.length
    · have hi1 : (k : Int) < (x.f4.length : Int) := by omega
      have hle : x.f4.length ≤ 140737488351232 := by have := HL.out; omega
      obtain ⟨ad, rfl⟩ := some_addr HC.out (by omega)
      obtain ⟨a, ha⟩ : ∃ a, x.f4[k]? = some a := ⟨_, List.getElem?_eq_getElem hlt⟩
      obtain ⟨aA, ac, aE, al, aC⟩ := kid_at (Kd.C_below HC.out hb.out.1) k ha
      have HH := Lib.hid (And.intro ha (And.intro al aC))
      clear ha al aC
      obtain ⟨a0, a1, a2, a3, a4⟩ := aE
      go_wp2_with fail
      refine (HI.out a aA ac _ HH.out.2.2 HH.out.2.1).mono ?_
      rintro e w4 ⟨rfl, hc⟩
      clear s4 a0 a1 a2 a3 a4
      have HG := Lib.hid (below_next hb.out.1 (Nat.le_refl _) hc)
      have HM := Lib.hid (hb.out.2.below hc)
      clear hc
      cases hp : exprB n a with
      | false =>
        go_wp2_with fail
        go_ret
        exact ⟨by rw [all_false_at HH.out.1 hp, Bool.and_false]; rfl, HG.out⟩
      | true =>
        go_wp2_with fail
        go_roundw
        case rel =>
          refine ⟨k + 1, by omega, by go_num, Lib.hid (fun j u hj hu => ?_), Lib.hid ⟨HG.out, HM.out⟩⟩
          rcases Nat.lt_or_ge j k with h | h
          · exact hst.out j u h hu
          · obtain rfl : j = k := by omega
            have h1 := HH.out.1
            rw [hu] at h1
            cases h1
            exact hp
        case measure => simp [intOf]; omega
    · go_wp2_with fail
      go_ret
      exact ⟨by rw [HN.out, all_true_at (fun j u h => hst.out j u (by have := (List.getElem?_eq_some_iff.1 h).1; omega) h)]; rfl, hb.out.1⟩
set_option maxRecDepth 100000 in
set_option maxHeartbeats 2000000 in
theorem rexpr_co (n : Nat) (x : S40) (A : Option Addr) (c : Nat) (level : Int) (hl0 : 0 ≤ level) (hl : level ≤ 24) (hk : rk x = true) (w : World) (hC : Kd.C k40 w A x.f4.length x.f4) (hc : x.f4.length ≤ c) (IH : RIx n level) (hf : x.f0 ≠ 1 ∧ x.f0 ≠ 2 ∧ x.f0 ≠ 3 ∧ x.f0 ≠ 4) (r : Bool) (hr : (rn x && ro x && ru x) = r) :
    Calls Tryd.prog 82 #[exV A c x, .int .i64 level] w fun e w' => e = .returned (.bool (r && x.f4.all (exprB n))) ∧ Below w.heap.size w w' := by
  have HL := Lib.hid (rk_len hk)
  have HC := Lib.hid hC
  have HI := Lib.hid IH
  have HR := Lib.hid (hr ▸ cls_co hf)
  clear hC IH hr
  have HB := Lib.hid ((Below.refl w.heap.size w).alloc (Nat.le_refl _) (.cells #[.int .i64 x.f0, .int .i64 x.f1, .int .u64 x.f2, .string x.f3, .slice A x.f4.length c] 40))
  have HS := Lib.hid (TCells.new w x A c)
  have hq : (rkids x.f0 != (x.f4.length : Int)) = false := by unfold rk at hk; simpa using hk
  have HF := Lib.hid hf
  clear hf hk
  have hl2 : decide (24 < level) = false := by simp; omega
  go_enter Tryd.func82, Tryd.ntmps82
  unfold exV
  go_wp2_with fail
  have hS : (fun W => TCells w.heap.size x A c W) (w.alloc (.cells #[.int .i64 x.f0, .int .i64 x.f1, .int .u64 x.f2, .string x.f3, .slice A x.f4.length c] 40)).drew := HS.out
  refine Rg.region_steps (S := (fun W => TCells w.heap.size x A c W)) [.any 0, .any 1, .any 2, .take 3, .any 5, .take 6, .any 7, .one 4, .any 8, .any 9] (by kernel_rfl) (by kernel_rfl) hS ?_
  refine Rg.p 7 ?_ ?_ rfl rfl (fun _ _ _ h => h) (by rfl) ?_ ?_ ?_; rotate_left 2; (intro w'; go_simp; with_reducible rfl); (simp only [Rg.pq, Rg.pz, Rg.ps]; rfl)
  refine Rg.p 8 ?_ ?_ rfl rfl (fun _ _ _ h => h) (by rfl) ?_ ?_ ?_; rotate_left 2; (intro w'; go_simp; with_reducible rfl); (simp only [Rg.pq, Rg.pz, Rg.ps]; rfl)
  refine Rg.p 9 ?_ ?_ rfl rfl (fun _ _ _ h => h) (by rfl) ?_ ?_ ?_; rotate_left 2; (intro w'; go_simp; with_reducible rfl); (simp only [Rg.pq, Rg.pz, Rg.ps]; rfl)
  refine Rg.t 10 ?_ ?_ rfl rfl (fun _ _ _ h => h) (by assumption) (by rfl) ?_ ?_ ?_; rotate_left 2; (rintro w' ⟨x0, x1, x2, x3, x4⟩; go_simp; with_reducible rfl); (simp only [Rg.pq, Rg.pz, Rg.ps]; rfl)
  refine Rg.p 12 ?_ ?_ rfl rfl (fun _ _ _ h => h) (by rfl) ?_ ?_ ?_; rotate_left 2; (intro w'; go_simp; with_reducible rfl); (simp only [Rg.pq, Rg.pz, Rg.ps]; rfl)
  refine Rg.t 13 ?_ ?_ rfl rfl (fun _ _ _ h => h) (by assumption) (by rfl) ?_ ?_ ?_; rotate_left 2; (rintro w' ⟨x0, x1, x2, x3, x4⟩; go_simp; with_reducible rfl); (simp only [Rg.pq, Rg.pz, Rg.ps]; rfl)
  refine Rg.p 14 ?_ ?_ rfl rfl (fun _ _ _ h => h) (by rfl) ?_ ?_ ?_; rotate_left 2; (intro w'; go_simp; with_reducible rfl); (simp only [Rg.pq, Rg.pz, Rg.ps]; rfl)
  have HS1 := Lib.hid hS
  refine Rg.s_call (N := some 11) rfl rfl Tryd.func99 (by kernel_rfl) rfl #[.agg #[.int .i64 x.f0, .int .i64 x.f1, .int .u64 x.f2, .string x.f3, .slice A x.f4.length c]] (by rfl) rfl (by (try simp only [List.map_toArray, List.map_cons, List.map_nil]); first | done | rfl) ?_
  refine (rkids_calls x A c _).mono ?_
  rintro e w2 ⟨rfl, hc⟩
  have HD := Lib.hid (below_next HB.out.drew (by simp) hc)
  have HS2 := Lib.hid (HS1.out.below hc)
  clear hc
  refine ⟨HS2.out, ?_⟩
  refine Rg.s_norm (a' := ?_) ?_ ?_; rotate_left; (simp only [Act.put, List.setIfInBounds_toArray, List.set_cons_zero, List.set_cons_succ]; rfl)
  refine Rg.p 15 ?_ ?_ rfl rfl (fun _ _ _ h => h) (by rfl) ?_ ?_ ?_; rotate_left 2; (intro w'; go_simp; with_reducible rfl); (simp only [Rg.pq, Rg.pz, Rg.ps]; rfl)
  refine Rg.p 16 ?_ ?_ rfl rfl (fun _ _ _ h => h) (by rfl) ?_ ?_ ?_; rotate_left 2; (intro w'; go_simp; with_reducible rfl); (simp only [Rg.pq, Rg.pz, Rg.ps]; rfl)
  refine Rg.s_done ?_
  obtain ⟨x0, x1, x2, x3, x4⟩ := HS2.out
  have e2 : (x.f0 == 2) = false := by have := HF.out; simp; omega
  have e3 : (x.f0 == 3) = false := by have := HF.out; simp; omega
  have e4 : (x.f0 == 4) = false := by have := HF.out; simp; omega
  have g4 : (x.f0 != 4) = true := by have := HF.out; simp; omega
  have g1 : (x.f0 != 1) = true := by have := HF.out; simp; omega
  cases t0 : x.f3.toList.isEmpty with
  | false =>
    have HN := Lib.hid (no_of HR.out fun h => Bool.noConfusion (t0.symm.trans h.1))
    go_wp2_with fail
    go_ret
    exact ⟨by rw [HN.out]; rfl, HD.out⟩
  | true =>
  cases t1 : (x.f1 != 0) with
  | true =>
    have HN := Lib.hid (no_of HR.out fun h => Bool.noConfusion (t1.symm.trans h.2.1))
    go_wp2_with fail
    go_ret
    exact ⟨by rw [HN.out]; rfl, HD.out⟩
  | false =>
  cases t3 : decide (1152921504606846975 < x.f2) with
  | true =>
    have HN := Lib.hid (no_of HR.out fun h => Bool.noConfusion (t3.symm.trans h.2.2.1))
    go_wp2_with fail
    go_ret
    exact ⟨by rw [HN.out]; rfl, HD.out⟩
  | false =>
  cases t4 : (x.f2 != 0) with
  | true =>
    have HN := Lib.hid (no_of HR.out fun h => Bool.noConfusion (t4.symm.trans h.2.2.2))
    go_wp2_with fail
    go_ret
    exact ⟨by rw [HN.out]; rfl, HD.out⟩
  | false =>
  have HN := Lib.hid (HR.out.2 ⟨t0, t1, t3, t4⟩)
  go_wp2
  clear e2 e3 e4 g4 g1 t0 t1 t3 t4 x0 x1 x2 x3 x4
  go_loopw [6] (fun i wr => ∃ k : Nat, k ≤ x.f4.length ∧ i = .int .i64 k ∧ Hid (∀ (j : Nat) a, j < k → x.f4[j]? = some a → exprB n a = true) ∧ Hid (Below w.heap.size w wr ∧ TCells w.heap.size x A c wr)) (fun i _ => x.f4.length - (intOf i).toNat)
  case atStart => exact ⟨0, by omega, rfl, Lib.hid (fun j a h => absurd h (by omega)), Lib.hid ⟨HD.out, HS2.out⟩⟩
  case round =>
    obtain ⟨k, hk, rfl, hst, hb⟩ := hrel
    have s4 := hb.out.2.2.2.2.2
    by_cases hlt : k < x.f4.length
    · have hi1 : (k : Int) < (x.f4.length : Int) := by omega
      have hle : x.f4.length ≤ 140737488351232 := by have := HL.out; omega
      obtain ⟨ad, rfl⟩ := some_addr HC.out (by omega)
      obtain ⟨a, ha⟩ : ∃ a, x.f4[k]? = some a := ⟨_, List.getElem?_eq_getElem hlt⟩
      obtain ⟨aA, ac, aE, al, aC⟩ := kid_at (Kd.C_below HC.out hb.out.1) k ha
      have HH := Lib.hid (And.intro ha (And.intro al aC))
      clear ha al aC
      obtain ⟨a0, a1, a2, a3, a4⟩ := aE
      go_wp2_with fail
      refine (HI.out a aA ac _ HH.out.2.2 HH.out.2.1).mono ?_
      rintro e w4 ⟨rfl, hc⟩
      clear s4 a0 a1 a2 a3 a4
      have HG := Lib.hid (below_next hb.out.1 (Nat.le_refl _) hc)
      have HM := Lib.hid (hb.out.2.below hc)
      clear hc
      cases hp : exprB n a with
      | false =>
        go_wp2_with fail
        go_ret
        exact ⟨by rw [all_false_at HH.out.1 hp, Bool.and_false]; rfl, HG.out⟩
      | true =>
        go_wp2_with fail
        go_roundw
        case rel =>
          refine ⟨k + 1, by omega, by go_num, Lib.hid (fun j u hj hu => ?_), Lib.hid ⟨HG.out, HM.out⟩⟩
          rcases Nat.lt_or_ge j k with h | h
          · exact hst.out j u h hu
          · obtain rfl : j = k := by omega
            have h1 := HH.out.1
            rw [hu] at h1
            cases h1
            exact hp
        case measure => simp [intOf]; omega
    · go_wp2_with fail
      go_ret
      exact ⟨by rw [HN.out, all_true_at (fun j u h => hst.out j u (by have := (List.getElem?_eq_some_iff.1 h).1; omega) h)]; rfl, hb.out.1⟩
theorem rexpr_all (n : Nat) (x : S40) (A : Option Addr) (c : Nat) (level : Int) (hl0 : 0 ≤ level) (hl : level ≤ 24) (w : World) (hC : Kd.C k40 w A x.f4.length x.f4) (hc : x.f4.length ≤ c) (IH : RIx n level) :
    Calls Tryd.prog 82 #[exV A c x, .int .i64 level] w fun e w' => e = .returned (.bool ((rk x && rn x && ro x && ru x) && x.f4.all (exprB n))) ∧ Below w.heap.size w w' := by
  cases hk : rk x with
  | false => exact rexpr_kids x A c level hl hk w
  | true =>
  rw [Bool.true_and]
  by_cases hf : x.f0 = 2
  · exact rexpr_n2 n x A c level hl0 hl hk w hC hc IH hf _ rfl
  have h2 := hf
  clear hf
  by_cases hf : x.f0 = 3
  · exact rexpr_n3 n x A c level hl0 hl hk w hC hc IH hf _ rfl
  have h3 := hf
  clear hf
  by_cases hf : x.f0 = 4
  · exact rexpr_c4 n x A c level hl0 hl hk w hC hc IH hf _ rfl
  have h4 := hf
  clear hf
  by_cases hf : x.f0 = 1
  · exact rexpr_c1 n x A c level hl0 hl hk w hC hc IH hf _ rfl
  have h1 := hf
  clear hf
  exact rexpr_co n x A c level hl0 hl hk w hC hc IH ⟨h1, h2, h3, h4⟩ _ rfl
theorem rexpr_calls : ∀ (n : Nat) (x : S40) (level : Int), level = 25 - (n : Int) → 0 ≤ level → ∀ (A : Option Addr) (c : Nat) (w : World), Kd.C k40 w A x.f4.length x.f4 → x.f4.length ≤ c →
    Calls Tryd.prog 82 #[exV A c x, .int .i64 level] w fun e w' => e = .returned (.bool (exprB n x)) ∧ Below w.heap.size w w'
  | 0, x, level, hl, h0, A, c, w, hC, hc => rexpr_deep x A c level (by omega) w
  | n + 1, x, level, hl, h0, A, c, w, hC, hc => by
    have e : exprB (n + 1) x = ((rk x && rn x && ro x && ru x) && x.f4.all (exprB n)) := by rw [rshape]; rfl
    rw [e]
    exact rexpr_all n x A c level h0 (by omega) w hC hc (fun y A4 c4 w1 g1 g2 => rexpr_calls n y (level + 1) (by omega) (by omega) A4 c4 w1 g1 g2)
end Go.Proofs.YtlhnfgnihakcfaaDoor.Ax
