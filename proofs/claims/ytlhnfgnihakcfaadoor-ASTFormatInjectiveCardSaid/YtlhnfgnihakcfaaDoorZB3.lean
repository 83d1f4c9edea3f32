import Derived.Test.YtlhnfgnihakcfaaDoorZPxAll
import Derived.Lib.ItoaNum
import Derived.Test.YtlhnfgnihakcfaaDoorZA5
set_option linter.unusedSimpArgs false
set_option linter.unusedVariables false
/- Tokens without their places, piece by piece. -/
namespace Px
open Go
theorem u8 (P : UInt8 → Prop) (h : ∀ c : Fin 256, P (UInt8.ofNat c.val)) (c : UInt8) : P c := by simpa using h ⟨c.toNat, c.toNat_lt⟩
abbrev T3 := Nat × Bs × Nat
def strip (t : Tok) : T3 := (t.kind, t.text, t.num)
/-- a text's tokens, without their places -/
def toks (l : Bs) : Option (List T3) := match lexA 0 l with | .ok ts => some (ts.map strip) | .error _ => none
theorem toks_at (a : Nat) (l : Bs) : toks l = match lexA a l with | .ok ts => some (ts.map strip) | .error _ => none := by
  have h := lexA_shift a 0 l
  rw [Nat.zero_add] at h
  rw [h]
  unfold toks
  cases lexA 0 l with
  | error e => rfl
  | ok ts => simp [strip]
theorem toks_nil : toks [] = some [] := by
  unfold toks
  rw [lexA_eq, lexStep_nil (by rfl)]
  rfl
theorem toks_step {l : Bs} {t : Tok} (h : take (l.drop (ws false l)) = .ok t) : toks l = (toks ((l.drop (ws false l)).drop t.text.length)).map (strip t :: ·) := by
  rw [toks_at (0 + ws false l + t.text.length) ((l.drop (ws false l)).drop t.text.length)]
  unfold toks
  rw [lexA_eq, lexStep_tok h]
  cases lexA (0 + ws false l + t.text.length) ((l.drop (ws false l)).drop t.text.length) with
  | error e => rfl
  | ok ts => rfl
theorem toks_tok {l : Bs} {t : Tok} (hw : ws false l = 0) (h : take l = .ok t) : toks l = (toks (l.drop t.text.length)).map (strip t :: ·) := by
  have := toks_step (l := l) (t := t) (by rw [hw]; exact h)
  rwa [hw] at this
theorem toks_blank {c : UInt8} (l : Bs) (h : blankc c = true) : toks (c :: l) = toks l := by
  have hw := ws_blank c l h
  have e : (c :: l).drop (1 + ws false l) = l.drop (ws false l) := by rw [Nat.add_comm]; rfl
  cases ht : take (l.drop (ws false l)) with
  | ok t => rw [toks_step ht, toks_step (l := c :: l) (t := t) (by rw [hw, e]; exact ht), hw, e]
  | error z =>
    unfold toks
    by_cases hn : l.drop (ws false l) = []
    · rw [lexA_eq, lexA_eq, lexStep_nil hn, lexStep_nil (by rw [hw, e]; exact hn)]
    · rw [lexA_eq, lexA_eq, lexStep_err hn ht, lexStep_err (l := c :: l) (by rw [hw, e]; exact hn) (by rw [hw, e]; exact ht)]
/-- what a word may stand before -/
def Bd (r : Bs) : Prop := ∀ c l, r = c :: l → wordc c = false
theorem bd_cons {c : UInt8} {l : Bs} (h : wordc c = false) : Bd (c :: l) := fun _ _ e => by cases e; exact h
theorem tw_app (p : UInt8 → Bool) (w r : Bs) (hw : ∀ d ∈ w, p d = true) (hr : ∀ c l, r = c :: l → p c = false) : (w ++ r).takeWhile p = w := by
  cases r with
  | nil => rw [List.append_nil]; induction w with
    | nil => rfl
    | cons a w ih => rw [List.takeWhile_cons, if_pos (hw a (List.mem_cons_self ..)), ih (fun d hd => hw d (List.mem_cons_of_mem _ hd))]
  | cons c l => exact tw_self p w l c (hr c l rfl) hw
theorem toks_word {w r : Bs} (h : isName w = true) (hr : Bd r) : toks (w ++ r) = (toks r).map ((1, w, 0) :: ·) := by
  cases w with
  | nil => cases h
  | cons c w =>
    simp only [isName, Bool.and_eq_true, List.all_eq_true, decide_eq_true_eq, Bool.not_eq_true'] at h
    obtain ⟨⟨⟨h1, h2⟩, h3⟩, h4⟩ := h
    have hd : digit c = false ∧ blankc c = false ∧ c ≠ 47 := by
      exact u8 (fun c => letter c = true → digit c = false ∧ blankc c = false ∧ c ≠ 47) (by decide +kernel) c h1
    have hk : take (c :: w ++ r) = .ok ⟨1, c :: w, 0, 0⟩ := by
      rw [List.cons_append]
      have e := tw_app wordc (c :: w) r h2 hr
      rw [List.cons_append] at e
      simp only [take, hd.1, h1, e, if_true, Bool.false_eq_true, if_false, h4]
      rw [if_neg (by omega)]
    rw [toks_tok (by rw [List.cons_append]; exact ws_zero c _ hd.2.1 hd.2.2) hk]
    simp [strip]
theorem toks_res {w r : Bs} (h : reserved.contains w = true) (hr : Bd r) : toks (w ++ r) = (toks r).map ((3, w, 0) :: ·) := by
  have hm : ∃ c l, w = c :: l ∧ letter c = true ∧ (∀ d ∈ w, wordc d = true) ∧ w.length ≤ 20 := by
    have : w ∈ reserved := by simpa using h
    have hh : ∀ w ∈ reserved, ∃ c l, w = c :: l ∧ letter c = true ∧ (∀ d ∈ w, wordc d = true) ∧ w.length ≤ 20 := by
      intro w hw
      simp only [reserved, List.mem_cons, List.not_mem_nil, or_false] at hw
      rcases hw with rfl | rfl | rfl | rfl | rfl | rfl | rfl | rfl <;> exact ⟨_, _, rfl, by decide, by decide, by decide⟩
    exact hh w this
  obtain ⟨c, l, rfl, h1, h2, h3⟩ := hm
  have hd : digit c = false ∧ blankc c = false ∧ c ≠ 47 := by
    exact u8 (fun c => letter c = true → digit c = false ∧ blankc c = false ∧ c ≠ 47) (by decide +kernel) c h1
  have hk : take (c :: l ++ r) = .ok ⟨3, c :: l, 0, 0⟩ := by
    rw [List.cons_append]
    have e := tw_app wordc (c :: l) r h2 hr
    rw [List.cons_append] at e
    simp only [take, hd.1, h1, e, if_true, Bool.false_eq_true, if_false, h]
    rw [if_neg (by omega)]
  rw [toks_tok (by rw [List.cons_append]; exact ws_zero c _ hd.2.1 hd.2.2) hk]
  simp [strip]
theorem toks_sign {c : UInt8} {r : Bs} (h : signc c = true) (hr : c = 61 → ∀ d l, r = d :: l → d ≠ 61) : toks (c :: r) = (toks r).map ((4, [c], 0) :: ·) := by
  have hd : digit c = false ∧ letter c = false ∧ blankc c = false ∧ c ≠ 47 := by
    exact u8 (fun c => signc c = true → digit c = false ∧ letter c = false ∧ blankc c = false ∧ c ≠ 47) (by decide +kernel) c h
  have hk : take (c :: r) = .ok ⟨4, [c], 0, 0⟩ := by
    have e : ((c :: r).take 2 == [61, 61]) = false := by
      cases r with
      | nil => simp
      | cons d l =>
        simp only [List.take_succ_cons, List.take_zero]
        cases hb : ([c, d] == [61, 61] : Bool) with
        | false => rfl
        | true =>
          have : [c, d] = ([61, 61] : Bs) := by simpa using hb
          injection this with a b
          injection b with b _
          exact absurd b (hr a d l rfl)
    simp only [take, hd.1, hd.2.1, h, e, if_true, Bool.false_eq_true, if_false]
  rw [toks_tok (ws_zero c _ hd.2.2.1 hd.2.2.2) hk]
  simp [strip]
theorem toks_eq (r : Bs) : toks (61 :: 61 :: r) = (toks r).map ((4, [61, 61], 0) :: ·) := by
  rw [toks_tok (l := 61 :: 61 :: r) (t := ⟨4, [61, 61], 0, 0⟩) (ws_zero 61 _ (by decide) (by decide)) (by rfl)]
  simp [strip]
theorem dec_digits (u : Nat) : ∀ d ∈ Lib.decDigits u, digit d = true := by
  induction u using Nat.strongRecOn with
  | _ u ih =>
    have hg : ∀ k, k < 10 → digit (UInt8.ofNat (48 + k)) = true := by decide
    rw [Lib.decDigits]
    split
    · rename_i h
      intro d hd
      rw [List.mem_singleton] at hd
      subst hd
      exact hg u h
    · intro d hd
      rcases List.mem_append.1 hd with hd | hd
      · exact ih (u / 10) (by omega) d hd
      · rw [List.mem_singleton] at hd
        subst hd
        exact hg _ (by omega)
theorem dec_val (u : Nat) (hu : u < 1152921504606846976) : numVal 0 (Lib.decDigits u) = some u := by
  induction u using Nat.strongRecOn with
  | _ u ih =>
    rw [Lib.decDigits]
    split
    · rename_i h
      simp only [numVal, UInt8.toNat_ofNat']
      rw [if_pos (by omega)]
      congr 1; omega
    · rename_i h
      rw [numVal_append (ih (u / 10) (by omega) (by omega))]
      simp only [numVal, UInt8.toNat_ofNat']
      rw [if_pos (by omega)]
      congr 1; omega
theorem dec_ne (u : Nat) : ∃ c l, Lib.decDigits u = c :: l := by
  rw [Lib.decDigits]
  split
  · exact ⟨_, _, rfl⟩
  · cases h : Lib.decDigits (u / 10) with
    | nil => exact ⟨_, _, rfl⟩
    | cons c l => exact ⟨_, _, rfl⟩
theorem toks_num {u : Nat} {r : Bs} (hu : u < 1152921504606846976) (hr : Bd r) : toks (Lib.decDigits u ++ r) = (toks r).map ((2, Lib.decDigits u, u) :: ·) := by
  obtain ⟨c, l, e⟩ := dec_ne u
  have h2 := dec_digits u
  have hv := dec_val u hu
  rw [e] at h2 hv ⊢
  have h1 : digit c = true := h2 c (List.mem_cons_self ..)
  have hd : blankc c = false ∧ c ≠ 47 := by
    exact u8 (fun c => digit c = true → blankc c = false ∧ c ≠ 47) (by decide +kernel) c h1
  have hk : take (c :: l ++ r) = .ok ⟨2, c :: l, u, 0⟩ := by
    rw [List.cons_append]
    have e := tw_app digit (c :: l) r h2 (fun d l' h => by have := hr d l' h; simp only [wordc, Bool.or_eq_false_iff] at this; exact this.1.2)
    rw [List.cons_append] at e
    simp only [take, h1, e, if_true, hv]
  rw [toks_tok (by rw [List.cons_append]; exact ws_zero c _ hd.1 hd.2) hk]
  simp [strip]
theorem toks_blanks (n : Nat) (l : Bs) : toks (List.replicate n 32 ++ l) = toks l := by
  induction n with
  | zero => rfl
  | succ n ih => rw [List.replicate_succ, List.cons_append, toks_blank _ (by decide), ih]
end Px
set_option linter.unusedSimpArgs false
set_option linter.unusedVariables false
/- The tokens of a printed expression. -/
namespace Go.Proofs.YtlhnfgnihakcfaaDoor.Ax
open Go.RowKit Hp Kn Px
abbrev EX := S40
abbrev ST := S64
/-- an expression that is valid, by its kind -/
inductive VE (n : Nat) : EX → Prop
  | num (u : Nat) (h : u < 1152921504606846976) : VE n ⟨1, 0, (u : Int), ⟨#[]⟩, []⟩
  | var (s : ByteArray) (h : isName (bts s) = true) : VE n ⟨2, 0, 0, s, []⟩
  | idx (s : ByteArray) (h : isName (bts s) = true) (a : EX) (ha : exprB n a = true) (oa : OkE a) : VE n ⟨3, 0, 0, s, [a]⟩
  | op (o : Nat) (h1 : 1 ≤ o) (h7 : o ≤ 7) (a b : EX) (ha : exprB n a = true) (oa : OkE a) (hb : exprB n b = true) (ob : OkE b) : VE n ⟨4, (o : Int), 0, ⟨#[]⟩, [a, b]⟩
  | no (a : EX) (ha : exprB n a = true) (oa : OkE a) : VE n ⟨5, 0, 0, ⟨#[]⟩, [a]⟩
  | sel (a b c : EX) (ha : exprB n a = true) (oa : OkE a) (hb : exprB n b = true) (ob : OkE b) (hc : exprB n c = true) (oc : OkE c) : VE n ⟨6, 0, 0, ⟨#[]⟩, [a, b, c]⟩
theorem ve_of {n : Nat} {x : EX} (hO : OkE x) (h : exprB (n + 1) x = true) : VE n x := by
  obtain ⟨o0, o1, o3, o4, ok⟩ := hO
  have hk : ∀ a ∈ x.f4, exprB n a = true := by simp only [exprB, Bool.and_eq_true, List.all_eq_true] at h; exact h.2
  obtain ⟨f0, f1, f2, f3, f4⟩ := x
  simp only [exprB, Bool.and_eq_true, shapeOk] at h
  obtain ⟨⟨⟨⟨⟨⟨hkn, ho⟩, hn⟩, hs⟩, hl⟩, hkd⟩, _⟩ := h
  simp only at *
  have hkn : f0 = 1 ∨ f0 = 2 ∨ f0 = 3 ∨ f0 = 4 ∨ f0 = 5 ∨ f0 = 6 := by
    simp only [known, Bool.or_eq_true, beq_iff_eq] at hkn; omega
  have mem : ∀ a ∈ f4, exprB n a = true ∧ OkE a := fun a ha => ⟨hk a ha, ok a ha⟩
  rcases hkn with rfl | rfl | rfl | rfl | rfl | rfl
  · simp [bareOp] at ho; simp [bareName] at hs; simp [kidsN] at hl; simp [kindOk] at hkd
    subst ho; subst hl
    obtain rfl : f3 = ⟨#[]⟩ := (str_eq _ _).1 (by simp [hs])
    obtain ⟨u, rfl⟩ : ∃ u : Nat, f2 = (u : Int) := ⟨f2.toNat, by omega⟩
    exact .num u (by omega)
  · simp [bareOp] at ho; simp [bareNum] at hn; simp [kidsN] at hl; simp [kindOk] at hkd
    subst ho; subst hn; subst hl
    exact .var f3 hkd
  · simp [bareOp] at ho; simp [bareNum] at hn; simp [kidsN] at hl; simp [kindOk] at hkd
    subst ho; subst hn
    obtain ⟨a, rfl⟩ := List.length_eq_one_iff.1 (show f4.length = 1 by omega)
    have := mem a (by simp)
    exact .idx f3 hkd a this.1 this.2
  · simp [bareNum] at hn; simp [bareName] at hs; simp [kidsN] at hl; simp [kindOk] at hkd
    subst hn
    obtain rfl : f3 = ⟨#[]⟩ := (str_eq _ _).1 (by simp [hs])
    obtain ⟨a, b, rfl⟩ : ∃ a b, f4 = [a, b] := by
      match f4, (show f4.length = 2 by omega) with
      | [a, b], _ => exact ⟨a, b, rfl⟩
    obtain ⟨o, rfl⟩ : ∃ o : Nat, f1 = (o : Int) := ⟨f1.toNat, by omega⟩
    have h1 := mem a (by simp)
    have h2 := mem b (by simp)
    exact .op o (by omega) (by omega) a b h1.1 h1.2 h2.1 h2.2
  · simp [bareOp] at ho; simp [bareNum] at hn; simp [bareName] at hs; simp [kidsN] at hl
    subst ho; subst hn
    obtain rfl : f3 = ⟨#[]⟩ := (str_eq _ _).1 (by simp [hs])
    obtain ⟨a, rfl⟩ := List.length_eq_one_iff.1 (show f4.length = 1 by omega)
    have := mem a (by simp)
    exact .no a this.1 this.2
  · simp [bareOp] at ho; simp [bareNum] at hn; simp [bareName] at hs; simp [kidsN] at hl
    subst ho; subst hn
    obtain rfl : f3 = ⟨#[]⟩ := (str_eq _ _).1 (by simp [hs])
    obtain ⟨a, b, c, rfl⟩ : ∃ a b c, f4 = [a, b, c] := by
      match f4, (show f4.length = 3 by omega) with
      | [a, b, c], _ => exact ⟨a, b, c, rfl⟩
    have h1 := mem a (by simp)
    have h2 := mem b (by simp)
    have h3 := mem c (by simp)
    exact .sel a b c h1.1 h1.2 h2.1 h2.2 h3.1 h3.2
theorem bts_two (a b : ByteArray) : bts (a ++ b) = bts a ++ bts b := by unfold bts; simp
theorem bts_lit (l : List UInt8) : bts ⟨l.toArray⟩ = l := by unfold bts; simp
theorem bts_dec (u : Nat) : bts (dec u) = Lib.decDigits u := bts_lit _
def sg (l : Bs) : T3 := (4, l, 0)
def hldT (y : EX) (least : Int) (ts : List T3) : List T3 := if strengthF y < least then sg [40] :: (ts ++ [sg [41]]) else ts
/-- the tokens of an expression of at most that many levels -/
def tkE : Nat → EX → List T3
  | 0, _ => []
  | n + 1, x =>
    if x.f0 = 1 then [(2, Lib.decDigits x.f2.toNat, x.f2.toNat)]
    else if x.f0 = 2 then [(1, bts x.f3, 0)]
    else if x.f0 = 3 then (1, bts x.f3, 0) :: sg [91] :: (tkE n (kidE x 0) ++ [sg [93]])
    else if x.f0 = 5 then sg [33] :: hldT (kidE x 0) 8 (tkE n (kidE x 0))
    else if x.f0 = 6 then hldT (kidE x 0) 2 (tkE n (kidE x 0)) ++ sg [63] :: (tkE n (kidE x 1) ++ sg [58] :: tkE n (kidE x 2))
    else hldT (kidE x 0) (strengthL.getD x.f1.toNat 0) (tkE n (kidE x 0)) ++ sg (bts (signL.getD x.f1.toNat ⟨#[]⟩)) :: hldT (kidE x 1) (strengthL.getD x.f1.toNat 0 + 1) (tkE n (kidE x 1))
/-- a text whose tokens are these, before any text that begins with no letter or digit -/
def Tks (b : Bs) (ts : List T3) : Prop := ∀ r, Bd r → toks (b ++ r) = (toks r).map (ts ++ ·)
theorem tks_app {b c : Bs} {ts us : List T3} (h : Tks b ts) (hc : ∃ d l, c = d :: l ∧ wordc d = false) (k : Tks c us) : Tks (b ++ c) (ts ++ us) := by
  obtain ⟨d, l, rfl, hd⟩ := hc
  intro r hr
  rw [List.append_assoc, h _ (by rw [List.cons_append]; exact bd_cons hd), k r hr]
  cases toks r with
  | none => rfl
  | some z => simp
/-- the same, before anything -/
def Tka (b : Bs) (ts : List T3) : Prop := ∀ r, toks (b ++ r) = (toks r).map (ts ++ ·)
theorem Tka.tks {b : Bs} {ts : List T3} (h : Tka b ts) : Tks b ts := fun r _ => h r
theorem tka_sign {c : UInt8} (h : signc c = true) (h61 : c ≠ 61) : Tka [c] [sg [c]] := fun r => toks_sign h (fun e => absurd e h61)
theorem tka_nil : Tka [] [] := fun r => by cases h : toks r <;> simp [h]
theorem tka_blank {c : UInt8} (h : blankc c = true) {b : Bs} {ts : List T3} (k : Tka b ts) : Tka (c :: b) ts := fun r => by rw [List.cons_append, toks_blank _ h]; exact k r
theorem tka_cons {c : UInt8} (h : signc c = true) (h61 : c ≠ 61) {b : Bs} {ts : List T3} (k : Tka b ts) : Tka (c :: b) (sg [c] :: ts) := fun r => by
  rw [List.cons_append, toks_sign h (fun e => absurd e h61), k r]
  cases toks r <;> simp [sg]
theorem tka_app {b c : Bs} {ts us : List T3} (h : Tka b ts) (k : Tka c us) : Tka (b ++ c) (ts ++ us) := fun r => by
  rw [List.append_assoc, h, k]
  cases toks r <;> simp
theorem tks_after {b c : Bs} {ts us : List T3} (h : Tka b ts) (k : Tks c us) : Tks (b ++ c) (ts ++ us) := fun r hr => by
  rw [List.append_assoc, h, k r hr]
  cases toks r <;> simp
/-- a text of the first manner, closed by one that begins with a sign or a blank -/
theorem tka_close {b c : Bs} {ts us : List T3} (h : Tks b ts) (hc : ∃ d l, c = d :: l ∧ wordc d = false) (k : Tka c us) : Tka (b ++ c) (ts ++ us) := fun r => by
  obtain ⟨d, l, rfl, hd⟩ := hc
  rw [List.append_assoc, h _ (by rw [List.cons_append]; exact bd_cons hd), k]
  cases toks r <;> simp
theorem tks_hld {y : EX} {l : Int} {t : ByteArray} {ts : List T3} (h : Tks (bts t) ts) : Tks (bts (hld y l t)) (hldT y l ts) := by
  unfold hld hldT wrapT
  by_cases hy : strengthF y < l
  · simp only [hy, decide_true, if_true]
    have : bts (⟨#[40]⟩ ++ t ++ ⟨#[41]⟩) = [40] ++ (bts t ++ [41]) := by rw [bts_two, bts_two]; simp [bts]
    rw [this]
    exact (tka_app (tka_sign (by decide) (by decide)) (tka_close h ⟨41, [], rfl, by decide⟩ (tka_sign (by decide) (by decide)))).tks
  · simp only [hy, decide_false, if_false, Bool.false_eq_true]
    exact h
theorem tka_op {o : Nat} (h1 : 1 ≤ o) (h7 : o ≤ 7) : Tka (32 :: (bts (signL.getD o ⟨#[]⟩) ++ [32])) [sg (bts (signL.getD o ⟨#[]⟩))] := by
  refine tka_blank (by decide) ?_
  have h : o = 1 ∨ o = 2 ∨ o = 3 ∨ o = 4 ∨ o = 5 ∨ o = 6 ∨ o = 7 := by omega
  rcases h with rfl | rfl | rfl | rfl | rfl | rfl | rfl
  · exact tka_cons (c := 43) (by decide) (by decide) (tka_blank (by decide) tka_nil)
  · exact tka_cons (c := 45) (by decide) (by decide) (tka_blank (by decide) tka_nil)
  · exact tka_cons (c := 42) (by decide) (by decide) (tka_blank (by decide) tka_nil)
  · exact tka_cons (c := 60) (by decide) (by decide) (tka_blank (by decide) tka_nil)
  · intro r
    show toks (61 :: 61 :: ([32] ++ r)) = _
    rw [toks_eq, tka_blank (c := 32) (by decide) tka_nil r]
    cases toks r <;> simp [sg] <;> rfl
  · exact tka_cons (c := 38) (by decide) (by decide) (tka_blank (by decide) tka_nil)
  · exact tka_cons (c := 124) (by decide) (by decide) (tka_blank (by decide) tka_nil)
theorem tks_txt : ∀ (n : Nat) (x : EX), OkE x → exprB n x = true → Tks (bts (txt n x)) (tkE n x)
  | 0, x, _, h => by cases h
  | n + 1, x, hO, h => by
    cases ve_of hO h with
    | num u hu =>
      intro r hr
      simp only [txt, tkE, if_true, Int.toNat_natCast, bts_dec]
      exact toks_num hu hr
    | var s hs =>
      intro r hr
      simp [txt, tkE]
      exact toks_word hs hr
    | idx s hs a ha oa =>
      have ih := tks_txt n a oa ha
      have e1 : bts (txt (n + 1) ⟨3, 0, 0, s, [a]⟩) = bts s ++ ([91] ++ (bts (txt n a) ++ [93])) := by
        simp [txt, bts_two, kidE]; simp [bts]
      have e2 : tkE (n + 1) ⟨3, 0, 0, s, [a]⟩ = [(1, bts s, 0)] ++ ([sg [91]] ++ (tkE n a ++ [sg [93]])) := by simp [tkE, kidE]
      rw [e1, e2]
      exact tks_app (fun r hr => toks_word hs hr) ⟨91, _, rfl, by decide⟩ (tka_app (tka_sign (by decide) (by decide)) (tka_close ih ⟨93, _, rfl, by decide⟩ (tka_sign (by decide) (by decide)))).tks
    | op o h1 h7 a b ha oa hb ob =>
      have iha := tks_hld (y := a) (l := strengthL.getD o 0) (tks_txt n a oa ha)
      have ihb := tks_hld (y := b) (l := strengthL.getD o 0 + 1) (tks_txt n b ob hb)
      have e1 : bts (txt (n + 1) ⟨4, (o : Int), 0, ⟨#[]⟩, [a, b]⟩) = bts (hld a (strengthL.getD o 0) (txt n a)) ++ ((32 :: (bts (signL.getD o ⟨#[]⟩) ++ [32])) ++ bts (hld b (strengthL.getD o 0 + 1) (txt n b))) := by
        simp [txt, bts_two, kidE]; simp [bts]
      have e2 : tkE (n + 1) ⟨4, (o : Int), 0, ⟨#[]⟩, [a, b]⟩ = hldT a (strengthL.getD o 0) (tkE n a) ++ ([sg (bts (signL.getD o ⟨#[]⟩))] ++ hldT b (strengthL.getD o 0 + 1) (tkE n b)) := by simp [tkE, kidE]
      rw [e1, e2]
      exact tks_app iha ⟨32, _, rfl, by decide⟩ (tks_after (tka_op h1 h7) ihb)
    | no a ha oa =>
      have ih := tks_hld (y := a) (l := 8) (tks_txt n a oa ha)
      have e1 : bts (txt (n + 1) ⟨5, 0, 0, ⟨#[]⟩, [a]⟩) = [33] ++ bts (hld a 8 (txt n a)) := by
        simp [txt, bts_two, kidE]; simp [bts]
      have e2 : tkE (n + 1) ⟨5, 0, 0, ⟨#[]⟩, [a]⟩ = [sg [33]] ++ hldT a 8 (tkE n a) := by simp [tkE, kidE]
      rw [e1, e2]
      exact tks_after (tka_sign (by decide) (by decide)) ih
    | sel a b c ha oa hb ob hc oc =>
      have iha := tks_hld (y := a) (l := 2) (tks_txt n a oa ha)
      have ihb := tks_txt n b ob hb
      have ihc := tks_txt n c oc hc
      have e1 : bts (txt (n + 1) ⟨6, 0, 0, ⟨#[]⟩, [a, b, c]⟩) = bts (hld a 2 (txt n a)) ++ ([32, 63, 32] ++ (bts (txt n b) ++ ([32, 58, 32] ++ bts (txt n c)))) := by
        simp [txt, bts_two, kidE]; simp [bts]
      have e2 : tkE (n + 1) ⟨6, 0, 0, ⟨#[]⟩, [a, b, c]⟩ = hldT a 2 (tkE n a) ++ ([sg [63]] ++ (tkE n b ++ ([sg [58]] ++ tkE n c))) := by simp [tkE, kidE]
      rw [e1, e2]
      have s1 : ∀ c : UInt8, signc c = true → c ≠ 61 → Tka [32, c, 32] [sg [c]] := fun c h k => tka_blank (by decide) (tka_cons h k (tka_blank (by decide) tka_nil))
      exact tks_app iha ⟨32, _, rfl, by decide⟩ (tks_after (s1 63 (by decide) (by decide)) (tks_app ihb ⟨32, _, rfl, by decide⟩ (tks_after (s1 58 (by decide) (by decide)) ihc)))
end Go.Proofs.YtlhnfgnihakcfaaDoor.Ax
set_option linter.unusedSimpArgs false
set_option linter.unusedVariables false
/- The tokens of a printed program. -/
namespace Go.Proofs.YtlhnfgnihakcfaaDoor.Ax
open Go.RowKit Hp Kn Px
/-- a statement that is valid, by its kind -/
inductive VS (n : Nat) : ST → Prop
  | set (s : ByteArray) (h : isName (bts s) = true) (e : EX) (he : exprB n e = true) (oe : OkE e) : VS n ⟨1, s, [e], [], []⟩
  | store (s : ByteArray) (h : isName (bts s) = true) (i e : EX) (hi : exprB n i = true) (oi : OkE i) (he : exprB n e = true) (oe : OkE e) : VS n ⟨2, s, [i, e], [], []⟩
  | cond (c : EX) (hc : exprB n c = true) (oc : OkE c) (t e : List ST) (ht : t.all (stmtB n) = true) (ot : ∀ y ∈ t, OkS y) (he : e.all (stmtB n) = true) (oe : ∀ y ∈ e, OkS y) : VS n ⟨3, ⟨#[]⟩, [c], t, e⟩
  | loop (s : ByteArray) (h : isName (bts s) = true) (a b : EX) (ha : exprB n a = true) (oa : OkE a) (hb : exprB n b = true) (ob : OkE b) (t : List ST) (ht : t.all (stmtB n) = true) (ot : ∀ y ∈ t, OkS y) : VS n ⟨4, s, [a, b], t, []⟩
  | out (e : EX) (he : exprB n e = true) (oe : OkE e) : VS n ⟨5, ⟨#[]⟩, [e], [], []⟩
theorem vs_of {n : Nat} {x : ST} (hO : OkS x) (h : stmtB (n + 1) x = true) : VS n x := by
  obtain ⟨o1, o2, o3, o4, k2, k3, k4⟩ := hO
  obtain ⟨f0, f1, f2, f3, f4⟩ := x
  simp only [stmtB, Bool.and_eq_true, shapeS, decide_eq_true_eq] at h
  obtain ⟨⟨⟨⟨⟨⟨h1, h5⟩, hl⟩, hn⟩, he⟩, ht⟩, ⟨⟨a2, a3⟩, a4⟩⟩ := h
  simp only at *
  have mem : ∀ a ∈ f2, exprB n a = true ∧ OkE a := fun a ha => ⟨List.all_eq_true.1 a2 a ha, k2 a ha⟩
  have hk : f0 = 1 ∨ f0 = 2 ∨ f0 = 3 ∨ f0 = 4 ∨ f0 = 5 := by omega
  have list2 : f2.length = 2 → ∃ a b, f2 = [a, b] := fun h => by
    match f2, h with
    | [a, b], _ => exact ⟨a, b, rfl⟩
  rcases hk with rfl | rfl | rfl | rfl | rfl
  · simp [partsN] at hl; simp [named] at hn; simp at he; simp at ht
    obtain ⟨a, rfl⟩ := List.length_eq_one_iff.1 (show f2.length = 1 by omega)
    subst he; subst ht
    exact .set f1 hn a (mem a (by simp)).1 (mem a (by simp)).2
  · simp [partsN] at hl; simp [named] at hn; simp at he; simp at ht
    obtain ⟨a, b, rfl⟩ := list2 (by omega)
    subst he; subst ht
    exact .store f1 hn a b (mem a (by simp)).1 (mem a (by simp)).2 (mem b (by simp)).1 (mem b (by simp)).2
  · simp [partsN] at hl; simp [named] at hn
    obtain ⟨a, rfl⟩ := List.length_eq_one_iff.1 (show f2.length = 1 by omega)
    obtain rfl : f1 = ⟨#[]⟩ := (str_eq _ _).1 (by simp [hn])
    exact .cond a (mem a (by simp)).1 (mem a (by simp)).2 f3 f4 a3 k3 a4 k4
  · simp [partsN] at hl; simp [named] at hn; simp at he
    obtain ⟨a, b, rfl⟩ := list2 (by omega)
    subst he
    exact .loop f1 hn a b (mem a (by simp)).1 (mem a (by simp)).2 (mem b (by simp)).1 (mem b (by simp)).2 f3 a3 k3
  · simp [partsN] at hl; simp [named] at hn; simp at he; simp at ht
    obtain ⟨a, rfl⟩ := List.length_eq_one_iff.1 (show f2.length = 1 by omega)
    obtain rfl : f1 = ⟨#[]⟩ := (str_eq _ _).1 (by simp [hn])
    subst he; subst ht
    exact .out a (mem a (by simp)).1 (mem a (by simp)).2
def wd (l : Bs) : T3 := (3, l, 0)
def nm (u : Nat) : T3 := (2, Lib.decDigits u, u)
def id3 (s : ByteArray) : T3 := (1, bts s, 0)
/-- the tokens of a statement of at most that many levels -/
def tkS : Nat → ST → List T3
  | 0, _ => []
  | n + 1, x =>
    if x.f0 = 1 then id3 x.f1 :: sg [61] :: (tkE n (kidS x 0) ++ [sg [59]])
    else if x.f0 = 2 then id3 x.f1 :: sg [91] :: (tkE n (kidS x 0) ++ sg [93] :: sg [61] :: (tkE n (kidS x 1) ++ [sg [59]]))
    else if x.f0 = 5 then wd [111, 117, 116] :: (tkE n (kidS x 0) ++ [sg [59]])
    else if x.f0 = 3 then wd [105, 102] :: sg [40] :: (tkE n (kidS x 0) ++ sg [41] :: sg [123] :: (x.f3.flatMap (tkS n) ++ sg [125] :: (if 0 < x.f4.length then wd [101, 108, 115, 101] :: sg [123] :: (x.f4.flatMap (tkS n) ++ [sg [125]]) else [])))
    else wd [102, 111, 114] :: id3 x.f1 :: sg [61] :: (tkE n (kidS x 0) ++ wd [116, 111] :: (tkE n (kidS x 1) ++ sg [123] :: (x.f3.flatMap (tkS n) ++ [sg [125]])))
def tkI (x : S55) : List T3 := wd [105, 110] :: id3 x.f0 :: ((if x.f3 = 0 then [] else [sg [91], nm x.f3.toNat, sg [93]]) ++ [wd [102, 114, 111, 109], nm x.f1.toNat, sg [58], nm x.f2.toNat, sg [59]])
def tkA (x : S58) : List T3 := [wd [97, 114, 114, 97, 121], id3 x.f0, sg [91], nm x.f1.toNat, sg [93], sg [59]]
def tkP (l0 : List S55) (l1 : List S58) (l2 : List ST) : List T3 := l0.flatMap tkI ++ l1.flatMap tkA ++ l2.flatMap (tkS 24)
theorem tks_res {w : Bs} (h : reserved.contains w = true) : Tks w [wd w] := fun r hr => toks_res h hr
theorem tks_name {s : ByteArray} (h : isName (bts s) = true) : Tks (bts s) [id3 s] := fun r hr => toks_word h hr
theorem tks_num {u : Nat} (h : u < 1152921504606846976) : Tks (Lib.decDigits u) [nm u] := fun r hr => toks_num h hr
theorem tka_ind (m : Nat) {b : Bs} {ts : List T3} (k : Tka b ts) : Tka (Lib.repeatL [32, 32] m ++ b) ts := by
  have : ∀ j : Nat, Tka (List.replicate j 32 ++ b) ts := fun j r => by rw [List.append_assoc, toks_blanks]; exact k r
  have e : ∀ m : Nat, Lib.repeatL ([32, 32] : Bs) m = List.replicate (2 * m) 32 := by
    intro m
    induction m with
    | zero => rfl
    | succ m ih => rw [show 2 * (m + 1) = 2 * m + 1 + 1 by omega, List.replicate_succ, List.replicate_succ, ← ih]; simp [Lib.repeatL, List.replicate_succ]
  rw [e]
  exact this _
theorem tka_nl : Tka [10] [] := tka_blank (by decide) tka_nil
theorem tka_flat {α : Type} {f : α → Bs} {g : α → List T3} {l : List α} (h : ∀ x ∈ l, Tka (f x) (g x)) : Tka (l.flatMap f) (l.flatMap g) := by
  induction l with
  | nil => exact tka_nil
  | cons a l ih => rw [List.flatMap_cons, List.flatMap_cons]; exact tka_app (h a (by simp)) (ih fun x hx => h x (by simp [hx]))
/-- a sign, or signs and blanks, read off -/
theorem a1 {c : UInt8} (h : signc c = true) (k : c ≠ 61) {b : Bs} {ts : List T3} (t : Tka b ts) : Tka (c :: b) (sg [c] :: ts) := tka_cons h k t
theorem a0 {b : Bs} {ts : List T3} (t : Tka b ts) : Tka (32 :: b) ts := tka_blank (by decide) t
theorem tka_eq {b : Bs} {ts : List T3} (t : Tka b ts) : Tka (61 :: 32 :: b) (sg [61] :: ts) := fun r => by
  show toks (61 :: 32 :: (b ++ r)) = _
  rw [toks_sign (c := 61) (by decide) (fun _ d l e => by cases e; decide), toks_blank _ (by decide), t r]
  cases toks r <;> simp [sg]
theorem line_eq (m : Nat) (ps : List ByteArray) : lineT m ps = Lib.repeatL [32, 32] m ++ (ps.flatMap bts ++ [10]) := by unfold lineT; rw [List.append_assoc]
theorem tka_st : ∀ (n : Nat) (x : ST), OkS x → stmtB n x = true → ∀ m, Tka (stT n m x) (tkS n x)
  | 0, x, _, h, _ => by cases h
  | n + 1, x, hO, h, m => by
    have kw : ∀ (w : Bs), reserved.contains w = true → ∀ {b : Bs} {ts : List T3}, Tka b ts → Tka (w ++ (32 :: b)) (wd w :: ts) := fun w hw b ts k => tka_close (tks_res hw) ⟨32, _, rfl, by decide⟩ (a0 k)
    have nl : Tka [59, 10] [sg [59]] := a1 (by decide) (by decide) tka_nl
    cases vs_of hO h with
    | set s hs e he oe =>
      have e1 : stT (n + 1) m ⟨1, s, [e], [], []⟩ = Lib.repeatL [32, 32] m ++ (bts s ++ (32 :: 61 :: 32 :: (bts (txt n e) ++ [59, 10]))) := by simp [stT, line_eq, kidS]; simp [bts]
      have e2 : tkS (n + 1) ⟨1, s, [e], [], []⟩ = [id3 s] ++ (sg [61] :: (tkE n e ++ [sg [59]])) := by simp [tkS, kidS]
      rw [e1, e2]
      exact tka_ind m (tka_close (tks_name hs) ⟨32, _, rfl, by decide⟩ (a0 (tka_eq (tka_close (tks_txt n e oe he) ⟨59, _, rfl, by decide⟩ nl))))
    | store s hs i e hi oi he oe =>
      have e1 : stT (n + 1) m ⟨2, s, [i, e], [], []⟩ = Lib.repeatL [32, 32] m ++ (bts s ++ (91 :: (bts (txt n i) ++ (93 :: 32 :: 61 :: 32 :: (bts (txt n e) ++ [59, 10]))))) := by simp [stT, line_eq, kidS]; simp [bts]
      have e2 : tkS (n + 1) ⟨2, s, [i, e], [], []⟩ = [id3 s] ++ (sg [91] :: (tkE n i ++ (sg [93] :: sg [61] :: (tkE n e ++ [sg [59]])))) := by simp [tkS, kidS]
      rw [e1, e2]
      exact tka_ind m (tka_close (tks_name hs) ⟨91, _, rfl, by decide⟩ (a1 (by decide) (by decide) (tka_close (tks_txt n i oi hi) ⟨93, _, rfl, by decide⟩ (a1 (by decide) (by decide) (a0 (tka_eq (tka_close (tks_txt n e oe he) ⟨59, _, rfl, by decide⟩ nl)))))))
    | cond c hc oc t e ht ot he oe =>
      have ih1 : Tka (t.flatMap (stT n (m + 1))) (t.flatMap (tkS n)) := tka_flat fun y hy => tka_st n y (ot y hy) (List.all_eq_true.1 ht y hy) (m + 1)
      have ih2 : Tka (e.flatMap (stT n (m + 1))) (e.flatMap (tkS n)) := tka_flat fun y hy => tka_st n y (oe y hy) (List.all_eq_true.1 he y hy) (m + 1)
      have cl : Tka [125, 10] [sg [125]] := a1 (by decide) (by decide) tka_nl
      have e1 : stT (n + 1) m ⟨3, ⟨#[]⟩, [c], t, e⟩ = (Lib.repeatL [32, 32] m ++ ([105, 102] ++ (32 :: 40 :: (bts (txt n c) ++ [41, 32, 123, 10])))) ++ (t.flatMap (stT n (m + 1)) ++ ((if 0 < e.length then (Lib.repeatL [32, 32] m ++ (125 :: 32 :: ([101, 108, 115, 101] ++ (32 :: [123, 10])))) ++ e.flatMap (stT n (m + 1)) else []) ++ (Lib.repeatL [32, 32] m ++ [125, 10]))) := by
        simp [stT, line_eq, kidS]; simp [bts]
      by_cases hl : 0 < e.length
      · have e2 : tkS (n + 1) ⟨3, ⟨#[]⟩, [c], t, e⟩ = (wd [105, 102] :: sg [40] :: (tkE n c ++ [sg [41], sg [123]])) ++ (t.flatMap (tkS n) ++ (((sg [125] :: wd [101, 108, 115, 101] :: [sg [123]]) ++ e.flatMap (tkS n)) ++ [sg [125]])) := by simp [tkS, kidS, hl]
        rw [e1, e2, if_pos hl]
        exact tka_app (tka_ind m (kw _ (by decide) (a1 (by decide) (by decide) (tka_close (tks_txt n c oc hc) ⟨41, _, rfl, by decide⟩ (a1 (by decide) (by decide) (a0 (a1 (by decide) (by decide) tka_nl))))))) (tka_app ih1 (tka_app (tka_app (tka_ind m (a1 (by decide) (by decide) (a0 (kw _ (by decide) (a1 (by decide) (by decide) tka_nl))))) ih2) (tka_ind m cl)))
      · have e2 : tkS (n + 1) ⟨3, ⟨#[]⟩, [c], t, e⟩ = (wd [105, 102] :: sg [40] :: (tkE n c ++ [sg [41], sg [123]])) ++ (t.flatMap (tkS n) ++ ([] ++ [sg [125]])) := by simp [tkS, kidS, hl]
        rw [e1, e2, if_neg hl]
        exact tka_app (tka_ind m (kw _ (by decide) (a1 (by decide) (by decide) (tka_close (tks_txt n c oc hc) ⟨41, _, rfl, by decide⟩ (a1 (by decide) (by decide) (a0 (a1 (by decide) (by decide) tka_nl))))))) (tka_app ih1 (tka_app tka_nil (tka_ind m cl)))
    | loop s hs a b ha oa hb ob t ht ot =>
      have ih1 : Tka (t.flatMap (stT n (m + 1))) (t.flatMap (tkS n)) := tka_flat fun y hy => tka_st n y (ot y hy) (List.all_eq_true.1 ht y hy) (m + 1)
      have cl : Tka [125, 10] [sg [125]] := a1 (by decide) (by decide) tka_nl
      have e1 : stT (n + 1) m ⟨4, s, [a, b], t, []⟩ = (Lib.repeatL [32, 32] m ++ ([102, 111, 114] ++ (32 :: (bts s ++ (32 :: 61 :: 32 :: (bts (txt n a) ++ (32 :: ([116, 111] ++ (32 :: (bts (txt n b) ++ [32, 123, 10])))))))))) ++ (t.flatMap (stT n (m + 1)) ++ (Lib.repeatL [32, 32] m ++ [125, 10])) := by
        simp [stT, line_eq, kidS]; simp [bts]
      have e2 : tkS (n + 1) ⟨4, s, [a, b], t, []⟩ = (wd [102, 111, 114] :: ([id3 s] ++ (sg [61] :: (tkE n a ++ (wd [116, 111] :: (tkE n b ++ [sg [123]])))))) ++ (t.flatMap (tkS n) ++ [sg [125]]) := by simp [tkS, kidS]
      rw [e1, e2]
      exact tka_app (tka_ind m (kw _ (by decide) (tka_close (tks_name hs) ⟨32, _, rfl, by decide⟩ (a0 (tka_eq (tka_close (tks_txt n a oa ha) ⟨32, _, rfl, by decide⟩ (a0 (kw _ (by decide) (tka_close (tks_txt n b ob hb) ⟨32, _, rfl, by decide⟩ (a0 (a1 (by decide) (by decide) tka_nl))))))))))) (tka_app ih1 (tka_ind m cl))
    | out e he oe =>
      have e1 : stT (n + 1) m ⟨5, ⟨#[]⟩, [e], [], []⟩ = Lib.repeatL [32, 32] m ++ ([111, 117, 116] ++ (32 :: (bts (txt n e) ++ [59, 10]))) := by simp [stT, line_eq, kidS]; simp [bts]
      have e2 : tkS (n + 1) ⟨5, ⟨#[]⟩, [e], [], []⟩ = wd [111, 117, 116] :: (tkE n e ++ [sg [59]]) := by simp [tkS, kidS]
      rw [e1, e2]
      exact tka_ind m (kw _ (by decide) (tka_close (tks_txt n e oe he) ⟨59, _, rfl, by decide⟩ nl))
theorem tka_in {x : S55} (h : inB x = true) : Tka (inT x) (tkI x) := by
  have ok := inB_ok h
  have hn : isName (bts x.f0) = true := by simp only [inB, Bool.and_eq_true] at h; exact h.1.1.1.1.1.1
  obtain ⟨f0, f1, f2, f3⟩ := x
  unfold InOk at ok
  simp only at ok hn
  have kw : ∀ (w : Bs), reserved.contains w = true → ∀ {b : Bs} {ts : List T3}, Tka b ts → Tka (w ++ (32 :: b)) (wd w :: ts) := fun w hw b ts k => tka_close (tks_res hw) ⟨32, _, rfl, by decide⟩ (a0 k)
  have nl : Tka [59, 10] [sg [59]] := a1 (by decide) (by decide) tka_nl
  have tail : Tka (32 :: ([102, 114, 111, 109] ++ (32 :: (Lib.decDigits f1.toNat ++ (58 :: 32 :: (Lib.decDigits f2.toNat ++ [59, 10])))))) (wd [102, 114, 111, 109] :: ([nm f1.toNat] ++ (sg [58] :: ([nm f2.toNat] ++ [sg [59]])))) :=
    a0 (kw _ (by decide) (tka_close (tks_num (by omega)) ⟨58, _, rfl, by decide⟩ (a1 (by decide) (by decide) (a0 (tka_close (tks_num (by omega)) ⟨59, _, rfl, by decide⟩ nl)))))
  by_cases h3 : f3 = 0
  · have e1 : inT ⟨f0, f1, f2, f3⟩ = [105, 110] ++ (32 :: (bts f0 ++ (32 :: ([102, 114, 111, 109] ++ (32 :: (Lib.decDigits f1.toNat ++ (58 :: 32 :: (Lib.decDigits f2.toNat ++ [59, 10])))))))) := by
      simp [inT, line_eq, inP, sizeT, h3, bts_dec]; simp [bts, Lib.repeatL]
    have e2 : tkI ⟨f0, f1, f2, f3⟩ = wd [105, 110] :: ([id3 f0] ++ (wd [102, 114, 111, 109] :: ([nm f1.toNat] ++ (sg [58] :: ([nm f2.toNat] ++ [sg [59]]))))) := by simp [tkI, h3]
    rw [e1, e2]
    exact kw _ (by decide) (tka_close (tks_name hn) ⟨32, _, rfl, by decide⟩ tail)
  · have e1 : inT ⟨f0, f1, f2, f3⟩ = [105, 110] ++ (32 :: (bts f0 ++ (91 :: (Lib.decDigits f3.toNat ++ (93 :: (32 :: ([102, 114, 111, 109] ++ (32 :: (Lib.decDigits f1.toNat ++ (58 :: 32 :: (Lib.decDigits f2.toNat ++ [59, 10]))))))))))) := by
      simp [inT, line_eq, inP, sizeT, h3, bts_two, bts_dec]; simp [bts, Lib.repeatL]
    have e2 : tkI ⟨f0, f1, f2, f3⟩ = wd [105, 110] :: ([id3 f0] ++ (sg [91] :: ([nm f3.toNat] ++ (sg [93] :: (wd [102, 114, 111, 109] :: ([nm f1.toNat] ++ (sg [58] :: ([nm f2.toNat] ++ [sg [59]])))))))) := by simp [tkI, h3]
    rw [e1, e2]
    exact kw _ (by decide) (tka_close (tks_name hn) ⟨91, _, rfl, by decide⟩ (a1 (by decide) (by decide) (tka_close (tks_num (by omega)) ⟨93, _, rfl, by decide⟩ (a1 (by decide) (by decide) tail))))
theorem tka_ar {x : S58} (h : arB x = true) : Tka (arT x) (tkA x) := by
  have ok := arB_ok h
  have hn : isName (bts x.f0) = true := by simp only [arB, Bool.and_eq_true] at h; exact h.1.1
  obtain ⟨f0, f1⟩ := x
  unfold ArOk at ok
  simp only at ok hn
  have e1 : arT ⟨f0, f1⟩ = [97, 114, 114, 97, 121] ++ (32 :: (bts f0 ++ (91 :: (Lib.decDigits f1.toNat ++ [93, 59, 10])))) := by
    simp [arT, line_eq, arP, bts_dec]; simp [bts, Lib.repeatL]
  have e2 : tkA ⟨f0, f1⟩ = wd [97, 114, 114, 97, 121] :: ([id3 f0] ++ (sg [91] :: ([nm f1.toNat] ++ [sg [93], sg [59]]))) := by simp [tkA]
  rw [e1, e2]
  exact tka_close (tks_res (by decide)) ⟨32, _, rfl, by decide⟩ (a0 (tka_close (tks_name hn) ⟨91, _, rfl, by decide⟩ (a1 (by decide) (by decide) (tka_close (tks_num (by omega)) ⟨93, _, rfl, by decide⟩ (a1 (by decide) (by decide) (a1 (by decide) (by decide) tka_nl))))))
/-- the tokens of a valid program's text -/
theorem toks_fmt {l0 : List S55} {l1 : List S58} {l2 : List ST} (hO : ∀ x ∈ l2, OkS x) (h0 : l0.all inB = true) (h1 : l1.all arB = true) (h2 : l2.all (stmtB 24) = true) : toks (fmtB l0 l1 l2) = some (tkP l0 l1 l2) := by
  have t : Tka (fmtB l0 l1 l2) (tkP l0 l1 l2) := tka_app (tka_app (tka_flat fun x hx => tka_in (List.all_eq_true.1 h0 x hx)) (tka_flat fun x hx => tka_ar (List.all_eq_true.1 h1 x hx))) (tka_flat fun x hx => tka_st 24 x (hO x hx) (List.all_eq_true.1 h2 x hx) 0)
  have := t []
  rw [List.append_nil, toks_nil] at this
  simpa using this
end Go.Proofs.YtlhnfgnihakcfaaDoor.Ax
set_option linter.unusedSimpArgs false
set_option linter.unusedVariables false
/- A parser of tokens: its steps do no harm to one another when there is more fuel, and a printed expression is read back. -/
namespace Go.Proofs.YtlhnfgnihakcfaaDoor.Ax
open Go.RowKit Hp Kn Px
def eNum (u : Nat) : EX := ⟨1, 0, (u : Int), ⟨#[]⟩, []⟩
def isT (s : Bs) : List T3 → Bool
  | [] => false
  | t :: _ => t.2.1 == s && (t.1 == 3 || t.1 == 4)
def opS (s : Bs) : Option (Nat × Int) :=
  if s = [124] then some (1, 7) else if s = [38] then some (2, 6) else if s = [61, 61] then some (3, 5) else if s = [60] then some (4, 4)
  else if s = [43] then some (5, 1) else if s = [45] then some (5, 2) else if s = [42] then some (6, 3) else none
/-- the operator at the head -/
def opT : List T3 → Option (Nat × Int)
  | [] => none
  | t :: _ => if t.1 = 4 then opS t.2.1 else none
abbrev Rd (α : Type) := Except Nat (α × List T3)
def nx {α β : Type} (x : Rd α) (f : α → List T3 → Rd β) : Rd β := match x with
  | .error e => .error e
  | .ok z => f z.1 z.2
def mustT (s : Bs) (ts : List T3) : Rd Unit := if isT s ts then .ok ((), ts.tail) else .error ts.length
def bs (l : Bs) : ByteArray := ⟨l.toArray⟩
mutual
def pE : Nat → List T3 → Rd EX
  | 0, ts => .error ts.length
  | k + 1, ts => nx (pC k 1 ts) fun c r => if isT [63] r then nx (pE k r.tail) fun a r => nx (mustT [58] r) fun _ r => nx (pE k r) fun b r => .ok (⟨6, 0, 0, ⟨#[]⟩, [c, a, b]⟩, r) else .ok (c, r)
def pC : Nat → Nat → List T3 → Rd EX
  | 0, _, ts => .error ts.length
  | k + 1, least, ts => nx (pA k ts) fun a r => pL k least a r
def pL : Nat → Nat → EX → List T3 → Rd EX
  | 0, _, _, ts => .error ts.length
  | k + 1, least, left, ts => match opT ts with
    | none => .ok (left, ts)
    | some o => if o.1 < least then .ok (left, ts) else nx (pC k (o.1 + 1) ts.tail) fun b r => pL k least ⟨4, o.2, 0, ⟨#[]⟩, [left, b]⟩ r
def pA : Nat → List T3 → Rd EX
  | 0, ts => .error ts.length
  | k + 1, ts => match ts with
    | [] => .error 0
    | t :: r =>
      if t.1 = 2 then .ok (eNum t.2.2, r)
      else if t.1 = 1 then (if isT [91] r then nx (pE k r.tail) fun i q => nx (mustT [93] q) fun _ q => .ok (⟨3, 0, 0, bs t.2.1, [i]⟩, q) else .ok (⟨2, 0, 0, bs t.2.1, []⟩, r))
      else if isT [40] ts then nx (pE k r) fun e q => nx (mustT [41] q) fun _ q => .ok (e, q)
      else if isT [33] ts then nx (pA k r) fun e q => .ok (⟨5, 0, 0, ⟨#[]⟩, [e]⟩, q)
      else .error ts.length
end
/-- what one fuel reads, more fuel reads -/
def LeR {α : Type} (a b : Rd α) : Prop := ∀ z, a = .ok z → b = .ok z
theorem LeR.refl {α : Type} (a : Rd α) : LeR a a := fun _ h => h
theorem LeR.err {α : Type} (e : Nat) (b : Rd α) : LeR (.error e) b := fun _ h => by cases h
theorem LeR.nx {α β : Type} {a b : Rd α} {f g : α → List T3 → Rd β} (h : LeR a b) (k : ∀ x r, LeR (f x r) (g x r)) : LeR (nx a f) (nx b g) := by
  intro z hz
  cases a with
  | error e => cases hz
  | ok y => rw [h y rfl]; exact k _ _ z hz
theorem p_more : ∀ k, (∀ ts, LeR (pE k ts) (pE (k + 1) ts)) ∧ (∀ l ts, LeR (pC k l ts) (pC (k + 1) l ts)) ∧ (∀ l x ts, LeR (pL k l x ts) (pL (k + 1) l x ts)) ∧ (∀ ts, LeR (pA k ts) (pA (k + 1) ts))
  | 0 => ⟨fun _ => by rw [pE]; exact LeR.err _ _, fun _ _ => by rw [pC]; exact LeR.err _ _, fun _ _ _ => by rw [pL]; exact LeR.err _ _, fun _ => by rw [pA]; exact LeR.err _ _⟩
  | k + 1 => by
    obtain ⟨hE, hC, hL, hA⟩ := p_more k
    refine ⟨?_, ?_, ?_, ?_⟩
    · intro ts
      rw [pE, pE]
      refine LeR.nx (hC _ _) fun c r => ?_
      split
      · exact LeR.nx (hE _) fun a r => LeR.nx (LeR.refl _) fun _ r => LeR.nx (hE _) fun b r => LeR.refl _
      · exact LeR.refl _
    · intro l ts
      rw [pC, pC]
      exact LeR.nx (hA _) fun a r => hL _ _ _
    · intro l x ts
      rw [pL, pL]
      split
      · exact LeR.refl _
      · split
        · exact LeR.refl _
        · exact LeR.nx (hC _ _) fun b r => hL _ _ _
    · intro ts
      rw [pA.eq_def (k + 1), pA.eq_def (k + 1 + 1)]
      cases ts with
      | nil => exact LeR.refl _
      | cons t r =>
        simp only
        split
        · exact LeR.refl _
        · split
          · split
            · exact LeR.nx (hE _) fun i q => LeR.refl _
            · exact LeR.refl _
          · split
            · exact LeR.nx (hE _) fun i q => LeR.refl _
            · split
              · exact LeR.nx (hA _) fun i q => LeR.refl _
              · exact LeR.refl _
theorem more_E {k j : Nat} {ts : List T3} {z : EX × List T3} (h : pE k ts = .ok z) (hj : k ≤ j) : pE j ts = .ok z := by
  induction hj with
  | refl => exact h
  | step _ ih => exact (p_more _).1 _ z ih
theorem more_C {k j l : Nat} {ts : List T3} {z : EX × List T3} (h : pC k l ts = .ok z) (hj : k ≤ j) : pC j l ts = .ok z := by
  induction hj with
  | refl => exact h
  | step _ ih => exact (p_more _).2.1 _ _ z ih
theorem more_L {k j l : Nat} {x : EX} {ts : List T3} {z : EX × List T3} (h : pL k l x ts = .ok z) (hj : k ≤ j) : pL j l x ts = .ok z := by
  induction hj with
  | refl => exact h
  | step _ ih => exact (p_more _).2.2.1 _ _ _ z ih
theorem more_A {k j : Nat} {ts : List T3} {z : EX × List T3} (h : pA k ts = .ok z) (hj : k ≤ j) : pA j ts = .ok z := by
  induction hj with
  | refl => exact h
  | step _ ih => exact (p_more _).2.2.2 _ z ih
/-- reads, with some fuel -/
def QE (ts : List T3) (x : EX) (r : List T3) : Prop := ∃ k, pE k ts = .ok (x, r)
def QC (l : Nat) (ts : List T3) (x : EX) (r : List T3) : Prop := ∃ k, pC k l ts = .ok (x, r)
def QL (l : Nat) (a : EX) (ts : List T3) (x : EX) (r : List T3) : Prop := ∃ k, pL k l a ts = .ok (x, r)
def QA (ts : List T3) (x : EX) (r : List T3) : Prop := ∃ k, pA k ts = .ok (x, r)
theorem QE.one {ts : List T3} {x y : EX} {r s : List T3} (h : QE ts x r) (h2 : QE ts y s) : x = y ∧ r = s := by
  obtain ⟨k, h⟩ := h
  obtain ⟨j, h2⟩ := h2
  have a := more_E h (Nat.le_max_left k j)
  have b := more_E h2 (Nat.le_max_right k j)
  rw [a] at b
  injection b with b
  injection b with c d
  exact ⟨c, d⟩
theorem QC.mk {l : Nat} {ts : List T3} {a x : EX} {r s : List T3} (h : QA ts a r) (h2 : QL l a r x s) : QC l ts x s := by
  obtain ⟨k, h⟩ := h
  obtain ⟨j, h2⟩ := h2
  refine ⟨max k j + 1, ?_⟩
  rw [pC, more_A h (Nat.le_max_left k j)]
  exact more_L h2 (Nat.le_max_right k j)
theorem QL.stop {l : Nat} {a : EX} {ts : List T3} (h : ∀ o, opT ts = some o → o.1 < l) : QL l a ts a ts := by
  refine ⟨1, ?_⟩
  rw [pL]
  split
  · rfl
  · rename_i o ho
    rw [if_pos (h o ho)]
theorem QL.step {l n : Nat} {o : Int} {a b x : EX} {t : T3} {ts r s : List T3} (ho : opT (t :: ts) = some (n, o)) (hl : l ≤ n) (h : QC (n + 1) ts b r) (h2 : QL l ⟨4, o, 0, ⟨#[]⟩, [a, b]⟩ r x s) : QL l a (t :: ts) x s := by
  obtain ⟨k, h⟩ := h
  obtain ⟨j, h2⟩ := h2
  refine ⟨max k j + 1, ?_⟩
  rw [pL, ho]
  simp only
  rw [if_neg (by omega), List.tail_cons, more_C h (Nat.le_max_left k j)]
  exact more_L h2 (Nat.le_max_right k j)
theorem QE.plain {ts : List T3} {x : EX} {r : List T3} (h : QC 1 ts x r) (h2 : isT [63] r = false) : QE ts x r := by
  obtain ⟨k, h⟩ := h
  refine ⟨k + 1, ?_⟩
  rw [pE, h]
  simp only [nx, h2]
  rfl
theorem must_ok {s : Bs} {c : T3} {r : List T3} (h : isT s (c :: r) = true) : mustT s (c :: r) = .ok ((), r) := by
  unfold mustT; rw [if_pos h]; rfl
theorem isT_sg (s : Bs) (r : List T3) : isT s (sg s :: r) = true := by simp [isT, sg]
theorem isT_wd (s : Bs) (r : List T3) : isT s (wd s :: r) = true := by simp [isT, wd]
theorem QE.sel {ts : List T3} {c a b : EX} {r q s : List T3} (h : QC 1 ts c (sg [63] :: r)) (h2 : QE r a (sg [58] :: q)) (h3 : QE q b s) : QE ts ⟨6, 0, 0, ⟨#[]⟩, [c, a, b]⟩ s := by
  obtain ⟨k, h⟩ := h
  obtain ⟨j, h2⟩ := h2
  obtain ⟨i, h3⟩ := h3
  refine ⟨max k (max j i) + 1, ?_⟩
  rw [pE, more_C h (Nat.le_max_left _ _)]
  simp only [nx, isT_sg, if_true, List.tail_cons]
  rw [more_E h2 (Nat.le_trans (Nat.le_max_left j i) (Nat.le_max_right k _))]
  simp only [must_ok (isT_sg [58] q)]
  rw [more_E h3 (Nat.le_trans (Nat.le_max_right j i) (Nat.le_max_right k _))]
theorem QA.num (u : Nat) (r : List T3) : QA (nm u :: r) (eNum u) r := ⟨1, by rw [pA]; rfl⟩
theorem QA.var (s : ByteArray) (r : List T3) (h : isT [91] r = false) : QA (id3 s :: r) ⟨2, 0, 0, s, []⟩ r := ⟨1, by
  rw [pA]
  simp [id3, h, bs, bts]⟩
theorem QA.idx (s : ByteArray) {r q : List T3} {i : EX} (h : QE r i (sg [93] :: q)) : QA (id3 s :: sg [91] :: r) ⟨3, 0, 0, s, [i]⟩ q := by
  obtain ⟨k, h⟩ := h
  refine ⟨k + 1, ?_⟩
  rw [pA]
  simp only [id3, isT_sg, List.tail_cons, h, nx, must_ok (isT_sg [93] q)]
  simp [bs, bts]
theorem QA.par {r q : List T3} {e : EX} (h : QE r e (sg [41] :: q)) : QA (sg [40] :: r) e q := by
  obtain ⟨k, h⟩ := h
  refine ⟨k + 1, ?_⟩
  rw [pA]
  simp only [isT_sg, h, nx, must_ok (isT_sg [41] q)]
  simp [sg]
theorem QA.no {r q : List T3} {e : EX} (h : QA r e q) : QA (sg [33] :: r) ⟨5, 0, 0, ⟨#[]⟩, [e]⟩ q := by
  obtain ⟨k, h⟩ := h
  refine ⟨k + 1, ?_⟩
  rw [pA]
  have e1 : isT [40] (sg [33] :: r) = false := by simp [isT, sg]
  simp only [isT_sg, e1, h, nx]
  simp [sg]
end Go.Proofs.YtlhnfgnihakcfaaDoor.Ax
set_option linter.unusedSimpArgs false
set_option linter.unusedVariables false
/- A printed expression is read back. -/
namespace Go.Proofs.YtlhnfgnihakcfaaDoor.Ax
open Go.RowKit Hp Kn Px
theorem op_head {o : Nat} (h1 : 1 ≤ o) (h7 : o ≤ 7) (ts : List T3) : ∃ n : Nat, opT (sg (bts (signL.getD o ⟨#[]⟩)) :: ts) = some (n, (o : Int)) ∧ strengthL.getD o 0 = (n : Int) + 1 ∧ 1 ≤ n ∧ n ≤ 6 ∧ isT [91] (sg (bts (signL.getD o ⟨#[]⟩)) :: ts) = false := by
  have h : o = 1 ∨ o = 2 ∨ o = 3 ∨ o = 4 ∨ o = 5 ∨ o = 6 ∨ o = 7 := by omega
  rcases h with rfl | rfl | rfl | rfl | rfl | rfl | rfl
  · exact ⟨5, rfl, rfl, by omega, by omega, rfl⟩
  · exact ⟨5, rfl, rfl, by omega, by omega, rfl⟩
  · exact ⟨6, rfl, rfl, by omega, by omega, rfl⟩
  · exact ⟨4, rfl, rfl, by omega, by omega, rfl⟩
  · exact ⟨3, rfl, rfl, by omega, by omega, rfl⟩
  · exact ⟨2, rfl, rfl, by omega, by omega, rfl⟩
  · exact ⟨1, rfl, rfl, by omega, by omega, rfl⟩
/-- what may stand behind an expression of that strength -/
structure Fol (s : Int) (r : List T3) : Prop where
  br : isT [91] r = false
  op : ∀ o, opT r = some o → (o.1 : Int) + 1 ≤ s
theorem Fol.sg {c : UInt8} (h : c ≠ 91) (ho : opS [c] = none) (s : Int) (r : List T3) : Fol s (sg [c] :: r) :=
  ⟨by simp [isT, Ax.sg]; exact fun e => h e, fun o e => by simp [opT, Ax.sg, ho] at e⟩
def rtA (n : Nat) : Prop := ∀ (x : EX), OkE x → exprB n x = true → 8 ≤ strengthF x → ∀ r, isT [91] r = false → QA (tkE n x ++ r) x r
def rtC (n : Nat) : Prop := ∀ (x : EX), OkE x → exprB n x = true → 2 ≤ strengthF x → ∀ (l : Nat), (l : Int) + 1 ≤ strengthF x → ∀ r, Fol (strengthF x) r → ∀ y s, QL l x r y s → QC l (tkE n x ++ r) y s
def rtE (n : Nat) : Prop := ∀ (x : EX), OkE x → exprB n x = true → ∀ r, Fol 1 r → isT [63] r = false → QE (tkE n x ++ r) x r
theorem held_rt {n : Nat} (hC : rtC n) (hE : rtE n) {a : EX} (oa : OkE a) (ha : exprB n a = true) {least : Int} (h2 : 2 ≤ least) {l : Nat} (hl : (l : Int) + 1 ≤ least) {r : List T3} (hr : Fol least r) {y : EX} {s : List T3} (h : QL l a r y s) :
    QC l (hldT a least (tkE n a) ++ r) y s := by
  unfold hldT
  by_cases hs : strengthF a < least
  · rw [if_pos hs, List.cons_append, List.append_assoc]
    exact QC.mk (QA.par (hE a oa ha (sg [41] :: r) (Fol.sg (by decide) (by rfl) _ _) (by rfl))) h
  · rw [if_neg hs]
    exact hC a oa ha (by omega) l (by omega) r ⟨hr.br, fun o ho => by have := hr.op o ho; omega⟩ y s h
theorem strengthL_in {o : Nat} (h1 : 1 ≤ o) (h7 : o ≤ 7) : 2 ≤ strengthL.getD o 0 ∧ strengthL.getD o 0 ≤ 7 := by
  obtain ⟨n, _, e, h, k, _⟩ := op_head h1 h7 []
  omega
theorem rt_step {n : Nat} (hA : rtA n) (hC : rtC n) (hE : rtE n) : rtA (n + 1) ∧ rtC (n + 1) ∧ rtE (n + 1) := by
  have A : rtA (n + 1) := by
    intro x hO h hs r hr
    cases ve_of hO h with
    | num u hu =>
      have e : tkE (n + 1) ⟨1, 0, (u : Int), ⟨#[]⟩, []⟩ = [nm u] := by simp [tkE, nm]
      rw [e]; exact QA.num u r
    | var s h =>
      have e : tkE (n + 1) ⟨2, 0, 0, s, []⟩ = [id3 s] := by simp [tkE, id3]
      rw [e]; exact QA.var s r hr
    | idx s hs a ha oa =>
      have e : tkE (n + 1) ⟨3, 0, 0, s, [a]⟩ ++ r = id3 s :: sg [91] :: (tkE n a ++ sg [93] :: r) := by simp [tkE, kidE, id3]
      rw [e]
      exact QA.idx s (hE a oa ha _ (Fol.sg (by decide) (by rfl) _ _) (by rfl))
    | op o h1 h7 a b ha oa hb ob =>
      exfalso
      have : strengthF ⟨4, (o : Int), 0, ⟨#[]⟩, [a, b]⟩ = strengthL.getD o 0 := by simp [strengthF]
      have := strengthL_in h1 h7
      omega
    | no a ha oa =>
      have e : tkE (n + 1) ⟨5, 0, 0, ⟨#[]⟩, [a]⟩ ++ r = sg [33] :: (hldT a 8 (tkE n a) ++ r) := by simp [tkE, kidE]
      rw [e]
      refine QA.no ?_
      unfold hldT
      by_cases hs : strengthF a < 8
      · rw [if_pos hs, List.cons_append, List.append_assoc]
        exact QA.par (hE a oa ha (sg [41] :: r) (Fol.sg (by decide) (by rfl) _ _) (by rfl))
      · rw [if_neg hs]
        exact hA a oa ha (by omega) r hr
    | sel a b c => exfalso; simp [strengthF] at hs
  have C : rtC (n + 1) := by
    intro x hO h hs l hl r hr y s hy
    by_cases h8 : 8 ≤ strengthF x
    · exact QC.mk (A x hO h h8 r hr.br) hy
    cases ve_of hO h with
    | num u hu => exfalso; simp [strengthF] at h8
    | var s h => exfalso; simp [strengthF] at h8
    | idx s hs a ha oa => exfalso; simp [strengthF] at h8
    | op o h1 h7 a b ha oa hb ob =>
      have es : strengthF ⟨4, (o : Int), 0, ⟨#[]⟩, [a, b]⟩ = strengthL.getD o 0 := by simp [strengthF]
      rw [es] at hs hl hr
      have e : tkE (n + 1) ⟨4, (o : Int), 0, ⟨#[]⟩, [a, b]⟩ ++ r = hldT a (strengthL.getD o 0) (tkE n a) ++ (sg (bts (signL.getD o ⟨#[]⟩)) :: (hldT b (strengthL.getD o 0 + 1) (tkE n b) ++ r)) := by simp [tkE, kidE]
      rw [e]
      obtain ⟨m, ho, hm, m1, m6, hb91⟩ := op_head h1 h7 (hldT b (strengthL.getD o 0 + 1) (tkE n b) ++ r)
      refine held_rt hC hE oa ha hs hl ⟨hb91, fun o' h' => ?_⟩ (QL.step ho (by omega) (held_rt hC hE ob hb (by omega) (by omega) ⟨hr.br, fun o' h' => ?_⟩ (QL.stop fun o' h' => ?_)) hy)
      · rw [ho] at h'; injection h' with h'; subst h'; simp only; omega
      · have := hr.op o' h'; omega
      · have := hr.op o' h'; omega
    | no a ha oa => exfalso; simp [strengthF] at h8
    | sel a b c => exfalso; simp [strengthF] at hs
  refine ⟨A, C, ?_⟩
  intro x hO h r hr h63
  by_cases h2 : 2 ≤ strengthF x
  · exact QE.plain (C x hO h h2 1 (by omega) r ⟨hr.br, fun o ho => by have := hr.op o ho; omega⟩ x r (QL.stop fun o ho => by have := hr.op o ho; omega)) h63
  cases ve_of hO h with
  | num u hu => exfalso; simp [strengthF] at h2
  | var s h => exfalso; simp [strengthF] at h2
  | idx s hs a ha oa => exfalso; simp [strengthF] at h2
  | op o h1 h7 a b ha oa hb ob =>
    exfalso
    have es : strengthF ⟨4, (o : Int), 0, ⟨#[]⟩, [a, b]⟩ = strengthL.getD o 0 := by simp [strengthF]
    have := strengthL_in h1 h7
    omega
  | no a ha oa => exfalso; simp [strengthF] at h2
  | sel a b c ha oa hb ob hc oc =>
    have e : tkE (n + 1) ⟨6, 0, 0, ⟨#[]⟩, [a, b, c]⟩ ++ r = hldT a 2 (tkE n a) ++ (sg [63] :: (tkE n b ++ sg [58] :: (tkE n c ++ r))) := by simp [tkE, kidE]
    rw [e]
    exact QE.sel (held_rt hC hE oa ha (by omega) (by omega) (Fol.sg (by decide) (by rfl) _ _) (QL.stop fun o ho => by simp [opT, sg, opS] at ho)) (hE b ob hb _ (Fol.sg (by decide) (by rfl) _ _) (by rfl)) (hE c oc hc r hr h63)
theorem rt_all : ∀ n, rtA n ∧ rtC n ∧ rtE n
  | 0 => by refine ⟨?_, ?_, ?_⟩ <;> (intro x _ h; cases h)
  | n + 1 => rt_step (rt_all n).1 (rt_all n).2.1 (rt_all n).2.2
theorem expr_rt {n : Nat} {x : EX} (hO : OkE x) (h : exprB n x = true) {r : List T3} (hr : Fol 1 r) (h63 : isT [63] r = false) : QE (tkE n x ++ r) x r := (rt_all n).2.2 x hO h r hr h63
end Go.Proofs.YtlhnfgnihakcfaaDoor.Ax
set_option linter.unusedSimpArgs false
set_option linter.unusedVariables false
/- A printed program is read back; so two valid programs with one text are one. -/
namespace Go.Proofs.YtlhnfgnihakcfaaDoor.Ax
open Go.RowKit Hp Kn Px
abbrev DI := S55
abbrev DA := S58
def nameT : List T3 → Rd ByteArray
  | [] => .error 0
  | t :: r => if t.1 = 1 then .ok (bs t.2.1, r) else .error (r.length + 1)
def numT : List T3 → Rd Int
  | [] => .error 0
  | t :: r => if t.1 = 2 then .ok ((t.2.2 : Int), r) else .error (r.length + 1)
abbrev kOut : Bs := [111, 117, 116]
abbrev kIf : Bs := [105, 102]
abbrev kElse : Bs := [101, 108, 115, 101]
abbrev kFor : Bs := [102, 111, 114]
abbrev kTo : Bs := [116, 111]
abbrev kIn : Bs := [105, 110]
abbrev kFrom : Bs := [102, 114, 111, 109]
abbrev kArr : Bs := [97, 114, 114, 97, 121]
mutual
def pS : Nat → List T3 → Rd ST
  | 0, ts => .error ts.length
  | k + 1, ts =>
    if isT kOut ts then nx (pE k ts.tail) fun e r => nx (mustT [59] r) fun _ r => .ok (⟨5, ⟨#[]⟩, [e], [], []⟩, r)
    else if isT kIf ts then nx (mustT [40] ts.tail) fun _ r => nx (pE k r) fun c r => nx (mustT [41] r) fun _ r => nx (pB k r) fun t r => if isT kElse r then nx (pB k r.tail) fun e r => .ok (⟨3, ⟨#[]⟩, [c], t, e⟩, r) else .ok (⟨3, ⟨#[]⟩, [c], t, []⟩, r)
    else if isT kFor ts then nx (nameT ts.tail) fun s r => nx (mustT [61] r) fun _ r => nx (pE k r) fun a r => nx (mustT kTo r) fun _ r => nx (pE k r) fun b r => nx (pB k r) fun t r => .ok (⟨4, s, [a, b], t, []⟩, r)
    else nx (nameT ts) fun s r => if isT [91] r then nx (pE k r.tail) fun i r => nx (mustT [93] r) fun _ r => nx (mustT [61] r) fun _ r => nx (pE k r) fun e r => nx (mustT [59] r) fun _ r => .ok (⟨2, s, [i, e], [], []⟩, r)
      else nx (mustT [61] r) fun _ r => nx (pE k r) fun e r => nx (mustT [59] r) fun _ r => .ok (⟨1, s, [e], [], []⟩, r)
def pB : Nat → List T3 → Rd (List ST)
  | 0, ts => .error ts.length
  | k + 1, ts => nx (mustT [123] ts) fun _ r => pBs k r
def pBs : Nat → List T3 → Rd (List ST)
  | 0, ts => .error ts.length
  | k + 1, ts => if isT [125] ts then .ok ([], ts.tail) else nx (pS k ts) fun x r => nx (pBs k r) fun l r => .ok (x :: l, r)
end
/-- statements up to the end -/
def pT : Nat → List T3 → Rd (List ST)
  | 0, ts => .error ts.length
  | k + 1, ts => if ts.length = 0 then .ok ([], ts) else nx (pS k ts) fun x r => nx (pT k r) fun l r => .ok (x :: l, r)
def pI (ts : List T3) : Rd DI := nx (nameT ts) fun s r => nx (if isT [91] r then nx (mustT [91] r) fun _ r => nx (numT r) fun z r => nx (mustT [93] r) fun _ r => .ok (z, r) else .ok (0, r)) fun z r => nx (mustT kFrom r) fun _ r => nx (numT r) fun f r => nx (mustT [58] r) fun _ r => nx (numT r) fun w r => nx (mustT [59] r) fun _ r => .ok (⟨s, f, w, z⟩, r)
def pAr (ts : List T3) : Rd DA := nx (nameT ts) fun s r => nx (mustT [91] r) fun _ r => nx (numT r) fun z r => nx (mustT [93] r) fun _ r => nx (mustT [59] r) fun _ r => .ok (⟨s, z⟩, r)
/-- declarations -/
def pD : Nat → List T3 → Rd (List DI × List DA)
  | 0, ts => .error ts.length
  | k + 1, ts => if isT kIn ts then nx (pI ts.tail) fun x r => nx (pD k r) fun z r => .ok ((x :: z.1, z.2), r)
    else if isT kArr ts then nx (pAr ts.tail) fun x r => nx (pD k r) fun z r => .ok ((z.1, x :: z.2), r)
    else .ok (([], []), ts)
def pP (k : Nat) (ts : List T3) : Rd ((List DI × List DA) × List ST) := nx (pD k ts) fun z r => nx (pT k r) fun l r => .ok ((z, l), r)
theorem LeR.ite {α : Type} {c : Prop} [Decidable c] {a b x y : Rd α} (h : LeR a x) (k : LeR b y) : LeR (if c then a else b) (if c then x else y) := by
  split
  · exact h
  · exact k
theorem s_more : ∀ k, (∀ ts, LeR (pS k ts) (pS (k + 1) ts)) ∧ (∀ ts, LeR (pB k ts) (pB (k + 1) ts)) ∧ (∀ ts, LeR (pBs k ts) (pBs (k + 1) ts))
  | 0 => ⟨fun _ => by rw [pS]; exact LeR.err _ _, fun _ => by rw [pB]; exact LeR.err _ _, fun _ => by rw [pBs]; exact LeR.err _ _⟩
  | k + 1 => by
    obtain ⟨hS, hB, hL⟩ := s_more k
    have hE := (p_more k).1
    refine ⟨?_, ?_, ?_⟩
    · intro ts
      rw [pS.eq_def (k + 1), pS.eq_def (k + 1 + 1)]
      simp only
      repeat' first
        | exact LeR.refl _
        | exact hE _
        | exact hS _
        | exact hB _
        | exact hL _
        | refine LeR.ite ?_ ?_
        | refine LeR.nx ?_ fun _ _ => ?_
    · intro ts
      rw [pB.eq_def (k + 1), pB.eq_def (k + 1 + 1)]
      simp only
      exact LeR.nx (LeR.refl _) fun _ _ => hL _
    · intro ts
      rw [pBs.eq_def (k + 1), pBs.eq_def (k + 1 + 1)]
      simp only
      exact LeR.ite (LeR.refl _) (LeR.nx (hS _) fun _ _ => LeR.nx (hL _) fun _ _ => LeR.refl _)
theorem t_more : ∀ k, ∀ ts, LeR (pT k ts) (pT (k + 1) ts)
  | 0, _ => by rw [pT]; exact LeR.err _ _
  | k + 1, ts => by
    rw [pT.eq_def (k + 1), pT.eq_def (k + 1 + 1)]
    exact LeR.ite (LeR.refl _) (LeR.nx ((s_more k).1 _) fun _ _ => LeR.nx (t_more k _) fun _ _ => LeR.refl _)
theorem d_more : ∀ k, ∀ ts, LeR (pD k ts) (pD (k + 1) ts)
  | 0, _ => by rw [pD]; exact LeR.err _ _
  | k + 1, ts => by
    rw [pD.eq_def (k + 1), pD.eq_def (k + 1 + 1)]
    exact LeR.ite (LeR.nx (LeR.refl _) fun _ _ => LeR.nx (d_more k _) fun _ _ => LeR.refl _) (LeR.ite (LeR.nx (LeR.refl _) fun _ _ => LeR.nx (d_more k _) fun _ _ => LeR.refl _) (LeR.refl _))
theorem up {α : Type} {f : Nat → Rd α} (hf : ∀ k, LeR (f k) (f (k + 1))) {k j : Nat} {z : α × List T3} (h : f k = .ok z) (hj : k ≤ j) : f j = .ok z := by
  induction hj with
  | refl => exact h
  | step _ ih => exact hf _ z ih
def QS (ts : List T3) (x : ST) (r : List T3) : Prop := ∃ k, pS k ts = .ok (x, r)
def QBs (ts : List T3) (l : List ST) (r : List T3) : Prop := ∃ k, pBs k ts = .ok (l, r)
def QB (ts : List T3) (l : List ST) (r : List T3) : Prop := ∃ k, pB k ts = .ok (l, r)
theorem QB.mk {ts : List T3} {l : List ST} {r : List T3} (h : QBs ts l r) : QB (sg [123] :: ts) l r := by
  obtain ⟨k, h⟩ := h
  refine ⟨k + 1, ?_⟩
  rw [pB, must_ok (isT_sg [123] ts)]
  exact h
theorem QBs.nil (r : List T3) : QBs (sg [125] :: r) [] r := ⟨1, by rw [pBs]; simp [isT_sg]⟩
theorem QBs.cons {ts r q : List T3} {x : ST} {l : List ST} (h0 : isT [125] ts = false) (h : QS ts x r) (h2 : QBs r l q) : QBs ts (x :: l) q := by
  obtain ⟨k, h⟩ := h
  obtain ⟨j, h2⟩ := h2
  refine ⟨k + j + 1, ?_⟩
  rw [pBs, h0, up (fun i => (s_more i).1 ts) h (by omega : k ≤ k + j)]
  simp only [nx, Bool.false_eq_true, if_false]
  rw [up (fun i => (s_more i).2.2 r) h2 (by omega : j ≤ k + j)]
theorem e_up {k j : Nat} {ts : List T3} {z : EX × List T3} (h : pE k ts = .ok z) (hj : k ≤ j) : pE j ts = .ok z := more_E h hj
theorem b_up {k j : Nat} {ts : List T3} {z : List ST × List T3} (h : pB k ts = .ok z) (hj : k ≤ j) : pB j ts = .ok z := up (fun i => (s_more i).2.1 ts) h hj
theorem name_ok (s : ByteArray) (r : List T3) : nameT (id3 s :: r) = .ok (s, r) := by simp [nameT, id3, bs, bts]
theorem num_ok (u : Nat) (r : List T3) : numT (nm u :: r) = .ok ((u : Int), r) := by simp [numT, nm]
theorem isT_id (s : ByteArray) (w : Bs) (r : List T3) : isT w (id3 s :: r) = false := by simp [isT, id3]
theorem isT_ne {a w : Bs} (h : w ≠ a) (r : List T3) : isT a (wd w :: r) = false := by simp [isT, wd, h]
theorem isT_gs {a w : Bs} (h : w ≠ a) (r : List T3) : isT a (sg w :: r) = false := by simp [isT, sg, h]
theorem QS.out {ts r : List T3} {e : EX} (h : QE ts e (sg [59] :: r)) : QS (wd kOut :: ts) ⟨5, ⟨#[]⟩, [e], [], []⟩ r := by
  obtain ⟨k, h⟩ := h
  refine ⟨k + 1, ?_⟩
  rw [pS]
  simp only [isT_wd, if_true, List.tail_cons, h, nx, must_ok (isT_sg [59] r)]
theorem QS.set {ts r : List T3} {s : ByteArray} {e : EX} (h : QE ts e (sg [59] :: r)) : QS (id3 s :: sg [61] :: ts) ⟨1, s, [e], [], []⟩ r := by
  obtain ⟨k, h⟩ := h
  refine ⟨k + 1, ?_⟩
  rw [pS]
  simp only [isT_id, Bool.false_eq_true, if_false, name_ok, nx, isT_gs (show ([61] : Bs) ≠ [91] by decide), must_ok (isT_sg [61] ts), h, must_ok (isT_sg [59] r)]
theorem QS.store {ts q r : List T3} {s : ByteArray} {i e : EX} (h : QE ts i (sg [93] :: sg [61] :: q)) (h2 : QE q e (sg [59] :: r)) : QS (id3 s :: sg [91] :: ts) ⟨2, s, [i, e], [], []⟩ r := by
  obtain ⟨k, h⟩ := h
  obtain ⟨j, h2⟩ := h2
  refine ⟨k + j + 1, ?_⟩
  rw [pS]
  simp only [isT_id, Bool.false_eq_true, if_false, name_ok, nx, isT_sg, if_true, List.tail_cons, e_up h (by omega : k ≤ k + j), must_ok (isT_sg [93] (sg [61] :: q)), must_ok (isT_sg [61] q), e_up h2 (by omega : j ≤ k + j), must_ok (isT_sg [59] r)]
theorem QS.loop {ts q p r : List T3} {s : ByteArray} {a b : EX} {t : List ST} (h : QE ts a (wd kTo :: q)) (h2 : QE q b p) (h3 : QB p t r) : QS (wd kFor :: id3 s :: sg [61] :: ts) ⟨4, s, [a, b], t, []⟩ r := by
  obtain ⟨k, h⟩ := h
  obtain ⟨j, h2⟩ := h2
  obtain ⟨i, h3⟩ := h3
  refine ⟨k + j + i + 1, ?_⟩
  rw [pS]
  simp only [isT_ne (show kFor ≠ kOut by decide), isT_ne (show kFor ≠ kIf by decide), isT_wd, Bool.false_eq_true, if_false, if_true, List.tail_cons, name_ok, nx, must_ok (isT_sg [61] ts), e_up h (by omega : k ≤ k + j + i), must_ok (isT_wd kTo q), e_up h2 (by omega : j ≤ k + j + i), b_up h3 (by omega : i ≤ k + j + i)]
theorem QS.cond {ts p r : List T3} {c : EX} {t : List ST} (h : QE ts c (sg [41] :: p)) (h2 : QB p t r) (h0 : isT kElse r = false) : QS (wd kIf :: sg [40] :: ts) ⟨3, ⟨#[]⟩, [c], t, []⟩ r := by
  obtain ⟨k, h⟩ := h
  obtain ⟨j, h2⟩ := h2
  refine ⟨k + j + 1, ?_⟩
  rw [pS]
  simp only [isT_ne (show kIf ≠ kOut by decide), isT_wd, Bool.false_eq_true, if_false, if_true, List.tail_cons, nx, must_ok (isT_sg [40] ts), e_up h (by omega : k ≤ k + j), must_ok (isT_sg [41] p), b_up h2 (by omega : j ≤ k + j), h0]
theorem QS.condE {ts p q r : List T3} {c : EX} {t e : List ST} (h : QE ts c (sg [41] :: p)) (h2 : QB p t (wd kElse :: q)) (h3 : QB q e r) : QS (wd kIf :: sg [40] :: ts) ⟨3, ⟨#[]⟩, [c], t, e⟩ r := by
  obtain ⟨k, h⟩ := h
  obtain ⟨j, h2⟩ := h2
  obtain ⟨i, h3⟩ := h3
  refine ⟨k + j + i + 1, ?_⟩
  rw [pS]
  simp only [isT_ne (show kIf ≠ kOut by decide), isT_wd, Bool.false_eq_true, if_false, if_true, List.tail_cons, nx, must_ok (isT_sg [40] ts), e_up h (by omega : k ≤ k + j + i), must_ok (isT_sg [41] p), b_up h2 (by omega : j ≤ k + j + i), b_up h3 (by omega : i ≤ k + j + i)]
theorem fol_wd {w : Bs} (s : Int) (r : List T3) (h : w ≠ [91]) : Fol s (wd w :: r) := ⟨isT_ne h r, fun o e => by simp [opT, wd] at e⟩
/-- how a statement's tokens begin -/
theorem st_head {n : Nat} {x : ST} (hO : OkS x) (h : stmtB n x = true) : ∃ t r, tkS n x = t :: r ∧ ∀ q, isT [125] (t :: q) = false ∧ isT kElse (t :: q) = false ∧ isT kIn (t :: q) = false ∧ isT kArr (t :: q) = false := by
  cases n with
  | zero => cases h
  | succ n =>
    cases vs_of hO h with
    | set s hs e => exact ⟨id3 s, _, by simp [tkS]; rfl, fun q => ⟨isT_id _ _ _, isT_id _ _ _, isT_id _ _ _, isT_id _ _ _⟩⟩
    | store s hs i e => exact ⟨id3 s, _, by simp [tkS]; rfl, fun q => ⟨isT_id _ _ _, isT_id _ _ _, isT_id _ _ _, isT_id _ _ _⟩⟩
    | cond c hc oc t e => exact ⟨wd kIf, _, by simp [tkS]; rfl, fun q => ⟨isT_ne (by decide) _, isT_ne (by decide) _, isT_ne (by decide) _, isT_ne (by decide) _⟩⟩
    | loop s hs a b => exact ⟨wd kFor, _, by simp [tkS]; rfl, fun q => ⟨isT_ne (by decide) _, isT_ne (by decide) _, isT_ne (by decide) _, isT_ne (by decide) _⟩⟩
    | out e => exact ⟨wd kOut, _, by simp [tkS]; rfl, fun q => ⟨isT_ne (by decide) _, isT_ne (by decide) _, isT_ne (by decide) _, isT_ne (by decide) _⟩⟩
theorem sts_head {n : Nat} {l : List ST} (hO : ∀ x ∈ l, OkS x) (h : l.all (stmtB n) = true) (r : List T3) (hr : isT kElse r = false) : isT kElse (l.flatMap (tkS n) ++ r) = false := by
  cases l with
  | nil => exact hr
  | cons a l =>
    obtain ⟨t, q, e, k⟩ := st_head (hO a (by simp)) (List.all_eq_true.1 h a (by simp))
    rw [List.flatMap_cons, e]
    exact (k _).2.1
theorem body_rt {n : Nat} (IH : ∀ x, OkS x → stmtB n x = true → ∀ r, isT kElse r = false → QS (tkS n x ++ r) x r) : ∀ (l : List ST), (∀ x ∈ l, OkS x) → l.all (stmtB n) = true → ∀ r, QBs (l.flatMap (tkS n) ++ sg [125] :: r) l r
  | [], _, _, r => QBs.nil r
  | a :: l, hO, h, r => by
    have ha := List.all_eq_true.1 h a (by simp)
    have hl : l.all (stmtB n) = true := List.all_eq_true.2 fun x hx => List.all_eq_true.1 h x (by simp [hx])
    obtain ⟨t, q, e, k⟩ := st_head (hO a (by simp)) ha
    rw [List.flatMap_cons, List.append_assoc]
    refine QBs.cons ?_ (IH a (hO a (by simp)) ha _ (sts_head (fun x hx => hO x (by simp [hx])) hl _ (isT_gs (by decide) _))) (body_rt IH l (fun x hx => hO x (by simp [hx])) hl r)
    rw [e]
    exact (k _).1
theorem stmt_rt : ∀ (n : Nat) (x : ST), OkS x → stmtB n x = true → ∀ r, isT kElse r = false → QS (tkS n x ++ r) x r
  | 0, x, _, h, _, _ => by cases h
  | n + 1, x, hO, h, r, hr => by
    have sgf : ∀ (c : UInt8) (hc : c ≠ 91) (ho : opS [c] = none) (q : List T3), Fol 1 (sg [c] :: q) := fun c hc ho q => Fol.sg hc ho _ _
    cases vs_of hO h with
    | set s hs e he oe =>
      have e2 : tkS (n + 1) ⟨1, s, [e], [], []⟩ ++ r = id3 s :: sg [61] :: (tkE n e ++ sg [59] :: r) := by simp [tkS, kidS]
      rw [e2]
      exact QS.set (expr_rt oe he (sgf 59 (by decide) (by rfl) _) (by rfl))
    | store s hs i e hi oi he oe =>
      have e2 : tkS (n + 1) ⟨2, s, [i, e], [], []⟩ ++ r = id3 s :: sg [91] :: (tkE n i ++ sg [93] :: sg [61] :: (tkE n e ++ sg [59] :: r)) := by simp [tkS, kidS]
      rw [e2]
      exact QS.store (expr_rt oi hi (sgf 93 (by decide) (by rfl) _) (by rfl)) (expr_rt oe he (sgf 59 (by decide) (by rfl) _) (by rfl))
    | cond c hc oc t e ht ot he oe =>
      cases e with
      | nil =>
        have e2 : tkS (n + 1) ⟨3, ⟨#[]⟩, [c], t, []⟩ ++ r = wd kIf :: sg [40] :: (tkE n c ++ sg [41] :: sg [123] :: (t.flatMap (tkS n) ++ sg [125] :: r)) := by simp [tkS, kidS]
        rw [e2]
        exact QS.cond (expr_rt oc hc (sgf 41 (by decide) (by rfl) _) (by rfl)) (QB.mk (body_rt (stmt_rt n) t ot ht r)) hr
      | cons a e =>
        have e2 : tkS (n + 1) ⟨3, ⟨#[]⟩, [c], t, a :: e⟩ ++ r = wd kIf :: sg [40] :: (tkE n c ++ sg [41] :: sg [123] :: (t.flatMap (tkS n) ++ sg [125] :: wd kElse :: sg [123] :: ((a :: e).flatMap (tkS n) ++ sg [125] :: r))) := by simp [tkS, kidS]
        rw [e2]
        exact QS.condE (expr_rt oc hc (sgf 41 (by decide) (by rfl) _) (by rfl)) (QB.mk (body_rt (stmt_rt n) t ot ht _)) (QB.mk (body_rt (stmt_rt n) (a :: e) oe he r))
    | loop s hs a b ha oa hb ob t ht ot =>
      have e2 : tkS (n + 1) ⟨4, s, [a, b], t, []⟩ ++ r = wd kFor :: id3 s :: sg [61] :: (tkE n a ++ wd kTo :: (tkE n b ++ sg [123] :: (t.flatMap (tkS n) ++ sg [125] :: r))) := by simp [tkS, kidS]
      rw [e2]
      exact QS.loop (expr_rt oa ha (fol_wd _ _ (by decide)) (by rfl)) (expr_rt ob hb (sgf 123 (by decide) (by rfl) _) (by rfl)) (QB.mk (body_rt (stmt_rt n) t ot ht r))
    | out e he oe =>
      have e2 : tkS (n + 1) ⟨5, ⟨#[]⟩, [e], [], []⟩ ++ r = wd kOut :: (tkE n e ++ sg [59] :: r) := by simp [tkS, kidS]
      rw [e2]
      exact QS.out (expr_rt oe he (sgf 59 (by decide) (by rfl) _) (by rfl))
/-- all statements, up to the end -/
theorem top_rt : ∀ (l : List ST), (∀ x ∈ l, OkS x) → l.all (stmtB 24) = true → ∃ k, pT k (l.flatMap (tkS 24)) = .ok (l, [])
  | [], _, _ => ⟨1, by rw [pT]; rfl⟩
  | a :: l, hO, h => by
    have ha := List.all_eq_true.1 h a (by simp)
    have hl : l.all (stmtB 24) = true := List.all_eq_true.2 fun x hx => List.all_eq_true.1 h x (by simp [hx])
    obtain ⟨t, q, e, k⟩ := st_head (hO a (by simp)) ha
    have hn : isT kElse (l.flatMap (tkS 24)) = false := by
      have := sts_head (n := 24) (fun x hx => hO x (by simp [hx])) hl [] rfl
      rwa [List.append_nil] at this
    obtain ⟨k1, h1⟩ := stmt_rt 24 a (hO a (by simp)) ha (l.flatMap (tkS 24)) hn
    obtain ⟨k2, h2⟩ := top_rt l (fun x hx => hO x (by simp [hx])) hl
    refine ⟨k1 + k2 + 1, ?_⟩
    rw [List.flatMap_cons, pT, if_neg (by rw [e]; simp), up (fun i => (s_more i).1 _) h1 (by omega : k1 ≤ k1 + k2)]
    simp only [nx]
    rw [up (fun i => t_more i _) h2 (by omega : k2 ≤ k1 + k2)]
theorem in_rt {x : DI} (h : inB x = true) (r : List T3) : ∃ ts, tkI x ++ r = wd kIn :: ts ∧ pI ts = .ok (x, r) := by
  have ok := inB_ok h
  obtain ⟨f0, f1, f2, f3⟩ := x
  unfold InOk at ok
  simp only at ok
  obtain ⟨a, rfl⟩ : ∃ a : Nat, f1 = (a : Int) := ⟨f1.toNat, by omega⟩
  obtain ⟨b, rfl⟩ : ∃ b : Nat, f2 = (b : Int) := ⟨f2.toNat, by omega⟩
  obtain ⟨c, rfl⟩ : ∃ c : Nat, f3 = (c : Int) := ⟨f3.toNat, by omega⟩
  by_cases hc : c = 0
  · subst hc
    refine ⟨id3 f0 :: wd kFrom :: nm a :: sg [58] :: nm b :: sg [59] :: r, by simp [tkI], ?_⟩
    unfold pI
    simp only [name_ok, nx, isT_ne (show kFrom ≠ [91] by decide), Bool.false_eq_true, if_false, must_ok (isT_wd kFrom _), num_ok, must_ok (isT_sg [58] _), must_ok (isT_sg [59] _)]
    rfl
  · refine ⟨id3 f0 :: sg [91] :: nm c :: sg [93] :: wd kFrom :: nm a :: sg [58] :: nm b :: sg [59] :: r, by simp [tkI, hc], ?_⟩
    unfold pI
    simp only [name_ok, nx, isT_sg, if_true, must_ok (isT_sg [91] _), must_ok (isT_sg [93] _), must_ok (isT_wd kFrom _), num_ok, must_ok (isT_sg [58] _), must_ok (isT_sg [59] _)]
theorem ar_rt {x : DA} (h : arB x = true) (r : List T3) : ∃ ts, tkA x ++ r = wd kArr :: ts ∧ pAr ts = .ok (x, r) := by
  have ok := arB_ok h
  obtain ⟨f0, f1⟩ := x
  unfold ArOk at ok
  simp only at ok
  obtain ⟨a, rfl⟩ : ∃ a : Nat, f1 = (a : Int) := ⟨f1.toNat, by omega⟩
  refine ⟨id3 f0 :: sg [91] :: nm a :: sg [93] :: sg [59] :: r, by simp [tkA], ?_⟩
  unfold pAr
  simp only [name_ok, nx, must_ok (isT_sg [91] _), must_ok (isT_sg [93] _), num_ok, must_ok (isT_sg [59] _)]
theorem decl_rt : ∀ (l0 : List DI) (l1 : List DA), l0.all inB = true → l1.all arB = true → ∀ r, isT kIn r = false → isT kArr r = false → ∃ k, pD k (l0.flatMap tkI ++ (l1.flatMap tkA ++ r)) = .ok ((l0, l1), r)
  | [], [], _, _, r, hi, ha => ⟨1, by show pD 1 r = _; rw [pD, hi, ha]; rfl⟩
  | [], x :: l1, h0, h1, r, hi, ha => by
    have hx := List.all_eq_true.1 h1 x (by simp)
    have hl : l1.all arB = true := List.all_eq_true.2 fun y hy => List.all_eq_true.1 h1 y (by simp [hy])
    obtain ⟨k, hk⟩ := decl_rt [] l1 h0 hl r hi ha
    obtain ⟨ts, e, p⟩ := ar_rt hx (l1.flatMap tkA ++ r)
    refine ⟨k + 1, ?_⟩
    have hk' : pD k (l1.flatMap tkA ++ r) = .ok (([], l1), r) := hk
    rw [List.flatMap_nil, List.nil_append, List.flatMap_cons, List.append_assoc, e, pD, isT_ne (by decide), isT_wd, List.tail_cons, p]
    simp only [Bool.false_eq_true, if_false, if_true, nx, hk']
  | x :: l0, l1, h0, h1, r, hi, ha => by
    have hx := List.all_eq_true.1 h0 x (by simp)
    have hl : l0.all inB = true := List.all_eq_true.2 fun y hy => List.all_eq_true.1 h0 y (by simp [hy])
    obtain ⟨k, hk⟩ := decl_rt l0 l1 hl h1 r hi ha
    obtain ⟨ts, e, p⟩ := in_rt hx (l0.flatMap tkI ++ (l1.flatMap tkA ++ r))
    refine ⟨k + 1, ?_⟩
    rw [List.flatMap_cons, List.append_assoc, e, pD, isT_wd, List.tail_cons, p]
    simp only [if_true, nx, hk]
theorem prog_rt {l0 : List DI} {l1 : List DA} {l2 : List ST} (hO : ∀ x ∈ l2, OkS x) (h0 : l0.all inB = true) (h1 : l1.all arB = true) (h2 : l2.all (stmtB 24) = true) : ∃ k, pP k (tkP l0 l1 l2) = .ok (((l0, l1), l2), []) := by
  have hh : isT kIn (l2.flatMap (tkS 24)) = false ∧ isT kArr (l2.flatMap (tkS 24)) = false := by
    cases l2 with
    | nil => exact ⟨rfl, rfl⟩
    | cons a l =>
      obtain ⟨t, q, e, k⟩ := st_head (hO a (by simp)) (List.all_eq_true.1 h2 a (by simp))
      rw [List.flatMap_cons, e]
      exact ⟨(k _).2.2.1, (k _).2.2.2⟩
  obtain ⟨k1, e1⟩ := decl_rt l0 l1 h0 h1 _ hh.1 hh.2
  obtain ⟨k2, e2⟩ := top_rt l2 hO h2
  refine ⟨k1 + k2, ?_⟩
  unfold pP tkP
  rw [List.append_assoc, up (fun i => d_more i _) e1 (by omega : k1 ≤ k1 + k2)]
  simp only [nx]
  rw [up (fun i => t_more i _) e2 (by omega : k2 ≤ k1 + k2)]
theorem p_more_P (k : Nat) (ts : List T3) : LeR (pP k ts) (pP (k + 1) ts) := LeR.nx (d_more k ts) fun _ _ => LeR.nx (t_more k _) fun _ _ => LeR.refl _
/-- one text, one program -/
theorem fmt_inj {l0 m0 : List DI} {l1 m1 : List DA} {l2 m2 : List ST} (hO : ∀ x ∈ l2, OkS x) (h0 : l0.all inB = true) (h1 : l1.all arB = true) (h2 : l2.all (stmtB 24) = true) (hO' : ∀ x ∈ m2, OkS x) (h0' : m0.all inB = true) (h1' : m1.all arB = true) (h2' : m2.all (stmtB 24) = true) (e : fmtB l0 l1 l2 = fmtB m0 m1 m2) : l0 = m0 ∧ l1 = m1 ∧ l2 = m2 := by
  have t := toks_fmt hO h0 h1 h2
  rw [e, toks_fmt hO' h0' h1' h2'] at t
  injection t with t
  obtain ⟨k, hk⟩ := prog_rt hO h0 h1 h2
  obtain ⟨j, hj⟩ := prog_rt hO' h0' h1' h2'
  rw [← t] at hk
  have a := up (fun i => p_more_P i _) hk (by omega : k ≤ k + j)
  have b := up (fun i => p_more_P i _) hj (by omega : j ≤ k + j)
  rw [a] at b
  injection b with b
  injection b with b _
  injection b with b c
  injection b with b d
  exact ⟨b, d, c⟩
end Go.Proofs.YtlhnfgnihakcfaaDoor.Ax
