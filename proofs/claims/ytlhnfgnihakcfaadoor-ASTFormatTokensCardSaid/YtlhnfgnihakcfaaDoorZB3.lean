import Derived.Test.YtlhnfgnihakcfaaDoorZPxAll
import Derived.Lib.ItoaNum
import Derived.Test.YtlhnfgnihakcfaaDoorZA5
set_option linter.unusedSimpArgs false
set_option linter.unusedVariables false
namespace Px
open Go
theorem u8 (P : UInt8 → Prop) (h : ∀ c : Fin 256, P (UInt8.ofNat c.val)) (c : UInt8) : P c := by simpa using h ⟨c.toNat, c.toNat_lt⟩
abbrev T3 := Nat × Bs × Nat
def strip (t : Tok) : T3 := (t.kind, t.text, t.num)
def toks (l : Bs) : Option (List T3) := match lexA 0 l with | .ok ts => some (ts.map strip) | .error _ => none
theorem toks_at (a : Nat) (l : Bs) : toks l = match lexA a l with | .ok ts => some (ts.map strip) | .error _ => none := by
  have h := lexA_shift a 0 l
  rw [Nat.zero_add] at h
  rw [h]
  unfold toks
  cases lexA 0 l with
  | error e => rfl
  | ok ts => simp [strip]
theorem toks_nil : toks [] = some [] := by
  unfold toks
  rw [lexA_eq, lexStep_nil (by rfl)]
  rfl
theorem toks_step {l : Bs} {t : Tok} (h : take (l.drop (ws false l)) = .ok t) : toks l = (toks ((l.drop (ws false l)).drop t.text.length)).map (strip t :: ·) := by
  rw [toks_at (0 + ws false l + t.text.length) ((l.drop (ws false l)).drop t.text.length)]
  unfold toks
  rw [lexA_eq, lexStep_tok h]
  cases lexA (0 + ws false l + t.text.length) ((l.drop (ws false l)).drop t.text.length) with
  | error e => rfl
  | ok ts => rfl
theorem toks_tok {l : Bs} {t : Tok} (hw : ws false l = 0) (h : take l = .ok t) : toks l = (toks (l.drop t.text.length)).map (strip t :: ·) := by
  have := toks_step (l := l) (t := t) (by rw [hw]; exact h)
  rwa [hw] at this
theorem toks_blank {c : UInt8} (l : Bs) (h : blankc c = true) : toks (c :: l) = toks l := by
  have hw := ws_blank c l h
  have e : (c :: l).drop (1 + ws false l) = l.drop (ws false l) := by rw [Nat.add_comm]; rfl
  cases ht : take (l.drop (ws false l)) with
  | ok t => rw [toks_step ht, toks_step (l := c :: l) (t := t) (by rw [hw, e]; exact ht), hw, e]
  | error z =>
    unfold toks
    by_cases hn : l.drop (ws false l) = []
    · rw [lexA_eq, lexA_eq, lexStep_nil hn, lexStep_nil (by rw [hw, e]; exact hn)]
    · rw [lexA_eq, lexA_eq, lexStep_err hn ht, lexStep_err (l := c :: l) (by rw [hw, e]; exact hn) (by rw [hw, e]; exact ht)]
def Bd (r : Bs) : Prop := ∀ c l, r = c :: l → wordc c = false
theorem bd_cons {c : UInt8} {l : Bs} (h : wordc c = false) : Bd (c :: l) := fun _ _ e => by cases e; exact h
theorem tw_app (p : UInt8 → Bool) (w r : Bs) (hw : ∀ d ∈ w, p d = true) (hr : ∀ c l, r = c :: l → p c = false) : (w ++ r).takeWhile p = w := by
  cases r with
  | nil => rw [List.append_nil]; induction w with
    | nil => rfl
    | cons a w ih => rw [List.takeWhile_cons, if_pos (hw a (List.mem_cons_self ..)), ih (fun d hd => hw d (List.mem_cons_of_mem _ hd))]
  | cons c l => exact tw_self p w l c (hr c l rfl) hw
theorem toks_word {w r : Bs} (h : isName w = true) (hr : Bd r) : toks (w ++ r) = (toks r).map ((1, w, 0) :: ·) := by
  cases w with
  | nil => cases h
  | cons c w =>
    simp only [isName, Bool.and_eq_true, List.all_eq_true, decide_eq_true_eq, Bool.not_eq_true'] at h
    obtain ⟨⟨⟨h1, h2⟩, h3⟩, h4⟩ := h
    have hd : digit c = false ∧ blankc c = false ∧ c ≠ 47 := by
      exact u8 (fun c => letter c = true → digit c = false ∧ blankc c = false ∧ c ≠ 47) (by decide +kernel) c h1
    have hk : take (c :: w ++ r) = .ok ⟨1, c :: w, 0, 0⟩ := by
      rw [List.cons_append]
      have e := tw_app wordc (c :: w) r h2 hr
      rw [List.cons_append] at e
      simp only [take, hd.1, h1, e, if_true, Bool.false_eq_true, if_false, h4]
      rw [if_neg (by omega)]
    rw [toks_tok (by rw [List.cons_append]; exact ws_zero c _ hd.2.1 hd.2.2) hk]
    simp [strip]
theorem toks_res {w r : Bs} (h : reserved.contains w = true) (hr : Bd r) : toks (w ++ r) = (toks r).map ((3, w, 0) :: ·) := by
  have hm : ∃ c l, w = c :: l ∧ letter c = true ∧ (∀ d ∈ w, wordc d = true) ∧ w.length ≤ 20 := by
    have : w ∈ reserved := by simpa using h
    have hh : ∀ w ∈ reserved, ∃ c l, w = c :: l ∧ letter c = true ∧ (∀ d ∈ w, wordc d = true) ∧ w.length ≤ 20 := by
      intro w hw
      simp only [reserved, List.mem_cons, List.not_mem_nil, or_false] at hw
      rcases hw with rfl | rfl | rfl | rfl | rfl | rfl | rfl | rfl <;> exact ⟨_, _, rfl, by decide, by decide, by decide⟩
    exact hh w this
  obtain ⟨c, l, rfl, h1, h2, h3⟩ := hm
  have hd : digit c = false ∧ blankc c = false ∧ c ≠ 47 := by
    exact u8 (fun c => letter c = true → digit c = false ∧ blankc c = false ∧ c ≠ 47) (by decide +kernel) c h1
  have hk : take (c :: l ++ r) = .ok ⟨3, c :: l, 0, 0⟩ := by
    rw [List.cons_append]
    have e := tw_app wordc (c :: l) r h2 hr
    rw [List.cons_append] at e
    simp only [take, hd.1, h1, e, if_true, Bool.false_eq_true, if_false, h]
    rw [if_neg (by omega)]
  rw [toks_tok (by rw [List.cons_append]; exact ws_zero c _ hd.2.1 hd.2.2) hk]
  simp [strip]
theorem toks_sign {c : UInt8} {r : Bs} (h : signc c = true) (hr : c = 61 → ∀ d l, r = d :: l → d ≠ 61) : toks (c :: r) = (toks r).map ((4, [c], 0) :: ·) := by
  have hd : digit c = false ∧ letter c = false ∧ blankc c = false ∧ c ≠ 47 := by
    exact u8 (fun c => signc c = true → digit c = false ∧ letter c = false ∧ blankc c = false ∧ c ≠ 47) (by decide +kernel) c h
  have hk : take (c :: r) = .ok ⟨4, [c], 0, 0⟩ := by
    have e : ((c :: r).take 2 == [61, 61]) = false := by
      cases r with
      | nil => simp
      | cons d l =>
        simp only [List.take_succ_cons, List.take_zero]
        cases hb : ([c, d] == [61, 61] : Bool) with
        | false => rfl
        | true =>
          have : [c, d] = ([61, 61] : Bs) := by simpa using hb
          injection this with a b
          injection b with b _
          exact absurd b (hr a d l rfl)
    simp only [take, hd.1, hd.2.1, h, e, if_true, Bool.false_eq_true, if_false]
  rw [toks_tok (ws_zero c _ hd.2.2.1 hd.2.2.2) hk]
  simp [strip]
theorem toks_eq (r : Bs) : toks (61 :: 61 :: r) = (toks r).map ((4, [61, 61], 0) :: ·) := by
  rw [toks_tok (l := 61 :: 61 :: r) (t := ⟨4, [61, 61], 0, 0⟩) (ws_zero 61 _ (by decide) (by decide)) (by rfl)]
  simp [strip]
theorem dec_digits (u : Nat) : ∀ d ∈ Lib.decDigits u, digit d = true := by
  induction u using Nat.strongRecOn with
  | _ u ih =>
    have hg : ∀ k, k < 10 → digit (UInt8.ofNat (48 + k)) = true := by decide
    rw [Lib.decDigits]
    split
    · rename_i h
      intro d hd
      rw [List.mem_singleton] at hd
      subst hd
      exact hg u h
    · intro d hd
      rcases List.mem_append.1 hd with hd | hd
      · exact ih (u / 10) (by omega) d hd
      · rw [List.mem_singleton] at hd
        subst hd
        exact hg _ (by omega)
theorem dec_val (u : Nat) (hu : u < 1152921504606846976) : numVal 0 (Lib.decDigits u) = some u := by
  induction u using Nat.strongRecOn with
  | _ u ih =>
    rw [Lib.decDigits]
    split
    · rename_i h
      simp only [numVal, UInt8.toNat_ofNat']
      rw [if_pos (by omega)]
      congr 1; omega
    · rename_i h
      rw [numVal_append (ih (u / 10) (by omega) (by omega))]
      simp only [numVal, UInt8.toNat_ofNat']
      rw [if_pos (by omega)]
      congr 1; omega
theorem dec_ne (u : Nat) : ∃ c l, Lib.decDigits u = c :: l := by
  rw [Lib.decDigits]
  split
  · exact ⟨_, _, rfl⟩
  · cases h : Lib.decDigits (u / 10) with
    | nil => exact ⟨_, _, rfl⟩
    | cons c l => exact ⟨_, _, rfl⟩
theorem toks_num {u : Nat} {r : Bs} (hu : u < 1152921504606846976) (hr : Bd r) : toks (Lib.decDigits u ++ r) = (toks r).map ((2, Lib.decDigits u, u) :: ·) := by
  obtain ⟨c, l, e⟩ := dec_ne u
  have h2 := dec_digits u
  have hv := dec_val u hu
  rw [e] at h2 hv ⊢
  have h1 : digit c = true := h2 c (List.mem_cons_self ..)
  have hd : blankc c = false ∧ c ≠ 47 := by
    exact u8 (fun c => digit c = true → blankc c = false ∧ c ≠ 47) (by decide +kernel) c h1
  have hk : take (c :: l ++ r) = .ok ⟨2, c :: l, u, 0⟩ := by
    rw [List.cons_append]
    have e := tw_app digit (c :: l) r h2 (fun d l' h => by have := hr d l' h; simp only [wordc, Bool.or_eq_false_iff] at this; exact this.1.2)
    rw [List.cons_append] at e
    simp only [take, h1, e, if_true, hv]
  rw [toks_tok (by rw [List.cons_append]; exact ws_zero c _ hd.1 hd.2) hk]
  simp [strip]
theorem toks_blanks (n : Nat) (l : Bs) : toks (List.replicate n 32 ++ l) = toks l := by
  induction n with
  | zero => rfl
  | succ n ih => rw [List.replicate_succ, List.cons_append, toks_blank _ (by decide), ih]
end Px
set_option linter.unusedSimpArgs false
set_option linter.unusedVariables false
namespace Go.Proofs.YtlhnfgnihakcfaaDoor.Ax
open Go.RowKit Hp Kn Px
abbrev EX := S40
abbrev ST := S64
inductive VE (n : Nat) : EX → Prop
  | num (u : Nat) (h : u < 1152921504606846976) : VE n ⟨1, 0, (u : Int), ⟨#[]⟩, []⟩
  | var (s : ByteArray) (h : isName (bts s) = true) : VE n ⟨2, 0, 0, s, []⟩
  | idx (s : ByteArray) (h : isName (bts s) = true) (a : EX) (ha : exprB n a = true) (oa : OkE a) : VE n ⟨3, 0, 0, s, [a]⟩
  | op (o : Nat) (h1 : 1 ≤ o) (h7 : o ≤ 7) (a b : EX) (ha : exprB n a = true) (oa : OkE a) (hb : exprB n b = true) (ob : OkE b) : VE n ⟨4, (o : Int), 0, ⟨#[]⟩, [a, b]⟩
  | no (a : EX) (ha : exprB n a = true) (oa : OkE a) : VE n ⟨5, 0, 0, ⟨#[]⟩, [a]⟩
  | sel (a b c : EX) (ha : exprB n a = true) (oa : OkE a) (hb : exprB n b = true) (ob : OkE b) (hc : exprB n c = true) (oc : OkE c) : VE n ⟨6, 0, 0, ⟨#[]⟩, [a, b, c]⟩
theorem ve_of {n : Nat} {x : EX} (hO : OkE x) (h : exprB (n + 1) x = true) : VE n x := by
  obtain ⟨o0, o1, o3, o4, ok⟩ := hO
  have hk : ∀ a ∈ x.f4, exprB n a = true := by simp only [exprB, Bool.and_eq_true, List.all_eq_true] at h; exact h.2
  obtain ⟨f0, f1, f2, f3, f4⟩ := x
  simp only [exprB, Bool.and_eq_true, shapeOk] at h
  obtain ⟨⟨⟨⟨⟨⟨hkn, ho⟩, hn⟩, hs⟩, hl⟩, hkd⟩, _⟩ := h
  simp only at *
  have hkn : f0 = 1 ∨ f0 = 2 ∨ f0 = 3 ∨ f0 = 4 ∨ f0 = 5 ∨ f0 = 6 := by
    simp only [known, Bool.or_eq_true, beq_iff_eq] at hkn; omega
  have mem : ∀ a ∈ f4, exprB n a = true ∧ OkE a := fun a ha => ⟨hk a ha, ok a ha⟩
  rcases hkn with rfl | rfl | rfl | rfl | rfl | rfl
  · simp [bareOp] at ho; simp [bareName] at hs; simp [kidsN] at hl; simp [kindOk] at hkd
    subst ho; subst hl
    obtain rfl : f3 = ⟨#[]⟩ := (str_eq _ _).1 (by simp [hs])
    obtain ⟨u, rfl⟩ : ∃ u : Nat, f2 = (u : Int) := ⟨f2.toNat, by omega⟩
    exact .num u (by omega)
  · simp [bareOp] at ho; simp [bareNum] at hn; simp [kidsN] at hl; simp [kindOk] at hkd
    subst ho; subst hn; subst hl
    exact .var f3 hkd
  · simp [bareOp] at ho; simp [bareNum] at hn; simp [kidsN] at hl; simp [kindOk] at hkd
    subst ho; subst hn
    obtain ⟨a, rfl⟩ := List.length_eq_one_iff.1 (show f4.length = 1 by omega)
    have := mem a (by simp)
    exact .idx f3 hkd a this.1 this.2
  · simp [bareNum] at hn; simp [bareName] at hs; simp [kidsN] at hl; simp [kindOk] at hkd
    subst hn
    obtain rfl : f3 = ⟨#[]⟩ := (str_eq _ _).1 (by simp [hs])
    obtain ⟨a, b, rfl⟩ : ∃ a b, f4 = [a, b] := by
      match f4, (show f4.length = 2 by omega) with
      | [a, b], _ => exact ⟨a, b, rfl⟩
    obtain ⟨o, rfl⟩ : ∃ o : Nat, f1 = (o : Int) := ⟨f1.toNat, by omega⟩
    have h1 := mem a (by simp)
    have h2 := mem b (by simp)
    exact .op o (by omega) (by omega) a b h1.1 h1.2 h2.1 h2.2
  · simp [bareOp] at ho; simp [bareNum] at hn; simp [bareName] at hs; simp [kidsN] at hl
    subst ho; subst hn
    obtain rfl : f3 = ⟨#[]⟩ := (str_eq _ _).1 (by simp [hs])
    obtain ⟨a, rfl⟩ := List.length_eq_one_iff.1 (show f4.length = 1 by omega)
    have := mem a (by simp)
    exact .no a this.1 this.2
  · simp [bareOp] at ho; simp [bareNum] at hn; simp [bareName] at hs; simp [kidsN] at hl
    subst ho; subst hn
    obtain rfl : f3 = ⟨#[]⟩ := (str_eq _ _).1 (by simp [hs])
    obtain ⟨a, b, c, rfl⟩ : ∃ a b c, f4 = [a, b, c] := by
      match f4, (show f4.length = 3 by omega) with
      | [a, b, c], _ => exact ⟨a, b, c, rfl⟩
    have h1 := mem a (by simp)
    have h2 := mem b (by simp)
    have h3 := mem c (by simp)
    exact .sel a b c h1.1 h1.2 h2.1 h2.2 h3.1 h3.2
theorem bts_two (a b : ByteArray) : bts (a ++ b) = bts a ++ bts b := by unfold bts; simp
theorem bts_lit (l : List UInt8) : bts ⟨l.toArray⟩ = l := by unfold bts; simp
theorem bts_dec (u : Nat) : bts (dec u) = Lib.decDigits u := bts_lit _
def sg (l : Bs) : T3 := (4, l, 0)
def hldT (y : EX) (least : Int) (ts : List T3) : List T3 := if strengthF y < least then sg [40] :: (ts ++ [sg [41]]) else ts
def tkE : Nat → EX → List T3
  | 0, _ => []
  | n + 1, x =>
    if x.f0 = 1 then [(2, Lib.decDigits x.f2.toNat, x.f2.toNat)]
    else if x.f0 = 2 then [(1, bts x.f3, 0)]
    else if x.f0 = 3 then (1, bts x.f3, 0) :: sg [91] :: (tkE n (kidE x 0) ++ [sg [93]])
    else if x.f0 = 5 then sg [33] :: hldT (kidE x 0) 8 (tkE n (kidE x 0))
    else if x.f0 = 6 then hldT (kidE x 0) 2 (tkE n (kidE x 0)) ++ sg [63] :: (tkE n (kidE x 1) ++ sg [58] :: tkE n (kidE x 2))
    else hldT (kidE x 0) (strengthL.getD x.f1.toNat 0) (tkE n (kidE x 0)) ++ sg (bts (signL.getD x.f1.toNat ⟨#[]⟩)) :: hldT (kidE x 1) (strengthL.getD x.f1.toNat 0 + 1) (tkE n (kidE x 1))
def Tks (b : Bs) (ts : List T3) : Prop := ∀ r, Bd r → toks (b ++ r) = (toks r).map (ts ++ ·)
theorem tks_app {b c : Bs} {ts us : List T3} (h : Tks b ts) (hc : ∃ d l, c = d :: l ∧ wordc d = false) (k : Tks c us) : Tks (b ++ c) (ts ++ us) := by
  obtain ⟨d, l, rfl, hd⟩ := hc
  intro r hr
  rw [List.append_assoc, h _ (by rw [List.cons_append]; exact bd_cons hd), k r hr]
  cases toks r with
  | none => rfl
  | some z => simp
def Tka (b : Bs) (ts : List T3) : Prop := ∀ r, toks (b ++ r) = (toks r).map (ts ++ ·)
theorem Tka.tks {b : Bs} {ts : List T3} (h : Tka b ts) : Tks b ts := fun r _ => h r
theorem tka_sign {c : UInt8} (h : signc c = true) (h61 : c ≠ 61) : Tka [c] [sg [c]] := fun r => toks_sign h (fun e => absurd e h61)
theorem tka_nil : Tka [] [] := fun r => by cases h : toks r <;> simp [h]
theorem tka_blank {c : UInt8} (h : blankc c = true) {b : Bs} {ts : List T3} (k : Tka b ts) : Tka (c :: b) ts := fun r => by rw [List.cons_append, toks_blank _ h]; exact k r
theorem tka_cons {c : UInt8} (h : signc c = true) (h61 : c ≠ 61) {b : Bs} {ts : List T3} (k : Tka b ts) : Tka (c :: b) (sg [c] :: ts) := fun r => by
  rw [List.cons_append, toks_sign h (fun e => absurd e h61), k r]
  cases toks r <;> simp [sg]
theorem tka_app {b c : Bs} {ts us : List T3} (h : Tka b ts) (k : Tka c us) : Tka (b ++ c) (ts ++ us) := fun r => by
  rw [List.append_assoc, h, k]
  cases toks r <;> simp
theorem tks_after {b c : Bs} {ts us : List T3} (h : Tka b ts) (k : Tks c us) : Tks (b ++ c) (ts ++ us) := fun r hr => by
  rw [List.append_assoc, h, k r hr]
  cases toks r <;> simp
theorem tka_close {b c : Bs} {ts us : List T3} (h : Tks b ts) (hc : ∃ d l, c = d :: l ∧ wordc d = false) (k : Tka c us) : Tka (b ++ c) (ts ++ us) := fun r => by
  obtain ⟨d, l, rfl, hd⟩ := hc
  rw [List.append_assoc, h _ (by rw [List.cons_append]; exact bd_cons hd), k]
  cases toks r <;> simp
theorem tks_hld {y : EX} {l : Int} {t : ByteArray} {ts : List T3} (h : Tks (bts t) ts) : Tks (bts (hld y l t)) (hldT y l ts) := by
  unfold hld hldT wrapT
  by_cases hy : strengthF y < l
  · simp only [hy, decide_true, if_true]
    have : bts (⟨#[40]⟩ ++ t ++ ⟨#[41]⟩) = [40] ++ (bts t ++ [41]) := by rw [bts_two, bts_two]; simp [bts]
    rw [this]
    exact (tka_app (tka_sign (by decide) (by decide)) (tka_close h ⟨41, [], rfl, by decide⟩ (tka_sign (by decide) (by decide)))).tks
  · simp only [hy, decide_false, if_false, Bool.false_eq_true]
    exact h
theorem tka_op {o : Nat} (h1 : 1 ≤ o) (h7 : o ≤ 7) : Tka (32 :: (bts (signL.getD o ⟨#[]⟩) ++ [32])) [sg (bts (signL.getD o ⟨#[]⟩))] := by
  refine tka_blank (by decide) ?_
  have h : o = 1 ∨ o = 2 ∨ o = 3 ∨ o = 4 ∨ o = 5 ∨ o = 6 ∨ o = 7 := by omega
  rcases h with rfl | rfl | rfl | rfl | rfl | rfl | rfl
  · exact tka_cons (c := 43) (by decide) (by decide) (tka_blank (by decide) tka_nil)
  · exact tka_cons (c := 45) (by decide) (by decide) (tka_blank (by decide) tka_nil)
  · exact tka_cons (c := 42) (by decide) (by decide) (tka_blank (by decide) tka_nil)
  · exact tka_cons (c := 60) (by decide) (by decide) (tka_blank (by decide) tka_nil)
  · intro r
    show toks (61 :: 61 :: ([32] ++ r)) = _
    rw [toks_eq, tka_blank (c := 32) (by decide) tka_nil r]
    cases toks r <;> simp [sg] <;> rfl
  · exact tka_cons (c := 38) (by decide) (by decide) (tka_blank (by decide) tka_nil)
  · exact tka_cons (c := 124) (by decide) (by decide) (tka_blank (by decide) tka_nil)
theorem tks_txt : ∀ (n : Nat) (x : EX), OkE x → exprB n x = true → Tks (bts (txt n x)) (tkE n x)
  | 0, x, _, h => by cases h
  | n + 1, x, hO, h => by
    cases ve_of hO h with
    | num u hu =>
      intro r hr
      simp only [txt, tkE, if_true, Int.toNat_natCast, bts_dec]
      exact toks_num hu hr
    | var s hs =>
      intro r hr
      simp [txt, tkE]
      exact toks_word hs hr
    | idx s hs a ha oa =>
      have ih := tks_txt n a oa ha
      have e1 : bts (txt (n + 1) ⟨3, 0, 0, s, [a]⟩) = bts s ++ ([91] ++ (bts (txt n a) ++ [93])) := by
        simp [txt, bts_two, kidE]; simp [bts]
      have e2 : tkE (n + 1) ⟨3, 0, 0, s, [a]⟩ = [(1, bts s, 0)] ++ ([sg [91]] ++ (tkE n a ++ [sg [93]])) := by simp [tkE, kidE]
      rw [e1, e2]
      exact tks_app (fun r hr => toks_word hs hr) ⟨91, _, rfl, by decide⟩ (tka_app (tka_sign (by decide) (by decide)) (tka_close ih ⟨93, _, rfl, by decide⟩ (tka_sign (by decide) (by decide)))).tks
    | op o h1 h7 a b ha oa hb ob =>
      have iha := tks_hld (y := a) (l := strengthL.getD o 0) (tks_txt n a oa ha)
      have ihb := tks_hld (y := b) (l := strengthL.getD o 0 + 1) (tks_txt n b ob hb)
      have e1 : bts (txt (n + 1) ⟨4, (o : Int), 0, ⟨#[]⟩, [a, b]⟩) = bts (hld a (strengthL.getD o 0) (txt n a)) ++ ((32 :: (bts (signL.getD o ⟨#[]⟩) ++ [32])) ++ bts (hld b (strengthL.getD o 0 + 1) (txt n b))) := by
        simp [txt, bts_two, kidE]; simp [bts]
      have e2 : tkE (n + 1) ⟨4, (o : Int), 0, ⟨#[]⟩, [a, b]⟩ = hldT a (strengthL.getD o 0) (tkE n a) ++ ([sg (bts (signL.getD o ⟨#[]⟩))] ++ hldT b (strengthL.getD o 0 + 1) (tkE n b)) := by simp [tkE, kidE]
      rw [e1, e2]
      exact tks_app iha ⟨32, _, rfl, by decide⟩ (tks_after (tka_op h1 h7) ihb)
    | no a ha oa =>
      have ih := tks_hld (y := a) (l := 8) (tks_txt n a oa ha)
      have e1 : bts (txt (n + 1) ⟨5, 0, 0, ⟨#[]⟩, [a]⟩) = [33] ++ bts (hld a 8 (txt n a)) := by
        simp [txt, bts_two, kidE]; simp [bts]
      have e2 : tkE (n + 1) ⟨5, 0, 0, ⟨#[]⟩, [a]⟩ = [sg [33]] ++ hldT a 8 (tkE n a) := by simp [tkE, kidE]
      rw [e1, e2]
      exact tks_after (tka_sign (by decide) (by decide)) ih
    | sel a b c ha oa hb ob hc oc =>
      have iha := tks_hld (y := a) (l := 2) (tks_txt n a oa ha)
      have ihb := tks_txt n b ob hb
      have ihc := tks_txt n c oc hc
      have e1 : bts (txt (n + 1) ⟨6, 0, 0, ⟨#[]⟩, [a, b, c]⟩) = bts (hld a 2 (txt n a)) ++ ([32, 63, 32] ++ (bts (txt n b) ++ ([32, 58, 32] ++ bts (txt n c)))) := by
        simp [txt, bts_two, kidE]; simp [bts]
      have e2 : tkE (n + 1) ⟨6, 0, 0, ⟨#[]⟩, [a, b, c]⟩ = hldT a 2 (tkE n a) ++ ([sg [63]] ++ (tkE n b ++ ([sg [58]] ++ tkE n c))) := by simp [tkE, kidE]
      rw [e1, e2]
      have s1 : ∀ c : UInt8, signc c = true → c ≠ 61 → Tka [32, c, 32] [sg [c]] := fun c h k => tka_blank (by decide) (tka_cons h k (tka_blank (by decide) tka_nil))
      exact tks_app iha ⟨32, _, rfl, by decide⟩ (tks_after (s1 63 (by decide) (by decide)) (tks_app ihb ⟨32, _, rfl, by decide⟩ (tks_after (s1 58 (by decide) (by decide)) ihc)))
end Go.Proofs.YtlhnfgnihakcfaaDoor.Ax
set_option linter.unusedSimpArgs false
set_option linter.unusedVariables false
namespace Go.Proofs.YtlhnfgnihakcfaaDoor.Ax
open Go.RowKit Hp Kn Px
inductive VS (n : Nat) : ST → Prop
  | set (s : ByteArray) (h : isName (bts s) = true) (e : EX) (he : exprB n e = true) (oe : OkE e) : VS n ⟨1, s, [e], [], []⟩
  | store (s : ByteArray) (h : isName (bts s) = true) (i e : EX) (hi : exprB n i = true) (oi : OkE i) (he : exprB n e = true) (oe : OkE e) : VS n ⟨2, s, [i, e], [], []⟩
  | cond (c : EX) (hc : exprB n c = true) (oc : OkE c) (t e : List ST) (ht : t.all (stmtB n) = true) (ot : ∀ y ∈ t, OkS y) (he : e.all (stmtB n) = true) (oe : ∀ y ∈ e, OkS y) : VS n ⟨3, ⟨#[]⟩, [c], t, e⟩
  | loop (s : ByteArray) (h : isName (bts s) = true) (a b : EX) (ha : exprB n a = true) (oa : OkE a) (hb : exprB n b = true) (ob : OkE b) (t : List ST) (ht : t.all (stmtB n) = true) (ot : ∀ y ∈ t, OkS y) : VS n ⟨4, s, [a, b], t, []⟩
  | out (e : EX) (he : exprB n e = true) (oe : OkE e) : VS n ⟨5, ⟨#[]⟩, [e], [], []⟩
theorem vs_of {n : Nat} {x : ST} (hO : OkS x) (h : stmtB (n + 1) x = true) : VS n x := by
  obtain ⟨o1, o2, o3, o4, k2, k3, k4⟩ := hO
  obtain ⟨f0, f1, f2, f3, f4⟩ := x
  simp only [stmtB, Bool.and_eq_true, shapeS, decide_eq_true_eq] at h
  obtain ⟨⟨⟨⟨⟨⟨h1, h5⟩, hl⟩, hn⟩, he⟩, ht⟩, ⟨⟨a2, a3⟩, a4⟩⟩ := h
  simp only at *
  have mem : ∀ a ∈ f2, exprB n a = true ∧ OkE a := fun a ha => ⟨List.all_eq_true.1 a2 a ha, k2 a ha⟩
  have hk : f0 = 1 ∨ f0 = 2 ∨ f0 = 3 ∨ f0 = 4 ∨ f0 = 5 := by omega
  have list2 : f2.length = 2 → ∃ a b, f2 = [a, b] := fun h => by
    match f2, h with
    | [a, b], _ => exact ⟨a, b, rfl⟩
  rcases hk with rfl | rfl | rfl | rfl | rfl
  · simp [partsN] at hl; simp [named] at hn; simp at he; simp at ht
    obtain ⟨a, rfl⟩ := List.length_eq_one_iff.1 (show f2.length = 1 by omega)
    subst he; subst ht
    exact .set f1 hn a (mem a (by simp)).1 (mem a (by simp)).2
  · simp [partsN] at hl; simp [named] at hn; simp at he; simp at ht
    obtain ⟨a, b, rfl⟩ := list2 (by omega)
    subst he; subst ht
    exact .store f1 hn a b (mem a (by simp)).1 (mem a (by simp)).2 (mem b (by simp)).1 (mem b (by simp)).2
  · simp [partsN] at hl; simp [named] at hn
    obtain ⟨a, rfl⟩ := List.length_eq_one_iff.1 (show f2.length = 1 by omega)
    obtain rfl : f1 = ⟨#[]⟩ := (str_eq _ _).1 (by simp [hn])
    exact .cond a (mem a (by simp)).1 (mem a (by simp)).2 f3 f4 a3 k3 a4 k4
  · simp [partsN] at hl; simp [named] at hn; simp at he
    obtain ⟨a, b, rfl⟩ := list2 (by omega)
    subst he
    exact .loop f1 hn a b (mem a (by simp)).1 (mem a (by simp)).2 (mem b (by simp)).1 (mem b (by simp)).2 f3 a3 k3
  · simp [partsN] at hl; simp [named] at hn; simp at he; simp at ht
    obtain ⟨a, rfl⟩ := List.length_eq_one_iff.1 (show f2.length = 1 by omega)
    obtain rfl : f1 = ⟨#[]⟩ := (str_eq _ _).1 (by simp [hn])
    subst he; subst ht
    exact .out a (mem a (by simp)).1 (mem a (by simp)).2
def wd (l : Bs) : T3 := (3, l, 0)
def nm (u : Nat) : T3 := (2, Lib.decDigits u, u)
def id3 (s : ByteArray) : T3 := (1, bts s, 0)
def tkS : Nat → ST → List T3
  | 0, _ => []
  | n + 1, x =>
    if x.f0 = 1 then id3 x.f1 :: sg [61] :: (tkE n (kidS x 0) ++ [sg [59]])
    else if x.f0 = 2 then id3 x.f1 :: sg [91] :: (tkE n (kidS x 0) ++ sg [93] :: sg [61] :: (tkE n (kidS x 1) ++ [sg [59]]))
    else if x.f0 = 5 then wd [111, 117, 116] :: (tkE n (kidS x 0) ++ [sg [59]])
    else if x.f0 = 3 then wd [105, 102] :: sg [40] :: (tkE n (kidS x 0) ++ sg [41] :: sg [123] :: (x.f3.flatMap (tkS n) ++ sg [125] :: (if 0 < x.f4.length then wd [101, 108, 115, 101] :: sg [123] :: (x.f4.flatMap (tkS n) ++ [sg [125]]) else [])))
    else wd [102, 111, 114] :: id3 x.f1 :: sg [61] :: (tkE n (kidS x 0) ++ wd [116, 111] :: (tkE n (kidS x 1) ++ sg [123] :: (x.f3.flatMap (tkS n) ++ [sg [125]])))
def tkI (x : S55) : List T3 := wd [105, 110] :: id3 x.f0 :: ((if x.f3 = 0 then [] else [sg [91], nm x.f3.toNat, sg [93]]) ++ [wd [102, 114, 111, 109], nm x.f1.toNat, sg [58], nm x.f2.toNat, sg [59]])
def tkA (x : S58) : List T3 := [wd [97, 114, 114, 97, 121], id3 x.f0, sg [91], nm x.f1.toNat, sg [93], sg [59]]
def tkP (l0 : List S55) (l1 : List S58) (l2 : List ST) : List T3 := l0.flatMap tkI ++ l1.flatMap tkA ++ l2.flatMap (tkS 24)
theorem tks_res {w : Bs} (h : reserved.contains w = true) : Tks w [wd w] := fun r hr => toks_res h hr
theorem tks_name {s : ByteArray} (h : isName (bts s) = true) : Tks (bts s) [id3 s] := fun r hr => toks_word h hr
theorem tks_num {u : Nat} (h : u < 1152921504606846976) : Tks (Lib.decDigits u) [nm u] := fun r hr => toks_num h hr
theorem tka_ind (m : Nat) {b : Bs} {ts : List T3} (k : Tka b ts) : Tka (Lib.repeatL [32, 32] m ++ b) ts := by
  have : ∀ j : Nat, Tka (List.replicate j 32 ++ b) ts := fun j r => by rw [List.append_assoc, toks_blanks]; exact k r
  have e : ∀ m : Nat, Lib.repeatL ([32, 32] : Bs) m = List.replicate (2 * m) 32 := by
    intro m
    induction m with
    | zero => rfl
    | succ m ih => rw [show 2 * (m + 1) = 2 * m + 1 + 1 by omega, List.replicate_succ, List.replicate_succ, ← ih]; simp [Lib.repeatL, List.replicate_succ]
  rw [e]
  exact this _
theorem tka_nl : Tka [10] [] := tka_blank (by decide) tka_nil
theorem tka_flat {α : Type} {f : α → Bs} {g : α → List T3} {l : List α} (h : ∀ x ∈ l, Tka (f x) (g x)) : Tka (l.flatMap f) (l.flatMap g) := by
  induction l with
  | nil => exact tka_nil
  | cons a l ih => rw [List.flatMap_cons, List.flatMap_cons]; exact tka_app (h a (by simp)) (ih fun x hx => h x (by simp [hx]))
theorem a1 {c : UInt8} (h : signc c = true) (k : c ≠ 61) {b : Bs} {ts : List T3} (t : Tka b ts) : Tka (c :: b) (sg [c] :: ts) := tka_cons h k t
theorem a0 {b : Bs} {ts : List T3} (t : Tka b ts) : Tka (32 :: b) ts := tka_blank (by decide) t
theorem tka_eq {b : Bs} {ts : List T3} (t : Tka b ts) : Tka (61 :: 32 :: b) (sg [61] :: ts) := fun r => by
  show toks (61 :: 32 :: (b ++ r)) = _
  rw [toks_sign (c := 61) (by decide) (fun _ d l e => by cases e; decide), toks_blank _ (by decide), t r]
  cases toks r <;> simp [sg]
theorem line_eq (m : Nat) (ps : List ByteArray) : lineT m ps = Lib.repeatL [32, 32] m ++ (ps.flatMap bts ++ [10]) := by unfold lineT; rw [List.append_assoc]
theorem tka_st : ∀ (n : Nat) (x : ST), OkS x → stmtB n x = true → ∀ m, Tka (stT n m x) (tkS n x)
  | 0, x, _, h, _ => by cases h
  | n + 1, x, hO, h, m => by
    have kw : ∀ (w : Bs), reserved.contains w = true → ∀ {b : Bs} {ts : List T3}, Tka b ts → Tka (w ++ (32 :: b)) (wd w :: ts) := fun w hw b ts k => tka_close (tks_res hw) ⟨32, _, rfl, by decide⟩ (a0 k)
    have nl : Tka [59, 10] [sg [59]] := a1 (by decide) (by decide) tka_nl
    cases vs_of hO h with
    | set s hs e he oe =>
      have e1 : stT (n + 1) m ⟨1, s, [e], [], []⟩ = Lib.repeatL [32, 32] m ++ (bts s ++ (32 :: 61 :: 32 :: (bts (txt n e) ++ [59, 10]))) := by simp [stT, line_eq, kidS]; simp [bts]
      have e2 : tkS (n + 1) ⟨1, s, [e], [], []⟩ = [id3 s] ++ (sg [61] :: (tkE n e ++ [sg [59]])) := by simp [tkS, kidS]
      rw [e1, e2]
      exact tka_ind m (tka_close (tks_name hs) ⟨32, _, rfl, by decide⟩ (a0 (tka_eq (tka_close (tks_txt n e oe he) ⟨59, _, rfl, by decide⟩ nl))))
    | store s hs i e hi oi he oe =>
      have e1 : stT (n + 1) m ⟨2, s, [i, e], [], []⟩ = Lib.repeatL [32, 32] m ++ (bts s ++ (91 :: (bts (txt n i) ++ (93 :: 32 :: 61 :: 32 :: (bts (txt n e) ++ [59, 10]))))) := by simp [stT, line_eq, kidS]; simp [bts]
      have e2 : tkS (n + 1) ⟨2, s, [i, e], [], []⟩ = [id3 s] ++ (sg [91] :: (tkE n i ++ (sg [93] :: sg [61] :: (tkE n e ++ [sg [59]])))) := by simp [tkS, kidS]
      rw [e1, e2]
      exact tka_ind m (tka_close (tks_name hs) ⟨91, _, rfl, by decide⟩ (a1 (by decide) (by decide) (tka_close (tks_txt n i oi hi) ⟨93, _, rfl, by decide⟩ (a1 (by decide) (by decide) (a0 (tka_eq (tka_close (tks_txt n e oe he) ⟨59, _, rfl, by decide⟩ nl)))))))
    | cond c hc oc t e ht ot he oe =>
      have ih1 : Tka (t.flatMap (stT n (m + 1))) (t.flatMap (tkS n)) := tka_flat fun y hy => tka_st n y (ot y hy) (List.all_eq_true.1 ht y hy) (m + 1)
      have ih2 : Tka (e.flatMap (stT n (m + 1))) (e.flatMap (tkS n)) := tka_flat fun y hy => tka_st n y (oe y hy) (List.all_eq_true.1 he y hy) (m + 1)
      have cl : Tka [125, 10] [sg [125]] := a1 (by decide) (by decide) tka_nl
      have e1 : stT (n + 1) m ⟨3, ⟨#[]⟩, [c], t, e⟩ = (Lib.repeatL [32, 32] m ++ ([105, 102] ++ (32 :: 40 :: (bts (txt n c) ++ [41, 32, 123, 10])))) ++ (t.flatMap (stT n (m + 1)) ++ ((if 0 < e.length then (Lib.repeatL [32, 32] m ++ (125 :: 32 :: ([101, 108, 115, 101] ++ (32 :: [123, 10])))) ++ e.flatMap (stT n (m + 1)) else []) ++ (Lib.repeatL [32, 32] m ++ [125, 10]))) := by
        simp [stT, line_eq, kidS]; simp [bts]
      by_cases hl : 0 < e.length
      · have e2 : tkS (n + 1) ⟨3, ⟨#[]⟩, [c], t, e⟩ = (wd [105, 102] :: sg [40] :: (tkE n c ++ [sg [41], sg [123]])) ++ (t.flatMap (tkS n) ++ (((sg [125] :: wd [101, 108, 115, 101] :: [sg [123]]) ++ e.flatMap (tkS n)) ++ [sg [125]])) := by simp [tkS, kidS, hl]
        rw [e1, e2, if_pos hl]
        exact tka_app (tka_ind m (kw _ (by decide) (a1 (by decide) (by decide) (tka_close (tks_txt n c oc hc) ⟨41, _, rfl, by decide⟩ (a1 (by decide) (by decide) (a0 (a1 (by decide) (by decide) tka_nl))))))) (tka_app ih1 (tka_app (tka_app (tka_ind m (a1 (by decide) (by decide) (a0 (kw _ (by decide) (a1 (by decide) (by decide) tka_nl))))) ih2) (tka_ind m cl)))
      · have e2 : tkS (n + 1) ⟨3, ⟨#[]⟩, [c], t, e⟩ = (wd [105, 102] :: sg [40] :: (tkE n c ++ [sg [41], sg [123]])) ++ (t.flatMap (tkS n) ++ ([] ++ [sg [125]])) := by simp [tkS, kidS, hl]
        rw [e1, e2, if_neg hl]
        exact tka_app (tka_ind m (kw _ (by decide) (a1 (by decide) (by decide) (tka_close (tks_txt n c oc hc) ⟨41, _, rfl, by decide⟩ (a1 (by decide) (by decide) (a0 (a1 (by decide) (by decide) tka_nl))))))) (tka_app ih1 (tka_app tka_nil (tka_ind m cl)))
    | loop s hs a b ha oa hb ob t ht ot =>
      have ih1 : Tka (t.flatMap (stT n (m + 1))) (t.flatMap (tkS n)) := tka_flat fun y hy => tka_st n y (ot y hy) (List.all_eq_true.1 ht y hy) (m + 1)
      have cl : Tka [125, 10] [sg [125]] := a1 (by decide) (by decide) tka_nl
      have e1 : stT (n + 1) m ⟨4, s, [a, b], t, []⟩ = (Lib.repeatL [32, 32] m ++ ([102, 111, 114] ++ (32 :: (bts s ++ (32 :: 61 :: 32 :: (bts (txt n a) ++ (32 :: ([116, 111] ++ (32 :: (bts (txt n b) ++ [32, 123, 10])))))))))) ++ (t.flatMap (stT n (m + 1)) ++ (Lib.repeatL [32, 32] m ++ [125, 10])) := by
        simp [stT, line_eq, kidS]; simp [bts]
      have e2 : tkS (n + 1) ⟨4, s, [a, b], t, []⟩ = (wd [102, 111, 114] :: ([id3 s] ++ (sg [61] :: (tkE n a ++ (wd [116, 111] :: (tkE n b ++ [sg [123]])))))) ++ (t.flatMap (tkS n) ++ [sg [125]]) := by simp [tkS, kidS]
      rw [e1, e2]
      exact tka_app (tka_ind m (kw _ (by decide) (tka_close (tks_name hs) ⟨32, _, rfl, by decide⟩ (a0 (tka_eq (tka_close (tks_txt n a oa ha) ⟨32, _, rfl, by decide⟩ (a0 (kw _ (by decide) (tka_close (tks_txt n b ob hb) ⟨32, _, rfl, by decide⟩ (a0 (a1 (by decide) (by decide) tka_nl))))))))))) (tka_app ih1 (tka_ind m cl))
    | out e he oe =>
      have e1 : stT (n + 1) m ⟨5, ⟨#[]⟩, [e], [], []⟩ = Lib.repeatL [32, 32] m ++ ([111, 117, 116] ++ (32 :: (bts (txt n e) ++ [59, 10]))) := by simp [stT, line_eq, kidS]; simp [bts]
      have e2 : tkS (n + 1) ⟨5, ⟨#[]⟩, [e], [], []⟩ = wd [111, 117, 116] :: (tkE n e ++ [sg [59]]) := by simp [tkS, kidS]
      rw [e1, e2]
      exact tka_ind m (kw _ (by decide) (tka_close (tks_txt n e oe he) ⟨59, _, rfl, by decide⟩ nl))
theorem tka_in {x : S55} (h : inB x = true) : Tka (inT x) (tkI x) := by
  have ok := inB_ok h
  have hn : isName (bts x.f0) = true := by simp only [inB, Bool.and_eq_true] at h; exact h.1.1.1.1.1.1
  obtain ⟨f0, f1, f2, f3⟩ := x
  unfold InOk at ok
  simp only at ok hn
  have kw : ∀ (w : Bs), reserved.contains w = true → ∀ {b : Bs} {ts : List T3}, Tka b ts → Tka (w ++ (32 :: b)) (wd w :: ts) := fun w hw b ts k => tka_close (tks_res hw) ⟨32, _, rfl, by decide⟩ (a0 k)
  have nl : Tka [59, 10] [sg [59]] := a1 (by decide) (by decide) tka_nl
  have tail : Tka (32 :: ([102, 114, 111, 109] ++ (32 :: (Lib.decDigits f1.toNat ++ (58 :: 32 :: (Lib.decDigits f2.toNat ++ [59, 10])))))) (wd [102, 114, 111, 109] :: ([nm f1.toNat] ++ (sg [58] :: ([nm f2.toNat] ++ [sg [59]])))) :=
    a0 (kw _ (by decide) (tka_close (tks_num (by omega)) ⟨58, _, rfl, by decide⟩ (a1 (by decide) (by decide) (a0 (tka_close (tks_num (by omega)) ⟨59, _, rfl, by decide⟩ nl)))))
  by_cases h3 : f3 = 0
  · have e1 : inT ⟨f0, f1, f2, f3⟩ = [105, 110] ++ (32 :: (bts f0 ++ (32 :: ([102, 114, 111, 109] ++ (32 :: (Lib.decDigits f1.toNat ++ (58 :: 32 :: (Lib.decDigits f2.toNat ++ [59, 10])))))))) := by
      simp [inT, line_eq, inP, sizeT, h3, bts_dec]; simp [bts, Lib.repeatL]
    have e2 : tkI ⟨f0, f1, f2, f3⟩ = wd [105, 110] :: ([id3 f0] ++ (wd [102, 114, 111, 109] :: ([nm f1.toNat] ++ (sg [58] :: ([nm f2.toNat] ++ [sg [59]]))))) := by simp [tkI, h3]
    rw [e1, e2]
    exact kw _ (by decide) (tka_close (tks_name hn) ⟨32, _, rfl, by decide⟩ tail)
  · have e1 : inT ⟨f0, f1, f2, f3⟩ = [105, 110] ++ (32 :: (bts f0 ++ (91 :: (Lib.decDigits f3.toNat ++ (93 :: (32 :: ([102, 114, 111, 109] ++ (32 :: (Lib.decDigits f1.toNat ++ (58 :: 32 :: (Lib.decDigits f2.toNat ++ [59, 10]))))))))))) := by
      simp [inT, line_eq, inP, sizeT, h3, bts_two, bts_dec]; simp [bts, Lib.repeatL]
    have e2 : tkI ⟨f0, f1, f2, f3⟩ = wd [105, 110] :: ([id3 f0] ++ (sg [91] :: ([nm f3.toNat] ++ (sg [93] :: (wd [102, 114, 111, 109] :: ([nm f1.toNat] ++ (sg [58] :: ([nm f2.toNat] ++ [sg [59]])))))))) := by simp [tkI, h3]
    rw [e1, e2]
    exact kw _ (by decide) (tka_close (tks_name hn) ⟨91, _, rfl, by decide⟩ (a1 (by decide) (by decide) (tka_close (tks_num (by omega)) ⟨93, _, rfl, by decide⟩ (a1 (by decide) (by decide) tail))))
theorem tka_ar {x : S58} (h : arB x = true) : Tka (arT x) (tkA x) := by
  have ok := arB_ok h
  have hn : isName (bts x.f0) = true := by simp only [arB, Bool.and_eq_true] at h; exact h.1.1
  obtain ⟨f0, f1⟩ := x
  unfold ArOk at ok
  simp only at ok hn
  have e1 : arT ⟨f0, f1⟩ = [97, 114, 114, 97, 121] ++ (32 :: (bts f0 ++ (91 :: (Lib.decDigits f1.toNat ++ [93, 59, 10])))) := by
    simp [arT, line_eq, arP, bts_dec]; simp [bts, Lib.repeatL]
  have e2 : tkA ⟨f0, f1⟩ = wd [97, 114, 114, 97, 121] :: ([id3 f0] ++ (sg [91] :: ([nm f1.toNat] ++ [sg [93], sg [59]]))) := by simp [tkA]
  rw [e1, e2]
  exact tka_close (tks_res (by decide)) ⟨32, _, rfl, by decide⟩ (a0 (tka_close (tks_name hn) ⟨91, _, rfl, by decide⟩ (a1 (by decide) (by decide) (tka_close (tks_num (by omega)) ⟨93, _, rfl, by decide⟩ (a1 (by decide) (by decide) (a1 (by decide) (by decide) tka_nl))))))
theorem toks_fmt {l0 : List S55} {l1 : List S58} {l2 : List ST} (hO : ∀ x ∈ l2, OkS x) (h0 : l0.all inB = true) (h1 : l1.all arB = true) (h2 : l2.all (stmtB 24) = true) : toks (fmtB l0 l1 l2) = some (tkP l0 l1 l2) := by
  have t : Tka (fmtB l0 l1 l2) (tkP l0 l1 l2) := tka_app (tka_app (tka_flat fun x hx => tka_in (List.all_eq_true.1 h0 x hx)) (tka_flat fun x hx => tka_ar (List.all_eq_true.1 h1 x hx))) (tka_flat fun x hx => tka_st 24 x (hO x hx) (List.all_eq_true.1 h2 x hx) 0)
  have := t []
  rw [List.append_nil, toks_nil] at this
  simpa using this
end Go.Proofs.YtlhnfgnihakcfaaDoor.Ax
