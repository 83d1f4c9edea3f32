import Derived.Test.YtanollmhbjlimaaDoorPlx21
import Derived.Test.YtanollmhbjlimaaDoorPuLex
import Derived.Test.YtanollmhbjlimaaDoorRfA1
namespace Go.Proofs.YtanollmhbjlimaaDoor.Pure
open Go.RowKit Go.Proofs.YtanollmhbjlimaaDoor.Pl Go.Proofs.YtanollmhbjlimaaDoor.Kn Go.Proofs.YtanollmhbjlimaaDoor.Lx Go.Proofs.YtanollmhbjlimaaDoorW.PrintWords
def oneName (l : Px.Bs) : Except (Nat × Nat) (List Px.Tok) → Bool
  | .ok [t] => t.kind == 1 && t.text == l
  | _ => false
theorem letter_ws {c : UInt8} (hc : Px.letter c = true) : Px.blankc c = false ∧ c ≠ 47 := by
  have hh : ∀ c : Fin 256, Px.letter (UInt8.ofNat c.val) = true → Px.blankc (UInt8.ofNat c.val) = false ∧ UInt8.ofNat c.val ≠ 47 := by decide +kernel
  simpa using hh ⟨c.toNat, c.toNat_lt⟩ (by simpa using hc)
theorem one_name (l : Px.Bs) : oneName l (Px.lexA 0 l) = Px.isName l := by
  cases l with
  | nil => rfl
  | cons c r =>
    by_cases hc : Px.letter c = true
    · have hw : Px.ws false (c :: r) = 0 := Px.ws_zero c r (letter_ws hc).1 (letter_ws hc).2
      rw [isName_take (c :: r) c r rfl hc, Px.lexA_eq]
      cases ht : Px.take (c :: r) with
      | error e =>
        rw [Px.lexStep_err (e := e) (by rw [hw]; simp) (by rw [hw]; exact ht)]
        rfl
      | ok t =>
        rw [Px.lexStep_tok (t := t) (by rw [hw]; exact ht), hw, List.drop_zero]
        have hpre := (Px.take_kinded ht).2
        by_cases hlt : t.text = c :: r
        · rw [hlt, List.drop_length]
          have : Px.lexA (0 + 0 + (c :: r).length) [] = .ok [] := by rw [Px.lexA_eq, Px.lexStep_nil]; rfl
          rw [this]
          show (t.kind == 1 && (c :: r == c :: r)) = (t.kind == 1 && t.text == c :: r)
          rw [hlt]
        · have hf : (t.text == c :: r) = false := by simpa using hlt
          show _ = (t.kind == 1 && t.text == c :: r)
          rw [hf, Bool.and_false]
          cases Px.lexA (0 + 0 + t.text.length) ((c :: r).drop t.text.length) with
          | error e => rfl
          | ok ts =>
            cases ts with
            | nil =>
              show (t.kind == 1 && t.text == c :: r) = false
              rw [hf, Bool.and_false]
            | cons u us => rfl
    · have hc' : Px.letter c = false := by simpa using hc
      have hn : Px.isName (c :: r) = false := by simp [Px.isName, hc']
      rw [hn, Px.lexA_eq]
      cases ht : Px.take ((c :: r).drop (Px.ws false (c :: r))) with
      | error e =>
        by_cases hne : (c :: r).drop (Px.ws false (c :: r)) = []
        · rw [Px.lexStep_nil hne]; rfl
        · rw [Px.lexStep_err hne ht]; rfl
      | ok t =>
        rw [Px.lexStep_tok ht]
        have hpre := (Px.take_kinded ht).2
        cases Px.lexA (0 + Px.ws false (c :: r) + t.text.length) (((c :: r).drop (Px.ws false (c :: r))).drop t.text.length) with
        | error e => rfl
        | ok ts =>
          cases ts with
          | cons u us => rfl
          | nil =>
            show (t.kind == 1 && t.text == c :: r) = false
            rcases Nat.eq_zero_or_pos (Px.ws false (c :: r)) with hw | hw
            · rw [hw, List.drop_zero] at ht
              unfold Px.take at ht
              simp only [hc', Bool.false_eq_true, if_false] at ht
              split at ht
              · split at ht
                · injection ht with ht; subst ht; rfl
                · cases ht
              · split at ht
                · injection ht with ht; subst ht; rfl
                · cases ht
            · have hl : t.text.length < (c :: r).length := by
                have := congrArg List.length hpre
                rw [List.length_take, List.length_drop] at this
                have hz : 0 < (c :: r).length := by simp
                omega
              have : (t.text == c :: r) = false := by
                rw [beq_eq_false_iff_ne]; intro e; rw [e] at hl; exact Nat.lt_irrefl _ hl
              rw [this, Bool.and_false]
theorem ref_isName (s : ByteArray) (hs : s.size ≤ 100) (k : Nat) (hk : 200 ≤ k) : privityref26_IsName.f k s = some (Px.isName s.data.toList) := by
  have hsz := size_list s
  unfold privityref26_IsName.f
  by_cases h0 : (1 : Int) ≤ (s.size : Int)
  · rw [if_pos h0]
    obtain ⟨c, hc, hb⟩ := Rf.drop_cons s 0 (by omega)
    rw [List.drop_zero] at hc
    have hb : bt s 0 = (c.toNat : Int) := hb
    generalize hr : s.data.toList.drop (0 + 1) = r at hc
    by_cases h20 : (s.size : Int) ≤ 20
    · rw [if_pos h20, if_pos (by omega), hb, Rf.letter_f]
      simp only [Option.bind_some]
      by_cases hl : Px.letter c = true
      · rw [if_pos hl, Rf.long_f s false (by omega) k (by omega), Rf.longP_false]
        simp only [Option.bind_some]
        by_cases ha : s.data.toList.all Px.wordc = true
        · rw [tw_full _ _ (List.all_eq_true.1 ha), hsz, if_pos rfl, Rf.word_f s k (by omega)]
          simp only [Option.bind_some]
          rw [hc] at ha hsz ⊢
          have : (c :: r).length ≤ 20 := by omega
          simp only [Px.isName, hl, ha, this, decide_true, Bool.true_and]
        · have hne : (s.data.toList.takeWhile Px.wordc).length ≠ s.size := by
            intro e
            apply ha
            have : s.data.toList.takeWhile Px.wordc = s.data.toList := by
              have hp := Px.tw_eq Px.wordc s.data.toList
              rw [e, ← hsz, List.take_length] at hp
              exact hp.symm
            rw [← this]
            exact List.all_eq_true.2 (Px.tw_all _ _)
          rw [if_neg (by omega)]
          have : s.data.toList.all Px.wordc = false := by simpa using ha
          rw [hc] at this ⊢
          simp [Px.isName, this]
      · rw [if_neg hl, hc]
        have : Px.letter c = false := by simpa using hl
        simp [Px.isName, this]
    · rw [if_neg h20, hc]
      rw [hc] at hsz
      have : ¬ (c :: r).length ≤ 20 := by omega
      simp only [Px.isName, this, decide_false, Bool.and_false, Bool.false_and]
  · rw [if_neg h0]
    have : s.data.toList = [] := List.eq_nil_of_length_eq_zero (by omega)
    rw [this]; rfl
theorem isName_f (s : ByteArray) (hs : s.size ≤ 140737488351232) : lexer_IsName.f s = some (Px.isName s.data.toList) := by
  unfold lexer_IsName.f; rw [if_pos hs]
theorem LexerIsName : privitylaw26_LexerIsName.Pure := by
  intro a0 h0
  refine ⟨200 + 1, ?_⟩
  unfold privitylaw26_LexerIsName.f
  by_cases h : (a0.size : Int) > 100
  · rw [if_pos h, awake_f]; rfl
  · have hj : ∀ b : Bool, b = Px.isName a0.data.toList → privitylaw26_LexerIsName.j0 (200 + 1) a0 b = some true := by
      rintro b rfl
      rw [privitylaw26_LexerIsName.j0, awake_f, isName_f a0 h0, ref_isName a0 (by omega) 200 (by omega)]
      simp
    have hone := one_name a0.data.toList
    rw [if_neg h, lex_f a0 (by omega)]
    simp only [Option.bind_some]
    cases hx : Px.lexA 0 a0.data.toList with
    | error e =>
      rw [hx] at hone
      have he : (e.2 : Int) ≠ 0 := by
        have := Px.lexA_placed a0.data.toList 0 a0.data.toList (by simp) (by omega)
        rw [hx] at this
        have := this.2
        omega
      exact (if_neg he).trans (hj false hone)
    | ok ts =>
      rw [hx] at hone
      refine (if_pos (c := (0 : Int) = 0) rfl).trans ?_
      cases ts with
      | nil => exact (if_neg (c := ((0 : Nat) : Int) = 1) (by decide)).trans (hj false hone)
      | cons t ts =>
        cases ts with
        | cons u us => exact (if_neg (c := (((us.map tokS).length + 1 + 1 : Nat) : Int) = 1) (by omega)).trans (hj false hone)
        | nil =>
          refine (if_pos (c := ((1 : Nat) : Int) = 1) (by decide)).trans ((if_pos (c := (0 : Int) < ((1 : Nat) : Int)) (by decide)).trans ?_)
          show (if (rd_T31 ([t].map tokS) 0).f0 = 1 then privitylaw26_LexerIsName.j0 (200 + 1) a0 ((rd_T31 ([t].map tokS) 0).f1.toList == a0.toList) else privitylaw26_LexerIsName.j0 (200 + 1) a0 false) = some true
          have e1 : rd_T31 ([t].map tokS) 0 = tokS t := rfl
          rw [e1]
          have hone : (t.kind == 1 && t.text == a0.data.toList) = Px.isName a0.data.toList := hone
          by_cases hk : t.kind = 1
          · rw [if_pos (by simp [tokS, hk])]
            apply hj
            rw [← hone, hk]
            simp [tokS, ByteArray.toList_eq]
          · rw [if_neg (by simp only [tokS]; omega)]
            apply hj
            rw [← hone]
            have : (t.kind == 1) = false := by simpa using hk
            rw [this, Bool.false_and]
end Go.Proofs.YtanollmhbjlimaaDoor.Pure
