import Derived.Test.YtlhnfgnihakcfaaDoorZB3
import Derived.Test.YtlhnfgnihakcfaaDoorZA7
import Derived.Test.YtlhnfgnihakcfaaDoorZA8
import Derived.Test.YtlhnfgnihakcfaaDoorZPw
import Derived.IntWalk
set_option linter.unusedSimpArgs false
set_option linter.unusedVariables false
namespace Go.Proofs.YtlhnfgnihakcfaaDoor.Ax
open Go.RowKit Hp Kn Px
open Go.Proofs.YtlhnfgnihakcfaaDoorW.PrintWords Go.Proofs.YtlhnfgnihakcfaaDoorW.PrintLast Go.Proofs.YtlhnfgnihakcfaaDoorW.PrintMore
def wE : Nat → EX → List ByteArray
  | 0, _ => []
  | n + 1, x => if x.f0 = 1 then [dec x.f2.toNat] else (if x.f0 = 2 ∨ x.f0 = 3 then [x.f3] else []) ++ x.f4.flatMap (wE n)
def wS : Nat → ST → List ByteArray
  | 0, _ => []
  | n + 1, x => (if x.f1.toList = [] then [] else [x.f1]) ++ (x.f2.flatMap (wE n) ++ (x.f3.flatMap (wS n) ++ x.f4.flatMap (wS n)))
def wI (x : S55) : List ByteArray := [x.f0] ++ ((if x.f3 = 0 then [] else [dec x.f3.toNat]) ++ [dec x.f1.toNat, dec x.f2.toNat])
def wA (x : S58) : List ByteArray := [x.f0, dec x.f1.toNat]
def wP (l0 : List S55) (l1 : List S58) (l2 : List ST) : List ByteArray := l0.flatMap wI ++ (l1.flatMap wA ++ l2.flatMap (wS 24))
def isW (t : T3) : Bool := t.1 == 1 || t.1 == 2
def nw (ts : List T3) : List Bs := (ts.filter isW).map (·.2.1)
theorem nw_app (a b : List T3) : nw (a ++ b) = nw a ++ nw b := by simp [nw]
theorem nw_sg (l : Bs) (ts : List T3) : nw (sg l :: ts) = nw ts := by simp [nw, isW, sg]
theorem nw_wd (l : Bs) (ts : List T3) : nw (wd l :: ts) = nw ts := by simp [nw, isW, wd]
theorem nw_id (s : ByteArray) (ts : List T3) : nw (id3 s :: ts) = bts s :: nw ts := by simp [nw, isW, id3]
theorem nw_nm (u : Nat) (ts : List T3) : nw (nm u :: ts) = bts (dec u) :: nw ts := by simp [nw, isW, nm, bts_dec]
theorem nw_nil : nw [] = [] := rfl
theorem nw_hld (y : EX) (l : Int) (ts : List T3) : nw (hldT y l ts) = nw ts := by
  unfold hldT; split
  · rw [nw_sg, nw_app, nw_sg, nw_nil, List.append_nil]
  · rfl
theorem nw_flat {α : Type} {f : α → List T3} {g : α → List ByteArray} {l : List α} (h : ∀ x ∈ l, nw (f x) = (g x).map bts) : nw (l.flatMap f) = (l.flatMap g).map bts := by
  induction l with
  | nil => rfl
  | cons a l ih => rw [List.flatMap_cons, List.flatMap_cons, nw_app, h a (by simp), ih fun x hx => h x (by simp [hx]), List.map_append]
theorem nw_E : ∀ (n : Nat) (x : EX), OkE x → exprB n x = true → nw (tkE n x) = (wE n x).map bts
  | 0, x, _, h => by cases h
  | n + 1, x, hO, h => by
    cases ve_of hO h with
    | num u hu => simp [tkE, wE, nw, isW, bts_dec]
    | var s hs => simp [tkE, wE, nw, isW]
    | idx s hs a ha oa =>
      have e2 : tkE (n + 1) ⟨3, 0, 0, s, [a]⟩ = id3 s :: sg [91] :: (tkE n a ++ [sg [93]]) := by simp [tkE, kidE, id3]
      rw [e2, nw_id, nw_sg, nw_app, nw_sg, nw_nil, nw_E n a oa ha]
      simp [wE]
    | op o h1 h7 a b ha oa hb ob =>
      have e2 : tkE (n + 1) ⟨4, (o : Int), 0, ⟨#[]⟩, [a, b]⟩ = hldT a (strengthL.getD o 0) (tkE n a) ++ sg (bts (signL.getD o ⟨#[]⟩)) :: hldT b (strengthL.getD o 0 + 1) (tkE n b) := by simp [tkE, kidE]
      rw [e2, nw_app, nw_hld, nw_sg, nw_hld, nw_E n a oa ha, nw_E n b ob hb]
      simp [wE]
    | no a ha oa =>
      have e2 : tkE (n + 1) ⟨5, 0, 0, ⟨#[]⟩, [a]⟩ = sg [33] :: hldT a 8 (tkE n a) := by simp [tkE, kidE]
      rw [e2, nw_sg, nw_hld, nw_E n a oa ha]
      simp [wE]
    | sel a b c ha oa hb ob hc oc =>
      have e2 : tkE (n + 1) ⟨6, 0, 0, ⟨#[]⟩, [a, b, c]⟩ = hldT a 2 (tkE n a) ++ sg [63] :: (tkE n b ++ sg [58] :: tkE n c) := by simp [tkE, kidE]
      rw [e2, nw_app, nw_hld, nw_sg, nw_app, nw_sg, nw_E n a oa ha, nw_E n b ob hb, nw_E n c oc hc]
      simp [wE]
theorem name_ne {s : ByteArray} (h : isName (bts s) = true) : ¬ s.toList = [] := by
  intro e
  have : bts s = [] := by unfold bts; rw [← Lib.toList_data]; exact e
  rw [this] at h; cases h
theorem nw_S : ∀ (n : Nat) (x : ST), OkS x → stmtB n x = true → nw (tkS n x) = (wS n x).map bts
  | 0, x, _, h => by cases h
  | n + 1, x, hO, h => by
    have e0 : (⟨#[]⟩ : ByteArray).toList = [] := by rw [Lib.toList_data]
    cases vs_of hO h with
    | set s hs e he oe =>
      have e2 : tkS (n + 1) ⟨1, s, [e], [], []⟩ = id3 s :: sg [61] :: (tkE n e ++ [sg [59]]) := by simp [tkS, kidS]
      rw [e2, nw_id, nw_sg, nw_app, nw_sg, nw_nil, nw_E n e oe he]
      simp [wS, name_ne hs]
    | store s hs i e hi oi he oe =>
      have e2 : tkS (n + 1) ⟨2, s, [i, e], [], []⟩ = id3 s :: sg [91] :: (tkE n i ++ sg [93] :: sg [61] :: (tkE n e ++ [sg [59]])) := by simp [tkS, kidS]
      rw [e2, nw_id, nw_sg, nw_app, nw_sg, nw_sg, nw_app, nw_sg, nw_nil, nw_E n e oe he, nw_E n i oi hi]
      simp [wS, name_ne hs]
    | cond c hc oc t e ht ot he oe =>
      have i1 := nw_flat (f := tkS n) (g := wS n) (l := t) fun y hy => nw_S n y (ot y hy) (List.all_eq_true.1 ht y hy)
      have i2 := nw_flat (f := tkS n) (g := wS n) (l := e) fun y hy => nw_S n y (oe y hy) (List.all_eq_true.1 he y hy)
      cases e with
      | nil =>
        have e2 : tkS (n + 1) ⟨3, ⟨#[]⟩, [c], t, []⟩ = wd [105, 102] :: sg [40] :: (tkE n c ++ sg [41] :: sg [123] :: (t.flatMap (tkS n) ++ [sg [125]])) := by simp [tkS, kidS]
        rw [e2, nw_wd, nw_sg, nw_app, nw_sg, nw_sg, nw_app, nw_sg, nw_nil, nw_E n c oc hc, i1]
        simp [wS, e0]
      | cons a e =>
        have e2 : tkS (n + 1) ⟨3, ⟨#[]⟩, [c], t, a :: e⟩ = wd [105, 102] :: sg [40] :: (tkE n c ++ sg [41] :: sg [123] :: (t.flatMap (tkS n) ++ sg [125] :: wd [101, 108, 115, 101] :: sg [123] :: ((a :: e).flatMap (tkS n) ++ [sg [125]]))) := by simp [tkS, kidS]
        rw [e2, nw_wd, nw_sg, nw_app, nw_sg, nw_sg, nw_app, nw_sg, nw_wd, nw_sg, nw_app, nw_sg, nw_nil, nw_E n c oc hc, i1, i2]
        simp [wS, e0]
    | loop s hs a b ha oa hb ob t ht ot =>
      have i1 := nw_flat (f := tkS n) (g := wS n) (l := t) fun y hy => nw_S n y (ot y hy) (List.all_eq_true.1 ht y hy)
      have e2 : tkS (n + 1) ⟨4, s, [a, b], t, []⟩ = wd [102, 111, 114] :: id3 s :: sg [61] :: (tkE n a ++ wd [116, 111] :: (tkE n b ++ sg [123] :: (t.flatMap (tkS n) ++ [sg [125]]))) := by simp [tkS, kidS]
      rw [e2, nw_wd, nw_id, nw_sg, nw_app, nw_wd, nw_app, nw_sg, nw_app, nw_sg, nw_nil, nw_E n a oa ha, nw_E n b ob hb, i1]
      simp [wS, name_ne hs]
    | out e he oe =>
      have e2 : tkS (n + 1) ⟨5, ⟨#[]⟩, [e], [], []⟩ = wd [111, 117, 116] :: (tkE n e ++ [sg [59]]) := by simp [tkS, kidS]
      rw [e2, nw_wd, nw_app, nw_sg, nw_nil, nw_E n e oe he]
      simp [wS, e0]
theorem nw_P {l0 : List S55} {l1 : List S58} {l2 : List ST} (hO : ∀ x ∈ l2, OkS x) (h2 : l2.all (stmtB 24) = true) : nw (tkP l0 l1 l2) = (wP l0 l1 l2).map bts := by
  have i0 := nw_flat (f := tkI) (g := wI) (l := l0) fun x _ => by
    by_cases h : x.f3 = 0
    · simp [tkI, wI, h, nw_wd, nw_id, nw_nm, nw_sg, nw_nil]
    · simp [tkI, wI, h, nw_wd, nw_id, nw_nm, nw_sg, nw_nil]
  have i1 := nw_flat (f := tkA) (g := wA) (l := l1) fun x _ => by simp [tkA, wA, nw_wd, nw_id, nw_nm, nw_sg, nw_nil]
  have i2 := nw_flat (f := tkS 24) (g := wS 24) (l := l2) fun x hx => nw_S 24 x (hO x hx) (List.all_eq_true.1 h2 x hx)
  unfold tkP wP
  rw [nw_app, nw_app, i0, i1, i2]
  simp
theorem upO {α : Type} {f : Nat → Option α} (hf : ∀ k, LeO (f k) (f (k + 1))) {k j : Nat} {r : α} (h : f k = some r) (hj : k ≤ j) : f j = some r := by
  induction hj with
  | refl => exact h
  | step _ ih => exact hf _ r ih
theorem wdec (u : Nat) (h : u < 18446744073709551616) {k : Nat} (hk : 21 ≤ k) : Pr.privityref03_FormatDecimal.f k (u : Int) = some (dec u) :=
  upO (fun i => Pr.privityref03_FormatDecimal.mono (u : Int) i) (fd_f u h) hk
theorem wnum (z : Int) (h0 : 0 ≤ z) (h1 : z ≤ 1000) {k : Nat} (hk : 21 ≤ k) : Pw.privityref27_number.f k z = some (dec z.toNat) := by
  unfold Pw.privityref27_number.f
  have : IntKind.u64.wrap z = (z.toNat : Int) := by rw [IntKind.wrap_u64]; omega
  rw [this, wdec z.toNat (by omega) hk]
  rfl
theorem ww1 (i : Nat) (h : i ≤ 1000) : wrap64 ((i : Int) + 1) = ((i + 1 : Nat) : Int) := by
  rw [show (i : Int) + 1 = ((i + 1 : Nat) : Int) by omega]; exact IntWalk.wrap64_in _ ⟨by omega, by omega⟩
theorem drop_at {α : Type} {L : List α} {i : Nat} {y : α} {l : List α} (h : L.drop i = y :: l) : L[i]? = some y ∧ i < L.length ∧ L.drop (i + 1) = l := by
  have hl : i < L.length := by
    rcases Nat.lt_or_ge i L.length with h1 | h1
    · exact h1
    · rw [List.drop_eq_nil_of_le h1] at h; cases h
  rw [List.drop_eq_getElem_cons hl] at h
  injection h with h1 h2
  exact ⟨by rw [List.getElem?_eq_getElem hl, h1], hl, h2⟩
theorem drop_end {α : Type} {L : List α} {i : Nat} (hi : i ≤ L.length) (h : L.drop i = []) : i = L.length := by
  have := congrArg List.length h
  rw [List.length_drop] at this
  simp at this; omega
theorem wE_len : ∀ (n : Nat) (x : EX), (wE n x).length ≤ cE n x
  | 0, x => by simp [wE]
  | n + 1, x => by
    have : (x.f4.flatMap (wE n)).length ≤ (x.f4.map (cE n)).sum := by
      induction x.f4 with
      | nil => simp
      | cons a l ih => simp only [List.flatMap_cons, List.length_append, List.map_cons, List.sum_cons]; have := wE_len n a; omega
    unfold wE cE
    split
    · simp only [List.length_singleton]; omega
    · rw [List.length_append]
      split <;> simp only [List.length_singleton, List.length_nil] <;> omega
theorem wEs_len (n : Nat) (l : List EX) : (l.flatMap (wE n)).length ≤ (l.map (cE n)).sum := by
  induction l with
  | nil => simp
  | cons a l ih => simp only [List.flatMap_cons, List.length_append, List.map_cons, List.sum_cons]; have := wE_len n a; omega
theorem wS_len : ∀ (n : Nat) (x : ST), (wS n x).length ≤ cS n x
  | 0, x => by simp [wS]
  | n + 1, x => by
    have h2 := wEs_len n x.f2
    have hh : ∀ l : List ST, (l.flatMap (wS n)).length ≤ (l.map (cS n)).sum := by
      intro l
      induction l with
      | nil => simp
      | cons a l ih => simp only [List.flatMap_cons, List.length_append, List.map_cons, List.sum_cons]; have := wS_len n a; omega
    have h3 := hh x.f3
    have h4 := hh x.f4
    unfold wS cS
    simp only [List.length_append]
    split <;> simp only [List.length_singleton, List.length_nil] <;> omega
theorem wSs_len (n : Nat) (l : List ST) : (l.flatMap (wS n)).length ≤ (l.map (cS n)).sum := by
  induction l with
  | nil => simp
  | cons a l ih => simp only [List.flatMap_cons, List.length_append, List.map_cons, List.sum_cons]; have := wS_len n a; omega
def WEx (n : Nat) (y : EX) : Prop := ∃ k, Pw.privityref27_words.f k y.f0 y.f1 y.f2 y.f3 y.f4 = some (wE n y)
theorem words_up {y : EX} {r : List ByteArray} {k j : Nat} (h : Pw.privityref27_words.f k y.f0 y.f1 y.f2 y.f3 y.f4 = some r) (hj : k ≤ j) : Pw.privityref27_words.f j y.f0 y.f1 y.f2 y.f3 y.f4 = some r :=
  upO (fun i => (Pw.privityref27_words.mono_l i).1 y.f0 y.f1 y.f2 y.f3 y.f4) h hj
theorem words_l0 (n : Nat) (a b c : Int) (d : ByteArray) (L : List EX) (hL : L.length ≤ 1000) : ∀ (l : List EX) (i : Nat) (acc : List ByteArray), L.drop i = l → i ≤ L.length → (∀ y ∈ l, WEx n y) → acc.length + (l.flatMap (wE n)).length ≤ 5000 → ∃ k, Pw.privityref27_words.l0 k acc (i : Int) a b c d L = some (acc ++ l.flatMap (wE n)) := by
  intro l
  induction l with
  | nil =>
    intro i acc hd hi _ _
    obtain rfl := drop_end hi hd
    refine ⟨1, ?_⟩
    unfold Pw.privityref27_words.l0
    rw [if_neg (by omega)]
    simp
  | cons y l ih =>
    intro i acc hd hi hw hs
    obtain ⟨hy, hlt, hd2⟩ := drop_at hd
    rw [List.flatMap_cons, List.length_append] at hs
    obtain ⟨k1, h1⟩ := hw y (by simp)
    obtain ⟨k2, h2⟩ := ih (i + 1) (acc ++ wE n y) hd2 (by omega) (fun z hz => hw z (by simp [hz])) (by rw [List.length_append]; omega)
    refine ⟨k1 + k2 + 1, ?_⟩
    have hrd : rd_T40 L (i : Int) = y := by simp [rd_T40, List.getD_eq_getElem?_getD, hy]
    unfold Pw.privityref27_words.l0
    rw [if_pos (by omega), if_pos (by omega), hrd, words_up h1 (by omega : k1 ≤ k1 + k2), Option.bind_some, if_pos (by omega), ww1 i (by omega), upO (fun j => (Pw.privityref27_words.mono_l j).2.2 _ _ _ _ _ _ _) h2 (by omega : k2 ≤ k1 + k2)]
    simp
theorem words_ex : ∀ (n : Nat) (x : EX), OkE x → exprB n x = true → cE n x ≤ 1000 → WEx n x
  | 0, x, _, h, _ => by cases h
  | n + 1, x, hO, h, hs => by
    have hk : (x.f4.map (cE n)).sum ≤ 999 := by simp only [cE] at hs; omega
    have e := wEs_len n x.f4
    have hl : x.f4.length ≤ 1000 := by
      cases ve_of hO h <;> simp
    have hw : ∀ y ∈ x.f4, WEx n y := by
      intro y hy
      have hle : cE n y ≤ (x.f4.map (cE n)).sum := by
        obtain ⟨i, hi, rfl⟩ := List.mem_iff_getElem.1 hy
        have : (x.f4.map (cE n)).sum = ((x.f4.take i).map (cE n)).sum + (cE n x.f4[i] + ((x.f4.drop (i + 1)).map (cE n)).sum) := by
          rw [← List.sum_cons, ← List.map_cons, ← List.drop_eq_getElem_cons hi, ← List.sum_append, ← List.map_append, List.take_append_drop]
        omega
      have ho : OkE y := by cases hO; rename_i h; exact h y hy
      have hb : exprB n y = true := by simp only [exprB, Bool.and_eq_true, List.all_eq_true] at h; exact h.2 y hy
      exact words_ex n y ho hb (by omega)
    obtain ⟨k, hk2⟩ := words_l0 n x.f0 x.f1 x.f2 x.f3 x.f4 hl x.f4 0 (if x.f0 = 2 ∨ x.f0 = 3 then [x.f3] else []) rfl (by omega) hw (by split <;> simp only [List.length_singleton, List.length_nil] <;> omega)
    by_cases e1 : x.f0 = 1
    · refine ⟨22, ?_⟩
      cases ve_of hO h with
      | num u hu =>
        unfold Pw.privityref27_words.f
        simp only [if_true]
        rw [wdec u (by omega) (by omega)]
        simp [wE]
      | _ => simp at e1
    · refine ⟨k + 2, ?_⟩
      have hj : ∀ acc, Pw.privityref27_words.j0 (k + 1) acc x.f0 x.f1 x.f2 x.f3 x.f4 = Pw.privityref27_words.l0 k acc 0 x.f0 x.f1 x.f2 x.f3 x.f4 := fun acc => by rw [Pw.privityref27_words.j0]
      have e3 : wE (n + 1) x = (if x.f0 = 2 ∨ x.f0 = 3 then [x.f3] else []) ++ x.f4.flatMap (wE n) := by simp [wE, e1]
      unfold Pw.privityref27_words.f
      rw [if_neg e1, e3]
      by_cases e2 : x.f0 = 2
      · rw [if_pos e2, if_pos (by simp), hj]
        rw [if_pos (.inl e2)] at hk2 ⊢
        exact hk2
      · rw [if_neg e2]
        by_cases e4 : x.f0 = 3
        · rw [if_pos e4, if_pos (by simp), hj]
          rw [if_pos (.inr e4)] at hk2 ⊢
          exact hk2
        · rw [if_neg e4, hj]
          rw [if_neg (by omega)] at hk2 ⊢
          exact hk2
theorem wof_l1 (n : Nat) (X : List ST) (j : Nat) (f0 : Int) (f1 : ByteArray) (E : List EX) (F3 F4 : List ST) (t3 t4 r : List ByteArray) (hE : E.length ≤ 1000) (hj : j ≤ 999)
    (h3 : ∃ k, Pw.privityref27_wordsOf.f k F3 = some t3) (h4 : ∃ k, Pw.privityref27_wordsOf.f k F4 = some t4) :
    ∀ (l : List EX) (i : Nat) (acc : List ByteArray), E.drop i = l → i ≤ E.length → (∀ y ∈ l, WEx n y) → acc.length + (l.flatMap (wE n)).length + t3.length + t4.length ≤ 5000 →
      (∃ k, Pw.privityref27_wordsOf.l0 k X (acc ++ l.flatMap (wE n) ++ t3 ++ t4) ((j + 1 : Nat) : Int) = some r) → ∃ k, Pw.privityref27_wordsOf.l1 k X acc (j : Int) (i : Int) f0 f1 E F3 F4 = some r := by
  intro l
  induction l with
  | nil =>
    intro i acc hd hi _ hs hr
    obtain rfl := drop_end hi hd
    obtain ⟨k3, h3⟩ := h3
    obtain ⟨k4, h4⟩ := h4
    obtain ⟨k, hr⟩ := hr
    refine ⟨k + k3 + k4 + 1, ?_⟩
    simp only [List.flatMap_nil, List.append_nil, List.length_nil] at hr hs
    unfold Pw.privityref27_wordsOf.l1
    rw [if_neg (by omega), upO (fun i => (Pw.privityref27_wordsOf.mono_l i).1 F3) h3 (by omega : k3 ≤ k + k3 + k4), Option.bind_some, if_pos (by omega), Option.bind_some, upO (fun i => (Pw.privityref27_wordsOf.mono_l i).1 F4) h4 (by omega : k4 ≤ k + k3 + k4), Option.bind_some, if_pos (by rw [List.length_append]; omega), ww1 j (by omega)]
    exact upO (fun i => (Pw.privityref27_wordsOf.mono_l i).2.1 _ _ _) hr (by omega)
  | cons y l ih =>
    intro i acc hd hi hw hs hr
    obtain ⟨hy, hlt, hd2⟩ := drop_at hd
    rw [List.flatMap_cons, List.length_append] at hs
    obtain ⟨k1, h1⟩ := hw y (by simp)
    obtain ⟨k2, h2⟩ := ih (i + 1) (acc ++ wE n y) hd2 (by omega) (fun z hz => hw z (by simp [hz])) (by rw [List.length_append]; omega) (by simpa using hr)
    refine ⟨k1 + k2 + 1, ?_⟩
    have hrd : rd_T40 E (i : Int) = y := by simp [rd_T40, List.getD_eq_getElem?_getD, hy]
    unfold Pw.privityref27_wordsOf.l1
    rw [if_pos (by omega), if_pos (by omega), hrd, words_up h1 (by omega : k1 ≤ k1 + k2), Option.bind_some, if_pos (by omega), ww1 i (by omega)]
    exact upO (fun j => (Pw.privityref27_wordsOf.mono_l j).2.2.2 _ _ _ _ _ _ _ _ _) h2 (by omega)
theorem wof_l0 (n : Nat) (X : List ST) (hX : X.length ≤ 999) : ∀ (l : List ST) (j : Nat) (acc : List ByteArray), X.drop j = l → j ≤ X.length →
    (∀ x ∈ l, x.f2.length ≤ 1000 ∧ (∀ y ∈ x.f2, WEx n y) ∧ (∃ k, Pw.privityref27_wordsOf.f k x.f3 = some (x.f3.flatMap (wS n))) ∧ (∃ k, Pw.privityref27_wordsOf.f k x.f4 = some (x.f4.flatMap (wS n)))) →
    acc.length + (l.flatMap (wS (n + 1))).length ≤ 5000 → ∃ k, Pw.privityref27_wordsOf.l0 k X acc (j : Int) = some (acc ++ l.flatMap (wS (n + 1))) := by
  intro l
  induction l with
  | nil =>
    intro j acc hd hj _ _
    obtain rfl := drop_end hj hd
    refine ⟨1, ?_⟩
    unfold Pw.privityref27_wordsOf.l0
    rw [if_neg (by omega)]
    simp
  | cons x l ih =>
    intro j acc hd hj hw hs
    obtain ⟨hx, hlt, hd2⟩ := drop_at hd
    obtain ⟨g2, gw, g3, g4⟩ := hw x (by simp)
    rw [List.flatMap_cons, List.length_append] at hs
    obtain ⟨k, hk⟩ := ih (j + 1) (acc ++ wS (n + 1) x) hd2 (by omega) (fun z hz => hw z (by simp [hz])) (by rw [List.length_append]; omega)
    have hrd : rd_T64 X (j : Int) = x := by simp [rd_T64, List.getD_eq_getElem?_getD, hx]
    have e : wS (n + 1) x = (if x.f1.toList = [] then [] else [x.f1]) ++ (x.f2.flatMap (wE n) ++ (x.f3.flatMap (wS n) ++ x.f4.flatMap (wS n))) := rfl
    have hlen : (wS (n + 1) x).length = (if x.f1.toList = [] then [] else [x.f1]).length + ((x.f2.flatMap (wE n)).length + ((x.f3.flatMap (wS n)).length + (x.f4.flatMap (wS n)).length)) := by rw [e]; simp
    obtain ⟨k1, h1⟩ := wof_l1 n X j x.f0 x.f1 x.f2 x.f3 x.f4 _ _ (acc ++ (x :: l).flatMap (wS (n + 1))) g2 (by omega) g3 g4 x.f2 0 (acc ++ (if x.f1.toList = [] then [] else [x.f1])) rfl (by omega) gw (by rw [List.length_append]; omega) ⟨k, by
      have e5 : acc ++ (if x.f1.toList = [] then [] else [x.f1]) ++ x.f2.flatMap (wE n) ++ x.f3.flatMap (wS n) ++ x.f4.flatMap (wS n) = acc ++ wS (n + 1) x := by rw [e]; simp only [List.append_assoc]
      have e6 : acc ++ (x :: l).flatMap (wS (n + 1)) = acc ++ wS (n + 1) x ++ l.flatMap (wS (n + 1)) := by rw [List.flatMap_cons, List.append_assoc]
      rw [e5, e6]; exact hk⟩
    refine ⟨k1 + 2, ?_⟩
    unfold Pw.privityref27_wordsOf.l0
    rw [if_pos (by omega), if_pos (by omega), hrd]
    by_cases h0 : x.f1.toList = []
    · rw [if_pos h0, Pw.privityref27_wordsOf.j1]
      rw [if_pos h0, List.append_nil] at h1
      exact h1
    · rw [if_neg h0, if_pos (by omega), Pw.privityref27_wordsOf.j1]
      rw [if_neg h0] at h1
      exact h1
theorem sum_ge {α : Type} (f : α → Nat) {l : List α} {x : α} (h : x ∈ l) : f x ≤ (l.map f).sum := by
  obtain ⟨i, hi, rfl⟩ := List.mem_iff_getElem.1 h
  have : (l.map f).sum = ((l.take i).map f).sum + (f l[i] + ((l.drop (i + 1)).map f).sum) := by
    rw [← List.sum_cons, ← List.map_cons, ← List.drop_eq_getElem_cons hi, ← List.sum_append, ← List.map_append, List.take_append_drop]
  omega
theorem len_cS (n : Nat) (l : List ST) : l.length ≤ (l.map (cS (n + 1))).sum := by
  induction l with
  | nil => simp
  | cons a l ih => simp only [List.length_cons, List.map_cons, List.sum_cons]; simp only [cS] at ih ⊢; omega
theorem wof_ex : ∀ (n : Nat) (l : List ST), (∀ x ∈ l, OkS x) → l.all (stmtB n) = true → (l.map (cS n)).sum ≤ 900 → ∃ k, Pw.privityref27_wordsOf.f k l = some (l.flatMap (wS n))
  | 0, l, _, h, _ => by
    cases l with
    | nil => exact ⟨2, by unfold Pw.privityref27_wordsOf.f Pw.privityref27_wordsOf.l0; rfl⟩
    | cons a l => rw [List.all_cons] at h; cases h
  | n + 1, l, hO, h, hs => by
    have hl := len_cS n l
    obtain ⟨k, hk⟩ := wof_l0 n l (by omega) l 0 [] rfl (by omega) (fun x hx => by
      have hx1 : cS (n + 1) x ≤ 900 := by have := sum_ge (cS (n + 1)) hx; omega
      have hb := List.all_eq_true.1 h x hx
      have hp : x.f2.all (exprB n) = true ∧ x.f3.all (stmtB n) = true ∧ x.f4.all (stmtB n) = true := by
        simp only [stmtB, Bool.and_eq_true] at hb; exact ⟨hb.2.1.1, hb.2.1.2, hb.2.2⟩
      obtain ⟨o1, o2, o3, o4, k2, k3, k4⟩ := hO x hx
      simp only [cS] at hx1
      refine ⟨by cases vs_of (hO x hx) hb <;> simp, fun y hy => ?_, wof_ex n _ k3 hp.2.1 (by omega), wof_ex n _ k4 hp.2.2 (by omega)⟩
      exact words_ex n y (k2 y hy) (List.all_eq_true.1 hp.1 y hy) (by have := sum_ge (cE n) hy; omega)) (by have := wSs_len (n + 1) l; simp only [List.length_nil]; omega)
    refine ⟨k + 1, ?_⟩
    unfold Pw.privityref27_wordsOf.f
    exact hk
theorem Words_l1 (I : List S55) (D : List S58) (B : List ST) (t : List ByteArray) (ht : ∃ k, Pw.privityref27_wordsOf.f k B = some t) (hD : D.length ≤ 1000) (hA : ∀ x ∈ D, ArOk x) :
    ∀ (l : List S58) (i : Nat) (acc : List ByteArray), D.drop i = l → i ≤ D.length → acc.length + (l.flatMap wA).length + t.length ≤ 5000 → ∃ k, Pw.privityref27_Words.l1 k acc (i : Int) I D B = some (acc ++ (l.flatMap wA ++ t)) := by
  intro l
  induction l with
  | nil =>
    intro i acc hd hi hs
    obtain rfl := drop_end hi hd
    obtain ⟨k, hk⟩ := ht
    refine ⟨k + 1, ?_⟩
    simp only [List.flatMap_nil, List.length_nil] at hs
    unfold Pw.privityref27_Words.l1
    rw [if_neg (by omega), hk, Option.bind_some, if_pos (by omega)]
    rfl
  | cons y l ih =>
    intro i acc hd hi hs
    obtain ⟨hy, hlt, hd2⟩ := drop_at hd
    have ok := hA y (List.mem_of_getElem? hy)
    unfold ArOk at ok
    rw [List.flatMap_cons, List.length_append] at hs
    have hw : (wA y).length = 2 := rfl
    obtain ⟨k, hk⟩ := ih (i + 1) (acc ++ wA y) hd2 (by omega) (by rw [List.length_append]; omega)
    refine ⟨k + 21 + 1, ?_⟩
    have hrd : rd_T58 D (i : Int) = y := by simp [rd_T58, List.getD_eq_getElem?_getD, hy]
    unfold Pw.privityref27_Words.l1
    rw [if_pos (by omega), if_pos (by omega), hrd, wnum y.f1 ok.1 ok.2 (by omega), Option.bind_some, Option.bind_some, if_pos (by simp; omega), ww1 i (by omega)]
    have := upO (fun j => (Pw.privityref27_Words.mono_l j).2 _ _ _ _ _) hk (by omega : k ≤ k + 21)
    rw [show acc ++ [y.f0, dec y.f1.toNat] = acc ++ wA y from rfl, this]
    simp
theorem Words_l0 (I : List S55) (D : List S58) (B : List ST) (t : List ByteArray) (ht : ∃ k, Pw.privityref27_wordsOf.f k B = some t) (hD : D.length ≤ 1000) (hA : ∀ x ∈ D, ArOk x) (hI : I.length ≤ 1000) (hN : ∀ x ∈ I, InOk x) :
    ∀ (l : List S55) (i : Nat) (acc : List ByteArray), I.drop i = l → i ≤ I.length → acc.length + (l.flatMap wI).length + (D.flatMap wA).length + t.length ≤ 5000 → ∃ k, Pw.privityref27_Words.l0 k acc (i : Int) I D B = some (acc ++ (l.flatMap wI ++ (D.flatMap wA ++ t))) := by
  intro l
  induction l with
  | nil =>
    intro i acc hd hi hs
    obtain rfl := drop_end hi hd
    simp only [List.flatMap_nil, List.length_nil] at hs
    obtain ⟨k, hk⟩ := Words_l1 I D B t ht hD hA D 0 acc rfl (by omega) (by omega)
    refine ⟨k + 1, ?_⟩
    unfold Pw.privityref27_Words.l0
    rw [if_neg (by omega)]
    exact hk
  | cons y l ih =>
    intro i acc hd hi hs
    obtain ⟨hy, hlt, hd2⟩ := drop_at hd
    have ok := hN y (List.mem_of_getElem? hy)
    unfold InOk at ok
    rw [List.flatMap_cons, List.length_append] at hs
    obtain ⟨k, hk⟩ := ih (i + 1) (acc ++ wI y) hd2 (by omega) (by rw [List.length_append]; omega)
    refine ⟨k + 21 + 1, ?_⟩
    have hrd : rd_T55 I (i : Int) = y := by simp [rd_T55, List.getD_eq_getElem?_getD, hy]
    have hup := upO (fun j => (Pw.privityref27_Words.mono_l j).1 _ _ _ _ _) hk (by omega : k ≤ k + 21)
    unfold Pw.privityref27_Words.l0
    rw [if_pos (by omega), if_pos (by omega), hrd, if_pos (by omega), Option.bind_some, ww1 i (by omega)]
    by_cases h3 : y.f3 = 0
    · have e : acc ++ [y.f0] ++ [dec y.f1.toNat, dec y.f2.toNat] = acc ++ wI y := by simp [wI, h3]
      have hw : (wI y).length = 3 := by simp [wI, h3]
      rw [if_pos h3, wnum y.f1 (by omega) (by omega) (by omega), Option.bind_some, wnum y.f2 (by omega) (by omega) (by omega), Option.bind_some, Option.bind_some, if_pos (by simp; omega), e, hup]
      simp
    · have e : acc ++ [y.f0] ++ [dec y.f3.toNat] ++ [dec y.f1.toNat, dec y.f2.toNat] = acc ++ wI y := by simp [wI, h3]
      have hw : (wI y).length = 4 := by simp [wI, h3]
      rw [if_neg h3, wnum y.f3 (by omega) (by omega) (by omega), Option.bind_some, if_pos (by simp; omega), Option.bind_some, wnum y.f1 (by omega) (by omega) (by omega), Option.bind_some, wnum y.f2 (by omega) (by omega) (by omega), Option.bind_some, Option.bind_some, if_pos (by simp; omega), e, hup]
      simp
theorem wI_len (l : List S55) : (l.flatMap wI).length ≤ 4 * l.length := by
  induction l with
  | nil => simp
  | cons a l ih =>
    have : (wI a).length ≤ 4 := by unfold wI; split <;> simp
    rw [List.flatMap_cons, List.length_append, List.length_cons]; omega
theorem wA_len (l : List S58) : (l.flatMap wA).length = 2 * l.length := by
  induction l with
  | nil => simp
  | cons a l ih => rw [List.flatMap_cons, List.length_append, List.length_cons, ih]; simp [wA]; omega
theorem Words_ex {l0 : List S55} {l1 : List S58} {l2 : List ST} (hO : ∀ x ∈ l2, OkS x) (hI : ∀ x ∈ l0, InOk x) (hA : ∀ x ∈ l1, ArOk x) (h2 : l2.all (stmtB 24) = true) (n0 : l0.length ≤ 40) (n1 : l1.length ≤ 40) (n2 : (l2.map (cS 24)).sum ≤ 200) : ∃ k, Pw.privityref27_Words.f k l0 l1 l2 = some (wP l0 l1 l2) := by
  have a := wI_len l0
  have b := wA_len l1
  have c := wSs_len 24 l2
  obtain ⟨k, hk⟩ := Words_l0 l0 l1 l2 _ (wof_ex 24 l2 hO h2 (by omega)) (by omega) hA (by omega) hI l0 0 [] rfl (by omega) (by simp only [List.length_nil]; omega)
  exact ⟨k, hk⟩
theorem wP_len {l0 : List S55} {l1 : List S58} {l2 : List ST} (n0 : l0.length ≤ 40) (n1 : l1.length ≤ 40) (n2 : (l2.map (cS 24)).sum ≤ 200) : (wP l0 l1 l2).length ≤ 1000 := by
  have a := wI_len l0
  have b := wA_len l1
  have c := wSs_len 24 l2
  unfold wP
  simp only [List.length_append]
  omega
end Go.Proofs.YtlhnfgnihakcfaaDoor.Ax
