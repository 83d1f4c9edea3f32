import Derived.Test.YtanollmhbjlimaaDoorPlx23
import Derived.Test.YtanollmhbjlimaaDoorPuLex
import Derived.Test.YtanollmhbjlimaaDoorRfA1
set_option linter.unusedSimpArgs false
namespace Go.Proofs.YtanollmhbjlimaaDoor.Pure
open Go.RowKit Go.Proofs.YtanollmhbjlimaaDoor.Pl Go.Proofs.YtanollmhbjlimaaDoor.Kn Go.Proofs.YtanollmhbjlimaaDoor.Lx Go.Proofs.YtanollmhbjlimaaDoorW.PrintWords
theorem rd_tok' (ts : List Px.Tok) (i : Nat) (h : i < ts.length) : rd_T31 (ts.map tokS) (i : Int) = tokS ts[i] := by
  simp [rd_T31, List.getD_eq_getElem?_getD, h]
theorem placed_len (s : Px.Bs) : ∀ (ts : List Px.Tok) (e : Nat), Px.Placed s e ts → ∀ t ∈ ts, t.text.length ≤ s.length
  | [], _, _, t, ht => by simp at ht
  | u :: us, e, h, t, ht => by
    obtain ⟨_, _, h3, _, _, _, _, h8⟩ := h
    rcases List.mem_cons.1 ht with rfl | ht
    · omega
    · exact placed_len s us _ h8 t ht
theorem app_list (x y : ByteArray) : (x ++ y).data.toList = x.data.toList ++ y.data.toList := by simp [ByteArray.data_append]
def blanks (ts : List Px.Tok) : Px.Bs := ts.flatMap (fun t => t.text ++ [32])
def sepN (note : Px.Bs) : Px.Bs := 9 :: 47 :: 47 :: (note ++ [10])
def preN (note : Px.Bs) : Px.Bs := 47 :: 47 :: (note ++ [10])
def notes (note : Px.Bs) (ts : List Px.Tok) : Px.Bs := preN note ++ ts.flatMap (fun t => t.text ++ sepN note)
theorem blanks_le (note : Px.Bs) (ts : List Px.Tok) : (blanks ts).length ≤ (notes note ts).length := by
  unfold blanks notes
  rw [List.length_append]
  have : ∀ ts : List Px.Tok, (ts.flatMap (fun t => t.text ++ [32])).length ≤ (ts.flatMap (fun t => t.text ++ sepN note)).length := by
    intro ts
    induction ts with
    | nil => simp
    | cons t ts ih =>
      simp only [List.flatMap_cons, List.length_append, List.length_cons, List.length_nil, sepN] at ih ⊢
      omega
  have := this ts
  omega
theorem ws_j3 (note : Px.Bs) (hn : ∀ c ∈ note, c ≠ 10) (ts : List Px.Tok) (hk : Px.AllKinded ts) (hlen : ts.length ≤ 700) (k : Nat) (a b : ByteArray)
    (h : ¬ (b.size : Int) ≥ 15000 → a.data.toList = blanks ts ∧ b.data.toList = notes note ts) : privitylaw26_LexerWhiteSpace.j3 (k + 1) (ts.map tokS) a b = some true := by
  rw [privitylaw26_LexerWhiteSpace.j3]
  by_cases hb : (b.size : Int) ≥ 15000
  · rw [if_pos hb, awake_f]; rfl
  · obtain ⟨ha, hbl⟩ := h hb
    have hsz : a.size ≤ b.size := by rw [← size_list, ← size_list, ha, hbl]; exact blanks_le note ts
    obtain ⟨us, hu, hub⟩ := Px.lexA_sep Px.sep_blank ts 0 [] hk (fun rest => by simp)
    obtain ⟨vs, hv, hvb⟩ := Px.lexA_sep (Px.sep_note note hn) ts 0 (preN note) hk (Px.pre_note note hn)
    have hul : us.length = ts.length := by simpa using congrArg List.length hub
    have hvl : vs.length = ts.length := by simpa using congrArg List.length hvb
    have e1 : lexer_Lex.f a = some (us.map tokS, 0, 0) := by
      rw [lex_f a (by omega), ha]
      have hu' : Px.lexA 0 (blanks ts) = .ok us := hu
      rw [hu']; rfl
    have e2 : lexer_Lex.f b = some (vs.map tokS, 0, 0) := by
      rw [lex_f b (by omega), hbl]
      have hv' : Px.lexA 0 (notes note ts) = .ok vs := hv
      rw [hv']; rfl
    rw [if_neg hb, e1, e2, awake_f]
    simp only [Option.bind_some, if_true]
    rw [same_f (by simp; omega) (by simp; omega), same_bare ts us hub.symm, same_f (by simp; omega) (by simp; omega), same_bare ts vs hvb.symm]
    simp
theorem ws_l1 (x1 : ByteArray) (hx : x1.size ≤ 20) (hn : ∀ c ∈ x1.data.toList, c ≠ 10) (ts : List Px.Tok) (hk : Px.AllKinded ts) (hlen : ts.length ≤ 700) (htx : ∀ t ∈ ts, t.text.length ≤ 700) :
    ∀ (m i k : Nat) (a b : ByteArray), ts.length - i = m → i ≤ ts.length → m + 1 < k → a.data.toList = blanks (ts.take i) → b.data.toList = notes x1.data.toList (ts.take i) → b.size ≤ 16000 →
    privitylaw26_LexerWhiteSpace.l1 k x1 (ts.map tokS) a b (i : Int) = some true := by
  intro m
  induction m with
  | zero =>
    intro i k a b hm hi hkk ha hb hbs
    obtain ⟨k, rfl⟩ : ∃ j, k = j + 2 := ⟨k - 2, by omega⟩
    rw [privitylaw26_LexerWhiteSpace.l1, if_neg (by simp; omega)]
    have hfull : ts.take i = ts := List.take_of_length_le (by omega)
    rw [hfull] at ha hb
    exact ws_j3 x1.data.toList hn ts hk hlen k a b (fun _ => ⟨ha, hb⟩)
  | succ m ih =>
    intro i k a b hm hi hkk ha hb hbs
    obtain ⟨k, rfl⟩ : ∃ j, k = j + 2 := ⟨k - 2, by omega⟩
    have hlt : i < ts.length := by omega
    have hrd := rd_tok' ts i hlt
    have htt := htx ts[i] (List.getElem_mem hlt)
    have htake : ts.take (i + 1) = ts.take i ++ [ts[i]] := by rw [List.take_add_one, List.getElem?_eq_getElem hlt]; rfl
    generalize ht : ts[i] = t at hrd htt htake
    have hsz : (tokS t).f1.size = t.text.length := by simp [tokS, ByteArray.size]
    have hal : a.size ≤ b.size := by rw [← size_list, ← size_list, ha, hb]; exact blanks_le _ _
    have hlt2 : (i : Int) < ((ts.map tokS).length : Int) := by simp; omega
    rw [privitylaw26_LexerWhiteSpace.l1, if_pos hlt2]
    by_cases hbb : (b.size : Int) < 15000
    · have s1 : (a ++ (tokS t).f1).size = a.size + t.text.length := by rw [ByteArray.size_append, hsz]
      have s2 : (b ++ (tokS t).f1).size = b.size + t.text.length := by rw [ByteArray.size_append, hsz]
      have s3 : (b ++ (tokS t).f1 ++ (⟨#[9, 47, 47]⟩ : ByteArray)).size = b.size + t.text.length + 3 := by rw [ByteArray.size_append, s2]; rfl
      have s4 : (b ++ (tokS t).f1 ++ (⟨#[9, 47, 47]⟩ : ByteArray) ++ x1).size = b.size + t.text.length + 3 + x1.size := by rw [ByteArray.size_append, s3]
      have s5 : (b ++ (tokS t).f1 ++ (⟨#[9, 47, 47]⟩ : ByteArray) ++ x1 ++ (⟨#[10]⟩ : ByteArray)).size = b.size + t.text.length + 3 + x1.size + 1 := by rw [ByteArray.size_append, s4]; rfl
      rw [if_pos hbb, if_pos (by omega), hrd, hsz, s1, s2, s3, s4, if_pos (by omega), if_pos (by omega), if_pos (by omega), if_pos (by omega), if_pos (by omega), if_pos (by omega), Rf.w64_1 i (by omega)]
      refine ih (i + 1) (k + 1) _ _ (by omega) (by omega) (by omega) ?_ ?_ (by rw [s5]; omega)
      · rw [app_list, app_list, ha, htake]
        unfold blanks
        rw [List.flatMap_append]
        simp [tokS]
      · rw [app_list, app_list, app_list, app_list, hb, htake]
        unfold notes
        rw [List.flatMap_append]
        simp [tokS, sepN]
    · rw [if_neg hbb]
      exact ws_j3 x1.data.toList hn ts hk hlen k a b (fun h => absurd (by omega) h)
theorem ws_l0 (x0 x1 : ByteArray) (h0 : x0.size ≤ 700) (hx : x1.size ≤ 20) : ∀ (m i k : Nat), x1.size - i = m → i ≤ x1.size → m + 800 < k → (∀ c ∈ x1.data.toList.take i, c ≠ 10) →
    privitylaw26_LexerWhiteSpace.l0 k x0 x1 (i : Int) = some true := by
  intro m
  induction m with
  | zero =>
    intro i k hm hi hk hn
    obtain ⟨k, rfl⟩ : ∃ j, k = j + 1 := ⟨k - 1, by omega⟩
    have hfull : x1.data.toList.take i = x1.data.toList := List.take_of_length_le (by rw [size_list]; omega)
    rw [hfull] at hn
    have hp := Px.lexA_placed x0.data.toList 0 x0.data.toList (by simp) (by omega)
    have hl := lexA_len 0 x0.data.toList
    have hkd := Px.lexA_kinded 0 x0.data.toList
    rw [privitylaw26_LexerWhiteSpace.l0, if_neg (by omega), lex_f x0 (by omega)]
    simp only [Option.bind_some]
    cases hlx : Px.lexA 0 x0.data.toList with
    | error e =>
      rw [hlx] at hp
      have hp2 := hp.2
      have he : (e.2 : Int) ≠ 0 := by omega
      refine (if_neg he).trans ?_
      rw [awake_f]; rfl
    | ok ts =>
      rw [hlx] at hp hl hkd
      have hl : ts.length ≤ x0.data.toList.length := hl
      rw [size_list] at hl
      have htx : ∀ t ∈ ts, t.text.length ≤ 700 := fun t ht => by
        have := placed_len _ ts 0 hp t ht
        rw [size_list] at this; omega
      refine (if_pos (c := (0 : Int) = 0) rfl).trans ?_
      have s1 : ((⟨#[47, 47]⟩ : ByteArray) ++ x1).size = 2 + x1.size := by rw [ByteArray.size_append]; rfl
      have s2 : ((⟨#[47, 47]⟩ : ByteArray) ++ x1 ++ (⟨#[10]⟩ : ByteArray)).size = 2 + x1.size + 1 := by rw [ByteArray.size_append, s1]; rfl
      rw [if_pos (by omega), if_pos (by rw [s1]; omega)]
      refine ws_l1 x1 hx hn ts hkd (by omega) htx ts.length 0 k _ _ (by omega) (by omega) (by omega) rfl ?_ (by rw [s2]; omega)
      rw [app_list, app_list]
      simp [notes, preN]
  | succ m ih =>
    intro i k hm hi hk hn
    obtain ⟨k, rfl⟩ : ∃ j, k = j + 1 := ⟨k - 1, by omega⟩
    obtain ⟨c, hc, hb⟩ := Rf.drop_cons x1 i (by omega)
    have hlt : i < x1.data.toList.length := by rw [size_list]; omega
    rw [privitylaw26_LexerWhiteSpace.l0, if_pos (by omega), if_pos (by omega), hb]
    by_cases h10 : (c.toNat : Int) = 10
    · rw [if_pos h10, awake_f]; rfl
    · rw [if_neg h10, Rf.w64_1 i (by omega)]
      refine ih (i + 1) k (by omega) (by omega) (by omega) ?_
      intro d hd
      have htake : x1.data.toList.take (i + 1) = x1.data.toList.take i ++ [c] := by
        rw [List.take_add_one, List.getElem?_eq_getElem hlt]
        have := List.drop_eq_getElem_cons hlt
        rw [hc] at this
        injection this with h1 h2
        rw [← h1]; rfl
      rw [htake] at hd
      rcases List.mem_append.1 hd with hd | hd
      · exact hn d hd
      · rw [List.mem_singleton] at hd
        subst hd
        rintro rfl
        exact h10 (by decide)
theorem LexerWhiteSpace : privitylaw26_LexerWhiteSpace.Pure := by
  intro a0 a1 h0 h1
  refine ⟨1000 + 1, ?_⟩
  unfold privitylaw26_LexerWhiteSpace.f
  have hy : privitylaw26_LexerWhiteSpace.j0 (1000 + 1) a0 a1 true = some true := by
    rw [privitylaw26_LexerWhiteSpace.j0, if_pos rfl, awake_f]; rfl
  by_cases h : (a0.size : Int) > 700
  · rw [if_pos h]; exact hy
  · rw [if_neg h]
    by_cases h2 : (a1.size : Int) > 20
    · rw [decide_eq_true h2]; exact hy
    · rw [decide_eq_false h2, privitylaw26_LexerWhiteSpace.j0, if_neg (by simp)]
      exact ws_l0 a0 a1 (by omega) (by omega) a1.size 0 1000 (by omega) (by omega) (by omega) (by simp)
end Go.Proofs.YtanollmhbjlimaaDoor.Pure
