import Derived.Test.YtlhnfgnihakcfaaDoorLxNum
import Derived.Test.YtlhnfgnihakcfaaDoorHp
set_option linter.unusedSimpArgs false
set_option linter.unusedVariables false
namespace Go.Proofs.YtlhnfgnihakcfaaDoor.Lx
open Go.RowKit Hp
open Go.Proofs.YtlhnfgnihakcfaaDoorW.PrintWords (results_ct)
theorem bcell {W w1 : World} (hb : Below W.heap.size W w1) : (∀ b o, b < W.heap.size → w1.cell? ⟨b, o, none⟩ = W.cell? ⟨b, o, none⟩) ∧ (∀ b o, b < W.heap.size → w1.frozen? ⟨b, o, none⟩ = W.frozen? ⟨b, o, none⟩) :=
  ⟨fun b o h => hb.cell (p := ⟨b, o, none⟩) h, fun b o h => hb.frozen (p := ⟨b, o, none⟩) h⟩
def reservedB : List ByteArray := Px.reserved.map fun l => ⟨l.toArray⟩
/-- the package's variable holds the keywords -/
def Gl (w : World) : Prop := ∃ b off c, b < w.heap.size ∧ 0 < w.heap.size ∧ w.cell? ⟨0, 0, none⟩ = some (.slice (some ⟨b, off, none⟩) 8 c) ∧ ∀ j, j < 8 → w.cell? ⟨b, off + j, none⟩ = some (.string (reservedB.getD j ByteArray.empty))
theorem Gl.below {w w' : World} (h : Gl w) (hb : Below w.heap.size w w') : Gl w' := by
  obtain ⟨b, off, c, h1, h2, h3, h4⟩ := h
  exact ⟨b, off, c, Nat.lt_of_lt_of_le h1 hb.size, Nat.lt_of_lt_of_le h2 hb.size, by rw [hb.cell (p := ⟨_, _, none⟩) h2]; exact h3, fun j hj => by rw [hb.cell (p := ⟨_, _, none⟩) h1]; exact h4 j hj⟩
def tokV (t : Px.Tok) : Value := .agg #[.int .i64 t.kind, .string ⟨t.text.toArray⟩, .int .u64 t.num, .int .i64 t.at_]
def tok0 : Value := .agg #[.int .i64 0, .string ⟨#[]⟩, .int .u64 0, .int .i64 0]
def takeV (r : Except Nat Px.Tok) : Value := match r with | .ok t => .tuple #[tokV t, .int .i64 0] | .error e => .tuple #[tok0, .int .i64 e]
theorem cls_of (c : UInt8) : (Px.digit c = true ∧ cls c.toNat = 2) ∨ (Px.digit c = false ∧ Px.letter c = true ∧ cls c.toNat = 1) ∨ (Px.digit c = false ∧ Px.letter c = false ∧ Px.signc c = true ∧ cls c.toNat = 8) ∨
    (Px.digit c = false ∧ Px.letter c = false ∧ Px.signc c = false ∧ (cls c.toNat == 2) = false ∧ (cls c.toNat == 1) = false ∧ (cls c.toNat == 8) = false) := by
  have h : ∀ c : Fin 256, let d := UInt8.ofNat c.val; (Px.digit d = true ∧ cls c.val = 2) ∨ (Px.digit d = false ∧ Px.letter d = true ∧ cls c.val = 1) ∨ (Px.digit d = false ∧ Px.letter d = false ∧ Px.signc d = true ∧ cls c.val = 8) ∨
    (Px.digit d = false ∧ Px.letter d = false ∧ Px.signc d = false ∧ (cls c.val == 2) = false ∧ (cls c.val == 1) = false ∧ (cls c.val == 8) = false) := by unfold cls; decide +kernel
  have := h ⟨c.toNat, c.toNat_lt⟩
  simpa using this
theorem has_digit (c : UInt8) : has 2 c = Px.digit c := by
  have h : ∀ c : Fin 256, ((cls c.val).toNat &&& 2 != 0) = Px.digit (UInt8.ofNat c.val) := by unfold cls; decide +kernel
  have := h ⟨c.toNat, c.toNat_lt⟩
  simpa [has] using this
theorem has_word (c : UInt8) : has 7 c = Px.wordc c := by
  have h : ∀ c : Fin 256, ((cls c.val).toNat &&& 7 != 0) = Px.wordc (UInt8.ofNat c.val) := by unfold cls; decide +kernel
  have := h ⟨c.toNat, c.toNat_lt⟩
  simpa [has] using this
/-- the head of s, as a text -/
theorem head_text (s : ByteArray) (n : Nat) : s.extract 0 n = ⟨(s.data.toList.take n).toArray⟩ := by rw [Lib.extract_eq]; simp
theorem runN_digit (s : ByteArray) : runN 2 s = (s.data.toList.takeWhile Px.digit).length := by
  unfold runN; rw [show has 2 = Px.digit from funext has_digit]
theorem runN_word (s : ByteArray) : runN 7 s = (s.data.toList.takeWhile Px.wordc).length := by
  unfold runN; rw [show has 7 = Px.wordc from funext has_word]
attribute [local irreducible] runN has
theorem bytes_of {s : ByteArray} {l : List UInt8} (h : s.data.toList = l) : s = ⟨l.toArray⟩ := by subst h; simp
/-- the digits' case -/
theorem take_digit (s : ByteArray) (w : World) (hs : s.size ≤ 140737488351232) (h0 : 0 < s.size) (hd : Px.digit s[0] = true) (hc : cls (s[0].toNat) = 2) :
    Calls Tryd.prog 47 #[.string s] w fun e w' => e = .returned (takeV (Px.take s.data.toList)) ∧ Below w.heap.size w w' := by
  have hx := run_index_kinds (s[0].toNat) (s[0].toNat_lt)
  rw [hc] at hx
  have HN := Lib.hid (runN_digit s)
  have hle := run_le 2 s
  obtain ⟨n, hn⟩ : ∃ n, runN 2 s = n := ⟨_, rfl⟩
  rw [hn] at hle
  have hn2 := Lib.hid hn
  have hL : s.data.toList = s[0] :: s.data.toList.tail := by
    have : s.data.toList ≠ [] := by simp; intro h; simp [ByteArray.size, h] at h0
    rw [← List.cons_head_tail this]; simp [List.head_eq_getElem]; rfl
  have HL := Lib.hid hL
  clear hn hL
  go_enter Tryd.func47, Tryd.ntmps47
  go_wp2_with fail
  have hB := (Below.refl w.heap.size w).alloc (Nat.le_refl _) (.cells #[.int .i64 0, .string ⟨#[]⟩, .int .u64 0, .int .i64 0] 51)
  have hblk := Blk.alloc_new w [.int .i64 0, .string ⟨#[]⟩, .int .u64 0, .int .i64 0] 51
  generalize w.alloc (.cells #[.int .i64 0, .string ⟨#[]⟩, .int .u64 0, .int .i64 0] 51) = w0 at hB hblk ⊢
  generalize hg : w.heap.size = g at hblk ⊢
  refine Rg.region_steps (S := fun _ => True) [.any 1, .any 2, .one 0, .any 3] (by kernel_rfl) (by kernel_rfl) trivial ?_
  refine Rg.p 11 ?_ ?_ rfl rfl (fun _ _ _ h => h) (by rfl) ?_ ?_ ?_; rotate_left 2; (intro w'; go_simp; with_reducible rfl); (simp only [Rg.pq, Rg.pz, Rg.ps]; rfl)
  refine Rg.p 12 ?_ ?_ rfl rfl (fun _ _ _ h => h) (by rfl) ?_ ?_ ?_; rotate_left 2; (intro w'; go_simp; with_reducible rfl); (simp only [Rg.pq, Rg.pz, Rg.ps]; rfl)
  refine Rg.s_call (N := some 10) rfl rfl Tryd.func50 (by kernel_rfl) rfl #[] (by rfl) rfl (by (try simp only [List.map_toArray, List.map_cons, List.map_nil]); first | done | rfl) ?_
  refine (kinds_any _).mono ?_
  rintro e w1 ⟨rfl, hb1⟩
  have hB1 := below_next hB.drew (Nat.le_refl _) hb1
  have hblk1 := hblk.drew.below hb1 hblk.lt
  clear hb1 hB hblk
  refine ⟨trivial, ?_⟩
  refine Rg.s_norm (a' := ?_) ?_ ?_; rotate_left; (simp only [Act.put, List.setIfInBounds_toArray, List.set_cons_zero, List.set_cons_succ]; rfl)
  refine Rg.p 13 ?_ ?_ rfl rfl (fun _ _ _ h => h) (by rfl) ?_ ?_ ?_; rotate_left 2; (intro w'; go_simp; with_reducible rfl); (simp only [Rg.pq, Rg.pz, Rg.ps]; rfl)
  refine Rg.s_done ?_
  clear hx
  go_wp2_with fail
  refine (run_any s 2 _ hs (.inr (.inl rfl))).mono ?_
  rintro e w2 ⟨rfl, hb1⟩
  rw [show runN (Int.toNat 2) s = n from hn2.out]
  have hB2 := below_next hB1 (Nat.le_refl _) hb1
  have hblk2 := hblk1.below hb1 hblk1.lt
  clear hb1 hB1 hblk1
  go_wp2_with fail
  have hdt : (s.extract 0 n).data.toList = s.data.toList.takeWhile Px.digit := by
    rw [Lib.extract_data]; simp only [List.drop_zero, Nat.sub_zero]
    rw [← hn2.out, HN.out, Px.tw_eq]
  have htk : Px.take s.data.toList = match Px.numVal 0 (s.data.toList.takeWhile Px.digit) with | some v => .ok ⟨2, s.data.toList.takeWhile Px.digit, v, 0⟩ | none => .error 2 := by
    conv => lhs; rw [HL.out]
    simp only [Px.take, hd, if_true]
    rw [← HL.out]
    cases Px.numVal 0 (s.data.toList.takeWhile Px.digit) <;> rfl
  have HT := Lib.hid htk
  have HDT := Lib.hid hdt
  refine (number_any (s.extract 0 n) _ (by simp; omega) (by
    intro k hk
    rw [hdt]
    have hk2 : k < (s.data.toList.takeWhile Px.digit).length := by rw [← hdt]; simpa using hk
    rw [List.getD_eq_getElem?_getD, List.getElem?_eq_getElem hk2, Option.getD_some]
    have := Px.tw_all Px.digit s.data.toList _ (List.getElem_mem hk2)
    simp only [Px.digit, Bool.and_eq_true, decide_eq_true_eq] at this
    have h1 := UInt8.le_iff_toNat_le.1 this.1
    have h2 := UInt8.le_iff_toNat_le.1 this.2
    exact ⟨by simpa using h1, by simpa using h2⟩)).mono ?_
  rintro e w3 ⟨rfl, hb1⟩
  have hB3 := below_next hB2 (Nat.le_refl _) hb1
  have hblk3 := hblk2.below hb1 hblk2.lt
  clear hb1 hB2 hblk2
  have hc0 := hblk3.cell 0 rfl
  have hc1 := hblk3.cell 1 rfl
  have hc2 := hblk3.cell 2 rfl
  have hc3 := hblk3.cell 3 rfl
  have hf0 := hblk3.free 0
  have hf1 := hblk3.free 1
  have hf2 := hblk3.free 2
  have hf3 := hblk3.free 3
  rw [hdt]
  have HB3 := Lib.hid hB3
  have HBLK := Lib.hid hblk3
  have HG := Lib.hid hg
  clear hB3 hblk3 htk hdt hg hd hc
  cases hv : Px.numVal 0 (s.data.toList.takeWhile Px.digit) with
  | none =>
    have HV := Lib.hid hv
    clear hv
    simp only [numV]
    go_wp2
    exact bodyPost_ret (results_ct rfl _ _ g 51 _ (0, 0) _ rfl (HBLK.out.set4 _ _ _ _) Tryd.underlying51 rfl (by kernel_rfl)) rfl ⟨by rw [HT.out, HV.out]; rfl, below_set4 HB3.out (Nat.le_of_eq HG.out) _ _ _ _⟩
  | some v =>
    have HV := Lib.hid hv
    clear hv
    simp only [numV]
    go_wp2
    exact bodyPost_ret (results_ct rfl _ _ g 51 _ (0, 0) _ rfl (HBLK.out.set4 _ _ _ _) Tryd.underlying51 rfl (by kernel_rfl)) rfl ⟨by rw [HT.out, HV.out, bytes_of HDT.out]; rfl, below_set4 HB3.out (Nat.le_of_eq HG.out) _ _ _ _⟩
theorem head_list (s : ByteArray) (h0 : 0 < s.size) : s.data.toList = s[0] :: s.data.toList.tail := by
  have : s.data.toList ≠ [] := by simp; intro h; simp [ByteArray.size, h] at h0
  rw [← List.cons_head_tail this]; simp [List.head_eq_getElem]; rfl
theorem contains_eq (x : ByteArray) : Lib.containsS (reservedB.take 8) x = Px.reserved.contains x.data.toList := by
  rw [show reservedB.take 8 = Px.reserved.map (fun l => (⟨l.toArray⟩ : ByteArray)) from rfl, Bool.eq_iff_iff, Lib.containsS_iff, List.contains_iff_mem, List.mem_map]
  constructor
  · rintro ⟨l, hl, rfl⟩; simpa using hl
  · intro h; exact ⟨x.data.toList, h, by simp⟩
/-- the letters' case -/
theorem take_letter (s : ByteArray) (w : World) (hG : Gl w) (hs : s.size ≤ 140737488351232) (h0 : 0 < s.size) (hd : Px.digit s[0] = false) (hl : Px.letter s[0] = true) (hc : cls (s[0].toNat) = 1) :
    Calls Tryd.prog 47 #[.string s] w fun e w' => e = .returned (takeV (Px.take s.data.toList)) ∧ Below w.heap.size w w' := by
  have hx := run_index_kinds (s[0].toNat) (s[0].toNat_lt)
  rw [hc] at hx
  have HN := Lib.hid (runN_word s)
  have hle := run_le 7 s
  obtain ⟨n, hn⟩ : ∃ n, runN 7 s = n := ⟨_, rfl⟩
  rw [hn] at hle
  have hn2 := Lib.hid hn
  have HL := Lib.hid (head_list s h0)
  clear hn
  go_enter Tryd.func47, Tryd.ntmps47
  go_wp2_with fail
  have hB := (Below.refl w.heap.size w).alloc (Nat.le_refl _) (.cells #[.int .i64 0, .string ⟨#[]⟩, .int .u64 0, .int .i64 0] 51)
  have hblk := Blk.alloc_new w [.int .i64 0, .string ⟨#[]⟩, .int .u64 0, .int .i64 0] 51
  generalize w.alloc (.cells #[.int .i64 0, .string ⟨#[]⟩, .int .u64 0, .int .i64 0] 51) = w0 at hB hblk ⊢
  generalize hg : w.heap.size = g at hblk ⊢
  refine Rg.region_steps (S := fun _ => True) [.any 1, .any 2, .one 0, .any 3] (by kernel_rfl) (by kernel_rfl) trivial ?_
  refine Rg.p 11 ?_ ?_ rfl rfl (fun _ _ _ h => h) (by rfl) ?_ ?_ ?_; rotate_left 2; (intro w'; go_simp; with_reducible rfl); (simp only [Rg.pq, Rg.pz, Rg.ps]; rfl)
  refine Rg.p 12 ?_ ?_ rfl rfl (fun _ _ _ h => h) (by rfl) ?_ ?_ ?_; rotate_left 2; (intro w'; go_simp; with_reducible rfl); (simp only [Rg.pq, Rg.pz, Rg.ps]; rfl)
  refine Rg.s_call (N := some 10) rfl rfl Tryd.func50 (by kernel_rfl) rfl #[] (by rfl) rfl (by (try simp only [List.map_toArray, List.map_cons, List.map_nil]); first | done | rfl) ?_
  refine (kinds_any _).mono ?_
  rintro e w1 ⟨rfl, hb1⟩
  have hB1 := below_next hB.drew (Nat.le_refl _) hb1
  have hblk1 := hblk.drew.below hb1 hblk.lt
  clear hb1 hB hblk
  refine ⟨trivial, ?_⟩
  refine Rg.s_norm (a' := ?_) ?_ ?_; rotate_left; (simp only [Act.put, List.setIfInBounds_toArray, List.set_cons_zero, List.set_cons_succ]; rfl)
  refine Rg.p 13 ?_ ?_ rfl rfl (fun _ _ _ h => h) (by rfl) ?_ ?_ ?_; rotate_left 2; (intro w'; go_simp; with_reducible rfl); (simp only [Rg.pq, Rg.pz, Rg.ps]; rfl)
  refine Rg.s_done ?_
  clear hx
  go_wp2_with fail
  refine (run_any s 7 _ hs (.inr (.inr rfl))).mono ?_
  rintro e w2 ⟨rfl, hb1⟩
  rw [show runN (Int.toNat 7) s = n from hn2.out]
  have hB2 := below_next hB1 (Nat.le_refl _) hb1
  have hblk2 := hblk1.below hb1 hblk1.lt
  clear hb1 hB1 hblk1
  have hdt : (s.extract 0 n).data.toList = s.data.toList.takeWhile Px.wordc := by
    rw [Lib.extract_data]; simp only [List.drop_zero, Nat.sub_zero]
    rw [← hn2.out, HN.out, Px.tw_eq]
  have htk : Px.take s.data.toList = if n > 20 then .error 2 else .ok ⟨if Px.reserved.contains (s.data.toList.takeWhile Px.wordc) then 3 else 1, s.data.toList.takeWhile Px.wordc, 0, 0⟩ := by
    conv => lhs; rw [HL.out]
    simp only [Px.take, hd, hl, if_true, Bool.false_eq_true, if_false]
    rw [← HL.out, ← hn2.out, HN.out]
  have HT := Lib.hid htk
  have HDT := Lib.hid hdt
  have HB2 := Lib.hid hB2
  have HBLK := Lib.hid hblk2
  have HG := Lib.hid hg
  have hc0 := hblk2.cell 0 rfl
  have hc1 := hblk2.cell 1 rfl
  have hc2 := hblk2.cell 2 rfl
  have hc3 := hblk2.cell 3 rfl
  have hf0 := hblk2.free 0
  have hf1 := hblk2.free 1
  have hf2 := hblk2.free 2
  have hf3 := hblk2.free 3
  have hglt := hblk2.lt
  obtain ⟨rb, ro, rc, hr1, hr2, hr3, hr4⟩ := hG.below hB2
  have HR4 := Lib.hid hr4
  clear hB2 hblk2 htk hdt hg hd hc hl hr4
  by_cases h20 : n > 20
  · have h20' : (20 : Int) < n := by omega
    have HT2 := Lib.hid (HT.out.trans (if_pos h20))
    clear h20
    go_wp2_with fail
    exact bodyPost_ret (results_ct rfl _ _ g 51 _ (0, 0) _ rfl ((HBLK.out.set4 _ _ _ _).alloc _) Tryd.underlying51 rfl (by kernel_rfl)) rfl ⟨by rw [HT2.out]; rfl, (below_set4 HB2.out (Nat.le_of_eq HG.out) _ _ _ _).alloc (by simpa [World.setCell] using HB2.out.size) _⟩
  · have h20' : ¬ (20 : Int) < n := by omega
    have HT2 := Lib.hid (HT.out.trans (if_neg h20))
    clear h20
    go_wp2_with fail
    refine (Tryd.slices_Contains_string rb ro 8 rc reservedB (s.extract 0 n) _ (by decide) (by omega) (by
      intro j hj
      have := HR4.out j hj
      rw [World.cell?_alloc_lt _ _ _ hr1]; exact this)).mono ?_
    rintro e w3 ⟨rfl, rfl⟩
    rw [show Lib.containsS (reservedB.take 8) (s.extract 0 n) = Px.reserved.contains (s.data.toList.takeWhile Px.wordc) from by rw [← HDT.out]; exact contains_eq _]
    cases hk : Px.reserved.contains (s.data.toList.takeWhile Px.wordc) with
    | true =>
      have HT3 := Lib.hid (HT2.out.trans (by rw [hk]; rfl : _ = Except.ok ⟨3, s.data.toList.takeWhile Px.wordc, 0, 0⟩))
      clear hk HT2 HT
      go_wp2
      exact bodyPost_ret (results_ct rfl _ _ g 51 _ (0, 0) _ rfl ((HBLK.out.set4 _ _ _ _).alloc _) Tryd.underlying51 rfl (by kernel_rfl)) rfl ⟨by rw [HT3.out, bytes_of HDT.out]; rfl, (below_set4 HB2.out (Nat.le_of_eq HG.out) _ _ _ _).alloc (by simpa [World.setCell] using HB2.out.size) _⟩
    | false =>
      have HT3 := Lib.hid (HT2.out.trans (by rw [hk]; rfl : _ = Except.ok ⟨1, s.data.toList.takeWhile Px.wordc, 0, 0⟩))
      clear hk HT2 HT
      go_wp2
      exact bodyPost_ret (results_ct rfl _ _ g 51 _ (0, 0) _ rfl ((HBLK.out.set4 _ _ _ _).alloc _) Tryd.underlying51 rfl (by kernel_rfl)) rfl ⟨by rw [HT3.out, bytes_of HDT.out]; rfl, (below_set4 HB2.out (Nat.le_of_eq HG.out) _ _ _ _).alloc (by simpa [World.setCell] using HB2.out.size) _⟩
/-- the signs' case -/
theorem take_sign (s : ByteArray) (w : World) (hs : s.size ≤ 140737488351232) (h0 : 0 < s.size) (hd : Px.digit s[0] = false) (hl : Px.letter s[0] = false) (hsg : Px.signc s[0] = true) (hc : cls (s[0].toNat) = 8) :
    Calls Tryd.prog 47 #[.string s] w fun e w' => e = .returned (takeV (Px.take s.data.toList)) ∧ Below w.heap.size w w' := by
  have hx := run_index_kinds (s[0].toNat) (s[0].toNat_lt)
  rw [hc] at hx
  have HL := Lib.hid (head_list s h0)
  go_enter Tryd.func47, Tryd.ntmps47
  go_wp2_with fail
  have hB := (Below.refl w.heap.size w).alloc (Nat.le_refl _) (.cells #[.int .i64 0, .string ⟨#[]⟩, .int .u64 0, .int .i64 0] 51)
  have hblk := Blk.alloc_new w [.int .i64 0, .string ⟨#[]⟩, .int .u64 0, .int .i64 0] 51
  generalize w.alloc (.cells #[.int .i64 0, .string ⟨#[]⟩, .int .u64 0, .int .i64 0] 51) = w0 at hB hblk ⊢
  generalize hg : w.heap.size = g at hblk ⊢
  refine Rg.region_steps (S := fun _ => True) [.any 1, .any 2, .one 0, .any 3] (by kernel_rfl) (by kernel_rfl) trivial ?_
  refine Rg.p 11 ?_ ?_ rfl rfl (fun _ _ _ h => h) (by rfl) ?_ ?_ ?_; rotate_left 2; (intro w'; go_simp; with_reducible rfl); (simp only [Rg.pq, Rg.pz, Rg.ps]; rfl)
  refine Rg.p 12 ?_ ?_ rfl rfl (fun _ _ _ h => h) (by rfl) ?_ ?_ ?_; rotate_left 2; (intro w'; go_simp; with_reducible rfl); (simp only [Rg.pq, Rg.pz, Rg.ps]; rfl)
  refine Rg.s_call (N := some 10) rfl rfl Tryd.func50 (by kernel_rfl) rfl #[] (by rfl) rfl (by (try simp only [List.map_toArray, List.map_cons, List.map_nil]); first | done | rfl) ?_
  refine (kinds_any _).mono ?_
  rintro e w2 ⟨rfl, hb1⟩
  have hB2 := below_next hB.drew (Nat.le_refl _) hb1
  have hblk2 := hblk.drew.below hb1 hblk.lt
  clear hb1 hB hblk
  refine ⟨trivial, ?_⟩
  refine Rg.s_norm (a' := ?_) ?_ ?_; rotate_left; (simp only [Act.put, List.setIfInBounds_toArray, List.set_cons_zero, List.set_cons_succ]; rfl)
  refine Rg.p 13 ?_ ?_ rfl rfl (fun _ _ _ h => h) (by rfl) ?_ ?_ ?_; rotate_left 2; (intro w'; go_simp; with_reducible rfl); (simp only [Rg.pq, Rg.pz, Rg.ps]; rfl)
  refine Rg.s_done ?_
  clear hx
  have HB2 := Lib.hid hB2
  have HBLK := Lib.hid hblk2
  have HG := Lib.hid hg
  have hc0 := hblk2.cell 0 rfl
  have hc1 := hblk2.cell 1 rfl
  have hc2 := hblk2.cell 2 rfl
  have hc3 := hblk2.cell 3 rfl
  have hf0 := hblk2.free 0
  have hf1 := hblk2.free 1
  have hf2 := hblk2.free 2
  have hf3 := hblk2.free 3
  have hglt := hblk2.lt
  clear hB2 hblk2 hg
  go_wp2_with fail
  refine (Tryd.strings_HasPrefix _ _ _).mono ?_
  rintro e w3 ⟨rfl, rfl⟩
  have htk : Px.take s.data.toList = .ok ⟨4, if s.data.toList.take 2 == [61, 61] then [61, 61] else [s[0]], 0, 0⟩ := by
    conv => lhs; rw [HL.out]
    simp only [Px.take, hd, hl, hsg, if_true, Bool.false_eq_true, if_false]
    rw [← HL.out]
  have hp : Lib.hasPrefix s.data.toList [61, 61] = (s.data.toList.take 2 == [61, 61]) := by
    rw [Bool.eq_iff_iff, Lib.hasPrefix, List.isPrefixOf_iff_prefix, beq_iff_eq]
    rw [List.prefix_iff_eq_take]; simp; exact eq_comm
  have HT := Lib.hid htk
  clear hd hl hsg hc htk
  cases he : (s.data.toList.take 2 == [61, 61]) with
  | true =>
    have HE := Lib.hid he
    have hsz : 2 ≤ s.size := by
      have := congrArg List.length (beq_iff_eq.1 he)
      simp at this; omega
    rw [he] at hp
    have HP := Lib.hid hp
    clear he hp
    rw [show Lib.hasPrefix s.data.toList [61, 61] = true from HP.out]
    go_wp2
    exact bodyPost_ret (results_ct rfl _ _ g 51 _ (0, 0) _ rfl (HBLK.out.set4 _ _ _ _) Tryd.underlying51 rfl (by kernel_rfl)) rfl ⟨by rw [HT.out, HE.out, head_text, beq_iff_eq.1 HE.out]; rfl, below_set4 HB2.out (Nat.le_of_eq HG.out) _ _ _ _⟩
  | false =>
    have HE := Lib.hid he
    rw [he] at hp
    have HP := Lib.hid hp
    clear he hp
    rw [show Lib.hasPrefix s.data.toList [61, 61] = false from HP.out]
    go_wp2
    exact bodyPost_ret (results_ct rfl _ _ g 51 _ (0, 0) _ rfl (HBLK.out.set4 _ _ _ _) Tryd.underlying51 rfl (by kernel_rfl)) rfl ⟨by rw [HT.out, HE.out, head_text, show s.data.toList.take 1 = [s[0]] by rw [HL.out]; rfl]; rfl, below_set4 HB2.out (Nat.le_of_eq HG.out) _ _ _ _⟩
/-- any other byte -/
theorem take_bad (s : ByteArray) (w : World) (hs : s.size ≤ 140737488351232) (h0 : 0 < s.size) (hd : Px.digit s[0] = false) (hl : Px.letter s[0] = false) (hsg : Px.signc s[0] = false)
    (e2 : (cls s[0].toNat == 2) = false) (e1 : (cls s[0].toNat == 1) = false) (e8 : (cls s[0].toNat == 8) = false) :
    Calls Tryd.prog 47 #[.string s] w fun e w' => e = .returned (takeV (Px.take s.data.toList)) ∧ Below w.heap.size w w' := by
  have hx := run_index_kinds (s[0].toNat) (s[0].toNat_lt)
  have htk : Px.take s.data.toList = .error 3 := by
    conv => lhs; rw [head_list s h0]
    simp only [Px.take, hd, hl, hsg, Bool.false_eq_true, if_false]
  have HT := Lib.hid htk
  clear htk hd hl hsg
  have HL := Lib.hid (head_list s h0)
  go_enter Tryd.func47, Tryd.ntmps47
  go_wp2_with fail
  have hB := (Below.refl w.heap.size w).alloc (Nat.le_refl _) (.cells #[.int .i64 0, .string ⟨#[]⟩, .int .u64 0, .int .i64 0] 51)
  have hblk := Blk.alloc_new w [.int .i64 0, .string ⟨#[]⟩, .int .u64 0, .int .i64 0] 51
  generalize w.alloc (.cells #[.int .i64 0, .string ⟨#[]⟩, .int .u64 0, .int .i64 0] 51) = w0 at hB hblk ⊢
  generalize hg : w.heap.size = g at hblk ⊢
  refine Rg.region_steps (S := fun _ => True) [.any 1, .any 2, .one 0, .any 3] (by kernel_rfl) (by kernel_rfl) trivial ?_
  refine Rg.p 11 ?_ ?_ rfl rfl (fun _ _ _ h => h) (by rfl) ?_ ?_ ?_; rotate_left 2; (intro w'; go_simp; with_reducible rfl); (simp only [Rg.pq, Rg.pz, Rg.ps]; rfl)
  refine Rg.p 12 ?_ ?_ rfl rfl (fun _ _ _ h => h) (by rfl) ?_ ?_ ?_; rotate_left 2; (intro w'; go_simp; with_reducible rfl); (simp only [Rg.pq, Rg.pz, Rg.ps]; rfl)
  refine Rg.s_call (N := some 10) rfl rfl Tryd.func50 (by kernel_rfl) rfl #[] (by rfl) rfl (by (try simp only [List.map_toArray, List.map_cons, List.map_nil]); first | done | rfl) ?_
  refine (kinds_any _).mono ?_
  rintro e w2 ⟨rfl, hb1⟩
  have hB2 := below_next hB.drew (Nat.le_refl _) hb1
  have hblk2 := hblk.drew.below hb1 hblk.lt
  clear hb1 hB hblk
  refine ⟨trivial, ?_⟩
  refine Rg.s_norm (a' := ?_) ?_ ?_; rotate_left; (simp only [Act.put, List.setIfInBounds_toArray, List.set_cons_zero, List.set_cons_succ]; rfl)
  refine Rg.p 13 ?_ ?_ rfl rfl (fun _ _ _ h => h) (by rfl) ?_ ?_ ?_; rotate_left 2; (intro w'; go_simp; with_reducible rfl); (simp only [Rg.pq, Rg.pz, Rg.ps]; rfl)
  refine Rg.s_done ?_
  clear hx
  have HB2 := Lib.hid hB2
  have HBLK := Lib.hid hblk2
  have HG := Lib.hid hg
  have hc0 := hblk2.cell 0 rfl
  have hc1 := hblk2.cell 1 rfl
  have hc2 := hblk2.cell 2 rfl
  have hc3 := hblk2.cell 3 rfl
  have hf0 := hblk2.free 0
  have hf1 := hblk2.free 1
  have hf2 := hblk2.free 2
  have hf3 := hblk2.free 3
  have hglt := hblk2.lt
  clear hB2 hblk2 hg
  go_wp2
  exact bodyPost_ret (results_ct rfl _ _ g 51 _ (0, 0) _ rfl (HBLK.out.set4 _ _ _ _) Tryd.underlying51 rfl (by kernel_rfl)) rfl ⟨by rw [HT.out]; rfl, below_set4 HB2.out (Nat.le_of_eq HG.out) _ _ _ _⟩
/-- the first token -/
theorem take_any (s : ByteArray) (w : World) (hG : Gl w) (hs : s.size ≤ 140737488351232) (h0 : 0 < s.size) :
    Calls Tryd.prog 47 #[.string s] w fun e w' => e = .returned (takeV (Px.take s.data.toList)) ∧ Below w.heap.size w w' := by
  rcases cls_of s[0] with ⟨h1, h2⟩ | ⟨h1, h2, h3⟩ | ⟨h1, h2, h3, h4⟩ | ⟨h1, h2, h3, h4, h5, h6⟩
  · exact take_digit s w hs h0 h1 h2
  · exact take_letter s w hG hs h0 h1 h2 h3
  · exact take_sign s w hs h0 h1 h2 h3 h4
  · exact take_bad s w hs h0 h1 h2 h3 h4 h5 h6
end Go.Proofs.YtlhnfgnihakcfaaDoor.Lx
