import Derived.Test.YtlhnfgnihakcfaaDoorLxLex
set_option linter.unusedSimpArgs false
set_option linter.unusedVariables false
namespace Go.Proofs.YtlhnfgnihakcfaaDoor.Lx
open Go.RowKit Hp Kn
open Go.Proofs.YtlhnfgnihakcfaaDoorW.PrintWords
def lexer_IsName.f (a0 : ByteArray) : Option Bool := if a0.size ≤ 140737488351232 then some (Px.isName a0.data.toList) else none
theorem cls_ne (c : UInt8) (h : Px.letter c = false) : (cls c.toNat != 1) = true := by
  have hh : ∀ c : Fin 256, Px.letter (UInt8.ofNat c.val) = false → (cls c.val != 1) = true := by unfold cls; decide +kernel
  exact hh ⟨c.toNat, c.toNat_lt⟩ (by simpa using h)
theorem cls_eq (c : UInt8) (h : Px.letter c = true) : cls c.toNat = 1 := by
  have hh : ∀ c : Fin 256, Px.letter (UInt8.ofNat c.val) = true → cls c.val = 1 := by unfold cls; decide +kernel
  exact hh ⟨c.toNat, c.toNat_lt⟩ (by simpa using h)
theorem tw_full (p : UInt8 → Bool) : ∀ l : Px.Bs, (∀ d ∈ l, p d = true) → l.takeWhile p = l
  | [], _ => rfl
  | c :: l, h => by rw [List.takeWhile_cons, h c (by simp)]; simp only [if_true]; rw [tw_full p l (fun d hd => h d (by simp [hd]))]
theorem nil_of (s : ByteArray) (h : s.size = 0) : s.data.toList = [] := List.eq_nil_of_length_eq_zero (by rw [Array.length_toList]; exact h)
/-- a name, as the program asks for it -/
theorem isName_take (l : Px.Bs) (c : UInt8) (r : Px.Bs) (hl : l = c :: r) (hc : Px.letter c = true) : Px.isName l = match Px.take l with | .ok t => t.kind == 1 && t.text == l | .error _ => false := by
  subst hl
  have hd : Px.digit c = false := by
    have hh : ∀ c : Fin 256, Px.letter (UInt8.ofNat c.val) = true → Px.digit (UInt8.ofNat c.val) = false := by decide +kernel
    simpa using hh ⟨c.toNat, c.toNat_lt⟩ (by simpa using hc)
  have hw : Px.wordc c = true := by simp [Px.wordc, hc]
  simp only [Px.isName, Px.take, hd, hc, if_true, Bool.false_eq_true, if_false, Bool.true_and]
  by_cases hall : (c :: r).all Px.wordc = true
  · have e : (c :: r).takeWhile Px.wordc = c :: r := tw_full _ _ (List.all_eq_true.1 hall)
    rw [e, hall]
    by_cases h20 : (c :: r).length > 20
    · rw [if_pos h20]; simp at h20 ⊢; omega
    · rw [if_neg h20]
      have : (c :: r).length ≤ 20 := by omega
      simp only [this, decide_true, Bool.true_and]
      cases hr : Px.reserved.contains (c :: r) <;> simp
  · have hne : (c :: r).takeWhile Px.wordc ≠ c :: r := by
      intro e
      exact hall (List.all_eq_true.2 (by rw [← e]; exact Px.tw_all _ _))
    have hf : (c :: r).all Px.wordc = false := by simpa using hall
    rw [hf]
    by_cases h20 : ((c :: r).takeWhile Px.wordc).length > 20
    · rw [if_pos h20]; rfl
    · rw [if_neg h20]
      have : ((c :: r).takeWhile Px.wordc == c :: r) = false := by simpa using hne
      simp only [this, Bool.and_false, Bool.false_and]
theorem isName_empty (s : ByteArray) (w : World) (h : s.size = 0) : Calls Tryd.prog 28 #[.string s] w fun e w' => e = .returned (.bool false) ∧ Below w.heap.size w w' := by
  have h1 : (s.toList == []) = true := by rw [Lib.toList_data, nil_of s h]; rfl
  have h2 : s.toList = [] := by simpa using h1
  go_enter Tryd.func28, Tryd.ntmps28
  go_wp2_with fail
  refine Rg.region_steps (S := fun _ => True) [.any 0, .any 1, .any 2, .any 3, .any 4, .any 5, .any 6, .any 7, .any 8] (by kernel_rfl) (by kernel_rfl) trivial ?_
  refine Rg.p 5 ?_ ?_ rfl rfl (fun _ _ _ h => h) (by rfl) ?_ ?_ ?_; rotate_left 2; (intro w'; go_simp; with_reducible rfl); (simp only [Rg.pq, Rg.pz, Rg.ps]; rfl)
  refine Rg.p 6 ?_ ?_ rfl rfl (fun _ _ _ h => h) (by rfl) ?_ ?_ ?_; rotate_left 2; (intro w'; go_simp; with_reducible rfl); (simp only [Rg.pq, Rg.pz, Rg.ps]; rfl)
  refine Rg.p 7 ?_ ?_ rfl rfl (fun _ _ _ h => h) (by rfl) ?_ ?_ ?_; rotate_left 2; (intro w'; go_simp; with_reducible rfl); (simp only [Rg.pq, Rg.pz, Rg.ps]; rfl)
  refine Rg.s_off (N := some 8) (a' := ?_) rfl rfl (fun _ _ _ h => h) (by rfl) ?_ ?_; rotate_left; (simp only [Act.put, List.setIfInBounds_toArray, List.set_cons_zero, List.set_cons_succ]; rfl)
  refine Rg.s_off (N := some 9) (a' := ?_) rfl rfl (fun _ _ _ h => h) (by rfl) ?_ ?_; rotate_left; (simp only [Act.put, List.setIfInBounds_toArray, List.set_cons_zero, List.set_cons_succ]; rfl)
  refine Rg.s_off (N := some 10) (a' := ?_) rfl rfl (fun _ _ _ h => h) (by rfl) ?_ ?_; rotate_left; (simp only [Act.put, List.setIfInBounds_toArray, List.set_cons_zero, List.set_cons_succ]; rfl)
  refine Rg.s_off (N := some 11) (a' := ?_) rfl rfl (fun _ _ _ h => h) (by rfl) ?_ ?_; rotate_left; (simp only [Act.put, List.setIfInBounds_toArray, List.set_cons_zero, List.set_cons_succ]; rfl)
  refine Rg.s_off (N := some 12) (a' := ?_) rfl rfl (fun _ _ _ h => h) (by rfl) ?_ ?_; rotate_left; (simp only [Act.put, List.setIfInBounds_toArray, List.set_cons_zero, List.set_cons_succ]; rfl)
  refine Rg.p 13 ?_ ?_ rfl rfl (fun _ _ _ h => h) (by rfl) ?_ ?_ ?_; rotate_left 2; (intro w'; go_simp; with_reducible rfl); (simp only [Rg.pq, Rg.pz, Rg.ps]; rfl)
  refine Rg.s_done ?_
  go_wp2
  go_ret
  exact ⟨rfl, (Below.refl _ _).drew⟩
theorem isName_other (s : ByteArray) (w : World) (h0 : 0 < s.size) (hl : Px.letter s[0] = false) : Calls Tryd.prog 28 #[.string s] w fun e w' => e = .returned (.bool false) ∧ Below w.heap.size w w' := by
  have h1 : (s.toList == []) = false := by rw [Lib.toList_data, head_list s h0]; rfl
  have h2 : s.toList.isEmpty = false := by rw [Lib.toList_data, head_list s h0]; rfl
  have hx := run_index_kinds (s[0].toNat) (s[0].toNat_lt)
  have hne := cls_ne _ hl
  clear hl
  go_enter Tryd.func28, Tryd.ntmps28
  go_wp2_with fail
  refine Rg.region_steps (S := fun _ => True) [.any 0, .any 1, .any 2, .any 4, .any 5, .one 3, .any 6, .any 7, .any 8] (by kernel_rfl) (by kernel_rfl) trivial ?_
  refine Rg.p 5 ?_ ?_ rfl rfl (fun _ _ _ h => h) (by rfl) ?_ ?_ ?_; rotate_left 2; (intro w'; go_simp; with_reducible rfl); (simp only [Rg.pq, Rg.pz, Rg.ps]; rfl)
  refine Rg.p 6 ?_ ?_ rfl rfl (fun _ _ _ h => h) (by rfl) ?_ ?_ ?_; rotate_left 2; (intro w'; go_simp; with_reducible rfl); (simp only [Rg.pq, Rg.pz, Rg.ps]; rfl)
  refine Rg.p 7 ?_ ?_ rfl rfl (fun _ _ _ h => h) (by rfl) ?_ ?_ ?_; rotate_left 2; (intro w'; go_simp; with_reducible rfl); (simp only [Rg.pq, Rg.pz, Rg.ps]; rfl)
  refine Rg.p 9 ?_ ?_ rfl rfl (fun _ _ _ h => h) (by rfl) ?_ ?_ ?_; rotate_left 2; (intro w'; go_simp; with_reducible rfl); (simp only [Rg.pq, Rg.pz, Rg.ps]; rfl)
  refine Rg.p 10 ?_ ?_ rfl rfl (fun _ _ _ h => h) (by rfl) ?_ ?_ ?_; rotate_left 2; (intro w'; go_simp; with_reducible rfl); (simp only [Rg.pq, Rg.pz, Rg.ps]; rfl)
  refine Rg.s_call (N := some 8) rfl rfl Tryd.func50 (by kernel_rfl) rfl #[] (by rfl) rfl (by (try simp only [List.map_toArray, List.map_cons, List.map_nil]); first | done | rfl) ?_
  refine (kinds_any _).mono ?_
  rintro e w2 ⟨rfl, hb1⟩
  have hb2 := below_next (Below.refl w.heap.size w).drew (Nat.le_refl _) hb1
  clear hb1
  refine ⟨trivial, ?_⟩
  refine Rg.s_norm (a' := ?_) ?_ ?_; rotate_left; (simp only [Act.put, List.setIfInBounds_toArray, List.set_cons_zero, List.set_cons_succ]; rfl)
  refine Rg.p 11 ?_ ?_ rfl rfl (fun _ _ _ h => h) (by rfl) ?_ ?_ ?_; rotate_left 2; (intro w'; go_simp; with_reducible rfl); (simp only [Rg.pq, Rg.pz, Rg.ps]; rfl)
  refine Rg.p 12 ?_ ?_ rfl rfl (fun _ _ _ h => h) (by rfl) ?_ ?_ ?_; rotate_left 2; (intro w'; go_simp; with_reducible rfl); (simp only [Rg.pq, Rg.pz, Rg.ps]; rfl)
  refine Rg.p 13 ?_ ?_ rfl rfl (fun _ _ _ h => h) (by rfl) ?_ ?_ ?_; rotate_left 2; (intro w'; go_simp; with_reducible rfl); (simp only [Rg.pq, Rg.pz, Rg.ps]; rfl)
  refine Rg.s_done ?_
  go_wp2
  go_ret
  exact ⟨rfl, hb2⟩
theorem isName_letter (s : ByteArray) (w : World) (hG : Gl w) (hs : s.size ≤ 140737488351232) (h0 : 0 < s.size) (hl : Px.letter s[0] = true) : Calls Tryd.prog 28 #[.string s] w fun e w' => e = .returned (.bool (Px.isName s.data.toList)) ∧ Below w.heap.size w w' := by
  have h1 : (s.toList == []) = false := by rw [Lib.toList_data, head_list s h0]; rfl
  have h2 : s.toList.isEmpty = false := by rw [Lib.toList_data, head_list s h0]; rfl
  have hx := run_index_kinds (s[0].toNat) (s[0].toNat_lt)
  rw [cls_eq _ hl] at hx
  have HG := Lib.hid hG
  have HL := Lib.hid hl
  clear hl hG
  go_enter Tryd.func28, Tryd.ntmps28
  go_wp2_with fail
  refine Rg.region_steps (S := fun _ => True) [.any 0, .any 1, .any 2, .any 4, .any 5, .one 3, .any 6, .any 7, .any 8] (by kernel_rfl) (by kernel_rfl) trivial ?_
  refine Rg.p 5 ?_ ?_ rfl rfl (fun _ _ _ h => h) (by rfl) ?_ ?_ ?_; rotate_left 2; (intro w'; go_simp; with_reducible rfl); (simp only [Rg.pq, Rg.pz, Rg.ps]; rfl)
  refine Rg.p 6 ?_ ?_ rfl rfl (fun _ _ _ h => h) (by rfl) ?_ ?_ ?_; rotate_left 2; (intro w'; go_simp; with_reducible rfl); (simp only [Rg.pq, Rg.pz, Rg.ps]; rfl)
  refine Rg.p 7 ?_ ?_ rfl rfl (fun _ _ _ h => h) (by rfl) ?_ ?_ ?_; rotate_left 2; (intro w'; go_simp; with_reducible rfl); (simp only [Rg.pq, Rg.pz, Rg.ps]; rfl)
  refine Rg.p 9 ?_ ?_ rfl rfl (fun _ _ _ h => h) (by rfl) ?_ ?_ ?_; rotate_left 2; (intro w'; go_simp; with_reducible rfl); (simp only [Rg.pq, Rg.pz, Rg.ps]; rfl)
  refine Rg.p 10 ?_ ?_ rfl rfl (fun _ _ _ h => h) (by rfl) ?_ ?_ ?_; rotate_left 2; (intro w'; go_simp; with_reducible rfl); (simp only [Rg.pq, Rg.pz, Rg.ps]; rfl)
  refine Rg.s_call (N := some 8) rfl rfl Tryd.func50 (by kernel_rfl) rfl #[] (by rfl) rfl (by (try simp only [List.map_toArray, List.map_cons, List.map_nil]); first | done | rfl) ?_
  refine (kinds_any _).mono ?_
  rintro e w2 ⟨rfl, hb1⟩
  have hb2 := below_next (Below.refl w.heap.size w).drew (Nat.le_refl _) hb1
  clear hb1
  refine ⟨trivial, ?_⟩
  refine Rg.s_norm (a' := ?_) ?_ ?_; rotate_left; (simp only [Act.put, List.setIfInBounds_toArray, List.set_cons_zero, List.set_cons_succ]; rfl)
  refine Rg.p 11 ?_ ?_ rfl rfl (fun _ _ _ h => h) (by rfl) ?_ ?_ ?_; rotate_left 2; (intro w'; go_simp; with_reducible rfl); (simp only [Rg.pq, Rg.pz, Rg.ps]; rfl)
  refine Rg.p 12 ?_ ?_ rfl rfl (fun _ _ _ h => h) (by rfl) ?_ ?_ ?_; rotate_left 2; (intro w'; go_simp; with_reducible rfl); (simp only [Rg.pq, Rg.pz, Rg.ps]; rfl)
  refine Rg.p 13 ?_ ?_ rfl rfl (fun _ _ _ h => h) (by rfl) ?_ ?_ ?_; rotate_left 2; (intro w'; go_simp; with_reducible rfl); (simp only [Rg.pq, Rg.pz, Rg.ps]; rfl)
  refine Rg.s_done ?_
  clear hx
  go_wp2_with fail
  refine (take_any s _ (HG.out.below hb2) hs h0).mono ?_
  rintro e w3 ⟨rfl, hb3⟩
  have hb4 := below_next hb2 (Nat.le_refl _) hb3
  clear hb2 hb3
  have hfin := isName_take s.data.toList s[0] _ (head_list s h0) HL.out
  cases ht : Px.take s.data.toList with
  | error e =>
    have hF := Lib.hid (show Px.isName s.data.toList = false by rw [hfin, ht])
    have he : ((e : Int) == 0) = false := by rw [beq_eq_false_iff_ne]; rcases take_err ht with rfl | rfl <;> decide
    clear hfin ht
    simp only [takeV, tok0]
    go_wp2
    go_ret
    exact ⟨ret_bool hF.out.symm, hb4.alloc hb4.size _⟩
  | ok t =>
    have hF := Lib.hid (show Px.isName s.data.toList = (t.kind == 1 && t.text == s.data.toList) by rw [hfin, ht])
    clear hfin ht
    simp only [takeV, tokV]
    by_cases hk : t.kind = 1
    · have hk1 : ((t.kind : Int) == 1) = true := by rw [hk]; rfl
      have hF2 := Lib.hid (show Px.isName s.data.toList = (t.text == s.data.toList) by rw [hF.out, hk]; simp)
      clear hk hF
      have e1 : (t.text == s.data.toList) = (t.text == s.toList) := by rw [Lib.toList_data]
      have hF3 := Lib.hid (hF2.out.trans e1)
      clear e1 hF2
      go_wp2
      go_ret
      exact ⟨ret_bool hF3.out.symm, hb4.alloc hb4.size _⟩
    · have hk1 : ((t.kind : Int) == 1) = false := by rw [beq_eq_false_iff_ne]; omega
      have hF2 := Lib.hid (show Px.isName s.data.toList = false by rw [hF.out]; simp [hk])
      clear hk hF
      go_wp2
      go_ret
      exact ⟨ret_bool hF2.out.symm, hb4.alloc hb4.size _⟩
theorem lexer_IsName.calls (a0 : ByteArray) (r : Bool) (w : World) (hG : Gl w) (h : lexer_IsName.f a0 = some r) :
    Calls Tryd.prog 28 #[.string a0] w fun e w' => e = .returned (.bool r) ∧ Below w.heap.size w w' := by
  unfold lexer_IsName.f at h
  split at h
  · rename_i hs
    have := Option.some.inj h
    subst this
    rcases Nat.eq_zero_or_pos a0.size with h0 | h0
    · rw [show Px.isName a0.data.toList = false by rw [nil_of a0 h0]; rfl]
      exact isName_empty a0 w h0
    · cases hl : Px.letter a0[0] with
      | true => exact isName_letter a0 w hG hs h0 hl
      | false =>
        rw [show Px.isName a0.data.toList = false by rw [head_list a0 h0]; simp [Px.isName, hl]]
        exact isName_other a0 w h0 hl
  · cases h
end Go.Proofs.YtlhnfgnihakcfaaDoor.Lx
