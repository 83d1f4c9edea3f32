import Derived.Test.YtanollmhbjlimaaDoorLxLex
set_option linter.unusedSimpArgs false
set_option linter.unusedVariables false
namespace Go.Proofs.YtanollmhbjlimaaDoor.Lx
open Go.RowKit Hp Kn
open Go.Proofs.YtanollmhbjlimaaDoorW.PrintWords
/-- two tokens, their offsets aside -/
def sameTok (x y : S31) (aside : Bool) : Bool := x.f0 == y.f0 && x.f1.toList == y.f1.toList && x.f2 == y.f2 && (aside || x.f3 == y.f3)
def sameToks (l m : List S31) (aside : Bool) : Bool := l.length == m.length && (List.zipWith (fun x y => sameTok x y aside) l m).all id
def privityref26_Same.f (l0 l1 : List S31) (a2 : Bool) : Option Bool := if l0.length ≤ 140737488351232 ∧ l1.length ≤ 140737488351232 then some (sameToks l0 l1 a2) else none
theorem same_no {l m : List S31} {n k : Nat} {x y : S31} {a : Bool} (hl : l.length = m.length) (hn : l.length = n) (hk : k < n) (hx : rd_T31 l (k : Int) = x) (hy : rd_T31 m (k : Int) = y) (h : sameTok x y a = false) : sameToks l m a = false := by
  have e1 : l[k]? = some x := by rw [← hx]; simp [rd_T31, List.getD_eq_getElem?_getD, List.getElem?_eq_getElem (show k < l.length by omega)]
  have e2 : m[k]? = some y := by rw [← hy]; simp [rd_T31, List.getD_eq_getElem?_getD, List.getElem?_eq_getElem (show k < m.length by omega)]
  unfold sameToks
  rw [Bool.and_eq_false_iff]; right
  rw [List.all_eq_false]
  refine ⟨sameTok x y a, List.mem_iff_getElem?.2 ⟨k, by rw [List.getElem?_zipWith, e1, e2]⟩, by simp [h]⟩
theorem same_more {l m : List S31} {n k : Nat} {x y : S31} {a : Bool} (hl : l.length = m.length) (hn : l.length = n) (hk : k < n) (hx : rd_T31 l (k : Int) = x) (hy : rd_T31 m (k : Int) = y) (h : sameTok x y a = true)
    (hst : ∀ (j : Nat) x y, j < k → l[j]? = some x → m[j]? = some y → sameTok x y a = true) : ∀ (j : Nat) x y, j < k + 1 → l[j]? = some x → m[j]? = some y → sameTok x y a = true := by
  intro j u v hj hu hv
  rcases Nat.lt_or_ge j k with hlt | hge
  · exact hst j u v hlt hu hv
  · obtain rfl : j = k := by omega
    have e1 : l[j]? = some x := by rw [← hx]; simp [rd_T31, List.getD_eq_getElem?_getD, List.getElem?_eq_getElem (show j < l.length by omega)]
    have e2 : m[j]? = some y := by rw [← hy]; simp [rd_T31, List.getD_eq_getElem?_getD, List.getElem?_eq_getElem (show j < m.length by omega)]
    rw [e1] at hu; rw [e2] at hv
    cases hu; cases hv; exact h
theorem same_all {l m : List S31} {a : Bool} (hl : l.length = m.length) (hst : ∀ (j : Nat) x y, j < l.length → l[j]? = some x → m[j]? = some y → sameTok x y a = true) : sameToks l m a = true := by
  unfold sameToks
  rw [Bool.and_eq_true]
  refine ⟨by simpa using hl, List.all_eq_true.2 ?_⟩
  intro b hb
  obtain ⟨j, hj⟩ := List.mem_iff_getElem?.1 hb
  rw [List.getElem?_zipWith] at hj
  cases hx : l[j]? with
  | none => rw [hx] at hj; cases hj
  | some x => cases hy : m[j]? with
    | none => rw [hx, hy] at hj; cases hj
    | some y =>
      rw [hx, hy] at hj
      have hj : sameTok x y a = b := by simpa using hj
      rw [← hj]
      have := hst j x y (List.getElem?_eq_some_iff.1 hx).1 hx hy
      simp [this]
theorem same_walk_true (A0 : Option Addr) (c0 : Nat) (l0 : List S31) (A1 : Option Addr) (c1 : Nat) (l1 : List S31) (w : World) (hr0 : Kd.C k31 w A0 l0.length l0) (hr1 : Kd.C k31 w A1 l1.length l1) (hlen : l0.length = l1.length) (hb : l0.length ≤ 140737488351232) :
    Calls Tryd.prog 23 #[.slice A0 l0.length c0, .slice A1 l1.length c1, .bool true] w fun e w' => e = .returned (.bool (sameToks l0 l1 true)) ∧ Below w.heap.size w w' := by
  rw [← hlen]
  have HL := Lib.hid hlen
  have HR0 := Lib.hid hr0
  have HR1 := Lib.hid hr1
  clear hlen hr0 hr1
  obtain ⟨n, hn⟩ : ∃ n, l0.length = n := ⟨_, rfl⟩
  rw [hn] at hb ⊢
  have HN := Lib.hid hn
  clear hn
  go_enter Tryd.func23, Tryd.ntmps23
  go_wp2
  go_loopw [7] (fun i wr => ∃ k : Nat, k ≤ n ∧ i = .int .i64 k ∧ Hid (∀ j x y, j < k → l0[j]? = some x → l1[j]? = some y → sameTok x y true = true) ∧ Below w.heap.size w wr) (fun i _ => n - (intOf i).toNat)
  case atStart => exact ⟨0, by omega, rfl, Lib.hid (by intro j _ _ hj; omega), Below.refl _ _⟩
  case round =>
    obtain ⟨k, hk, rfl, hst, hb1⟩ := hrel
    by_cases hlt : k < n
    · obtain ⟨ad0, e0, hx0, hx1, hx2, hx3⟩ := at_T31 (Kd.C_below HR0.out hb1) (k : Int) (by omega) (by rw [HN.out]; omega)
      obtain ⟨ad1, e1, hy0, hy1, hy2, hy3⟩ := at_T31 (Kd.C_below HR1.out hb1) (k : Int) (by omega) (by rw [← HL.out, HN.out]; omega)
      subst e0; subst e1
      simp only [Int.toNat_natCast] at hx0 hx1 hx2 hx3 hy0 hy1 hy2 hy3
      generalize hxx : rd_T31 l0 (k : Int) = x at hx0 hx1 hx2 hx3
      generalize hyy : rd_T31 l1 (k : Int) = y at hy0 hy1 hy2 hy3
      have HX := Lib.hid hxx
      have HY := Lib.hid hyy
      clear hxx hyy
      have hz : ∀ W : World, (zeroValue 31).run Tryd.prog W = .ok (.agg #[.int .i64 0, .string ⟨#[]⟩, .int .u64 0, .int .i64 0]) W := fun _ => by kernel_rfl
      have hrd : ∀ W, Below wr.heap.size wr W → W.cell? (ad0.add (k * 4)) = some (.int .i64 x.f0) ∧ W.cell? ⟨(ad0.add (k * 4)).block, (ad0.add (k * 4)).off + 1, none⟩ = some (.string x.f1) ∧ W.cell? ⟨(ad0.add (k * 4)).block, (ad0.add (k * 4)).off + 2, none⟩ = some (.int .u64 x.f2) ∧ W.cell? ⟨(ad0.add (k * 4)).block, (ad0.add (k * 4)).off + 3, none⟩ = some (.int .i64 x.f3) ∧ W.cell? (ad1.add (k * 4)) = some (.int .i64 y.f0) ∧ W.cell? ⟨(ad1.add (k * 4)).block, (ad1.add (k * 4)).off + 1, none⟩ = some (.string y.f1) ∧ W.cell? ⟨(ad1.add (k * 4)).block, (ad1.add (k * 4)).off + 2, none⟩ = some (.int .u64 y.f2) ∧ W.cell? ⟨(ad1.add (k * 4)).block, (ad1.add (k * 4)).off + 3, none⟩ = some (.int .i64 y.f3) := by
        intro W hW
        refine ⟨?_, ?_, ?_, ?_, ?_, ?_, ?_, ?_⟩
        · exact (hW.cell (block_lt_of_cell hx0)).trans hx0
        · exact (hW.cell (block_lt_of_cell hx1)).trans hx1
        · exact (hW.cell (block_lt_of_cell hx2)).trans hx2
        · exact (hW.cell (block_lt_of_cell hx3)).trans hx3
        · exact (hW.cell (block_lt_of_cell hy0)).trans hy0
        · exact (hW.cell (block_lt_of_cell hy1)).trans hy1
        · exact (hW.cell (block_lt_of_cell hy2)).trans hy2
        · exact (hW.cell (block_lt_of_cell hy3)).trans hy3
      have HRD := Lib.hid hrd
      have hxlt := block_lt_of_cell hx0
      have hylt := block_lt_of_cell hy0
      clear hrd hx0 hx1 hx2 hx3 hy0 hy1 hy2 hy3
      have hbr := (Below.refl wr.heap.size wr).drew
      go_wp2_with fail
      refine Rg.region_steps (S := Below wr.heap.size wr) [.any 0, .any 1, .any 2, .take 3, .any 4, .any 5, .any 6, .take 7, .two 8 9, .one 10, .one 11] (by kernel_rfl) (by kernel_rfl) hbr ?_
      refine Rg.s_any (N := some 21) (v := ?_) (a' := ?_) rfl rfl (fun _ _ _ h => h) (by rfl) ?_ ?_ ?_; rotate_left 2; (intro w'; go_simp; with_reducible rfl); (simp only [Act.put, List.setIfInBounds_toArray, List.set_cons_zero, List.set_cons_succ]; rfl)
      refine Rg.s_any (N := some 22) (v := ?_) (a' := ?_) rfl rfl (fun _ _ _ h => h) (by rfl) ?_ ?_ ?_; rotate_left 2; (intro w'; go_simp; with_reducible rfl); (simp only [Act.put, List.setIfInBounds_toArray, List.set_cons_zero, List.set_cons_succ]; rfl)
      refine Rg.s_any (N := some 23) (v := ?_) (a' := ?_) rfl rfl (fun _ _ _ h => h) (by rfl) ?_ ?_ ?_; rotate_left 2; (intro w'; go_simp; with_reducible rfl); (simp only [Act.put, List.setIfInBounds_toArray, List.set_cons_zero, List.set_cons_succ]; rfl)
      refine Rg.s_take (N := some 24) (v := ?_) (a' := ?_) rfl rfl (fun _ _ _ h => h) (by assumption) (by rfl) ?_ ?_ ?_; rotate_left 2; (rintro w' hS; obtain ⟨s0,s1,s2,s3,s4,s5,s6,s7⟩ := HRD.out _ hS; go_simp; with_reducible rfl); (simp only [Act.put, List.setIfInBounds_toArray, List.set_cons_zero, List.set_cons_succ]; rfl)
      refine Rg.s_any (N := some 25) (v := ?_) (a' := ?_) rfl rfl (fun _ _ _ h => h) (by rfl) ?_ ?_ ?_; rotate_left 2; (intro w'; go_simp; with_reducible rfl); (simp only [Act.put, List.setIfInBounds_toArray, List.set_cons_zero, List.set_cons_succ]; rfl)
      refine Rg.s_any (N := some 26) (v := ?_) (a' := ?_) rfl rfl (fun _ _ _ h => h) (by rfl) ?_ ?_ ?_; rotate_left 2; (intro w'; go_simp; with_reducible rfl); (simp only [Act.put, List.setIfInBounds_toArray, List.set_cons_zero, List.set_cons_succ]; rfl)
      refine Rg.s_any (N := some 27) (v := ?_) (a' := ?_) rfl rfl (fun _ _ _ h => h) (by rfl) ?_ ?_ ?_; rotate_left 2; (intro w'; go_simp; with_reducible rfl); (simp only [Act.put, List.setIfInBounds_toArray, List.set_cons_zero, List.set_cons_succ]; rfl)
      refine Rg.s_take (N := some 28) (v := ?_) (a' := ?_) rfl rfl (fun _ _ _ h => h) (by assumption) (by rfl) ?_ ?_ ?_; rotate_left 2; (rintro w' hS; obtain ⟨s0,s1,s2,s3,s4,s5,s6,s7⟩ := HRD.out _ hS; go_simp; with_reducible rfl); (simp only [Act.put, List.setIfInBounds_toArray, List.set_cons_zero, List.set_cons_succ]; rfl)
      clear HRD
      refine Rg.s_two ?_ ?_
      refine Rg.one_value (N := some 8) (a' := ?_) rfl rfl (by rfl) (by go_simp; exact ⟨rfl, rfl⟩) (by repeat (first | exact Below.refl _ _ | apply Below.drew | refine Below.alloc ?_ (by simp) _ | refine Below.setCell ?_ (by simp) _)) ?_ ?_; rotate_left; (simp only [Act.put, List.setIfInBounds_toArray, List.set_cons_zero, List.set_cons_succ]; rfl)
      refine Rg.one_value (N := some 9) (a' := ?_) rfl rfl (by rfl) (by go_simp; exact ⟨rfl, rfl⟩) (by repeat (first | exact Below.refl _ _ | apply Below.drew | refine Below.alloc ?_ (by simp) _ | refine Below.setCell ?_ (by simp) _)) ?_ ?_; rotate_left; (simp only [Act.put, List.setIfInBounds_toArray, List.set_cons_zero, List.set_cons_succ]; rfl)
      rotate_left
      refine Rg.one_value (N := some 9) (a' := ?_) rfl rfl (by rfl) (by go_simp; exact ⟨rfl, rfl⟩) (by repeat (first | exact Below.refl _ _ | apply Below.drew | refine Below.alloc ?_ (by simp) _ | refine Below.setCell ?_ (by simp) _)) ?_ ?_; rotate_left; (simp only [Act.put, List.setIfInBounds_toArray, List.set_cons_zero, List.set_cons_succ]; rfl)
      refine Rg.one_value (N := some 8) (a' := ?_) rfl rfl (by rfl) (by go_simp; exact ⟨rfl, rfl⟩) (by repeat (first | exact Below.refl _ _ | apply Below.drew | refine Below.alloc ?_ (by simp) _ | refine Below.setCell ?_ (by simp) _)) ?_ ?_; rotate_left; (simp only [Act.put, List.setIfInBounds_toArray, List.set_cons_zero, List.set_cons_succ]; rfl)
      all_goals
        clear hz
        refine Rg.s_skip rfl rfl (by rfl) (by go_simp; rfl) (by repeat (first | exact Below.refl _ _ | apply Below.drew | refine Below.alloc ?_ (by simp) _ | refine Below.setCell ?_ (by simp) _)) ?_
        refine Rg.s_skip rfl rfl (by rfl) (by go_simp; rfl) (by repeat (first | exact Below.refl _ _ | apply Below.drew | refine Below.alloc ?_ (by simp) _ | refine Below.setCell ?_ (by simp) _)) ?_
        refine Rg.s_done ?_
        go_wp2_with fail
      all_goals first
        | (go_ret; exact ⟨ret_bool (same_no HL.out HN.out hlt HX.out HY.out (by simp [sameTok, *])).symm, (by repeat (first | exact hb1 | apply Below.drew | refine Below.alloc ?_ (Nat.le_trans hb1.size (by simp)) _ | refine Below.setCell ?_ (Nat.le_trans hb1.size (by simp)) _))⟩)
        | (go_roundw; (case rel => exact ⟨k + 1, by omega, by go_num, Lib.hid (same_more HL.out HN.out hlt HX.out HY.out (by simp [sameTok, *]) hst.out), (by repeat (first | exact hb1 | apply Below.drew | refine Below.alloc ?_ (Nat.le_trans hb1.size (by simp)) _ | refine Below.setCell ?_ (Nat.le_trans hb1.size (by simp)) _))⟩); (case measure => simp [intOf]; omega))
    · have hfin := Lib.hid (same_all (a := true) HL.out (by intro j x y hj hx hy; exact hst.out j x y (by have := HN.out; omega) hx hy))
      go_wp2_with fail
      go_ret
      exact ⟨ret_bool hfin.out.symm, hb1⟩
theorem same_walk_false (A0 : Option Addr) (c0 : Nat) (l0 : List S31) (A1 : Option Addr) (c1 : Nat) (l1 : List S31) (w : World) (hr0 : Kd.C k31 w A0 l0.length l0) (hr1 : Kd.C k31 w A1 l1.length l1) (hlen : l0.length = l1.length) (hb : l0.length ≤ 140737488351232) :
    Calls Tryd.prog 23 #[.slice A0 l0.length c0, .slice A1 l1.length c1, .bool false] w fun e w' => e = .returned (.bool (sameToks l0 l1 false)) ∧ Below w.heap.size w w' := by
  rw [← hlen]
  have HL := Lib.hid hlen
  have HR0 := Lib.hid hr0
  have HR1 := Lib.hid hr1
  clear hlen hr0 hr1
  obtain ⟨n, hn⟩ : ∃ n, l0.length = n := ⟨_, rfl⟩
  rw [hn] at hb ⊢
  have HN := Lib.hid hn
  clear hn
  go_enter Tryd.func23, Tryd.ntmps23
  go_wp2
  go_loopw [7] (fun i wr => ∃ k : Nat, k ≤ n ∧ i = .int .i64 k ∧ Hid (∀ j x y, j < k → l0[j]? = some x → l1[j]? = some y → sameTok x y false = true) ∧ Below w.heap.size w wr) (fun i _ => n - (intOf i).toNat)
  case atStart => exact ⟨0, by omega, rfl, Lib.hid (by intro j _ _ hj; omega), Below.refl _ _⟩
  case round =>
    obtain ⟨k, hk, rfl, hst, hb1⟩ := hrel
    by_cases hlt : k < n
    · obtain ⟨ad0, e0, hx0, hx1, hx2, hx3⟩ := at_T31 (Kd.C_below HR0.out hb1) (k : Int) (by omega) (by rw [HN.out]; omega)
      obtain ⟨ad1, e1, hy0, hy1, hy2, hy3⟩ := at_T31 (Kd.C_below HR1.out hb1) (k : Int) (by omega) (by rw [← HL.out, HN.out]; omega)
      subst e0; subst e1
      simp only [Int.toNat_natCast] at hx0 hx1 hx2 hx3 hy0 hy1 hy2 hy3
      generalize hxx : rd_T31 l0 (k : Int) = x at hx0 hx1 hx2 hx3
      generalize hyy : rd_T31 l1 (k : Int) = y at hy0 hy1 hy2 hy3
      have HX := Lib.hid hxx
      have HY := Lib.hid hyy
      clear hxx hyy
      have hz : ∀ W : World, (zeroValue 31).run Tryd.prog W = .ok (.agg #[.int .i64 0, .string ⟨#[]⟩, .int .u64 0, .int .i64 0]) W := fun _ => by kernel_rfl
      have hrd : ∀ W, Below wr.heap.size wr W → W.cell? (ad0.add (k * 4)) = some (.int .i64 x.f0) ∧ W.cell? ⟨(ad0.add (k * 4)).block, (ad0.add (k * 4)).off + 1, none⟩ = some (.string x.f1) ∧ W.cell? ⟨(ad0.add (k * 4)).block, (ad0.add (k * 4)).off + 2, none⟩ = some (.int .u64 x.f2) ∧ W.cell? ⟨(ad0.add (k * 4)).block, (ad0.add (k * 4)).off + 3, none⟩ = some (.int .i64 x.f3) ∧ W.cell? (ad1.add (k * 4)) = some (.int .i64 y.f0) ∧ W.cell? ⟨(ad1.add (k * 4)).block, (ad1.add (k * 4)).off + 1, none⟩ = some (.string y.f1) ∧ W.cell? ⟨(ad1.add (k * 4)).block, (ad1.add (k * 4)).off + 2, none⟩ = some (.int .u64 y.f2) ∧ W.cell? ⟨(ad1.add (k * 4)).block, (ad1.add (k * 4)).off + 3, none⟩ = some (.int .i64 y.f3) := by
        intro W hW
        refine ⟨?_, ?_, ?_, ?_, ?_, ?_, ?_, ?_⟩
        · exact (hW.cell (block_lt_of_cell hx0)).trans hx0
        · exact (hW.cell (block_lt_of_cell hx1)).trans hx1
        · exact (hW.cell (block_lt_of_cell hx2)).trans hx2
        · exact (hW.cell (block_lt_of_cell hx3)).trans hx3
        · exact (hW.cell (block_lt_of_cell hy0)).trans hy0
        · exact (hW.cell (block_lt_of_cell hy1)).trans hy1
        · exact (hW.cell (block_lt_of_cell hy2)).trans hy2
        · exact (hW.cell (block_lt_of_cell hy3)).trans hy3
      have HRD := Lib.hid hrd
      have hxlt := block_lt_of_cell hx0
      have hylt := block_lt_of_cell hy0
      clear hrd hx0 hx1 hx2 hx3 hy0 hy1 hy2 hy3
      have hbr := (Below.refl wr.heap.size wr).drew
      go_wp2_with fail
      refine Rg.region_steps (S := Below wr.heap.size wr) [.any 0, .any 1, .any 2, .take 3, .any 4, .any 5, .any 6, .take 7, .two 8 9, .one 10, .one 11] (by kernel_rfl) (by kernel_rfl) hbr ?_
      refine Rg.s_any (N := some 21) (v := ?_) (a' := ?_) rfl rfl (fun _ _ _ h => h) (by rfl) ?_ ?_ ?_; rotate_left 2; (intro w'; go_simp; with_reducible rfl); (simp only [Act.put, List.setIfInBounds_toArray, List.set_cons_zero, List.set_cons_succ]; rfl)
      refine Rg.s_any (N := some 22) (v := ?_) (a' := ?_) rfl rfl (fun _ _ _ h => h) (by rfl) ?_ ?_ ?_; rotate_left 2; (intro w'; go_simp; with_reducible rfl); (simp only [Act.put, List.setIfInBounds_toArray, List.set_cons_zero, List.set_cons_succ]; rfl)
      refine Rg.s_any (N := some 23) (v := ?_) (a' := ?_) rfl rfl (fun _ _ _ h => h) (by rfl) ?_ ?_ ?_; rotate_left 2; (intro w'; go_simp; with_reducible rfl); (simp only [Act.put, List.setIfInBounds_toArray, List.set_cons_zero, List.set_cons_succ]; rfl)
      refine Rg.s_take (N := some 24) (v := ?_) (a' := ?_) rfl rfl (fun _ _ _ h => h) (by assumption) (by rfl) ?_ ?_ ?_; rotate_left 2; (rintro w' hS; obtain ⟨s0,s1,s2,s3,s4,s5,s6,s7⟩ := HRD.out _ hS; go_simp; with_reducible rfl); (simp only [Act.put, List.setIfInBounds_toArray, List.set_cons_zero, List.set_cons_succ]; rfl)
      refine Rg.s_any (N := some 25) (v := ?_) (a' := ?_) rfl rfl (fun _ _ _ h => h) (by rfl) ?_ ?_ ?_; rotate_left 2; (intro w'; go_simp; with_reducible rfl); (simp only [Act.put, List.setIfInBounds_toArray, List.set_cons_zero, List.set_cons_succ]; rfl)
      refine Rg.s_any (N := some 26) (v := ?_) (a' := ?_) rfl rfl (fun _ _ _ h => h) (by rfl) ?_ ?_ ?_; rotate_left 2; (intro w'; go_simp; with_reducible rfl); (simp only [Act.put, List.setIfInBounds_toArray, List.set_cons_zero, List.set_cons_succ]; rfl)
      refine Rg.s_any (N := some 27) (v := ?_) (a' := ?_) rfl rfl (fun _ _ _ h => h) (by rfl) ?_ ?_ ?_; rotate_left 2; (intro w'; go_simp; with_reducible rfl); (simp only [Act.put, List.setIfInBounds_toArray, List.set_cons_zero, List.set_cons_succ]; rfl)
      refine Rg.s_take (N := some 28) (v := ?_) (a' := ?_) rfl rfl (fun _ _ _ h => h) (by assumption) (by rfl) ?_ ?_ ?_; rotate_left 2; (rintro w' hS; obtain ⟨s0,s1,s2,s3,s4,s5,s6,s7⟩ := HRD.out _ hS; go_simp; with_reducible rfl); (simp only [Act.put, List.setIfInBounds_toArray, List.set_cons_zero, List.set_cons_succ]; rfl)
      clear HRD
      refine Rg.s_two ?_ ?_
      refine Rg.one_value (N := some 8) (a' := ?_) rfl rfl (by rfl) (by go_simp; exact ⟨rfl, rfl⟩) (by repeat (first | exact Below.refl _ _ | apply Below.drew | refine Below.alloc ?_ (by simp) _ | refine Below.setCell ?_ (by simp) _)) ?_ ?_; rotate_left; (simp only [Act.put, List.setIfInBounds_toArray, List.set_cons_zero, List.set_cons_succ]; rfl)
      refine Rg.one_value (N := some 9) (a' := ?_) rfl rfl (by rfl) (by go_simp; exact ⟨rfl, rfl⟩) (by repeat (first | exact Below.refl _ _ | apply Below.drew | refine Below.alloc ?_ (by simp) _ | refine Below.setCell ?_ (by simp) _)) ?_ ?_; rotate_left; (simp only [Act.put, List.setIfInBounds_toArray, List.set_cons_zero, List.set_cons_succ]; rfl)
      rotate_left
      refine Rg.one_value (N := some 9) (a' := ?_) rfl rfl (by rfl) (by go_simp; exact ⟨rfl, rfl⟩) (by repeat (first | exact Below.refl _ _ | apply Below.drew | refine Below.alloc ?_ (by simp) _ | refine Below.setCell ?_ (by simp) _)) ?_ ?_; rotate_left; (simp only [Act.put, List.setIfInBounds_toArray, List.set_cons_zero, List.set_cons_succ]; rfl)
      refine Rg.one_value (N := some 8) (a' := ?_) rfl rfl (by rfl) (by go_simp; exact ⟨rfl, rfl⟩) (by repeat (first | exact Below.refl _ _ | apply Below.drew | refine Below.alloc ?_ (by simp) _ | refine Below.setCell ?_ (by simp) _)) ?_ ?_; rotate_left; (simp only [Act.put, List.setIfInBounds_toArray, List.set_cons_zero, List.set_cons_succ]; rfl)
      all_goals
        clear hz
        refine Rg.s_skip rfl rfl (by rfl) (by go_simp; rfl) (by repeat (first | exact Below.refl _ _ | apply Below.drew | refine Below.alloc ?_ (by simp) _ | refine Below.setCell ?_ (by simp) _)) ?_
        refine Rg.s_skip rfl rfl (by rfl) (by go_simp; rfl) (by repeat (first | exact Below.refl _ _ | apply Below.drew | refine Below.alloc ?_ (by simp) _ | refine Below.setCell ?_ (by simp) _)) ?_
        refine Rg.s_done ?_
        go_wp2_with fail
      all_goals first
        | (go_ret; exact ⟨ret_bool (same_no HL.out HN.out hlt HX.out HY.out (by simp [sameTok, *])).symm, (by repeat (first | exact hb1 | apply Below.drew | refine Below.alloc ?_ (Nat.le_trans hb1.size (by simp)) _ | refine Below.setCell ?_ (Nat.le_trans hb1.size (by simp)) _))⟩)
        | (go_roundw; (case rel => exact ⟨k + 1, by omega, by go_num, Lib.hid (same_more HL.out HN.out hlt HX.out HY.out (by simp [sameTok, *]) hst.out), (by repeat (first | exact hb1 | apply Below.drew | refine Below.alloc ?_ (Nat.le_trans hb1.size (by simp)) _ | refine Below.setCell ?_ (Nat.le_trans hb1.size (by simp)) _))⟩); (case measure => simp [intOf]; omega))
    · have hfin := Lib.hid (same_all (a := false) HL.out (by intro j x y hj hx hy; exact hst.out j x y (by have := HN.out; omega) hx hy))
      go_wp2_with fail
      go_ret
      exact ⟨ret_bool hfin.out.symm, hb1⟩
theorem same_lens (A0 : Option Addr) (c0 n0 : Nat) (A1 : Option Addr) (c1 n1 : Nat) (a2 : Bool) (w : World) (hne : n0 ≠ n1) :
    Calls Tryd.prog 23 #[.slice A0 n0 c0, .slice A1 n1 c1, .bool a2] w fun e w' => e = .returned (.bool false) ∧ Below w.heap.size w w' := by
  have hd : ((n0 : Int) != (n1 : Int)) = true := by rw [bne_iff_ne]; omega
  have hd2 : (n0 != n1) = true := by rw [bne_iff_ne]; omega
  clear hne
  go_enter Tryd.func23, Tryd.ntmps23
  go_wp2
  go_ret
  exact ⟨rfl, Below.refl _ _⟩
theorem privityref26_Same.calls (A0 : Option Addr) (c0 : Nat) (l0 : List S31) (A1 : Option Addr) (c1 : Nat) (l1 : List S31) (a2 : Bool) (r : Bool) (w : World) (hr0 : Kd.C k31 w A0 l0.length l0) (_ : l0.length ≤ c0) (hr1 : Kd.C k31 w A1 l1.length l1) (_ : l1.length ≤ c1) (h : privityref26_Same.f l0 l1 a2 = some r) :
    Calls Tryd.prog 23 #[.slice A0 l0.length c0, .slice A1 l1.length c1, .bool a2] w fun e w' => e = .returned (.bool r) ∧ Below w.heap.size w w' := by
  unfold privityref26_Same.f at h
  split at h
  · rename_i hb
    have := Option.some.inj h
    subst this
    by_cases hl : l0.length = l1.length
    · cases a2
      · exact same_walk_false A0 c0 l0 A1 c1 l1 w hr0 hr1 hl hb.1
      · exact same_walk_true A0 c0 l0 A1 c1 l1 w hr0 hr1 hl hb.1
    · have : sameToks l0 l1 a2 = false := by unfold sameToks; simp [hl]
      rw [this]
      exact same_lens A0 c0 _ A1 c1 _ a2 w hl
  · cases h
end Go.Proofs.YtanollmhbjlimaaDoor.Lx
