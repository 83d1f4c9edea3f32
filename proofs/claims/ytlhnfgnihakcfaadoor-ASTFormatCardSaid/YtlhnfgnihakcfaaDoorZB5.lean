import Derived.Test.YtlhnfgnihakcfaaDoorZA8
import Derived.Test.YtlhnfgnihakcfaaDoorZPe
import Derived.Test.YtlhnfgnihakcfaaDoorZPs
import Derived.IntWalk
import Derived.Test.YtlhnfgnihakcfaaDoorZB2
import Derived.Test.YtlhnfgnihakcfaaDoorZA6
set_option linter.unusedSimpArgs false
set_option linter.unusedVariables false
/- Size, of both: the number of nodes. -/
namespace Go.Proofs.YtlhnfgnihakcfaaDoor.Ax
open Go.RowKit Hp Kn
open Go.Proofs.YtlhnfgnihakcfaaDoorW.PrintWords Go.Proofs.YtlhnfgnihakcfaaDoorW.PrintLast Go.Proofs.YtlhnfgnihakcfaaDoorW.PrintMore
theorem nzw (n : Nat) (h : n ≤ 100000) : wrap64 (n : Int) = (n : Int) := IntWalk.wrap64_in _ ⟨by omega, by omega⟩
theorem nzL (gs : List Nat) (L : Nat → Int → Int → Option Int) (K : Nat)
    (hstep : ∀ (k acc i : Nat) (h : i < gs.length), K ≤ k → acc + gs[i] ≤ 1000 → L (k + 1) (acc : Int) (i : Int) = L k ((acc + gs[i] : Nat) : Int) ((i + 1 : Nat) : Int))
    (hend : ∀ (k acc : Nat), L (k + 1) (acc : Int) (gs.length : Int) = some (acc : Int)) :
    ∀ (m i acc k : Nat), gs.length - i = m → i ≤ gs.length → acc + (gs.drop i).sum ≤ 1000 → K + m < k → L k (acc : Int) (i : Int) = some ((acc + (gs.drop i).sum : Nat) : Int) := by
  intro m
  induction m with
  | zero =>
    intro i acc k hm hi hs hk
    obtain ⟨k, rfl⟩ : ∃ j, k = j + 1 := ⟨k - 1, by omega⟩
    obtain rfl : i = gs.length := by omega
    rw [hend]
    simp
  | succ m ih =>
    intro i acc k hm hi hs hk
    obtain ⟨k, rfl⟩ : ∃ j, k = j + 1 := ⟨k - 1, by omega⟩
    have hlt : i < gs.length := by omega
    have e : (gs.drop i).sum = gs[i] + (gs.drop (i + 1)).sum := by rw [List.drop_eq_getElem_cons hlt, List.sum_cons]
    rw [hstep k acc i hlt (by omega) (by omega), ih (i + 1) (acc + gs[i]) k (by omega) (by omega) (by omega) (by omega), e]
    congr 2; omega
theorem nzrdE {l : List S40} {i : Nat} (h : i < l.length) : rd_T40 l (i : Int) = l[i] := by simp [rd_T40, List.getD_eq_getElem?_getD, h]
theorem nzrdS {l : List S64} {i : Nat} (h : i < l.length) : rd_T64 l (i : Int) = l[i] := by simp [rd_T64, List.getD_eq_getElem?_getD, h]
theorem nzwi (i : Nat) (h : i ≤ 1000) : wrap64 ((i : Int) + 1) = ((i + 1 : Nat) : Int) := by
  rw [show (i : Int) + 1 = ((i + 1 : Nat) : Int) by omega]; exact nzw _ (by omega)
theorem nzwa (a b : Nat) (h : a + b ≤ 1000) : wrap64 ((a : Int) + (b : Int)) = ((a + b : Nat) : Int) := by
  rw [show (a : Int) + (b : Int) = ((a + b : Nat) : Int) by omega]; exact nzw _ (by omega)
def nzgE (n : Nat) (x : S40) : Nat := (x.f4.map (cE n)).sum
def nzgS (n : Nat) (x : S64) : Nat := (x.f2.map (cE n)).sum + (x.f3.map (cS n)).sum + (x.f4.map (cS n)).sum
theorem nzE (n : Nat) (l : List S40) : (l.map (cE (n + 1))).sum = l.length + (l.map (nzgE n)).sum := by
  induction l with
  | nil => rfl
  | cons a l ih => simp only [List.map_cons, List.sum_cons, ih, List.length_cons]; simp only [cE, nzgE]; omega
theorem nzS (n : Nat) (l : List S64) : (l.map (cS (n + 1))).sum = l.length + (l.map (nzgS n)).sum := by
  induction l with
  | nil => rfl
  | cons a l ih => simp only [List.map_cons, List.sum_cons, ih, List.length_cons]; simp only [cS, nzgS]; omega
theorem nzkE {n : Nat} {x : S40} (h : exprB (n + 1) x = true) : x.f4.all (exprB n) = true := by
  simp only [exprB, Bool.and_eq_true] at h; exact h.2
theorem nzkS {n : Nat} {x : S64} (h : stmtB (n + 1) x = true) : x.f2.all (exprB n) = true ∧ x.f3.all (stmtB n) = true ∧ x.f4.all (stmtB n) = true := by
  simp only [stmtB, Bool.and_eq_true] at h; exact ⟨h.2.1.1, h.2.1.2, h.2.2⟩
theorem nzle (f : Nat → Nat) (l : List Nat) (i : Nat) (h : i < l.length) : l[i] ≤ l.sum := by
  have e : l.sum = (l.take i).sum + (l[i] + (l.drop (i + 1)).sum) := by
    rw [← List.sum_cons, ← List.drop_eq_getElem_cons h, ← List.sum_append, List.take_append_drop]
  omega
theorem nznil {α : Type} {l : List α} {p : α → Bool} (hp : ∀ x, p x = false) (h : l.all p = true) : l = [] := by
  cases l with
  | nil => rfl
  | cons a l => rw [List.all_cons, hp] at h; cases h
theorem rE_size : ∀ (n : Nat) (l : List S40), l.all (exprB n) = true → (l.map (cE n)).sum ≤ 1000 → ∀ k, 1002 * (n + 1) ≤ k → Ps.privityref27_sizeExprs.f k l = some (((l.map (cE n)).sum : Nat) : Int)
  | 0, l, hl, hs, k, hk => by
    obtain rfl := nznil (fun _ => rfl) hl
    obtain ⟨k, rfl⟩ : ∃ j, k = j + 2 := ⟨k - 2, by omega⟩
    unfold Ps.privityref27_sizeExprs.f Ps.privityref27_sizeExprs.l0
    rfl
  | n + 1, l, hl, hs, k, hk => by
    have e := nzE n l
    have hl1 : l.length ≤ 1000 := by omega
    obtain ⟨k, rfl⟩ : ∃ j, k = j + 1 := ⟨k - 1, by omega⟩
    unfold Ps.privityref27_sizeExprs.f
    have hlen : (l.map (nzgE n)).length = l.length := List.length_map ..
    have := nzL (l.map (nzgE n)) (fun k a i => Ps.privityref27_sizeExprs.l0 k l a i) (1002 * (n + 1)) ?_ ?_ l.length 0 l.length k (by simp) (by omega) (by simp; omega) (by omega)
    · rw [e]; simpa using this
    · intro k acc i h hk2 hb
      have hi : i < l.length := by omega
      have hx := List.all_eq_true.1 hl l[i] (List.getElem_mem hi)
      have hg : (l.map (nzgE n))[i] = nzgE n l[i] := by simp
      have hle := nzle id (l.map (nzgE n)) i h
      rw [hg] at hb hle ⊢
      have ih := rE_size n l[i].f4 (nzkE hx) (show nzgE n l[i] ≤ 1000 by omega) k hk2
      show Ps.privityref27_sizeExprs.l0 (k + 1) l (acc : Int) (i : Int) = _
      conv => lhs; unfold Ps.privityref27_sizeExprs.l0
      rw [if_pos (by omega), if_pos (by omega), nzrdE hi, ih, Option.bind_some, nzwi i (by omega), nzwa acc (l[i].f4.map (cE n)).sum (show acc + nzgE n l[i] ≤ 1000 from hb)]
      rfl
    · intro k acc
      show Ps.privityref27_sizeExprs.l0 (k + 1) l (acc : Int) _ = _
      unfold Ps.privityref27_sizeExprs.l0
      rw [if_neg (by rw [hlen]; omega)]
theorem aE_size : ∀ (n : Nat) (l : List S40), l.all (exprB n) = true → (l.map (cE n)).sum ≤ 1000 → ∀ k, 1002 * (n + 1) ≤ k → Pe.ast_exprs.f k l = some (((l.map (cE n)).sum : Nat) : Int)
  | 0, l, hl, hs, k, hk => by
    obtain rfl := nznil (fun _ => rfl) hl
    obtain ⟨k, rfl⟩ : ∃ j, k = j + 2 := ⟨k - 2, by omega⟩
    unfold Pe.ast_exprs.f Pe.ast_exprs.l0
    rfl
  | n + 1, l, hl, hs, k, hk => by
    have e := nzE n l
    have hl1 : l.length ≤ 1000 := by omega
    obtain ⟨k, rfl⟩ : ∃ j, k = j + 1 := ⟨k - 1, by omega⟩
    unfold Pe.ast_exprs.f
    have hlen : (l.map (nzgE n)).length = l.length := List.length_map ..
    have := nzL (l.map (nzgE n)) (fun k a i => Pe.ast_exprs.l0 k a l (l.length : Int) i) (1002 * (n + 1)) ?_ ?_ l.length 0 l.length k (by simp) (by omega) (by simp; omega) (by omega)
    · rw [e]; simpa using this
    · intro k acc i h hk2 hb
      have hi : i < l.length := by omega
      have hx := List.all_eq_true.1 hl l[i] (List.getElem_mem hi)
      have hg : (l.map (nzgE n))[i] = nzgE n l[i] := by simp
      have hle := nzle id (l.map (nzgE n)) i h
      rw [hg] at hb hle ⊢
      have ih := aE_size n l[i].f4 (nzkE hx) (show nzgE n l[i] ≤ 1000 by omega) k hk2
      show Pe.ast_exprs.l0 (k + 1) (acc : Int) l (l.length : Int) (i : Int) = _
      conv => lhs; unfold Pe.ast_exprs.l0
      rw [if_pos (by omega), if_pos (by omega), if_pos (by omega), nzrdE hi, ih, Option.bind_some, nzwi i (by omega), nzwa acc (l[i].f4.map (cE n)).sum (show acc + nzgE n l[i] ≤ 1000 from hb)]
      rfl
    · intro k acc
      show Pe.ast_exprs.l0 (k + 1) (acc : Int) l (l.length : Int) _ = _
      unfold Pe.ast_exprs.l0
      rw [if_neg (by rw [hlen]; omega)]
theorem rS_size : ∀ (n : Nat) (l : List S64), l.all (stmtB n) = true → (l.map (cS n)).sum ≤ 1000 → ∀ k, 1002 * (n + 1) ≤ k → Ps.privityref27_sizeStmts.f k l = some (((l.map (cS n)).sum : Nat) : Int)
  | 0, l, hl, hs, k, hk => by
    obtain rfl := nznil (fun _ => rfl) hl
    obtain ⟨k, rfl⟩ : ∃ j, k = j + 2 := ⟨k - 2, by omega⟩
    unfold Ps.privityref27_sizeStmts.f Ps.privityref27_sizeStmts.l0
    rfl
  | n + 1, l, hl, hs, k, hk => by
    have e := nzS n l
    have hl1 : l.length ≤ 1000 := by omega
    obtain ⟨k, rfl⟩ : ∃ j, k = j + 1 := ⟨k - 1, by omega⟩
    unfold Ps.privityref27_sizeStmts.f
    have hlen : (l.map (nzgS n)).length = l.length := List.length_map ..
    have := nzL (l.map (nzgS n)) (fun k a i => Ps.privityref27_sizeStmts.l0 k l a i) (1002 * (n + 1)) ?_ ?_ l.length 0 l.length k (by simp) (by omega) (by simp; omega) (by omega)
    · rw [e]; simpa using this
    · intro k acc i h hk2 hb
      have hi : i < l.length := by omega
      have hx := List.all_eq_true.1 hl l[i] (List.getElem_mem hi)
      have hg : (l.map (nzgS n))[i] = nzgS n l[i] := by simp
      have hle := nzle id (l.map (nzgS n)) i h
      rw [hg] at hb hle ⊢
      unfold nzgS at hb hle ⊢
      have i2 := rE_size n l[i].f2 (nzkS hx).1 (by omega) k hk2
      have i3 := rS_size n l[i].f3 (nzkS hx).2.1 (by omega) k hk2
      have i4 := rS_size n l[i].f4 (nzkS hx).2.2 (by omega) k hk2
      show Ps.privityref27_sizeStmts.l0 (k + 1) l (acc : Int) (i : Int) = _
      conv => lhs; unfold Ps.privityref27_sizeStmts.l0
      rw [if_pos (by omega), if_pos (by omega), nzrdS hi, i2, Option.bind_some, i3, Option.bind_some, i4, Option.bind_some, nzwi i (by omega), nzwa acc _ (by omega), nzwa _ _ (by omega), nzwa _ _ (by omega)]
      rw [Nat.add_assoc, Nat.add_assoc, Nat.add_assoc]
    · intro k acc
      show Ps.privityref27_sizeStmts.l0 (k + 1) l (acc : Int) _ = _
      unfold Ps.privityref27_sizeStmts.l0
      rw [if_neg (by rw [hlen]; omega)]
theorem aS_size : ∀ (n : Nat) (l : List S64), l.all (stmtB n) = true → (l.map (cS n)).sum ≤ 1000 → ∀ k, 1002 * (n + 1) ≤ k → Pe.ast_stmts.f k l = some (((l.map (cS n)).sum : Nat) : Int)
  | 0, l, hl, hs, k, hk => by
    obtain rfl := nznil (fun _ => rfl) hl
    obtain ⟨k, rfl⟩ : ∃ j, k = j + 2 := ⟨k - 2, by omega⟩
    unfold Pe.ast_stmts.f Pe.ast_stmts.l0
    rfl
  | n + 1, l, hl, hs, k, hk => by
    have e := nzS n l
    have hl1 : l.length ≤ 1000 := by omega
    obtain ⟨k, rfl⟩ : ∃ j, k = j + 1 := ⟨k - 1, by omega⟩
    unfold Pe.ast_stmts.f
    have hlen : (l.map (nzgS n)).length = l.length := List.length_map ..
    have := nzL (l.map (nzgS n)) (fun k a i => Pe.ast_stmts.l0 k a l (l.length : Int) i) (1002 * (n + 1)) ?_ ?_ l.length 0 l.length k (by simp) (by omega) (by simp; omega) (by omega)
    · rw [e]; simpa using this
    · intro k acc i h hk2 hb
      have hi : i < l.length := by omega
      have hx := List.all_eq_true.1 hl l[i] (List.getElem_mem hi)
      have hg : (l.map (nzgS n))[i] = nzgS n l[i] := by simp
      have hle := nzle id (l.map (nzgS n)) i h
      rw [hg] at hb hle ⊢
      unfold nzgS at hb hle ⊢
      have i2 := aE_size n l[i].f2 (nzkS hx).1 (by omega) k hk2
      have i3 := aS_size n l[i].f3 (nzkS hx).2.1 (by omega) k hk2
      have i4 := aS_size n l[i].f4 (nzkS hx).2.2 (by omega) k hk2
      show Pe.ast_stmts.l0 (k + 1) (acc : Int) l (l.length : Int) (i : Int) = _
      conv => lhs; unfold Pe.ast_stmts.l0
      rw [if_pos (by omega), if_pos (by omega), if_pos (by omega), nzrdS hi, i2, Option.bind_some, i3, Option.bind_some, i4, Option.bind_some, nzwi i (by omega), nzwa _ _ (by omega), nzwa _ _ (by omega), nzwa acc _ (by omega)]
    · intro k acc
      show Pe.ast_stmts.l0 (k + 1) (acc : Int) l (l.length : Int) _ = _
      unfold Pe.ast_stmts.l0
      rw [if_neg (by rw [hlen]; omega)]
/-- the size -/
def nodes (l0 : List S55) (l1 : List S58) (l2 : List S64) : Nat := l0.length + l1.length + (l2.map (cS 24)).sum
theorem asize (l0 : List S55) (l1 : List S58) (l2 : List S64) (h0 : l0.length ≤ 40) (h1 : l1.length ≤ 40) (h2 : ∀ n, (l2.map (cS n)).sum ≤ 200) (hv : l2.all (stmtB 24) = true) : Pe.ast_Size.f 26000 l0 l1 l2 = some ((nodes l0 l1 l2 : Nat) : Int) := by
  have := h2 24
  unfold Pe.ast_Size.f
  rw [aS_size 24 l2 hv (by omega) 26000 (by omega), Option.bind_some, nzwa _ _ (by omega), nzwa _ _ (by omega)]
  rfl
theorem rsize (l0 : List S55) (l1 : List S58) (l2 : List S64) (h0 : l0.length ≤ 40) (h1 : l1.length ≤ 40) (h2 : ∀ n, (l2.map (cS n)).sum ≤ 200) (hv : l2.all (stmtB 24) = true) : Ps.privityref27_Size.f 26000 l0 l1 l2 = some ((nodes l0 l1 l2 : Nat) : Int) := by
  have := h2 24
  unfold Ps.privityref27_Size.f
  rw [rS_size 24 l2 hv (by omega) 26000 (by omega), Option.bind_some, nzwa _ _ (by omega), nzwa _ _ (by omega)]
  rfl
end Go.Proofs.YtlhnfgnihakcfaaDoor.Ax
set_option linter.unusedSimpArgs false
set_option linter.unusedVariables false
/- privitylaw27.ASTFormat answers true. -/
namespace Go.Proofs.YtlhnfgnihakcfaaDoor.Ax
open Go.RowKit Hp Kn Lx
open Go.Proofs.YtlhnfgnihakcfaaDoorW.PrintWords Go.Proofs.YtlhnfgnihakcfaaDoorW.PrintLast Go.Proofs.YtlhnfgnihakcfaaDoorW.PrintMore
set_option maxRecDepth 100000 in
set_option maxHeartbeats 2000000 in
theorem astformat_calls {A0 : Option Addr} {c0 : Nat} {l0 : List S55} {A1 : Option Addr} {c1 : Nat} {l1 : List S58} {A2 : Option Addr} {c2 : Nat} {l2 : List S64} {va : Value} (w : World) (hG : Gx w) (ha : ProgAt w va A0 c0 l0 A1 c1 l1 A2 c2 l2) :
    Calls Tryd.prog 5 #[va] w fun e w' => e = .returned (.bool true) ∧ Below w.heap.size w w' := by
  obtain rfl := ha.v
  have HA := Lib.hid ha
  have HG := Lib.hid hG
  clear ha hG
  have H1 := Lib.hid ((Below.refl w.heap.size w).alloc (Nat.le_refl _) (.cells #[.slice A0 l0.length c0, .slice A1 l1.length c1, .slice A2 l2.length c2] 26))
  have HS := Lib.hid (PC.of (Blk.alloc_new w [.slice A0 l0.length c0, .slice A1 l1.length c1, .slice A2 l2.length c2] 26))
  go_enter Tryd.func5, Tryd.ntmps5
  go_wp2_with fail
  refine (few_calls A0 c0 l0 A1 c1 l1 A2 c2 l2 _ (Kd.C_below HA.out.h2 H1.out) HA.out.g2 HA.out.n2 HA.out.o2).mono ?_
  rintro e w2 ⟨b, rfl, hf, hc⟩
  have H2 := Lib.hid (below_next H1.out (Nat.le_refl _) (hc.mono (by simp)))
  have HS2 := Lib.hid (HS.out.below hc)
  have HF := Lib.hid hf
  clear hc hf
  obtain ⟨x0, x1, x2⟩ := HS2.out
  cases b with
  | false =>
    go_wp2_with fail
    refine (awake_calls _ (HG.out.below H2.out)).mono ?_
    rintro e v1 ⟨rfl, hc⟩
    have hz := Lib.hid (below_next H2.out (by simp) hc)
    clear hc
    go_wp2_with fail
    go_ret
    exact ⟨rfl, hz.out⟩
  | true =>
  clear x0 x1 x2
  have HZ := Lib.hid (show l0.all inB = true → l1.all arB = true → l2.all (stmtB 24) = true → (fmtB l0 l1 l2).length ≤ 140737488355328 from fun b0 b1 b2 => by
    have h := HF.out rfl
    have := fmtB_short h.1 h.2.1 h.2.2 b0 b1 b2
    omega)
  have HFF := Lib.hid (HF.out rfl)
  obtain ⟨x0, x1, x2⟩ := HS2.out
  go_wp2_with fail
  refine (rvalid_calls A0 c0 l0 A1 c1 l1 A2 c2 l2 _ (HG.out.below H2.out) (Kd.C_below HA.out.h0 H2.out) (Kd.C_below HA.out.h1 H2.out) (Kd.C_below HA.out.h2 H2.out) HA.out.g2 HA.out.n0 HA.out.n1 HA.out.n2 (fun x hx => (HA.out.o0 x hx).1) (fun x hx => (HA.out.o1 x hx).1) HA.out.o2 HZ.out).mono ?_
  rintro e w3 ⟨rfl, hc⟩
  have H3 := Lib.hid (below_next H2.out (Nat.le_refl _) hc)
  have HS3 := Lib.hid (HS2.out.below hc)
  clear hc x0 x1 x2
  obtain ⟨x0, x1, x2⟩ := HS3.out
  cases hv : validB l0 l1 l2 with
  | false =>
    go_wp2_with fail
    refine (awake_calls _ (HG.out.below H3.out)).mono ?_
    rintro e v1 ⟨rfl, hc⟩
    have hz := Lib.hid (below_next H3.out (by simp) hc)
    clear hc
    go_wp2_with fail
    go_ret
    exact ⟨rfl, hz.out⟩
  | true =>
  have HV := Lib.hid (valid_parts hv)
  clear hv
  go_wp2_with fail
  clear x0 x1 x2
  have hS : (fun W => PC w.heap.size A0 c0 l0 A1 c1 l1 A2 c2 l2 W) w3.drew := HS3.out
  refine Rg.region_steps (S := (fun W => PC w.heap.size A0 c0 l0 A1 c1 l1 A2 c2 l2 W)) [.one 0, .any 1, .take 2, .take 4, .one 3, .one 5, .any 6, .any 7, .any 8, .take 9, .take 11, .one 10, .one 12, .any 13, .any 14, .any 15] (by kernel_rfl) (by kernel_rfl) hS ?_
  have HSd := Lib.hid hS
  refine Rg.s_call (N := some 12) rfl rfl Tryd.func11 (by kernel_rfl) rfl #[] (by rfl) rfl (by (try simp only [List.map_toArray, List.map_cons, List.map_nil]); first | done | rfl) ?_
  refine (awake_calls _ ((HG.out.below H3.out).below (Below.refl w3.heap.size w3).drew)).mono ?_
  rintro e v1 ⟨rfl, hc⟩
  have H4 := Lib.hid (below_next H3.out (Nat.le_refl _) (below_next (Below.refl w3.heap.size w3).drew (Nat.le_refl _) hc))
  have HS4 := Lib.hid (show (fun W => PC w.heap.size A0 c0 l0 A1 c1 l1 A2 c2 l2 W) v1 from HSd.out.below hc)
  clear hc
  refine ⟨HS4.out, ?_⟩
  refine Rg.s_norm (a' := ?_) ?_ ?_; rotate_left; (simp only [Act.put, List.setIfInBounds_toArray, List.set_cons_zero, List.set_cons_succ]; rfl)
  refine Rg.p 13 ?_ ?_ rfl rfl (fun _ _ _ h => h) (by rfl) ?_ ?_ ?_; rotate_left 2; (intro w'; go_simp; with_reducible rfl); (simp only [Rg.pq, Rg.pz, Rg.ps]; rfl)
  refine Rg.t 14 ?_ ?_ rfl rfl (fun _ _ _ h => h) (by assumption) (by rfl) ?_ ?_ ?_; rotate_left 2; (rintro w' ⟨x0, x1, x2⟩; go_simp; with_reducible rfl); (simp only [Rg.pq, Rg.pz, Rg.ps]; rfl)
  refine Rg.t 16 ?_ ?_ rfl rfl (fun _ _ _ h => h) (by assumption) (by rfl) ?_ ?_ ?_; rotate_left 2; (rintro w' ⟨x0, x1, x2⟩; go_simp; with_reducible rfl); (simp only [Rg.pq, Rg.pz, Rg.ps]; rfl)
  refine Rg.s_call (N := some 15) rfl rfl Tryd.func16 (by kernel_rfl) rfl #[.agg #[.slice A0 l0.length c0, .slice A1 l1.length c1, .slice A2 l2.length c2]] (by rfl) rfl (by (try simp only [List.map_toArray, List.map_cons, List.map_nil]); first | done | rfl) ?_
  refine (format_calls A0 c0 l0 A1 c1 l1 A2 c2 l2 v1 (HG.out.below H4.out) (Kd.C_below HA.out.h0 H4.out) (Kd.C_below HA.out.h1 H4.out) (Kd.C_below HA.out.h2 H4.out) HA.out.g2 HA.out.n0 HA.out.n1 HA.out.n2 HV.out.1 HV.out.2.1 HA.out.o2 HV.out.2.2.2.2.1 (HZ.out HV.out.2.2.1 HV.out.2.2.2.1 HV.out.2.2.2.2.1)).mono ?_
  rintro e v2 ⟨rfl, hc⟩
  obtain ⟨r, hr⟩ : ∃ r : ByteArray, ⟨(fmtB l0 l1 l2).toArray⟩ = r := ⟨_, rfl⟩
  rw [hr]
  have H5 := Lib.hid (below_next H4.out (Nat.le_refl _) hc)
  have HS5 := Lib.hid (show (fun W => PC w.heap.size A0 c0 l0 A1 c1 l1 A2 c2 l2 W) v2 from HS4.out.below hc)
  clear hc
  refine ⟨HS5.out, ?_⟩
  refine Rg.s_norm (a' := ?_) ?_ ?_; rotate_left; (simp only [Act.put, List.setIfInBounds_toArray, List.set_cons_zero, List.set_cons_succ]; rfl)
  refine Rg.s_call (N := some 17) rfl rfl Tryd.func17 (by kernel_rfl) rfl #[.agg #[.slice A0 l0.length c0, .slice A1 l1.length c1, .slice A2 l2.length c2]] (by rfl) rfl (by (try simp only [List.map_toArray, List.map_cons, List.map_nil]); first | done | rfl) ?_
  refine (rformat_calls A0 c0 l0 A1 c1 l1 A2 c2 l2 v2 (HG.out.below H5.out) (Kd.C_below HA.out.h0 H5.out) (Kd.C_below HA.out.h1 H5.out) (Kd.C_below HA.out.h2 H5.out) HA.out.g2 HA.out.n0 HA.out.n1 HA.out.n2 HV.out.1 HV.out.2.1 (fun x hx => (HA.out.o0 x hx).1) (fun x hx => (HA.out.o1 x hx).1) HA.out.o2 HV.out.2.2.2.2.1 (HZ.out HV.out.2.2.1 HV.out.2.2.2.1 HV.out.2.2.2.2.1)).mono ?_
  rintro e v3 ⟨rfl, hc⟩
  rw [hr]
  have H6 := Lib.hid (below_next H5.out (Nat.le_refl _) hc)
  have HS6 := Lib.hid (show (fun W => PC w.heap.size A0 c0 l0 A1 c1 l1 A2 c2 l2 W) v3 from HS5.out.below hc)
  clear hc
  refine ⟨HS6.out, ?_⟩
  refine Rg.s_norm (a' := ?_) ?_ ?_; rotate_left; (simp only [Act.put, List.setIfInBounds_toArray, List.set_cons_zero, List.set_cons_succ]; rfl)
  refine Rg.p 18 ?_ ?_ rfl rfl (fun _ _ _ h => h) (by rfl) ?_ ?_ ?_; rotate_left 2; (intro w'; go_simp; with_reducible rfl); (simp only [Rg.pq, Rg.pz, Rg.ps]; rfl)
  refine Rg.p 19 ?_ ?_ rfl rfl (fun _ _ _ h => h) (by rfl) ?_ ?_ ?_; rotate_left 2; (intro w'; go_simp; with_reducible rfl); (simp only [Rg.pq, Rg.pz, Rg.ps]; rfl)
  refine Rg.p 20 ?_ ?_ rfl rfl (fun _ _ _ h => h) (by rfl) ?_ ?_ ?_; rotate_left 2; (intro w'; go_simp; with_reducible rfl); (simp only [Rg.pq, Rg.pz, Rg.ps]; rfl)
  refine Rg.t 21 ?_ ?_ rfl rfl (fun _ _ _ h => h) (by assumption) (by rfl) ?_ ?_ ?_; rotate_left 2; (rintro w' ⟨x0, x1, x2⟩; go_simp; with_reducible rfl); (simp only [Rg.pq, Rg.pz, Rg.ps]; rfl)
  refine Rg.t 23 ?_ ?_ rfl rfl (fun _ _ _ h => h) (by assumption) (by rfl) ?_ ?_ ?_; rotate_left 2; (rintro w' ⟨x0, x1, x2⟩; go_simp; with_reducible rfl); (simp only [Rg.pq, Rg.pz, Rg.ps]; rfl)
  refine Rg.s_call (N := some 22) rfl rfl Tryd.func18 (by kernel_rfl) rfl #[.agg #[.slice A0 l0.length c0, .slice A1 l1.length c1, .slice A2 l2.length c2]] (by rfl) rfl (by (try simp only [List.map_toArray, List.map_cons, List.map_nil]); first | done | rfl) ?_
  refine (Pe.ast_Size.calls 26000 A0 c0 l0 A1 c1 l1 A2 c2 l2 _ v3 (Kd.C_below HA.out.h0 H6.out) HA.out.g0 (Kd.C_below HA.out.h1 H6.out) HA.out.g1 (Kd.C_below HA.out.h2 H6.out) HA.out.g2 (asize l0 l1 l2 HFF.out.1 HFF.out.2.1 HFF.out.2.2 HV.out.2.2.2.2.1)).mono ?_
  rintro e v4 ⟨rfl, hc⟩
  obtain ⟨s, hs⟩ : ∃ s : Int, ((nodes l0 l1 l2 : Nat) : Int) = s := ⟨_, rfl⟩
  rw [hs]
  have H7 := Lib.hid (below_next H6.out (Nat.le_refl _) hc)
  have HS7 := Lib.hid (show (fun W => PC w.heap.size A0 c0 l0 A1 c1 l1 A2 c2 l2 W) v4 from HS6.out.below hc)
  clear hc
  refine ⟨HS7.out, ?_⟩
  refine Rg.s_norm (a' := ?_) ?_ ?_; rotate_left; (simp only [Act.put, List.setIfInBounds_toArray, List.set_cons_zero, List.set_cons_succ]; rfl)
  refine Rg.s_call (N := some 24) rfl rfl Tryd.func19 (by kernel_rfl) rfl #[.agg #[.slice A0 l0.length c0, .slice A1 l1.length c1, .slice A2 l2.length c2]] (by rfl) rfl (by (try simp only [List.map_toArray, List.map_cons, List.map_nil]); first | done | rfl) ?_
  refine (Ps.privityref27_Size.calls 26000 A0 c0 l0 A1 c1 l1 A2 c2 l2 _ v4 (Kd.C_below HA.out.h0 H7.out) HA.out.g0 (Kd.C_below HA.out.h1 H7.out) HA.out.g1 (Kd.C_below HA.out.h2 H7.out) HA.out.g2 (rsize l0 l1 l2 HFF.out.1 HFF.out.2.1 HFF.out.2.2 HV.out.2.2.2.2.1)).mono ?_
  rintro e v5 ⟨rfl, hc⟩
  rw [hs]
  have H8 := Lib.hid (below_next H7.out (Nat.le_refl _) hc)
  have HS8 := Lib.hid (show (fun W => PC w.heap.size A0 c0 l0 A1 c1 l1 A2 c2 l2 W) v5 from HS7.out.below hc)
  clear hc
  refine ⟨HS8.out, ?_⟩
  refine Rg.s_norm (a' := ?_) ?_ ?_; rotate_left; (simp only [Act.put, List.setIfInBounds_toArray, List.set_cons_zero, List.set_cons_succ]; rfl)
  refine Rg.p 25 ?_ ?_ rfl rfl (fun _ _ _ h => h) (by rfl) ?_ ?_ ?_; rotate_left 2; (intro w'; go_simp; with_reducible rfl); (simp only [Rg.pq, Rg.pz, Rg.ps]; rfl)
  refine Rg.p 26 ?_ ?_ rfl rfl (fun _ _ _ h => h) (by rfl) ?_ ?_ ?_; rotate_left 2; (intro w'; go_simp; with_reducible rfl); (simp only [Rg.pq, Rg.pz, Rg.ps]; rfl)
  refine Rg.p 2 ?_ ?_ rfl rfl (fun _ _ _ h => h) (by rfl) ?_ ?_ ?_; rotate_left 2; (intro w'; go_simp; with_reducible rfl); (simp only [Rg.pq, Rg.pz, Rg.ps]; rfl)
  refine Rg.s_done ?_
  go_wp2_with fail
  go_ret
  exact ⟨rfl, H8.out⟩
end Go.Proofs.YtlhnfgnihakcfaaDoor.Ax
