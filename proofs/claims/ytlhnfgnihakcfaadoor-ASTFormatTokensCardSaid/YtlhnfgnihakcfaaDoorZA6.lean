import Derived.Test.YtlhnfgnihakcfaaDoorZA3
import Derived.Test.YtlhnfgnihakcfaaDoorZPe
import Derived.IntWalk
import Derived.Test.YtlhnfgnihakcfaaDoorZA5
set_option linter.unusedSimpArgs false
set_option linter.unusedVariables false
namespace Go.Proofs.YtlhnfgnihakcfaaDoor.Ax
open Go.RowKit Hp Kn Pe
open Go.Proofs.YtlhnfgnihakcfaaDoorW.PrintWords Go.Proofs.YtlhnfgnihakcfaaDoorW.PrintLast Go.Proofs.YtlhnfgnihakcfaaDoorW.PrintMore
theorem drop_cons {α : Type} {l : List α} {i : Nat} {x : α} (h : l[i]? = some x) : l.drop i = x :: l.drop (i + 1) := by
  obtain ⟨hl, e⟩ := List.getElem?_eq_some_iff.1 h
  rw [List.drop_eq_getElem_cons hl, e]
theorem eqP_cons {α : Type} (x y : α) (l m : List α) : eqP (x :: l) (y :: m) = (eqP x y && eqP l m) := by
  rw [← allP_eq, ← allP_eq]; rfl
theorem eqP_self {α : Type} (x : α) : eqP x x = true := eqP_true.2 rfl
theorem str_eqP (a b : ByteArray) : (a.toList == b.toList) = eqP a b := by
  cases h : (a.toList == b.toList) with
  | true => rw [eqP_true.2 ((str_eq a b).1 h)]
  | false => rw [eqP_false (str_ne h)]
theorem int_eqP (a b : Int) : (a == b) = eqP a b := by
  by_cases h : a = b
  · rw [eqP_true.2 h]; simpa using h
  · rw [eqP_false h]; simpa using h
theorem api_InputDecl_fields (x y : S55) : eqP x y = (eqP x.f0 y.f0 && eqP x.f1 y.f1 && eqP x.f2 y.f2 && eqP x.f3 y.f3) := by
  by_cases h : x = y
  · subst h; simp only [eqP_self, Bool.and_self]
  · rw [eqP_false h]
    symm
    rw [Bool.eq_false_iff]
    intro e
    simp only [Bool.and_eq_true, eqP_true] at e
    exact h (by cases x; cases y; simp_all)
theorem api_InputDecl_loop (l m : List S55) (hlm : l.length = m.length) (hl : l.length ≤ 140737488351232) : ∀ (d i k : Nat), l.length - i = d → i ≤ l.length → d < k → api_InputDecl.l0 k l m (l.length : Int) (i : Int) = some (eqP (l.drop i) (m.drop i))
  | 0, i, k + 1, hd, hi, hk => by
    have e : ¬ ((i : Int) < (l.length : Int)) := by omega
    unfold api_InputDecl.l0
    rw [if_neg e, List.drop_eq_nil_of_le (by omega), List.drop_eq_nil_of_le (by omega), eqP_self]
  | d + 1, i, k + 1, hd, hi, hk => by
    have e1 : (i : Int) < (l.length : Int) := by omega
    have e0 : (0 : Int) ≤ (i : Int) := by omega
    have e2 : (i : Int) < (m.length : Int) := by omega
    obtain ⟨x, hx⟩ : ∃ x, l[i]? = some x := ⟨_, List.getElem?_eq_getElem (by omega)⟩
    obtain ⟨y, hy⟩ : ∃ y, m[i]? = some y := ⟨_, List.getElem?_eq_getElem (by omega)⟩
    have rx : rd_T55 l (i : Int) = x := by simp [rd_T55, List.getD_eq_getElem?_getD, hx]
    have ry : rd_T55 m (i : Int) = y := by simp [rd_T55, List.getD_eq_getElem?_getD, hy]
    have hw : wrap64 ((i : Int) + 1) = ((i + 1 : Nat) : Int) := by unfold wrap64; omega
    have IH := api_InputDecl_loop l m hlm hl d (i + 1) k (by omega) (by omega) (by omega)
    unfold api_InputDecl.l0
    rw [if_pos e1, if_pos e0, if_pos e1, if_pos e2, hw, IH, rx, ry, drop_cons hx, drop_cons hy, eqP_cons, api_InputDecl_fields]
    simp only [str_eqP, int_eqP]
    cases eqP x.f0 y.f0 <;> cases eqP x.f1 y.f1 <;> cases eqP x.f2 y.f2 <;> cases eqP x.f3 y.f3 <;>  simp
theorem api_InputDecl_f (l m : List S55) (hl : l.length ≤ 140737488351232) (k : Nat) (hk : l.length < k) : api_InputDecl.f k l m = some (eqP l m) := by
  unfold api_InputDecl.f
  by_cases h : l.length = m.length
  · rw [if_pos (by omega), show (0 : Int) = ((0 : Nat) : Int) from rfl, api_InputDecl_loop l m h hl l.length 0 k (by omega) (by omega) hk]
    rfl
  · rw [if_neg (by omega), eqP_false (fun e => h (by rw [e]))]
theorem api_InputDecl_any (A0 : Option Addr) (c0 : Nat) (l : List S55) (A1 : Option Addr) (c1 : Nat) (m : List S55) (w : World) (h0 : Kd.C k55 w A0 l.length l) (g0 : l.length ≤ c0) (h1 : Kd.C k55 w A1 m.length m) (g1 : m.length ≤ c1) (hl : l.length ≤ 140737488351232) :
    Calls Tryd.prog 32 #[.slice A0 l.length c0, .slice A1 m.length c1] w fun e w' => e = .returned (.bool (eqP l m)) ∧ Below w.heap.size w w' := by
  refine (api_InputDecl.calls (l.length + 1) A0 c0 l A1 c1 m _ w h0 g0 h1 g1 (api_InputDecl_f l m hl _ (by omega))).mono ?_
  rintro e w' ⟨he, n, rfl⟩
  exact ⟨he, pw_below_drewN (Below.refl _ _) n⟩
theorem api_ArrayDecl_fields (x y : S58) : eqP x y = (eqP x.f0 y.f0 && eqP x.f1 y.f1) := by
  by_cases h : x = y
  · subst h; simp only [eqP_self, Bool.and_self]
  · rw [eqP_false h]
    symm
    rw [Bool.eq_false_iff]
    intro e
    simp only [Bool.and_eq_true, eqP_true] at e
    exact h (by cases x; cases y; simp_all)
theorem api_ArrayDecl_loop (l m : List S58) (hlm : l.length = m.length) (hl : l.length ≤ 140737488351232) : ∀ (d i k : Nat), l.length - i = d → i ≤ l.length → d < k → api_ArrayDecl.l0 k l m (l.length : Int) (i : Int) = some (eqP (l.drop i) (m.drop i))
  | 0, i, k + 1, hd, hi, hk => by
    have e : ¬ ((i : Int) < (l.length : Int)) := by omega
    unfold api_ArrayDecl.l0
    rw [if_neg e, List.drop_eq_nil_of_le (by omega), List.drop_eq_nil_of_le (by omega), eqP_self]
  | d + 1, i, k + 1, hd, hi, hk => by
    have e1 : (i : Int) < (l.length : Int) := by omega
    have e0 : (0 : Int) ≤ (i : Int) := by omega
    have e2 : (i : Int) < (m.length : Int) := by omega
    obtain ⟨x, hx⟩ : ∃ x, l[i]? = some x := ⟨_, List.getElem?_eq_getElem (by omega)⟩
    obtain ⟨y, hy⟩ : ∃ y, m[i]? = some y := ⟨_, List.getElem?_eq_getElem (by omega)⟩
    have rx : rd_T58 l (i : Int) = x := by simp [rd_T58, List.getD_eq_getElem?_getD, hx]
    have ry : rd_T58 m (i : Int) = y := by simp [rd_T58, List.getD_eq_getElem?_getD, hy]
    have hw : wrap64 ((i : Int) + 1) = ((i + 1 : Nat) : Int) := by unfold wrap64; omega
    have IH := api_ArrayDecl_loop l m hlm hl d (i + 1) k (by omega) (by omega) (by omega)
    unfold api_ArrayDecl.l0
    rw [if_pos e1, if_pos e0, if_pos e1, if_pos e2, hw, IH, rx, ry, drop_cons hx, drop_cons hy, eqP_cons, api_ArrayDecl_fields]
    simp only [str_eqP, int_eqP]
    cases eqP x.f0 y.f0 <;> cases eqP x.f1 y.f1 <;>  simp
theorem api_ArrayDecl_f (l m : List S58) (hl : l.length ≤ 140737488351232) (k : Nat) (hk : l.length < k) : api_ArrayDecl.f k l m = some (eqP l m) := by
  unfold api_ArrayDecl.f
  by_cases h : l.length = m.length
  · rw [if_pos (by omega), show (0 : Int) = ((0 : Nat) : Int) from rfl, api_ArrayDecl_loop l m h hl l.length 0 k (by omega) (by omega) hk]
    rfl
  · rw [if_neg (by omega), eqP_false (fun e => h (by rw [e]))]
theorem api_ArrayDecl_any (A0 : Option Addr) (c0 : Nat) (l : List S58) (A1 : Option Addr) (c1 : Nat) (m : List S58) (w : World) (h0 : Kd.C k58 w A0 l.length l) (g0 : l.length ≤ c0) (h1 : Kd.C k58 w A1 m.length m) (g1 : m.length ≤ c1) (hl : l.length ≤ 140737488351232) :
    Calls Tryd.prog 33 #[.slice A0 l.length c0, .slice A1 m.length c1] w fun e w' => e = .returned (.bool (eqP l m)) ∧ Below w.heap.size w w' := by
  refine (api_ArrayDecl.calls (l.length + 1) A0 c0 l A1 c1 m _ w h0 g0 h1 g1 (api_ArrayDecl_f l m hl _ (by omega))).mono ?_
  rintro e w' ⟨he, n, rfl⟩
  exact ⟨he, pw_below_drewN (Below.refl _ _) n⟩
set_option maxRecDepth 100000 in
theorem equal_calls (A0 : Option Addr) (c0 : Nat) (l0 : List S55) (A1 : Option Addr) (c1 : Nat) (l1 : List S58) (A2 : Option Addr) (c2 : Nat) (l2 : List S64) (B0 : Option Addr) (d0 : Nat) (m0 : List S55) (B1 : Option Addr) (d1 : Nat) (m1 : List S58) (B2 : Option Addr) (d2 : Nat) (m2 : List S64) (w : World) (hA0 : Kd.C k55 w A0 l0.length l0) (hAl0 : l0.length ≤ c0) (hA1 : Kd.C k58 w A1 l1.length l1) (hAl1 : l1.length ≤ c1) (hA2 : Kd.C k64 w A2 l2.length l2) (hAl2 : l2.length ≤ c2) (hB0 : Kd.C k55 w B0 m0.length m0) (hBl0 : m0.length ≤ d0) (hB1 : Kd.C k58 w B1 m1.length m1) (hBl1 : m1.length ≤ d1) (hB2 : Kd.C k64 w B2 m2.length m2) (hBl2 : m2.length ≤ d2) (n0 : l0.length ≤ 140737488351232) (n1 : l1.length ≤ 140737488351232) (n2 : l2.length ≤ 140737488351232) (hO : ∀ x ∈ l2, OkS x) :
    Calls Tryd.prog 14 #[.agg #[.slice A0 l0.length c0, .slice A1 l1.length c1, .slice A2 l2.length c2], .agg #[.slice B0 m0.length d0, .slice B1 m1.length d1, .slice B2 m2.length d2]] w fun e w' => e = .returned (.bool (eqP l0 m0 && eqP l1 m1 && eqP l2 m2)) ∧ Below w.heap.size w w' := by
  have HC := Lib.hid (And.intro hA0 (And.intro hA1 hA2))
  have HD := Lib.hid (And.intro hB0 (And.intro hB1 hB2))
  have HL := Lib.hid (And.intro (And.intro (And.intro hAl0 hBl0) (And.intro hAl1 hBl1)) (And.intro n0 (And.intro n1 n2)))
  have HO := Lib.hid hO
  clear hA0 hA1 hA2 hB0 hB1 hB2 hAl0 hAl1 hAl2 hBl0 hBl1 hBl2 n0 n1 n2 hO
  have HB := Lib.hid (((Below.refl w.heap.size w).alloc (Nat.le_refl _) (.cells #[.slice A0 l0.length c0, .slice A1 l1.length c1, .slice A2 l2.length c2] 26)).alloc (by simp) (.cells #[.slice B0 m0.length d0, .slice B1 m1.length d1, .slice B2 m2.length d2] 26))
  have HS := Lib.hid (And.intro (Blk.alloc (Blk.alloc_new w [.slice A0 l0.length c0, .slice A1 l1.length c1, .slice A2 l2.length c2] 26) (.cells #[.slice B0 m0.length d0, .slice B1 m1.length d1, .slice B2 m2.length d2] 26)) (second_new w (.cells #[.slice A0 l0.length c0, .slice A1 l1.length c1, .slice A2 l2.length c2] 26) [.slice B0 m0.length d0, .slice B1 m1.length d1, .slice B2 m2.length d2] 26))
  go_enter Tryd.func14, Tryd.ntmps14
  go_wp2_with fail
  refine (api_InputDecl_any A0 c0 l0 B0 d0 m0 _ (Kd.C_below HC.out.1 HB.out) HL.out.1.1.1 (Kd.C_below HD.out.1 HB.out) HL.out.1.1.2 HL.out.2.1).mono ?_
  rintro e w2 ⟨rfl, hb⟩
  have HS2 := Lib.hid (And.intro (Blk.below HS.out.1 hb HS.out.1.lt) (Blk.below HS.out.2 hb HS.out.2.lt))
  have HB2 := Lib.hid (below_next HB.out (by simp) hb)
  clear hb
  have zA0 : w2.cell? ⟨w.heap.size, 0, none⟩ = some (.slice A0 l0.length c0) := HS2.out.1.cell 0 rfl
  have zA1 : w2.cell? ⟨w.heap.size, 1, none⟩ = some (.slice A1 l1.length c1) := HS2.out.1.cell 1 rfl
  have zA2 : w2.cell? ⟨w.heap.size, 2, none⟩ = some (.slice A2 l2.length c2) := HS2.out.1.cell 2 rfl
  have zB0 : w2.cell? ⟨w.heap.size + 1, 0, none⟩ = some (.slice B0 m0.length d0) := HS2.out.2.cell 0 rfl
  have zB1 : w2.cell? ⟨w.heap.size + 1, 1, none⟩ = some (.slice B1 m1.length d1) := HS2.out.2.cell 1 rfl
  have zB2 : w2.cell? ⟨w.heap.size + 1, 2, none⟩ = some (.slice B2 m2.length d2) := HS2.out.2.cell 2 rfl
  cases r0 : eqP l0 m0 with
  | false =>
    go_wp2_with fail
    go_ret
    exact ⟨by rw [r0]; rfl, HB2.out⟩
  | true =>
  go_wp2_with fail
  refine (api_ArrayDecl_any A1 c1 l1 B1 d1 m1 _ (Kd.C_below HC.out.2.1 HB2.out) HL.out.1.2.1 (Kd.C_below HD.out.2.1 HB2.out) HL.out.1.2.2 HL.out.2.2.1).mono ?_
  rintro e w3 ⟨rfl, hb⟩
  have HS3 := Lib.hid (And.intro (Blk.below HS2.out.1 hb HS2.out.1.lt) (Blk.below HS2.out.2 hb HS2.out.2.lt))
  have HB3 := Lib.hid (below_next HB2.out (Nat.le_refl _) hb)
  clear hb
  clear zA0 zA1 zA2 zB0 zB1 zB2
  have zA0 : w3.cell? ⟨w.heap.size, 0, none⟩ = some (.slice A0 l0.length c0) := HS3.out.1.cell 0 rfl
  have zA1 : w3.cell? ⟨w.heap.size, 1, none⟩ = some (.slice A1 l1.length c1) := HS3.out.1.cell 1 rfl
  have zA2 : w3.cell? ⟨w.heap.size, 2, none⟩ = some (.slice A2 l2.length c2) := HS3.out.1.cell 2 rfl
  have zB0 : w3.cell? ⟨w.heap.size + 1, 0, none⟩ = some (.slice B0 m0.length d0) := HS3.out.2.cell 0 rfl
  have zB1 : w3.cell? ⟨w.heap.size + 1, 1, none⟩ = some (.slice B1 m1.length d1) := HS3.out.2.cell 1 rfl
  have zB2 : w3.cell? ⟨w.heap.size + 1, 2, none⟩ = some (.slice B2 m2.length d2) := HS3.out.2.cell 2 rfl
  cases r1 : eqP l1 m1 with
  | false =>
    go_wp2_with fail
    go_ret
    exact ⟨by rw [r0, r1]; rfl, HB3.out⟩
  | true =>
  go_wp2_with fail
  refine (equal_stmt 35 Tryd.f35 eqP Tryd.func35 (by kernel_rfl) rfl A2 c2 l2 B2 d2 m2 _ (Kd.C_below HC.out.2.2 HB3.out) (Kd.C_below HD.out.2.2 HB3.out) HL.out.2.2.2 (fun a ha b hb w1 E2 e2 E3 e3 E4 e4 F2 f2 F3 f3 F4 f4 _ g1 g2 g3 g4 g5 g6 g7 g8 g9 g10 g11 g12 => sameStmt_calls (HO.out a ha) b E2 e2 E3 e3 E4 e4 F2 f2 F3 f3 F4 f4 w1 g1 g2 g3 g4 g5 g6 g7 g8 g9 g10 g11 g12)).mono ?_
  rintro e w4 ⟨rfl, hb⟩
  rw [allP_eq]
  have HB4 := Lib.hid (below_next HB3.out (Nat.le_refl _) hb)
  clear zA0 zA1 zA2 zB0 zB1 zB2
  go_wp2_with fail
  go_ret
  exact ⟨by rw [r0, r1]; rfl, HB4.out⟩
end Go.Proofs.YtlhnfgnihakcfaaDoor.Ax
set_option linter.unusedSimpArgs false
set_option linter.unusedVariables false
namespace Go.Proofs.YtlhnfgnihakcfaaDoor.Ax
open Go.RowKit Hp Kn Lx
open Go.Proofs.YtlhnfgnihakcfaaDoorW.PrintWords Go.Proofs.YtlhnfgnihakcfaaDoorW.PrintLast Go.Proofs.YtlhnfgnihakcfaaDoorW.PrintMore
def PCells (g1 g2 h1 h2 : Nat) (W : World) : Prop :=
  W.cell? ⟨g1, 0, none⟩ = some (.slice (some ⟨h1 + 8, 0, none⟩) 1 1) ∧ W.cell? ⟨g1, 1, none⟩ = some (.slice none 0 0) ∧ W.cell? ⟨g1, 2, none⟩ = some (.slice (some ⟨h1 + 10, 0, none⟩) 1 1) ∧
  W.cell? ⟨g2, 0, none⟩ = some (.slice (some ⟨h2 + 8, 0, none⟩) 1 1) ∧ W.cell? ⟨g2, 1, none⟩ = some (.slice none 0 0) ∧ W.cell? ⟨g2, 2, none⟩ = some (.slice (some ⟨h2 + 10, 0, none⟩) 1 1)
theorem PCells.below {g1 g2 h1 h2 : Nat} {W W2 : World} (h : PCells g1 g2 h1 h2 W) (hb : Below W.heap.size W W2) : PCells g1 g2 h1 h2 W2 := by
  obtain ⟨s0, s1, s2, s3, s4, s5⟩ := h
  have k : ∀ (a : Addr) v, W.cell? a = some v → W2.cell? a = some v := fun a v h => (hb.cell (World.block_lt_of_cell? W _ h)).trans h
  exact ⟨k _ _ s0, k _ _ s1, k _ _ s2, k _ _ s3, k _ _ s4, k _ _ s5⟩
theorem ex_len : (fmtB [inX 0] [] [outS mulE]).length = 33 := by rw [ex_fmt]; rfl
theorem ex_valid : validB [inX 0] [] [outS mulE] = true := by
  unfold validB
  rw [show [inX 0].all inB = true from by simp [ex_inB], show [outS mulE].all (stmtB 24) = true from by simp [ex_stmtB], ex_len]
  rfl
theorem ex_valid65 : validB [inX 65] [] [outS mulE] = false := by
  unfold validB
  rw [show [inX 65].all inB = false from by simp [ex_inB65]]
  rfl
theorem ex_valid0 : validB [] [] [] = true := by kernel_rfl
theorem ex_size : Pe.ast_Size.f 40 [inX 0] [] [outS mulE] = some 7 := by kernel_rfl
theorem mem_one {α : Type} {p : α → Prop} {x : α} (h : p x) : ∀ y ∈ [x], p y := by intro y hy; simp at hy; subst hy; exact h
theorem mem_nil {α : Type} {p : α → Prop} : ∀ y ∈ ([] : List α), p y := by intro y hy; cases hy
set_option maxRecDepth 100000 in
set_option maxHeartbeats 8000000 in
theorem awake_calls (w : World) (hG : Gx w) : Calls Tryd.prog 11 #[] w fun e w' => e = .returned (.bool true) ∧ Below w.heap.size w w' := by
  have HG := Lib.hid hG
  clear hG
  go_enter Tryd.func11, Tryd.ntmps11
  go_wp2_with fail
  refine (example_calls _).mono ?_
  rintro e w1 ⟨rfl, hw⟩
  have HE1 := Lib.hid (show ExAt w.heap.size 0 w1 by rw [hw]; exact ExAt.new w)
  have HB1 := Lib.hid (show Below w.heap.size w w1 by rw [hw]; exact alls_below _ _ (Nat.le_refl _))
  have HS1 := Lib.hid (show w1.heap.size = w.heap.size + 11 by rw [hw, alls_size]; rfl)
  clear hw
  unfold exV0
  go_wp2_with fail
  have HB2 := Lib.hid (HB1.out.alloc HB1.out.size (.cells #[.slice (some ⟨w.heap.size + 8, 0, none⟩) 1 1, .slice none 0 0, .slice (some ⟨w.heap.size + 10, 0, none⟩) 1 1] 26))
  have HE2 := Lib.hid (HE1.out.below ((Below.refl w1.heap.size w1).alloc (Nat.le_refl _) (.cells #[.slice (some ⟨w.heap.size + 8, 0, none⟩) 1 1, .slice none 0 0, .slice (some ⟨w.heap.size + 10, 0, none⟩) 1 1] 26)))
  have HK2 := Lib.hid (Blk.alloc_new w1 [.slice (some ⟨w.heap.size + 8, 0, none⟩) 1 1, .slice none 0 0, .slice (some ⟨w.heap.size + 10, 0, none⟩) 1 1] 26)
  refine (example_calls _).mono ?_
  rintro e w2 ⟨rfl, hw⟩
  obtain ⟨h2, hh2⟩ : ∃ h, (w1.alloc (.cells #[.slice (some ⟨w.heap.size + 8, 0, none⟩) 1 1, .slice none 0 0, .slice (some ⟨w.heap.size + 10, 0, none⟩) 1 1] 26)).heap.size = h := ⟨_, rfl⟩
  have HQ2 := Lib.hid (show ExAt h2 0 w2 by rw [← hh2, hw]; exact ExAt.new _)
  have hb := alls_below (exO (w1.alloc (.cells #[.slice (some ⟨w.heap.size + 8, 0, none⟩) 1 1, .slice none 0 0, .slice (some ⟨w.heap.size + 10, 0, none⟩) 1 1] 26)).heap.size) (w1.alloc (.cells #[.slice (some ⟨w.heap.size + 8, 0, none⟩) 1 1, .slice none 0 0, .slice (some ⟨w.heap.size + 10, 0, none⟩) 1 1] 26)) (Nat.le_refl _)
  rw [← hw] at hb
  have HB3 := Lib.hid (below_next HB2.out (by simp) hb)
  have HE3 := Lib.hid (HE2.out.below hb)
  have HK3 := Lib.hid (HK2.out.below hb HK2.out.lt)
  have HS2 := Lib.hid (show w2.heap.size = h2 + 11 by rw [hw, alls_size, hh2]; rfl)
  have HS3 := Lib.hid (show h2 = w1.heap.size + 1 by rw [← hh2]; simp)
  rw [hh2]
  clear hw hb hh2
  unfold exV0
  have HB4 := Lib.hid (HB3.out.alloc HB3.out.size (.cells #[.slice (some ⟨h2 + 8, 0, none⟩) 1 1, .slice none 0 0, .slice (some ⟨h2 + 10, 0, none⟩) 1 1] 26))
  have HE4 := Lib.hid (HE3.out.below ((Below.refl w2.heap.size w2).alloc (Nat.le_refl _) (.cells #[.slice (some ⟨h2 + 8, 0, none⟩) 1 1, .slice none 0 0, .slice (some ⟨h2 + 10, 0, none⟩) 1 1] 26)))
  have HQ4 := Lib.hid (HQ2.out.below ((Below.refl w2.heap.size w2).alloc (Nat.le_refl _) (.cells #[.slice (some ⟨h2 + 8, 0, none⟩) 1 1, .slice none 0 0, .slice (some ⟨h2 + 10, 0, none⟩) 1 1] 26)))
  have HK4 := Lib.hid (HK3.out.alloc (.cells #[.slice (some ⟨h2 + 8, 0, none⟩) 1 1, .slice none 0 0, .slice (some ⟨h2 + 10, 0, none⟩) 1 1] 26))
  have HL4 := Lib.hid (Blk.alloc_new w2 [.slice (some ⟨h2 + 8, 0, none⟩) 1 1, .slice none 0 0, .slice (some ⟨h2 + 10, 0, none⟩) 1 1] 26)
  have c8 : (w2.alloc (.cells #[.slice (some ⟨h2 + 8, 0, none⟩) 1 1, .slice none 0 0, .slice (some ⟨h2 + 10, 0, none⟩) 1 1] 26)).cell? ⟨h2 + 8, 3, none⟩ = some (.int .i64 0) := HQ4.out.b8.cell 3 rfl
  have f8 : (w2.alloc (.cells #[.slice (some ⟨h2 + 8, 0, none⟩) 1 1, .slice none 0 0, .slice (some ⟨h2 + 10, 0, none⟩) 1 1] 26)).frozen? ⟨h2 + 8, 3, none⟩ = false := HQ4.out.b8.free 3
  go_wp2_with fail
  clear c8 f8
  have HBb := Lib.hid (HB4.out.setCell (p := ⟨h2 + 8, 3, none⟩) (by have := HS3.out; have := HS1.out; simp; omega) (.int .i64 65))
  have HEb := Lib.hid (HE4.out.other (a := ⟨h2 + 8, 3, none⟩) (by have := HS3.out; have := HS1.out; simp; omega) (.int .i64 65))
  have HQb := Lib.hid (HQ4.out.size 65)
  have HKb := Lib.hid (HK4.out.other (a := ⟨h2 + 8, 3, none⟩) (by have := HS3.out; simp; omega) (.int .i64 65))
  have HLb := Lib.hid (HL4.out.other (a := ⟨h2 + 8, 3, none⟩) (by have := HS2.out; simp; omega) (.int .i64 65))
  have hS : PCells w1.heap.size w2.heap.size w.heap.size h2 ((w2.alloc (.cells #[.slice (some ⟨h2 + 8, 0, none⟩) 1 1, .slice none 0 0, .slice (some ⟨h2 + 10, 0, none⟩) 1 1] 26)).setCell ⟨h2 + 8, 3, none⟩ (.int .i64 65)).drew := ⟨HKb.out.cell 0 rfl, HKb.out.cell 1 rfl, HKb.out.cell 2 rfl, HLb.out.cell 0 rfl, HLb.out.cell 1 rfl, HLb.out.cell 2 rfl⟩
  have HBd : Hid (Below w.heap.size w ((w2.alloc (.cells #[.slice (some ⟨h2 + 8, 0, none⟩) 1 1, .slice none 0 0, .slice (some ⟨h2 + 10, 0, none⟩) 1 1] 26)).setCell ⟨h2 + 8, 3, none⟩ (.int .i64 65)).drew) := Lib.hid HBb.out.drew
  have HEd : Hid (ExAt w.heap.size 0 ((w2.alloc (.cells #[.slice (some ⟨h2 + 8, 0, none⟩) 1 1, .slice none 0 0, .slice (some ⟨h2 + 10, 0, none⟩) 1 1] 26)).setCell ⟨h2 + 8, 3, none⟩ (.int .i64 65)).drew) := Lib.hid (HEb.out.below (Below.refl _ _).drew)
  have HQd : Hid (ExAt h2 65 ((w2.alloc (.cells #[.slice (some ⟨h2 + 8, 0, none⟩) 1 1, .slice none 0 0, .slice (some ⟨h2 + 10, 0, none⟩) 1 1] 26)).setCell ⟨h2 + 8, 3, none⟩ (.int .i64 65)).drew) := Lib.hid (HQb.out.below (Below.refl _ _).drew)
  clear HB1 HB2 HB3 HB4 HBb HE1 HE2 HE3 HE4 HEb HQ2 HQ4 HQb HK2 HK3 HK4 HKb HL4 HLb HS1 HS2 HS3
  refine Rg.region_steps (S := PCells w1.heap.size w2.heap.size w.heap.size h2) [.take 0, .one 1, .any 2, .take 3, .one 4, .any 5, .any 6, .any 7, .take 8, .one 9, .any 10, .any 11, .any 12, .take 13, .one 14, .any 15, .any 16, .any 17, .take 18, .one 19, .one 20, .any 21, .any 22, .take 23, .take 24, .one 25, .any 26, .any 27, .any 28, .any 29, .one 30, .any 31, .any 32] (by kernel_rfl) (by kernel_rfl) hS ?_
  generalize ((w2.alloc (.cells #[.slice (some ⟨h2 + 8, 0, none⟩) 1 1, .slice none 0 0, .slice (some ⟨h2 + 10, 0, none⟩) 1 1] 26)).setCell ⟨h2 + 8, 3, none⟩ (.int .i64 65)).drew = Wb at hS HBd HEd HQd ⊢
  have hd0 := Lib.hid (Below.refl Wb.heap.size Wb)
  refine Rg.t 9 ?_ ?_ rfl rfl (fun _ _ _ h => h) (by assumption) (by rfl) ?_ ?_ ?_; rotate_left 2; (rintro w' ⟨s0, s1, s2, s3, s4, s5⟩; go_simp; with_reducible rfl); (simp only [Rg.pq, Rg.pz, Rg.ps]; rfl)
  refine Rg.s_call (N := some 10) rfl rfl Tryd.func12 (by kernel_rfl) rfl #[.agg #[.slice (some ⟨w.heap.size + 8, 0, none⟩) 1 1, .slice none 0 0, .slice (some ⟨w.heap.size + 10, 0, none⟩) 1 1]] (by rfl) rfl (by (try simp only [List.map_toArray, List.map_cons, List.map_nil]); first | done | rfl) ?_
  refine (valid_calls (some ⟨w.heap.size + 8, 0, none⟩) 1 [inX 0] none 0 [] (some ⟨w.heap.size + 10, 0, none⟩) 1 [outS mulE] _ ((HG.out.below HBd.out).below hd0.out) (HEd.out.below hd0.out).ins (Kd.C_nil _ _) (HEd.out.below hd0.out).body (by decide) (by decide) (by decide) (by decide) (mem_one (by show ByteArray.size ⟨#[120]⟩ ≤ _; decide)) mem_nil (mem_one (ok_out ok_mul)) (fun _ _ _ => by rw [ex_len]; decide)).mono ?_
  rintro e v1 ⟨rfl, hc⟩
  rw [ex_valid]
  have hd1 := Lib.hid (below_next hd0.out (Nat.le_refl _) hc)
  have hS1 := hS.below hc
  clear hc hS
  refine ⟨hS1, ?_⟩
  refine Rg.s_norm (a' := ?_) ?_ ?_; rotate_left; (simp only [Act.put, List.setIfInBounds_toArray, List.set_cons_zero, List.set_cons_succ]; rfl)
  refine Rg.p 11 ?_ ?_ rfl rfl (fun _ _ _ h => h) (by rfl) ?_ ?_ ?_; rotate_left 2; (intro w'; go_simp; with_reducible rfl); (simp only [Rg.pq, Rg.pz, Rg.ps]; rfl)
  refine Rg.t 12 ?_ ?_ rfl rfl (fun _ _ _ h => h) (by assumption) (by rfl) ?_ ?_ ?_; rotate_left 2; (rintro w' ⟨s0, s1, s2, s3, s4, s5⟩; go_simp; with_reducible rfl); (simp only [Rg.pq, Rg.pz, Rg.ps]; rfl)
  refine Rg.s_call (N := some 13) rfl rfl Tryd.func12 (by kernel_rfl) rfl #[.agg #[.slice (some ⟨h2 + 8, 0, none⟩) 1 1, .slice none 0 0, .slice (some ⟨h2 + 10, 0, none⟩) 1 1]] (by rfl) rfl (by (try simp only [List.map_toArray, List.map_cons, List.map_nil]); first | done | rfl) ?_
  refine (valid_calls (some ⟨h2 + 8, 0, none⟩) 1 [inX 65] none 0 [] (some ⟨h2 + 10, 0, none⟩) 1 [outS mulE] _ ((HG.out.below HBd.out).below hd1.out) (HQd.out.below hd1.out).ins (Kd.C_nil _ _) (HQd.out.below hd1.out).body (by decide) (by decide) (by decide) (by decide) (mem_one (by show ByteArray.size ⟨#[120]⟩ ≤ _; decide)) mem_nil (mem_one (ok_out ok_mul)) (fun h _ _ => by simp [ex_inB65] at h)).mono ?_
  rintro e v2 ⟨rfl, hc⟩
  rw [ex_valid65]
  have hd2 := Lib.hid (below_next hd1.out (Nat.le_refl _) hc)
  have hS2 := hS1.below hc
  clear hc hS1
  refine ⟨hS2, ?_⟩
  refine Rg.s_norm (a' := ?_) ?_ ?_; rotate_left; (simp only [Act.put, List.setIfInBounds_toArray, List.set_cons_zero, List.set_cons_succ]; rfl)
  refine Rg.p 14 ?_ ?_ rfl rfl (fun _ _ _ h => h) (by rfl) ?_ ?_ ?_; rotate_left 2; (intro w'; go_simp; with_reducible rfl); (simp only [Rg.pq, Rg.pz, Rg.ps]; rfl)
  refine Rg.p 15 ?_ ?_ rfl rfl (fun _ _ _ h => h) (by rfl) ?_ ?_ ?_; rotate_left 2; (intro w'; go_simp; with_reducible rfl); (simp only [Rg.pq, Rg.pz, Rg.ps]; rfl)
  refine Rg.p 16 ?_ ?_ rfl rfl (fun _ _ _ h => h) (by rfl) ?_ ?_ ?_; rotate_left 2; (intro w'; go_simp; with_reducible rfl); (simp only [Rg.pq, Rg.pz, Rg.ps]; rfl)
  refine Rg.t 17 ?_ ?_ rfl rfl (fun _ _ _ h => h) (by assumption) (by rfl) ?_ ?_ ?_; rotate_left 2; (rintro w' ⟨s0, s1, s2, s3, s4, s5⟩; go_simp; with_reducible rfl); (simp only [Rg.pq, Rg.pz, Rg.ps]; rfl)
  refine Rg.s_call (N := some 18) rfl rfl Tryd.func16 (by kernel_rfl) rfl #[.agg #[.slice (some ⟨w.heap.size + 8, 0, none⟩) 1 1, .slice none 0 0, .slice (some ⟨w.heap.size + 10, 0, none⟩) 1 1]] (by rfl) rfl (by (try simp only [List.map_toArray, List.map_cons, List.map_nil]); first | done | rfl) ?_
  refine (format_calls (some ⟨w.heap.size + 8, 0, none⟩) 1 [inX 0] none 0 [] (some ⟨w.heap.size + 10, 0, none⟩) 1 [outS mulE] _ ((HG.out.below HBd.out).below hd2.out) (HEd.out.below hd2.out).ins (Kd.C_nil _ _) (HEd.out.below hd2.out).body (by decide) (by decide) (by decide) (by decide) (mem_one (inB_ok ex_inB)) mem_nil (mem_one (ok_out ok_mul)) (by simp [ex_stmtB]) (by rw [ex_len]; decide)).mono ?_
  rintro e v3 ⟨rfl, hc⟩
  rw [ex_fmt]
  simp only [Array.toArray_toList]
  unfold exText
  have hd3 := Lib.hid (below_next hd2.out (Nat.le_refl _) hc)
  have hS3 := hS2.below hc
  clear hc hS2
  refine ⟨hS3, ?_⟩
  refine Rg.s_norm (a' := ?_) ?_ ?_; rotate_left; (simp only [Act.put, List.setIfInBounds_toArray, List.set_cons_zero, List.set_cons_succ]; rfl)
  refine Rg.p 19 ?_ ?_ rfl rfl (fun _ _ _ h => h) (by rfl) ?_ ?_ ?_; rotate_left 2; (intro w'; go_simp; with_reducible rfl); (simp only [Rg.pq, Rg.pz, Rg.ps]; rfl)
  refine Rg.p 20 ?_ ?_ rfl rfl (fun _ _ _ h => h) (by rfl) ?_ ?_ ?_; rotate_left 2; (intro w'; go_simp; with_reducible rfl); (simp only [Rg.pq, Rg.pz, Rg.ps]; rfl)
  refine Rg.p 21 ?_ ?_ rfl rfl (fun _ _ _ h => h) (by rfl) ?_ ?_ ?_; rotate_left 2; (intro w'; go_simp; with_reducible rfl); (simp only [Rg.pq, Rg.pz, Rg.ps]; rfl)
  refine Rg.t 22 ?_ ?_ rfl rfl (fun _ _ _ h => h) (by assumption) (by rfl) ?_ ?_ ?_; rotate_left 2; (rintro w' ⟨s0, s1, s2, s3, s4, s5⟩; go_simp; with_reducible rfl); (simp only [Rg.pq, Rg.pz, Rg.ps]; rfl)
  refine Rg.s_call (N := some 23) rfl rfl Tryd.func18 (by kernel_rfl) rfl #[.agg #[.slice (some ⟨w.heap.size + 8, 0, none⟩) 1 1, .slice none 0 0, .slice (some ⟨w.heap.size + 10, 0, none⟩) 1 1]] (by rfl) rfl (by (try simp only [List.map_toArray, List.map_cons, List.map_nil]); first | done | rfl) ?_
  refine (Pe.ast_Size.calls 40 (some ⟨w.heap.size + 8, 0, none⟩) 1 [inX 0] none 0 [] (some ⟨w.heap.size + 10, 0, none⟩) 1 [outS mulE] 7 _ (HEd.out.below hd3.out).ins (by decide) (Kd.C_nil _ _) (by decide) (HEd.out.below hd3.out).body (by decide) ex_size).mono ?_
  rintro e v4 ⟨rfl, hc⟩
  have hd4 := Lib.hid (below_next hd3.out (Nat.le_refl _) hc)
  have hS4 := hS3.below hc
  clear hc hS3
  refine ⟨hS4, ?_⟩
  refine Rg.s_norm (a' := ?_) ?_ ?_; rotate_left; (simp only [Act.put, List.setIfInBounds_toArray, List.set_cons_zero, List.set_cons_succ]; rfl)
  refine Rg.p 24 ?_ ?_ rfl rfl (fun _ _ _ h => h) (by rfl) ?_ ?_ ?_; rotate_left 2; (intro w'; go_simp; with_reducible rfl); (simp only [Rg.pq, Rg.pz, Rg.ps]; rfl)
  refine Rg.p 25 ?_ ?_ rfl rfl (fun _ _ _ h => h) (by rfl) ?_ ?_ ?_; rotate_left 2; (intro w'; go_simp; with_reducible rfl); (simp only [Rg.pq, Rg.pz, Rg.ps]; rfl)
  refine Rg.p 26 ?_ ?_ rfl rfl (fun _ _ _ h => h) (by rfl) ?_ ?_ ?_; rotate_left 2; (intro w'; go_simp; with_reducible rfl); (simp only [Rg.pq, Rg.pz, Rg.ps]; rfl)
  refine Rg.t 27 ?_ ?_ rfl rfl (fun _ _ _ h => h) (by assumption) (by rfl) ?_ ?_ ?_; rotate_left 2; (rintro w' ⟨s0, s1, s2, s3, s4, s5⟩; go_simp; with_reducible rfl); (simp only [Rg.pq, Rg.pz, Rg.ps]; rfl)
  refine Rg.s_call (N := some 28) rfl rfl Tryd.func27 (by kernel_rfl) rfl #[] (by rfl) rfl (by (try simp only [List.map_toArray, List.map_cons, List.map_nil]); first | done | rfl) ?_
  refine (example_calls _).mono ?_
  rintro e v5 ⟨rfl, hw⟩
  obtain ⟨h3, hh3⟩ : ∃ h, v4.heap.size = h := ⟨_, rfl⟩
  have HX5 := Lib.hid (show ExAt h3 0 v5 by rw [← hh3, hw]; exact ExAt.new _)
  have hc := alls_below (exO v4.heap.size) v4 (Nat.le_refl _)
  rw [← hw] at hc
  have hd5 := Lib.hid (below_next hd4.out (Nat.le_refl _) hc)
  have hS5 := hS4.below hc
  rw [hh3]
  clear hw hc hS4 hh3
  unfold exV0
  refine ⟨hS5, ?_⟩
  refine Rg.s_norm (a' := ?_) ?_ ?_; rotate_left; (simp only [Act.put, List.setIfInBounds_toArray, List.set_cons_zero, List.set_cons_succ]; rfl)
  refine Rg.s_call (N := some 29) rfl rfl Tryd.func14 (by kernel_rfl) rfl #[.agg #[.slice (some ⟨w.heap.size + 8, 0, none⟩) 1 1, .slice none 0 0, .slice (some ⟨w.heap.size + 10, 0, none⟩) 1 1], .agg #[.slice (some ⟨h3 + 8, 0, none⟩) 1 1, .slice none 0 0, .slice (some ⟨h3 + 10, 0, none⟩) 1 1]] (by rfl) rfl (by (try simp only [List.map_toArray, List.map_cons, List.map_nil]); first | done | rfl) ?_
  refine (equal_calls (some ⟨w.heap.size + 8, 0, none⟩) 1 [inX 0] none 0 [] (some ⟨w.heap.size + 10, 0, none⟩) 1 [outS mulE] (some ⟨h3 + 8, 0, none⟩) 1 [inX 0] none 0 [] (some ⟨h3 + 10, 0, none⟩) 1 [outS mulE] _ (HEd.out.below hd5.out).ins (by decide) (Kd.C_nil _ _) (by decide) (HEd.out.below hd5.out).body (by decide) HX5.out.ins (by decide) (Kd.C_nil _ _) (by decide) HX5.out.body (by decide) (by decide) (by decide) (by decide) (mem_one (ok_out ok_mul))).mono ?_
  rintro e v6 ⟨rfl, hc⟩
  rw [eqP_self, eqP_self, eqP_self]
  simp only [Bool.and_self]
  have hd6 := Lib.hid (below_next hd5.out (Nat.le_refl _) hc)
  have hS6 := hS5.below hc
  clear hc hS5
  refine ⟨hS6, ?_⟩
  refine Rg.s_norm (a' := ?_) ?_ ?_; rotate_left; (simp only [Act.put, List.setIfInBounds_toArray, List.set_cons_zero, List.set_cons_succ]; rfl)
  refine Rg.p 30 ?_ ?_ rfl rfl (fun _ _ _ h => h) (by rfl) ?_ ?_ ?_; rotate_left 2; (intro w'; go_simp; with_reducible rfl); (simp only [Rg.pq, Rg.pz, Rg.ps]; rfl)
  refine Rg.p 31 ?_ ?_ rfl rfl (fun _ _ _ h => h) (by rfl) ?_ ?_ ?_; rotate_left 2; (intro w'; go_simp; with_reducible rfl); (simp only [Rg.pq, Rg.pz, Rg.ps]; rfl)
  refine Rg.t 32 ?_ ?_ rfl rfl (fun _ _ _ h => h) (by assumption) (by rfl) ?_ ?_ ?_; rotate_left 2; (rintro w' ⟨s0, s1, s2, s3, s4, s5⟩; go_simp; with_reducible rfl); (simp only [Rg.pq, Rg.pz, Rg.ps]; rfl)
  refine Rg.t 33 ?_ ?_ rfl rfl (fun _ _ _ h => h) (by assumption) (by rfl) ?_ ?_ ?_; rotate_left 2; (rintro w' ⟨s0, s1, s2, s3, s4, s5⟩; go_simp; with_reducible rfl); (simp only [Rg.pq, Rg.pz, Rg.ps]; rfl)
  refine Rg.s_call (N := some 34) rfl rfl Tryd.func14 (by kernel_rfl) rfl #[.agg #[.slice (some ⟨w.heap.size + 8, 0, none⟩) 1 1, .slice none 0 0, .slice (some ⟨w.heap.size + 10, 0, none⟩) 1 1], .agg #[.slice (some ⟨h2 + 8, 0, none⟩) 1 1, .slice none 0 0, .slice (some ⟨h2 + 10, 0, none⟩) 1 1]] (by rfl) rfl (by (try simp only [List.map_toArray, List.map_cons, List.map_nil]); first | done | rfl) ?_
  refine (equal_calls (some ⟨w.heap.size + 8, 0, none⟩) 1 [inX 0] none 0 [] (some ⟨w.heap.size + 10, 0, none⟩) 1 [outS mulE] (some ⟨h2 + 8, 0, none⟩) 1 [inX 65] none 0 [] (some ⟨h2 + 10, 0, none⟩) 1 [outS mulE] _ (HEd.out.below hd6.out).ins (by decide) (Kd.C_nil _ _) (by decide) (HEd.out.below hd6.out).body (by decide) (HQd.out.below hd6.out).ins (by decide) (Kd.C_nil _ _) (by decide) (HQd.out.below hd6.out).body (by decide) (by decide) (by decide) (by decide) (mem_one (ok_out ok_mul))).mono ?_
  rintro e v7 ⟨rfl, hc⟩
  rw [show eqP [inX 0] [inX 65] = false from eqP_false (by simp [inX])]
  simp only [Bool.false_and]
  have hd7 := Lib.hid (below_next hd6.out (Nat.le_refl _) hc)
  have hS7 := hS6.below hc
  clear hc hS6
  refine ⟨hS7, ?_⟩
  refine Rg.s_norm (a' := ?_) ?_ ?_; rotate_left; (simp only [Act.put, List.setIfInBounds_toArray, List.set_cons_zero, List.set_cons_succ]; rfl)
  refine Rg.p 35 ?_ ?_ rfl rfl (fun _ _ _ h => h) (by rfl) ?_ ?_ ?_; rotate_left 2; (intro w'; go_simp; with_reducible rfl); (simp only [Rg.pq, Rg.pz, Rg.ps]; rfl)
  refine Rg.p 36 ?_ ?_ rfl rfl (fun _ _ _ h => h) (by rfl) ?_ ?_ ?_; rotate_left 2; (intro w'; go_simp; with_reducible rfl); (simp only [Rg.pq, Rg.pz, Rg.ps]; rfl)
  refine Rg.p 37 ?_ ?_ rfl rfl (fun _ _ _ h => h) (by rfl) ?_ ?_ ?_; rotate_left 2; (intro w'; go_simp; with_reducible rfl); (simp only [Rg.pq, Rg.pz, Rg.ps]; rfl)
  refine Rg.p 38 ?_ ?_ rfl rfl (fun _ _ _ h => h) (by rfl) ?_ ?_ ?_; rotate_left 2; (intro w'; go_simp; with_reducible rfl); (simp only [Rg.pq, Rg.pz, Rg.ps]; rfl)
  refine Rg.s_call (N := some 39) rfl rfl Tryd.func12 (by kernel_rfl) rfl #[.agg #[.slice none 0 0, .slice none 0 0, .slice none 0 0]] (by rfl) rfl (by (try simp only [List.map_toArray, List.map_cons, List.map_nil]); first | done | rfl) ?_
  refine (valid_calls none 0 [] none 0 [] none 0 [] _ ((HG.out.below HBd.out).below hd7.out) (Kd.C_nil _ _) (Kd.C_nil _ _) (Kd.C_nil _ _) (by decide) (by decide) (by decide) (by decide) mem_nil mem_nil mem_nil (fun _ _ _ => by show (0 : Nat) ≤ _; decide)).mono ?_
  rintro e v8 ⟨rfl, hc⟩
  rw [ex_valid0]
  have hd8 := Lib.hid (below_next hd7.out (Nat.le_refl _) hc)
  have hS8 := hS7.below hc
  clear hc hS7
  refine ⟨hS8, ?_⟩
  refine Rg.s_norm (a' := ?_) ?_ ?_; rotate_left; (simp only [Act.put, List.setIfInBounds_toArray, List.set_cons_zero, List.set_cons_succ]; rfl)
  refine Rg.p 40 ?_ ?_ rfl rfl (fun _ _ _ h => h) (by rfl) ?_ ?_ ?_; rotate_left 2; (intro w'; go_simp; with_reducible rfl); (simp only [Rg.pq, Rg.pz, Rg.ps]; rfl)
  refine Rg.p 0 ?_ ?_ rfl rfl (fun _ _ _ h => h) (by rfl) ?_ ?_ ?_; rotate_left 2; (intro w'; go_simp; with_reducible rfl); (simp only [Rg.pq, Rg.pz, Rg.ps]; rfl)
  refine Rg.s_done ?_
  go_wp2_with fail
  go_ret
  exact ⟨rfl, HBd.out.trans (hd8.out.mono HBd.out.size)⟩
end Go.Proofs.YtlhnfgnihakcfaaDoor.Ax
