import Derived.Test.YtlhnfgnihakcfaaDoorZA9
import Derived.Test.YtlhnfgnihakcfaaDoorZA7
import Derived.Test.YtlhnfgnihakcfaaDoorZA5
set_option linter.unusedSimpArgs false
set_option linter.unusedVariables false
namespace Go.Proofs.YtlhnfgnihakcfaaDoor.Ax
open Go.RowKit Hp Kn
open Go.Proofs.YtlhnfgnihakcfaaDoorW.PrintWords Go.Proofs.YtlhnfgnihakcfaaDoorW.PrintLast Go.Proofs.YtlhnfgnihakcfaaDoorW.PrintMore
def RSt (n : Nat) : Prop := ∀ (x : S64), OkS x → ∀ (level : Int), level = 25 - (n : Int) → 0 ≤ level → ∀ (A2 : Option Addr) (c2 : Nat) (A3 : Option Addr) (c3 : Nat) (A4 : Option Addr) (c4 : Nat) (w : World), SHold x A2 c2 A3 c3 A4 c4 w →
  Calls Tryd.prog 57 #[stV A2 c2 A3 c3 A4 c4 x, .int .i64 level] w fun e w' => e = .returned (.bool (stmtB n x)) ∧ Below w.heap.size w w'
def RBd (n : Nat) : Prop := ∀ (l : List S64), (∀ y ∈ l, OkS y) → l.length ≤ 140737488351232 → ∀ (level : Int), level = 25 - (n : Int) → 0 ≤ level → ∀ (A : Option Addr) (c : Nat) (w : World), Kd.C k64 w A l.length l → l.length ≤ c →
  Calls Tryd.prog 31 #[.slice A l.length c, .int .i64 level] w fun e w' => e = .returned (.bool (l.all (stmtB n))) ∧ Below w.heap.size w w'
set_option maxRecDepth 100000 in
theorem rstmts_step (n : Nat) (IH : RSt n) : RBd n := by
  intro l hO hlen level hlv h0 A c w hC hc
  have HC := Lib.hid hC
  have HI := Lib.hid IH
  have HO := Lib.hid hO
  have HV := Lib.hid (And.intro hlv h0)
  have HB := Lib.hid (Below.refl w.heap.size w)
  clear hC IH hO hlv h0
  go_enter Tryd.func31, Tryd.ntmps31
  go_wp2
  go_loopw [5] (fun i wr => ∃ k : Nat, k ≤ l.length ∧ i = .int .i64 k ∧ Hid (∀ (j : Nat) a, j < k → l[j]? = some a → stmtB n a = true) ∧ Hid (Below w.heap.size w wr)) (fun i _ => l.length - (intOf i).toNat)
  case atStart => exact ⟨0, by omega, rfl, Lib.hid (fun j a h => absurd h (by omega)), Lib.hid HB.out⟩
  case round =>
    obtain ⟨k, hk, rfl, hst, hb⟩ := hrel
    by_cases hlt : k < l.length
    · have hi1 : (k : Int) < (l.length : Int) := by omega
      obtain ⟨ad, rfl⟩ := some_addrS HC.out (by omega)
      obtain ⟨x, hx⟩ : ∃ x, l[k]? = some x := ⟨_, List.getElem?_eq_getElem hlt⟩
      obtain ⟨A2, c2, A3, c3, A4, c4, xE, xH⟩ := stm_at (Kd.C_below HC.out hb.out) k hx
      have HH := Lib.hid (And.intro hx xH)
      clear hx xH
      obtain ⟨x0, x1, x2, x3, x4⟩ := xE
      go_wp2_with fail
      refine (HI.out x (HO.out x (List.mem_of_getElem? HH.out.1)) level HV.out.1 HV.out.2 A2 c2 A3 c3 A4 c4 _ HH.out.2).mono ?_
      rintro e w2 ⟨rfl, hd⟩
      clear x0 x1 x2 x3 x4
      have HN := Lib.hid (below_next hb.out (Nat.le_refl _) hd)
      clear hd
      cases hp : stmtB n x with
      | false =>
        go_wp2_with fail
        go_ret
        exact ⟨by rw [all_false_at HH.out.1 hp]; rfl, HN.out⟩
      | true =>
        go_wp2_with fail
        go_roundw
        case rel =>
          refine ⟨k + 1, by omega, by go_num, Lib.hid (fun j u hj hu => ?_), HN⟩
          rcases Nat.lt_or_ge j k with h | h
          · exact hst.out j u h hu
          · obtain rfl : j = k := by omega
            have h1 := HH.out.1
            rw [hu] at h1
            cases h1
            exact hp
        case measure => simp [intOf]; omega
    · go_wp2_with fail
      go_ret
      exact ⟨by rw [all_true_at (fun j u h => hst.out j u (by have := (List.getElem?_eq_some_iff.1 h).1; omega) h)]; rfl, hb.out⟩
set_option maxRecDepth 100000 in
theorem rstmt_deep (x : S64) (A2 : Option Addr) (c2 : Nat) (A3 : Option Addr) (c3 : Nat) (A4 : Option Addr) (c4 : Nat) (level : Int) (w : World) (h : decide (24 < level) = true) : Calls Tryd.prog 57 #[stV A2 c2 A3 c3 A4 c4 x, .int .i64 level] w fun e w' => e = .returned (.bool false) ∧ Below w.heap.size w w' := by
  have HB := Lib.hid ((Below.refl w.heap.size w).alloc (Nat.le_refl _) (.cells #[.int .i64 x.f0, .string x.f1, .slice A2 x.f2.length c2, .slice A3 x.f3.length c3, .slice A4 x.f4.length c4] 64))
  have HS := Lib.hid (show S5 w.heap.size x A2 c2 A3 c3 A4 c4 (w.alloc (.cells #[.int .i64 x.f0, .string x.f1, .slice A2 x.f2.length c2, .slice A3 x.f3.length c3, .slice A4 x.f4.length c4] 64)) from SBox.cells (Blk.alloc_new w [.int .i64 x.f0, .string x.f1, .slice A2 x.f2.length c2, .slice A3 x.f3.length c3, .slice A4 x.f4.length c4] 64))
  obtain ⟨x0, x1, x2, x3, x4⟩ := HS.out
  go_enter Tryd.func57, Tryd.ntmps57
  unfold stV
  go_wp2_with fail
  go_ret
  exact ⟨rfl, HB.out⟩
set_option maxRecDepth 100000 in
theorem rstmt_low (x : S64) (A2 : Option Addr) (c2 : Nat) (A3 : Option Addr) (c3 : Nat) (A4 : Option Addr) (c4 : Nat) (level : Int) (w : World) (h : decide (24 < level) = false) (g1 : decide (x.f0 < 1) = true) : Calls Tryd.prog 57 #[stV A2 c2 A3 c3 A4 c4 x, .int .i64 level] w fun e w' => e = .returned (.bool false) ∧ Below w.heap.size w w' := by
  have HB := Lib.hid ((Below.refl w.heap.size w).alloc (Nat.le_refl _) (.cells #[.int .i64 x.f0, .string x.f1, .slice A2 x.f2.length c2, .slice A3 x.f3.length c3, .slice A4 x.f4.length c4] 64))
  have HS := Lib.hid (show S5 w.heap.size x A2 c2 A3 c3 A4 c4 (w.alloc (.cells #[.int .i64 x.f0, .string x.f1, .slice A2 x.f2.length c2, .slice A3 x.f3.length c3, .slice A4 x.f4.length c4] 64)) from SBox.cells (Blk.alloc_new w [.int .i64 x.f0, .string x.f1, .slice A2 x.f2.length c2, .slice A3 x.f3.length c3, .slice A4 x.f4.length c4] 64))
  obtain ⟨x0, x1, x2, x3, x4⟩ := HS.out
  go_enter Tryd.func57, Tryd.ntmps57
  unfold stV
  go_wp2_with fail
  go_ret
  exact ⟨rfl, HB.out⟩
set_option maxRecDepth 100000 in
theorem rstmt_high (x : S64) (A2 : Option Addr) (c2 : Nat) (A3 : Option Addr) (c3 : Nat) (A4 : Option Addr) (c4 : Nat) (level : Int) (w : World) (h : decide (24 < level) = false) (g1 : decide (x.f0 < 1) = false) (g2 : decide (5 < x.f0) = true) : Calls Tryd.prog 57 #[stV A2 c2 A3 c3 A4 c4 x, .int .i64 level] w fun e w' => e = .returned (.bool false) ∧ Below w.heap.size w w' := by
  have HB := Lib.hid ((Below.refl w.heap.size w).alloc (Nat.le_refl _) (.cells #[.int .i64 x.f0, .string x.f1, .slice A2 x.f2.length c2, .slice A3 x.f3.length c3, .slice A4 x.f4.length c4] 64))
  have HS := Lib.hid (show S5 w.heap.size x A2 c2 A3 c3 A4 c4 (w.alloc (.cells #[.int .i64 x.f0, .string x.f1, .slice A2 x.f2.length c2, .slice A3 x.f3.length c3, .slice A4 x.f4.length c4] 64)) from SBox.cells (Blk.alloc_new w [.int .i64 x.f0, .string x.f1, .slice A2 x.f2.length c2, .slice A3 x.f3.length c3, .slice A4 x.f4.length c4] 64))
  obtain ⟨x0, x1, x2, x3, x4⟩ := HS.out
  go_enter Tryd.func57, Tryd.ntmps57
  unfold stV
  go_wp2_with fail
  go_ret
  exact ⟨rfl, HB.out⟩
set_option maxRecDepth 100000 in
set_option maxHeartbeats 2000000 in
theorem rstmt1 (n : Nat) (x : S64) (A2 : Option Addr) (c2 : Nat) (A3 : Option Addr) (c3 : Nat) (A4 : Option Addr) (c4 : Nat) (level : Int) (w : World) (hlv : level = 24 - (n : Int)) (hl0 : 0 ≤ level) (hO : OkS x) (hH : SHold x A2 c2 A3 c3 A4 c4 w) (IH : RBd n) (hf : x.f0 = 1) (r : Bool) (hr : shapeS x = r) :
    Calls Tryd.prog 57 #[stV A2 c2 A3 c3 A4 c4 x, .int .i64 level] w fun e w' => e = .returned (.bool (r && (x.f2.all (exprB n) && x.f3.all (stmtB n) && x.f4.all (stmtB n)))) ∧ Below w.heap.size w w' := by
  have hl : decide (24 < level) = false := by simp; omega
  have hl1 : level ≤ 24 := by omega
  have HF := Lib.hid hf
  have HH := Lib.hid hH
  have HI := Lib.hid IH
  have HO := Lib.hid hO
  have HV := Lib.hid hlv
  have HR := Lib.hid (hr ▸ scls_1 hf)
  clear hf hH IH hO hlv hr
  have HB := Lib.hid ((Below.refl w.heap.size w).alloc (Nat.le_refl _) (.cells #[.int .i64 x.f0, .string x.f1, .slice A2 x.f2.length c2, .slice A3 x.f3.length c3, .slice A4 x.f4.length c4] 64))
  have HS := Lib.hid (show S5 w.heap.size x A2 c2 A3 c3 A4 c4 (w.alloc (.cells #[.int .i64 x.f0, .string x.f1, .slice A2 x.f2.length c2, .slice A3 x.f3.length c3, .slice A4 x.f4.length c4] 64)) from SBox.cells (Blk.alloc_new w [.int .i64 x.f0, .string x.f1, .slice A2 x.f2.length c2, .slice A3 x.f3.length c3, .slice A4 x.f4.length c4] 64))
  obtain ⟨x0, x1, x2, x3, x4⟩ := HS.out
  go_enter Tryd.func57, Tryd.ntmps57
  unfold stV
  have g1 : decide (x.f0 < 1) = false := by rw [HF.out]; rfl
  have g2 : decide (5 < x.f0) = false := by rw [HF.out]; rfl
  have e2 : (x.f0 == 2) = false := by rw [HF.out]; rfl
  have e4 : (x.f0 == 4) = false := by rw [HF.out]; rfl
  have n3 : (x.f0 != 3) = true := by rw [HF.out]; rfl
  have n5 : (x.f0 != 5) = true := by rw [HF.out]; rfl
  have n4 : (x.f0 != 4) = true := by rw [HF.out]; rfl
  cases t0 : ((x.f2.length : Int) != 1) with
  | true =>
    have HN := Lib.hid (no_of HR.out fun h => Bool.noConfusion (t0.symm.trans h.1))
    go_wp2_with fail
    go_ret
    exact ⟨by rw [HN.out]; rfl, HB.out⟩
  | false =>
  have HL := Lib.hid (show x.f2.length = 1 from by simp at t0; omega)
  go_wp2_with fail
  refine (Pi.rIsName_calls x.f1 _).mono ?_
  rintro e w3 ⟨rfl, hc⟩
  have HS3 := Lib.hid (HS.out.up hc)
  have HB3 := Lib.hid (below_next HB.out (by simp) hc)
  clear hc x0 x1 x2 x3 x4 HS HB
  have HB := HB3
  have HS := HS3
  clear HB3 HS3
  obtain ⟨x0, x1, x2, x3, x4⟩ := HS.out
  cases t1 : Px.isName x.f1.data.toList with
  | false =>
    have HN := Lib.hid (no_of HR.out fun h => Bool.noConfusion (t1.symm.trans h.2.1))
    go_wp2_with fail
    go_ret
    exact ⟨by rw [HN.out]; rfl, HB.out⟩
  | true =>
  cases t2 : x.f4.isEmpty with
  | false =>
    have HN := Lib.hid (no_of HR.out fun h => Bool.noConfusion (t2.symm.trans h.2.2.1))
    have t2p : 0 < x.f4.length := List.length_pos_iff.2 (List.isEmpty_eq_false_iff.1 t2)
    go_wp2_with fail
    go_ret
    exact ⟨by rw [HN.out]; rfl, HB.out⟩
  | true =>
  have t2p : ¬ 0 < x.f4.length := by rw [List.isEmpty_iff.1 t2]; simp
  have t2k := Lib.hid t2
  clear t2
  cases t3 : x.f3.isEmpty with
  | false =>
    have HN := Lib.hid (no_of HR.out fun h => Bool.noConfusion (t3.symm.trans h.2.2.2))
    have t3p : 0 < x.f3.length := List.length_pos_iff.2 (List.isEmpty_eq_false_iff.1 t3)
    go_wp2_with fail
    go_ret
    exact ⟨by rw [HN.out]; rfl, HB.out⟩
  | true =>
  have t3p : ¬ 0 < x.f3.length := by rw [List.isEmpty_iff.1 t3]; simp
  have t3k := Lib.hid t3
  clear t3
  have HN := Lib.hid (HR.out.2 ⟨t0, t1, t2k.out, t3k.out⟩)
  go_wp2
  clear hl
  clear e2 e4 n3 n5 n4 g1 g2 t0 t1 t2p t3p x0 x1 x2 x3 x4
  go_loopw [7] (fun i wr => ∃ k : Nat, k ≤ 1 ∧ i = .int .i64 k ∧ Hid (∀ (j : Nat) a, j < k → x.f2[j]? = some a → exprB n a = true) ∧ Hid (Below w.heap.size w wr ∧ S5 w.heap.size x A2 c2 A3 c3 A4 c4 wr)) (fun i _ => 1 - (intOf i).toNat)
  case atStart => exact ⟨0, by omega, rfl, Lib.hid (fun j a h => absurd h (by omega)), Lib.hid ⟨HB.out, HS.out⟩⟩
  case round =>
    clear HB HS
    obtain ⟨k, hk, rfl, hst, hb⟩ := hrel
    obtain ⟨x0, x1, x2, x3, x4⟩ := hb.out.2
    by_cases hlt : k < 1
    · have hlt2 : k < x.f2.length := by have := HL.out; omega
      have hi0 : (k : Int) < 1 := by omega
      have hi1 : (k : Int) < (x.f2.length : Int) := by omega
      have hle : x.f2.length ≤ 140737488351232 := by have := HL.out; omega
      obtain ⟨ad, rfl⟩ := some_addr HH.out.2.1 (by omega)
      obtain ⟨a, ha⟩ : ∃ a, x.f2[k]? = some a := ⟨_, List.getElem?_eq_getElem hlt2⟩
      obtain ⟨aA, ac, aE, al, aC⟩ := kid_at (Kd.C_below HH.out.2.1 hb.out.1) k ha
      have HK := Lib.hid (And.intro ha (And.intro al aC))
      clear ha al aC
      obtain ⟨a0, a1, a2, a3, a4⟩ := aE
      go_wp2_with fail
      refine (rexpr_calls n a (level + 1) (by have := HV.out; omega) (by omega) aA ac _ HK.out.2.2 HK.out.2.1).mono ?_
      rintro e w4 ⟨rfl, hc⟩
      clear x0 x1 x2 x3 x4 a0 a1 a2 a3 a4
      have HG := Lib.hid (below_next hb.out.1 (Nat.le_refl _) hc)
      have HM := Lib.hid (hb.out.2.up hc)
      clear hc
      cases hp : exprB n a with
      | false =>
        go_wp2_with fail
        go_ret
        exact ⟨by rw [HN.out, all_false_at HK.out.1 hp]; rfl, HG.out⟩
      | true =>
        go_wp2_with fail
        go_roundw
        case rel =>
          refine ⟨k + 1, by omega, by go_num, Lib.hid (fun j u hj hu => ?_), Lib.hid ⟨HG.out, HM.out⟩⟩
          rcases Nat.lt_or_ge j k with h | h
          · exact hst.out j u h hu
          · obtain rfl : j = k := by omega
            have h1 := HK.out.1
            rw [hu] at h1
            cases h1
            exact hp
        case measure => simp [intOf]; omega
    · have hni : ¬ (k : Int) < 1 := by omega
      have HA := Lib.hid (all_true_at (l := x.f2) (p := exprB n) (fun j u h => hst.out j u (by have := (List.getElem?_eq_some_iff.1 h).1; have := HL.out; omega) h))
      go_wp2_with fail
      refine (HI.out x.f3 (by cases HO.out; assumption) (by cases HO.out; assumption) (level + 1) (by have := HV.out; omega) (by omega) A3 c3 _ (Kd.C_below HH.out.2.2.2.1 hb.out.1) HH.out.2.2.1).mono ?_
      rintro e w5 ⟨rfl, hc⟩
      clear x0 x1 x2 x3 x4
      have HG := Lib.hid (below_next hb.out.1 (Nat.le_refl _) hc)
      have HM := Lib.hid (hb.out.2.up hc)
      clear hc
      obtain ⟨x0, x1, x2, x3, x4⟩ := HM.out
      cases hp : x.f3.all (stmtB n) with
      | false =>
        go_wp2_with fail
        go_ret
        exact ⟨by first | (rw [HN.out, HA.out, hp]; rfl) | (rw [HN.out, HA.out]; rfl), HG.out⟩
      | true =>
        go_wp2_with fail
        refine (HI.out x.f4 (by cases HO.out; assumption) (by cases HO.out; assumption) (level + 1) (by have := HV.out; omega) (by omega) A4 c4 _ (Kd.C_below HH.out.2.2.2.2.2 HG.out) HH.out.2.2.2.2.1).mono ?_
        rintro e w6 ⟨rfl, hc⟩
        clear x0 x1 x2 x3 x4
        have HG2 := Lib.hid (below_next HG.out (Nat.le_refl _) hc)
        clear hc
        cases hp2 : x.f4.all (stmtB n) with
        | false =>
          go_wp2_with fail
          go_ret
          exact ⟨by first | (rw [HN.out, HA.out, hp, hp2]; rfl) | (rw [HN.out, HA.out, hp]; rfl) | (rw [HN.out, HA.out]; rfl), HG2.out⟩
        | true =>
          go_wp2_with fail
          go_ret
          exact ⟨by first | (rw [HN.out, HA.out, hp, hp2]; rfl) | (rw [HN.out, HA.out, hp]; rfl) | (rw [HN.out, HA.out]; rfl), HG2.out⟩
set_option maxRecDepth 100000 in
set_option maxHeartbeats 2000000 in
theorem rstmt2 (n : Nat) (x : S64) (A2 : Option Addr) (c2 : Nat) (A3 : Option Addr) (c3 : Nat) (A4 : Option Addr) (c4 : Nat) (level : Int) (w : World) (hlv : level = 24 - (n : Int)) (hl0 : 0 ≤ level) (hO : OkS x) (hH : SHold x A2 c2 A3 c3 A4 c4 w) (IH : RBd n) (hf : x.f0 = 2) (r : Bool) (hr : shapeS x = r) :
    Calls Tryd.prog 57 #[stV A2 c2 A3 c3 A4 c4 x, .int .i64 level] w fun e w' => e = .returned (.bool (r && (x.f2.all (exprB n) && x.f3.all (stmtB n) && x.f4.all (stmtB n)))) ∧ Below w.heap.size w w' := by
  have hl : decide (24 < level) = false := by simp; omega
  have hl1 : level ≤ 24 := by omega
  have HF := Lib.hid hf
  have HH := Lib.hid hH
  have HI := Lib.hid IH
  have HO := Lib.hid hO
  have HV := Lib.hid hlv
  have HR := Lib.hid (hr ▸ scls_2 hf)
  clear hf hH IH hO hlv hr
  have HB := Lib.hid ((Below.refl w.heap.size w).alloc (Nat.le_refl _) (.cells #[.int .i64 x.f0, .string x.f1, .slice A2 x.f2.length c2, .slice A3 x.f3.length c3, .slice A4 x.f4.length c4] 64))
  have HS := Lib.hid (show S5 w.heap.size x A2 c2 A3 c3 A4 c4 (w.alloc (.cells #[.int .i64 x.f0, .string x.f1, .slice A2 x.f2.length c2, .slice A3 x.f3.length c3, .slice A4 x.f4.length c4] 64)) from SBox.cells (Blk.alloc_new w [.int .i64 x.f0, .string x.f1, .slice A2 x.f2.length c2, .slice A3 x.f3.length c3, .slice A4 x.f4.length c4] 64))
  obtain ⟨x0, x1, x2, x3, x4⟩ := HS.out
  go_enter Tryd.func57, Tryd.ntmps57
  unfold stV
  have g1 : decide (x.f0 < 1) = false := by rw [HF.out]; rfl
  have g2 : decide (5 < x.f0) = false := by rw [HF.out]; rfl
  have e2 : (x.f0 == 2) = true := by rw [HF.out]; rfl
  have e4 : (x.f0 == 4) = false := by rw [HF.out]; rfl
  have n3 : (x.f0 != 3) = true := by rw [HF.out]; rfl
  have n5 : (x.f0 != 5) = true := by rw [HF.out]; rfl
  have n4 : (x.f0 != 4) = true := by rw [HF.out]; rfl
  cases t0 : ((x.f2.length : Int) != 2) with
  | true =>
    have HN := Lib.hid (no_of HR.out fun h => Bool.noConfusion (t0.symm.trans h.1))
    go_wp2_with fail
    go_ret
    exact ⟨by rw [HN.out]; rfl, HB.out⟩
  | false =>
  have HL := Lib.hid (show x.f2.length = 2 from by simp at t0; omega)
  go_wp2_with fail
  refine (Pi.rIsName_calls x.f1 _).mono ?_
  rintro e w3 ⟨rfl, hc⟩
  have HS3 := Lib.hid (HS.out.up hc)
  have HB3 := Lib.hid (below_next HB.out (by simp) hc)
  clear hc x0 x1 x2 x3 x4 HS HB
  have HB := HB3
  have HS := HS3
  clear HB3 HS3
  obtain ⟨x0, x1, x2, x3, x4⟩ := HS.out
  cases t1 : Px.isName x.f1.data.toList with
  | false =>
    have HN := Lib.hid (no_of HR.out fun h => Bool.noConfusion (t1.symm.trans h.2.1))
    go_wp2_with fail
    go_ret
    exact ⟨by rw [HN.out]; rfl, HB.out⟩
  | true =>
  cases t2 : x.f4.isEmpty with
  | false =>
    have HN := Lib.hid (no_of HR.out fun h => Bool.noConfusion (t2.symm.trans h.2.2.1))
    have t2p : 0 < x.f4.length := List.length_pos_iff.2 (List.isEmpty_eq_false_iff.1 t2)
    go_wp2_with fail
    go_ret
    exact ⟨by rw [HN.out]; rfl, HB.out⟩
  | true =>
  have t2p : ¬ 0 < x.f4.length := by rw [List.isEmpty_iff.1 t2]; simp
  have t2k := Lib.hid t2
  clear t2
  cases t3 : x.f3.isEmpty with
  | false =>
    have HN := Lib.hid (no_of HR.out fun h => Bool.noConfusion (t3.symm.trans h.2.2.2))
    have t3p : 0 < x.f3.length := List.length_pos_iff.2 (List.isEmpty_eq_false_iff.1 t3)
    go_wp2_with fail
    go_ret
    exact ⟨by rw [HN.out]; rfl, HB.out⟩
  | true =>
  have t3p : ¬ 0 < x.f3.length := by rw [List.isEmpty_iff.1 t3]; simp
  have t3k := Lib.hid t3
  clear t3
  have HN := Lib.hid (HR.out.2 ⟨t0, t1, t2k.out, t3k.out⟩)
  go_wp2
  clear hl
  clear e2 e4 n3 n5 n4 g1 g2 t0 t1 t2p t3p x0 x1 x2 x3 x4
  go_loopw [7] (fun i wr => ∃ k : Nat, k ≤ 2 ∧ i = .int .i64 k ∧ Hid (∀ (j : Nat) a, j < k → x.f2[j]? = some a → exprB n a = true) ∧ Hid (Below w.heap.size w wr ∧ S5 w.heap.size x A2 c2 A3 c3 A4 c4 wr)) (fun i _ => 2 - (intOf i).toNat)
  case atStart => exact ⟨0, by omega, rfl, Lib.hid (fun j a h => absurd h (by omega)), Lib.hid ⟨HB.out, HS.out⟩⟩
  case round =>
    clear HB HS
    obtain ⟨k, hk, rfl, hst, hb⟩ := hrel
    obtain ⟨x0, x1, x2, x3, x4⟩ := hb.out.2
    by_cases hlt : k < 2
    · have hlt2 : k < x.f2.length := by have := HL.out; omega
      have hi0 : (k : Int) < 2 := by omega
      have hi1 : (k : Int) < (x.f2.length : Int) := by omega
      have hle : x.f2.length ≤ 140737488351232 := by have := HL.out; omega
      obtain ⟨ad, rfl⟩ := some_addr HH.out.2.1 (by omega)
      obtain ⟨a, ha⟩ : ∃ a, x.f2[k]? = some a := ⟨_, List.getElem?_eq_getElem hlt2⟩
      obtain ⟨aA, ac, aE, al, aC⟩ := kid_at (Kd.C_below HH.out.2.1 hb.out.1) k ha
      have HK := Lib.hid (And.intro ha (And.intro al aC))
      clear ha al aC
      obtain ⟨a0, a1, a2, a3, a4⟩ := aE
      go_wp2_with fail
      refine (rexpr_calls n a (level + 1) (by have := HV.out; omega) (by omega) aA ac _ HK.out.2.2 HK.out.2.1).mono ?_
      rintro e w4 ⟨rfl, hc⟩
      clear x0 x1 x2 x3 x4 a0 a1 a2 a3 a4
      have HG := Lib.hid (below_next hb.out.1 (Nat.le_refl _) hc)
      have HM := Lib.hid (hb.out.2.up hc)
      clear hc
      cases hp : exprB n a with
      | false =>
        go_wp2_with fail
        go_ret
        exact ⟨by rw [HN.out, all_false_at HK.out.1 hp]; rfl, HG.out⟩
      | true =>
        go_wp2_with fail
        go_roundw
        case rel =>
          refine ⟨k + 1, by omega, by go_num, Lib.hid (fun j u hj hu => ?_), Lib.hid ⟨HG.out, HM.out⟩⟩
          rcases Nat.lt_or_ge j k with h | h
          · exact hst.out j u h hu
          · obtain rfl : j = k := by omega
            have h1 := HK.out.1
            rw [hu] at h1
            cases h1
            exact hp
        case measure => simp [intOf]; omega
    · have hni : ¬ (k : Int) < 2 := by omega
      have HA := Lib.hid (all_true_at (l := x.f2) (p := exprB n) (fun j u h => hst.out j u (by have := (List.getElem?_eq_some_iff.1 h).1; have := HL.out; omega) h))
      go_wp2_with fail
      refine (HI.out x.f3 (by cases HO.out; assumption) (by cases HO.out; assumption) (level + 1) (by have := HV.out; omega) (by omega) A3 c3 _ (Kd.C_below HH.out.2.2.2.1 hb.out.1) HH.out.2.2.1).mono ?_
      rintro e w5 ⟨rfl, hc⟩
      clear x0 x1 x2 x3 x4
      have HG := Lib.hid (below_next hb.out.1 (Nat.le_refl _) hc)
      have HM := Lib.hid (hb.out.2.up hc)
      clear hc
      obtain ⟨x0, x1, x2, x3, x4⟩ := HM.out
      cases hp : x.f3.all (stmtB n) with
      | false =>
        go_wp2_with fail
        go_ret
        exact ⟨by first | (rw [HN.out, HA.out, hp]; rfl) | (rw [HN.out, HA.out]; rfl), HG.out⟩
      | true =>
        go_wp2_with fail
        refine (HI.out x.f4 (by cases HO.out; assumption) (by cases HO.out; assumption) (level + 1) (by have := HV.out; omega) (by omega) A4 c4 _ (Kd.C_below HH.out.2.2.2.2.2 HG.out) HH.out.2.2.2.2.1).mono ?_
        rintro e w6 ⟨rfl, hc⟩
        clear x0 x1 x2 x3 x4
        have HG2 := Lib.hid (below_next HG.out (Nat.le_refl _) hc)
        clear hc
        cases hp2 : x.f4.all (stmtB n) with
        | false =>
          go_wp2_with fail
          go_ret
          exact ⟨by first | (rw [HN.out, HA.out, hp, hp2]; rfl) | (rw [HN.out, HA.out, hp]; rfl) | (rw [HN.out, HA.out]; rfl), HG2.out⟩
        | true =>
          go_wp2_with fail
          go_ret
          exact ⟨by first | (rw [HN.out, HA.out, hp, hp2]; rfl) | (rw [HN.out, HA.out, hp]; rfl) | (rw [HN.out, HA.out]; rfl), HG2.out⟩
set_option maxRecDepth 100000 in
set_option maxHeartbeats 2000000 in
theorem rstmt3 (n : Nat) (x : S64) (A2 : Option Addr) (c2 : Nat) (A3 : Option Addr) (c3 : Nat) (A4 : Option Addr) (c4 : Nat) (level : Int) (w : World) (hlv : level = 24 - (n : Int)) (hl0 : 0 ≤ level) (hO : OkS x) (hH : SHold x A2 c2 A3 c3 A4 c4 w) (IH : RBd n) (hf : x.f0 = 3) (r : Bool) (hr : shapeS x = r) :
    Calls Tryd.prog 57 #[stV A2 c2 A3 c3 A4 c4 x, .int .i64 level] w fun e w' => e = .returned (.bool (r && (x.f2.all (exprB n) && x.f3.all (stmtB n) && x.f4.all (stmtB n)))) ∧ Below w.heap.size w w' := by
  have hl : decide (24 < level) = false := by simp; omega
  have hl1 : level ≤ 24 := by omega
  have HF := Lib.hid hf
  have HH := Lib.hid hH
  have HI := Lib.hid IH
  have HO := Lib.hid hO
  have HV := Lib.hid hlv
  have HR := Lib.hid (hr ▸ scls_3 hf)
  clear hf hH IH hO hlv hr
  have HB := Lib.hid ((Below.refl w.heap.size w).alloc (Nat.le_refl _) (.cells #[.int .i64 x.f0, .string x.f1, .slice A2 x.f2.length c2, .slice A3 x.f3.length c3, .slice A4 x.f4.length c4] 64))
  have HS := Lib.hid (show S5 w.heap.size x A2 c2 A3 c3 A4 c4 (w.alloc (.cells #[.int .i64 x.f0, .string x.f1, .slice A2 x.f2.length c2, .slice A3 x.f3.length c3, .slice A4 x.f4.length c4] 64)) from SBox.cells (Blk.alloc_new w [.int .i64 x.f0, .string x.f1, .slice A2 x.f2.length c2, .slice A3 x.f3.length c3, .slice A4 x.f4.length c4] 64))
  obtain ⟨x0, x1, x2, x3, x4⟩ := HS.out
  go_enter Tryd.func57, Tryd.ntmps57
  unfold stV
  have g1 : decide (x.f0 < 1) = false := by rw [HF.out]; rfl
  have g2 : decide (5 < x.f0) = false := by rw [HF.out]; rfl
  have e2 : (x.f0 == 2) = false := by rw [HF.out]; rfl
  have e4 : (x.f0 == 4) = false := by rw [HF.out]; rfl
  have n3 : (x.f0 != 3) = false := by rw [HF.out]; rfl
  have n5 : (x.f0 != 5) = true := by rw [HF.out]; rfl
  have n4 : (x.f0 != 4) = true := by rw [HF.out]; rfl
  cases t0 : ((x.f2.length : Int) != 1) with
  | true =>
    have HN := Lib.hid (no_of HR.out fun h => Bool.noConfusion (t0.symm.trans h.1))
    go_wp2_with fail
    go_ret
    exact ⟨by rw [HN.out]; rfl, HB.out⟩
  | false =>
  have HL := Lib.hid (show x.f2.length = 1 from by simp at t0; omega)
  cases t1 : x.f1.toList.isEmpty with
  | false =>
    have HN := Lib.hid (no_of HR.out fun h => Bool.noConfusion (t1.symm.trans h.2))
    go_wp2_with fail
    go_ret
    exact ⟨by rw [HN.out]; rfl, HB.out⟩
  | true =>
  have HN := Lib.hid (HR.out.2 ⟨t0, t1⟩)
  go_wp2
  clear hl
  clear e2 e4 n3 n5 n4 g1 g2 t0 t1 x0 x1 x2 x3 x4
  go_loopw [7] (fun i wr => ∃ k : Nat, k ≤ 1 ∧ i = .int .i64 k ∧ Hid (∀ (j : Nat) a, j < k → x.f2[j]? = some a → exprB n a = true) ∧ Hid (Below w.heap.size w wr ∧ S5 w.heap.size x A2 c2 A3 c3 A4 c4 wr)) (fun i _ => 1 - (intOf i).toNat)
  case atStart => exact ⟨0, by omega, rfl, Lib.hid (fun j a h => absurd h (by omega)), Lib.hid ⟨HB.out, HS.out⟩⟩
  case round =>
    clear HB HS
    obtain ⟨k, hk, rfl, hst, hb⟩ := hrel
    obtain ⟨x0, x1, x2, x3, x4⟩ := hb.out.2
    by_cases hlt : k < 1
    · have hlt2 : k < x.f2.length := by have := HL.out; omega
      have hi0 : (k : Int) < 1 := by omega
      have hi1 : (k : Int) < (x.f2.length : Int) := by omega
      have hle : x.f2.length ≤ 140737488351232 := by have := HL.out; omega
      obtain ⟨ad, rfl⟩ := some_addr HH.out.2.1 (by omega)
      obtain ⟨a, ha⟩ : ∃ a, x.f2[k]? = some a := ⟨_, List.getElem?_eq_getElem hlt2⟩
      obtain ⟨aA, ac, aE, al, aC⟩ := kid_at (Kd.C_below HH.out.2.1 hb.out.1) k ha
      have HK := Lib.hid (And.intro ha (And.intro al aC))
      clear ha al aC
      obtain ⟨a0, a1, a2, a3, a4⟩ := aE
      go_wp2_with fail
      refine (rexpr_calls n a (level + 1) (by have := HV.out; omega) (by omega) aA ac _ HK.out.2.2 HK.out.2.1).mono ?_
      rintro e w4 ⟨rfl, hc⟩
      clear x0 x1 x2 x3 x4 a0 a1 a2 a3 a4
      have HG := Lib.hid (below_next hb.out.1 (Nat.le_refl _) hc)
      have HM := Lib.hid (hb.out.2.up hc)
      clear hc
      cases hp : exprB n a with
      | false =>
        go_wp2_with fail
        go_ret
        exact ⟨by rw [HN.out, all_false_at HK.out.1 hp]; rfl, HG.out⟩
      | true =>
        go_wp2_with fail
        go_roundw
        case rel =>
          refine ⟨k + 1, by omega, by go_num, Lib.hid (fun j u hj hu => ?_), Lib.hid ⟨HG.out, HM.out⟩⟩
          rcases Nat.lt_or_ge j k with h | h
          · exact hst.out j u h hu
          · obtain rfl : j = k := by omega
            have h1 := HK.out.1
            rw [hu] at h1
            cases h1
            exact hp
        case measure => simp [intOf]; omega
    · have hni : ¬ (k : Int) < 1 := by omega
      have HA := Lib.hid (all_true_at (l := x.f2) (p := exprB n) (fun j u h => hst.out j u (by have := (List.getElem?_eq_some_iff.1 h).1; have := HL.out; omega) h))
      go_wp2_with fail
      refine (HI.out x.f3 (by cases HO.out; assumption) (by cases HO.out; assumption) (level + 1) (by have := HV.out; omega) (by omega) A3 c3 _ (Kd.C_below HH.out.2.2.2.1 hb.out.1) HH.out.2.2.1).mono ?_
      rintro e w5 ⟨rfl, hc⟩
      clear x0 x1 x2 x3 x4
      have HG := Lib.hid (below_next hb.out.1 (Nat.le_refl _) hc)
      have HM := Lib.hid (hb.out.2.up hc)
      clear hc
      obtain ⟨x0, x1, x2, x3, x4⟩ := HM.out
      cases hp : x.f3.all (stmtB n) with
      | false =>
        go_wp2_with fail
        go_ret
        exact ⟨by first | (rw [HN.out, HA.out, hp]; rfl) | (rw [HN.out, HA.out]; rfl), HG.out⟩
      | true =>
        go_wp2_with fail
        refine (HI.out x.f4 (by cases HO.out; assumption) (by cases HO.out; assumption) (level + 1) (by have := HV.out; omega) (by omega) A4 c4 _ (Kd.C_below HH.out.2.2.2.2.2 HG.out) HH.out.2.2.2.2.1).mono ?_
        rintro e w6 ⟨rfl, hc⟩
        clear x0 x1 x2 x3 x4
        have HG2 := Lib.hid (below_next HG.out (Nat.le_refl _) hc)
        clear hc
        cases hp2 : x.f4.all (stmtB n) with
        | false =>
          go_wp2_with fail
          go_ret
          exact ⟨by first | (rw [HN.out, HA.out, hp, hp2]; rfl) | (rw [HN.out, HA.out, hp]; rfl) | (rw [HN.out, HA.out]; rfl), HG2.out⟩
        | true =>
          go_wp2_with fail
          go_ret
          exact ⟨by first | (rw [HN.out, HA.out, hp, hp2]; rfl) | (rw [HN.out, HA.out, hp]; rfl) | (rw [HN.out, HA.out]; rfl), HG2.out⟩
set_option maxRecDepth 100000 in
set_option maxHeartbeats 2000000 in
theorem rstmt4 (n : Nat) (x : S64) (A2 : Option Addr) (c2 : Nat) (A3 : Option Addr) (c3 : Nat) (A4 : Option Addr) (c4 : Nat) (level : Int) (w : World) (hlv : level = 24 - (n : Int)) (hl0 : 0 ≤ level) (hO : OkS x) (hH : SHold x A2 c2 A3 c3 A4 c4 w) (IH : RBd n) (hf : x.f0 = 4) (r : Bool) (hr : shapeS x = r) :
    Calls Tryd.prog 57 #[stV A2 c2 A3 c3 A4 c4 x, .int .i64 level] w fun e w' => e = .returned (.bool (r && (x.f2.all (exprB n) && x.f3.all (stmtB n) && x.f4.all (stmtB n)))) ∧ Below w.heap.size w w' := by
  have hl : decide (24 < level) = false := by simp; omega
  have hl1 : level ≤ 24 := by omega
  have HF := Lib.hid hf
  have HH := Lib.hid hH
  have HI := Lib.hid IH
  have HO := Lib.hid hO
  have HV := Lib.hid hlv
  have HR := Lib.hid (hr ▸ scls_4 hf)
  clear hf hH IH hO hlv hr
  have HB := Lib.hid ((Below.refl w.heap.size w).alloc (Nat.le_refl _) (.cells #[.int .i64 x.f0, .string x.f1, .slice A2 x.f2.length c2, .slice A3 x.f3.length c3, .slice A4 x.f4.length c4] 64))
  have HS := Lib.hid (show S5 w.heap.size x A2 c2 A3 c3 A4 c4 (w.alloc (.cells #[.int .i64 x.f0, .string x.f1, .slice A2 x.f2.length c2, .slice A3 x.f3.length c3, .slice A4 x.f4.length c4] 64)) from SBox.cells (Blk.alloc_new w [.int .i64 x.f0, .string x.f1, .slice A2 x.f2.length c2, .slice A3 x.f3.length c3, .slice A4 x.f4.length c4] 64))
  obtain ⟨x0, x1, x2, x3, x4⟩ := HS.out
  go_enter Tryd.func57, Tryd.ntmps57
  unfold stV
  have g1 : decide (x.f0 < 1) = false := by rw [HF.out]; rfl
  have g2 : decide (5 < x.f0) = false := by rw [HF.out]; rfl
  have e2 : (x.f0 == 2) = false := by rw [HF.out]; rfl
  have e4 : (x.f0 == 4) = true := by rw [HF.out]; rfl
  have n3 : (x.f0 != 3) = true := by rw [HF.out]; rfl
  have n5 : (x.f0 != 5) = true := by rw [HF.out]; rfl
  have n4 : (x.f0 != 4) = false := by rw [HF.out]; rfl
  cases t0 : ((x.f2.length : Int) != 2) with
  | true =>
    have HN := Lib.hid (no_of HR.out fun h => Bool.noConfusion (t0.symm.trans h.1))
    go_wp2_with fail
    go_ret
    exact ⟨by rw [HN.out]; rfl, HB.out⟩
  | false =>
  have HL := Lib.hid (show x.f2.length = 2 from by simp at t0; omega)
  go_wp2_with fail
  refine (Pi.rIsName_calls x.f1 _).mono ?_
  rintro e w3 ⟨rfl, hc⟩
  have HS3 := Lib.hid (HS.out.up hc)
  have HB3 := Lib.hid (below_next HB.out (by simp) hc)
  clear hc x0 x1 x2 x3 x4 HS HB
  have HB := HB3
  have HS := HS3
  clear HB3 HS3
  obtain ⟨x0, x1, x2, x3, x4⟩ := HS.out
  cases t1 : Px.isName x.f1.data.toList with
  | false =>
    have HN := Lib.hid (no_of HR.out fun h => Bool.noConfusion (t1.symm.trans h.2.1))
    go_wp2_with fail
    go_ret
    exact ⟨by rw [HN.out]; rfl, HB.out⟩
  | true =>
  cases t2 : x.f4.isEmpty with
  | false =>
    have HN := Lib.hid (no_of HR.out fun h => Bool.noConfusion (t2.symm.trans h.2.2))
    have t2p : 0 < x.f4.length := List.length_pos_iff.2 (List.isEmpty_eq_false_iff.1 t2)
    go_wp2_with fail
    go_ret
    exact ⟨by rw [HN.out]; rfl, HB.out⟩
  | true =>
  have t2p : ¬ 0 < x.f4.length := by rw [List.isEmpty_iff.1 t2]; simp
  have t2k := Lib.hid t2
  clear t2
  have HN := Lib.hid (HR.out.2 ⟨t0, t1, t2k.out⟩)
  go_wp2
  clear hl
  clear e2 e4 n3 n5 n4 g1 g2 t0 t1 t2p x0 x1 x2 x3 x4
  go_loopw [7] (fun i wr => ∃ k : Nat, k ≤ 2 ∧ i = .int .i64 k ∧ Hid (∀ (j : Nat) a, j < k → x.f2[j]? = some a → exprB n a = true) ∧ Hid (Below w.heap.size w wr ∧ S5 w.heap.size x A2 c2 A3 c3 A4 c4 wr)) (fun i _ => 2 - (intOf i).toNat)
  case atStart => exact ⟨0, by omega, rfl, Lib.hid (fun j a h => absurd h (by omega)), Lib.hid ⟨HB.out, HS.out⟩⟩
  case round =>
    clear HB HS
    obtain ⟨k, hk, rfl, hst, hb⟩ := hrel
    obtain ⟨x0, x1, x2, x3, x4⟩ := hb.out.2
    by_cases hlt : k < 2
    · have hlt2 : k < x.f2.length := by have := HL.out; omega
      have hi0 : (k : Int) < 2 := by omega
      have hi1 : (k : Int) < (x.f2.length : Int) := by omega
      have hle : x.f2.length ≤ 140737488351232 := by have := HL.out; omega
      obtain ⟨ad, rfl⟩ := some_addr HH.out.2.1 (by omega)
      obtain ⟨a, ha⟩ : ∃ a, x.f2[k]? = some a := ⟨_, List.getElem?_eq_getElem hlt2⟩
      obtain ⟨aA, ac, aE, al, aC⟩ := kid_at (Kd.C_below HH.out.2.1 hb.out.1) k ha
      have HK := Lib.hid (And.intro ha (And.intro al aC))
      clear ha al aC
      obtain ⟨a0, a1, a2, a3, a4⟩ := aE
      go_wp2_with fail
      refine (rexpr_calls n a (level + 1) (by have := HV.out; omega) (by omega) aA ac _ HK.out.2.2 HK.out.2.1).mono ?_
      rintro e w4 ⟨rfl, hc⟩
      clear x0 x1 x2 x3 x4 a0 a1 a2 a3 a4
      have HG := Lib.hid (below_next hb.out.1 (Nat.le_refl _) hc)
      have HM := Lib.hid (hb.out.2.up hc)
      clear hc
      cases hp : exprB n a with
      | false =>
        go_wp2_with fail
        go_ret
        exact ⟨by rw [HN.out, all_false_at HK.out.1 hp]; rfl, HG.out⟩
      | true =>
        go_wp2_with fail
        go_roundw
        case rel =>
          refine ⟨k + 1, by omega, by go_num, Lib.hid (fun j u hj hu => ?_), Lib.hid ⟨HG.out, HM.out⟩⟩
          rcases Nat.lt_or_ge j k with h | h
          · exact hst.out j u h hu
          · obtain rfl : j = k := by omega
            have h1 := HK.out.1
            rw [hu] at h1
            cases h1
            exact hp
        case measure => simp [intOf]; omega
    · have hni : ¬ (k : Int) < 2 := by omega
      have HA := Lib.hid (all_true_at (l := x.f2) (p := exprB n) (fun j u h => hst.out j u (by have := (List.getElem?_eq_some_iff.1 h).1; have := HL.out; omega) h))
      go_wp2_with fail
      refine (HI.out x.f3 (by cases HO.out; assumption) (by cases HO.out; assumption) (level + 1) (by have := HV.out; omega) (by omega) A3 c3 _ (Kd.C_below HH.out.2.2.2.1 hb.out.1) HH.out.2.2.1).mono ?_
      rintro e w5 ⟨rfl, hc⟩
      clear x0 x1 x2 x3 x4
      have HG := Lib.hid (below_next hb.out.1 (Nat.le_refl _) hc)
      have HM := Lib.hid (hb.out.2.up hc)
      clear hc
      obtain ⟨x0, x1, x2, x3, x4⟩ := HM.out
      cases hp : x.f3.all (stmtB n) with
      | false =>
        go_wp2_with fail
        go_ret
        exact ⟨by first | (rw [HN.out, HA.out, hp]; rfl) | (rw [HN.out, HA.out]; rfl), HG.out⟩
      | true =>
        go_wp2_with fail
        refine (HI.out x.f4 (by cases HO.out; assumption) (by cases HO.out; assumption) (level + 1) (by have := HV.out; omega) (by omega) A4 c4 _ (Kd.C_below HH.out.2.2.2.2.2 HG.out) HH.out.2.2.2.2.1).mono ?_
        rintro e w6 ⟨rfl, hc⟩
        clear x0 x1 x2 x3 x4
        have HG2 := Lib.hid (below_next HG.out (Nat.le_refl _) hc)
        clear hc
        cases hp2 : x.f4.all (stmtB n) with
        | false =>
          go_wp2_with fail
          go_ret
          exact ⟨by first | (rw [HN.out, HA.out, hp, hp2]; rfl) | (rw [HN.out, HA.out, hp]; rfl) | (rw [HN.out, HA.out]; rfl), HG2.out⟩
        | true =>
          go_wp2_with fail
          go_ret
          exact ⟨by first | (rw [HN.out, HA.out, hp, hp2]; rfl) | (rw [HN.out, HA.out, hp]; rfl) | (rw [HN.out, HA.out]; rfl), HG2.out⟩
set_option maxRecDepth 100000 in
set_option maxHeartbeats 2000000 in
theorem rstmt5 (n : Nat) (x : S64) (A2 : Option Addr) (c2 : Nat) (A3 : Option Addr) (c3 : Nat) (A4 : Option Addr) (c4 : Nat) (level : Int) (w : World) (hlv : level = 24 - (n : Int)) (hl0 : 0 ≤ level) (hO : OkS x) (hH : SHold x A2 c2 A3 c3 A4 c4 w) (IH : RBd n) (hf : x.f0 = 5) (r : Bool) (hr : shapeS x = r) :
    Calls Tryd.prog 57 #[stV A2 c2 A3 c3 A4 c4 x, .int .i64 level] w fun e w' => e = .returned (.bool (r && (x.f2.all (exprB n) && x.f3.all (stmtB n) && x.f4.all (stmtB n)))) ∧ Below w.heap.size w w' := by
  have hl : decide (24 < level) = false := by simp; omega
  have hl1 : level ≤ 24 := by omega
  have HF := Lib.hid hf
  have HH := Lib.hid hH
  have HI := Lib.hid IH
  have HO := Lib.hid hO
  have HV := Lib.hid hlv
  have HR := Lib.hid (hr ▸ scls_5 hf)
  clear hf hH IH hO hlv hr
  have HB := Lib.hid ((Below.refl w.heap.size w).alloc (Nat.le_refl _) (.cells #[.int .i64 x.f0, .string x.f1, .slice A2 x.f2.length c2, .slice A3 x.f3.length c3, .slice A4 x.f4.length c4] 64))
  have HS := Lib.hid (show S5 w.heap.size x A2 c2 A3 c3 A4 c4 (w.alloc (.cells #[.int .i64 x.f0, .string x.f1, .slice A2 x.f2.length c2, .slice A3 x.f3.length c3, .slice A4 x.f4.length c4] 64)) from SBox.cells (Blk.alloc_new w [.int .i64 x.f0, .string x.f1, .slice A2 x.f2.length c2, .slice A3 x.f3.length c3, .slice A4 x.f4.length c4] 64))
  obtain ⟨x0, x1, x2, x3, x4⟩ := HS.out
  go_enter Tryd.func57, Tryd.ntmps57
  unfold stV
  have g1 : decide (x.f0 < 1) = false := by rw [HF.out]; rfl
  have g2 : decide (5 < x.f0) = false := by rw [HF.out]; rfl
  have e2 : (x.f0 == 2) = false := by rw [HF.out]; rfl
  have e4 : (x.f0 == 4) = false := by rw [HF.out]; rfl
  have n3 : (x.f0 != 3) = true := by rw [HF.out]; rfl
  have n5 : (x.f0 != 5) = false := by rw [HF.out]; rfl
  have n4 : (x.f0 != 4) = true := by rw [HF.out]; rfl
  cases t0 : ((x.f2.length : Int) != 1) with
  | true =>
    have HN := Lib.hid (no_of HR.out fun h => Bool.noConfusion (t0.symm.trans h.1))
    go_wp2_with fail
    go_ret
    exact ⟨by rw [HN.out]; rfl, HB.out⟩
  | false =>
  have HL := Lib.hid (show x.f2.length = 1 from by simp at t0; omega)
  cases t1 : x.f1.toList.isEmpty with
  | false =>
    have HN := Lib.hid (no_of HR.out fun h => Bool.noConfusion (t1.symm.trans h.2.1))
    go_wp2_with fail
    go_ret
    exact ⟨by rw [HN.out]; rfl, HB.out⟩
  | true =>
  cases t2 : x.f4.isEmpty with
  | false =>
    have HN := Lib.hid (no_of HR.out fun h => Bool.noConfusion (t2.symm.trans h.2.2.1))
    have t2p : 0 < x.f4.length := List.length_pos_iff.2 (List.isEmpty_eq_false_iff.1 t2)
    go_wp2_with fail
    go_ret
    exact ⟨by rw [HN.out]; rfl, HB.out⟩
  | true =>
  have t2p : ¬ 0 < x.f4.length := by rw [List.isEmpty_iff.1 t2]; simp
  have t2k := Lib.hid t2
  clear t2
  cases t3 : x.f3.isEmpty with
  | false =>
    have HN := Lib.hid (no_of HR.out fun h => Bool.noConfusion (t3.symm.trans h.2.2.2))
    have t3p : 0 < x.f3.length := List.length_pos_iff.2 (List.isEmpty_eq_false_iff.1 t3)
    go_wp2_with fail
    go_ret
    exact ⟨by rw [HN.out]; rfl, HB.out⟩
  | true =>
  have t3p : ¬ 0 < x.f3.length := by rw [List.isEmpty_iff.1 t3]; simp
  have t3k := Lib.hid t3
  clear t3
  have HN := Lib.hid (HR.out.2 ⟨t0, t1, t2k.out, t3k.out⟩)
  go_wp2
  clear hl
  clear e2 e4 n3 n5 n4 g1 g2 t0 t1 t2p t3p x0 x1 x2 x3 x4
  go_loopw [7] (fun i wr => ∃ k : Nat, k ≤ 1 ∧ i = .int .i64 k ∧ Hid (∀ (j : Nat) a, j < k → x.f2[j]? = some a → exprB n a = true) ∧ Hid (Below w.heap.size w wr ∧ S5 w.heap.size x A2 c2 A3 c3 A4 c4 wr)) (fun i _ => 1 - (intOf i).toNat)
  case atStart => exact ⟨0, by omega, rfl, Lib.hid (fun j a h => absurd h (by omega)), Lib.hid ⟨HB.out, HS.out⟩⟩
  case round =>
    clear HB HS
    obtain ⟨k, hk, rfl, hst, hb⟩ := hrel
    obtain ⟨x0, x1, x2, x3, x4⟩ := hb.out.2
    by_cases hlt : k < 1
    · have hlt2 : k < x.f2.length := by have := HL.out; omega
      have hi0 : (k : Int) < 1 := by omega
      have hi1 : (k : Int) < (x.f2.length : Int) := by omega
      have hle : x.f2.length ≤ 140737488351232 := by have := HL.out; omega
      obtain ⟨ad, rfl⟩ := some_addr HH.out.2.1 (by omega)
      obtain ⟨a, ha⟩ : ∃ a, x.f2[k]? = some a := ⟨_, List.getElem?_eq_getElem hlt2⟩
      obtain ⟨aA, ac, aE, al, aC⟩ := kid_at (Kd.C_below HH.out.2.1 hb.out.1) k ha
      have HK := Lib.hid (And.intro ha (And.intro al aC))
      clear ha al aC
      obtain ⟨a0, a1, a2, a3, a4⟩ := aE
      go_wp2_with fail
      refine (rexpr_calls n a (level + 1) (by have := HV.out; omega) (by omega) aA ac _ HK.out.2.2 HK.out.2.1).mono ?_
      rintro e w4 ⟨rfl, hc⟩
      clear x0 x1 x2 x3 x4 a0 a1 a2 a3 a4
      have HG := Lib.hid (below_next hb.out.1 (Nat.le_refl _) hc)
      have HM := Lib.hid (hb.out.2.up hc)
      clear hc
      cases hp : exprB n a with
      | false =>
        go_wp2_with fail
        go_ret
        exact ⟨by rw [HN.out, all_false_at HK.out.1 hp]; rfl, HG.out⟩
      | true =>
        go_wp2_with fail
        go_roundw
        case rel =>
          refine ⟨k + 1, by omega, by go_num, Lib.hid (fun j u hj hu => ?_), Lib.hid ⟨HG.out, HM.out⟩⟩
          rcases Nat.lt_or_ge j k with h | h
          · exact hst.out j u h hu
          · obtain rfl : j = k := by omega
            have h1 := HK.out.1
            rw [hu] at h1
            cases h1
            exact hp
        case measure => simp [intOf]; omega
    · have hni : ¬ (k : Int) < 1 := by omega
      have HA := Lib.hid (all_true_at (l := x.f2) (p := exprB n) (fun j u h => hst.out j u (by have := (List.getElem?_eq_some_iff.1 h).1; have := HL.out; omega) h))
      go_wp2_with fail
      refine (HI.out x.f3 (by cases HO.out; assumption) (by cases HO.out; assumption) (level + 1) (by have := HV.out; omega) (by omega) A3 c3 _ (Kd.C_below HH.out.2.2.2.1 hb.out.1) HH.out.2.2.1).mono ?_
      rintro e w5 ⟨rfl, hc⟩
      clear x0 x1 x2 x3 x4
      have HG := Lib.hid (below_next hb.out.1 (Nat.le_refl _) hc)
      have HM := Lib.hid (hb.out.2.up hc)
      clear hc
      obtain ⟨x0, x1, x2, x3, x4⟩ := HM.out
      cases hp : x.f3.all (stmtB n) with
      | false =>
        go_wp2_with fail
        go_ret
        exact ⟨by first | (rw [HN.out, HA.out, hp]; rfl) | (rw [HN.out, HA.out]; rfl), HG.out⟩
      | true =>
        go_wp2_with fail
        refine (HI.out x.f4 (by cases HO.out; assumption) (by cases HO.out; assumption) (level + 1) (by have := HV.out; omega) (by omega) A4 c4 _ (Kd.C_below HH.out.2.2.2.2.2 HG.out) HH.out.2.2.2.2.1).mono ?_
        rintro e w6 ⟨rfl, hc⟩
        clear x0 x1 x2 x3 x4
        have HG2 := Lib.hid (below_next HG.out (Nat.le_refl _) hc)
        clear hc
        cases hp2 : x.f4.all (stmtB n) with
        | false =>
          go_wp2_with fail
          go_ret
          exact ⟨by first | (rw [HN.out, HA.out, hp, hp2]; rfl) | (rw [HN.out, HA.out, hp]; rfl) | (rw [HN.out, HA.out]; rfl), HG2.out⟩
        | true =>
          go_wp2_with fail
          go_ret
          exact ⟨by first | (rw [HN.out, HA.out, hp, hp2]; rfl) | (rw [HN.out, HA.out, hp]; rfl) | (rw [HN.out, HA.out]; rfl), HG2.out⟩
theorem rstmt_step (n : Nat) (IH : RBd n) : RSt (n + 1) := by
  intro x hO level hlv h0 A2 c2 A3 c3 A4 c4 w hH
  have hl : decide (24 < level) = false := by simp; omega
  rw [show stmtB (n + 1) x = (shapeS x && (x.f2.all (exprB n) && x.f3.all (stmtB n) && x.f4.all (stmtB n))) from rfl]
  cases g1 : decide (x.f0 < 1) with
  | true =>
    have hs : shapeS x = false := by
      have : ¬ 1 ≤ x.f0 := by simp at g1; omega
      simp [shapeS, this]
    rw [hs, Bool.false_and]
    exact rstmt_low x A2 c2 A3 c3 A4 c4 level w hl g1
  | false =>
  cases g2 : decide (5 < x.f0) with
  | true =>
    have hs : shapeS x = false := by
      have : ¬ x.f0 ≤ 5 := by simp at g2; omega
      simp [shapeS, this]
    rw [hs, Bool.false_and]
    exact rstmt_high x A2 c2 A3 c3 A4 c4 level w hl g1 g2
  | false =>
  have hk : x.f0 = 1 ∨ x.f0 = 2 ∨ x.f0 = 3 ∨ x.f0 = 4 ∨ x.f0 = 5 := by simp at g1 g2; omega
  rcases hk with hf | hf | hf | hf | hf
  · exact rstmt1 n x A2 c2 A3 c3 A4 c4 level w (by omega) h0 hO hH IH hf _ rfl
  · exact rstmt2 n x A2 c2 A3 c3 A4 c4 level w (by omega) h0 hO hH IH hf _ rfl
  · exact rstmt3 n x A2 c2 A3 c3 A4 c4 level w (by omega) h0 hO hH IH hf _ rfl
  · exact rstmt4 n x A2 c2 A3 c3 A4 c4 level w (by omega) h0 hO hH IH hf _ rfl
  · exact rstmt5 n x A2 c2 A3 c3 A4 c4 level w (by omega) h0 hO hH IH hf _ rfl
theorem rstmts_calls : ∀ n, RBd n
  | 0 => rstmts_step 0 (fun x _ level hlv h0 A2 c2 A3 c3 A4 c4 w _ => rstmt_deep x A2 c2 A3 c3 A4 c4 level w (by simp; omega))
  | n + 1 => rstmts_step (n + 1) (rstmt_step n (rstmts_calls n))
end Go.Proofs.YtlhnfgnihakcfaaDoor.Ax
set_option linter.unusedSimpArgs false
set_option linter.unusedVariables false
namespace Go.Proofs.YtlhnfgnihakcfaaDoor.Ax
open Go.RowKit Hp Kn Lx
open Go.Proofs.YtlhnfgnihakcfaaDoorW.PrintWords Go.Proofs.YtlhnfgnihakcfaaDoorW.PrintLast Go.Proofs.YtlhnfgnihakcfaaDoorW.PrintMore
set_option maxRecDepth 100000 in
set_option maxHeartbeats 8000000 in
theorem rvalid_calls (A0 : Option Addr) (c0 : Nat) (l0 : List S55) (A1 : Option Addr) (c1 : Nat) (l1 : List S58) (A2 : Option Addr) (c2 : Nat) (l2 : List S64) (w : World) (hG : Gx w)
    (hC0 : Kd.C k55 w A0 l0.length l0) (hC1 : Kd.C k58 w A1 l1.length l1) (hC2 : Kd.C k64 w A2 l2.length l2) (hc2 : l2.length ≤ c2)
    (n0 : l0.length ≤ 140737488351232) (n1 : l1.length ≤ 140737488351232) (n2 : l2.length ≤ 140737488351232) (hI : ∀ x ∈ l0, x.f0.size ≤ 140737488351232) (hA : ∀ x ∈ l1, x.f0.size ≤ 140737488351232) (hO : ∀ x ∈ l2, OkS x)
    (hz : l0.all inB = true → l1.all arB = true → l2.all (stmtB 24) = true → (fmtB l0 l1 l2).length ≤ 140737488355328) :
    Calls Tryd.prog 13 #[.agg #[.slice A0 l0.length c0, .slice A1 l1.length c1, .slice A2 l2.length c2]] w fun e w' => e = .returned (.bool (validB l0 l1 l2)) ∧ Below w.heap.size w w' := by
  have HZ := Lib.hid hz
  have HC := Lib.hid (And.intro hC0 (And.intro hC1 hC2))
  have HI := Lib.hid (And.intro hG (And.intro hI (And.intro hA hO)))
  clear hz hC0 hC1 hC2 hG hI hA hO
  go_enter Tryd.func13, Tryd.ntmps13
  go_wp2
  have HX0 := Lib.hid (Blk.alloc_new w [.slice A0 l0.length c0, .slice A1 l1.length c1, .slice A2 l2.length c2] 26)
  have HB0 := Lib.hid ((Below.refl w.heap.size w).alloc (Nat.le_refl _) (.cells #[.slice A0 l0.length c0, .slice A1 l1.length c1, .slice A2 l2.length c2] 26))
  go_loopw [3] (fun i wr => ∃ k : Nat, k ≤ l0.length ∧ i = .int .i64 k ∧ Hid ((l0.take k).all inB = true) ∧ Hid (Below w.heap.size w wr) ∧ Hid (Blk wr w.heap.size [.slice A0 l0.length c0, .slice A1 l1.length c1, .slice A2 l2.length c2] 26)) (fun i _ => l0.length - (intOf i).toNat)
  case atStart => exact ⟨0, by omega, rfl, by simp [Hid], HB0, HX0⟩
  case round =>
    obtain ⟨k, hk, rfl, hA, hB, hX⟩ := hrel
    clear HX0 HB0
    by_cases hlt : k < l0.length
    ·
      obtain ⟨x, hs⟩ : ∃ x, l0[k]? = some x := ⟨_, List.getElem?_eq_getElem hlt⟩
      obtain ⟨ad, rfl, h0, h1, h2, h3⟩ := at_T55 HC.out.1 (k : Int) (by omega) (by omega)
      have hrd : rd_T55 l0 (k : Int) = x := by simp [rd_T55, List.getD_eq_getElem?_getD, hs]
      rw [hrd] at h0 h1 h2 h3
      have h0 : wr.cell? (ad.add (k * 4)) = some (.string x.f0) := (hB.out.cell (World.block_lt_of_cell? w _ h0)).trans h0
      have h1 : wr.cell? ⟨(ad.add (k * 4)).block, (ad.add (k * 4)).off + 1, none⟩ = some (.int .i64 x.f1) := (hB.out.cell (World.block_lt_of_cell? w _ h1)).trans h1
      have h2 : wr.cell? ⟨(ad.add (k * 4)).block, (ad.add (k * 4)).off + 2, none⟩ = some (.int .i64 x.f2) := (hB.out.cell (World.block_lt_of_cell? w _ h2)).trans h2
      have h3 : wr.cell? ⟨(ad.add (k * 4)).block, (ad.add (k * 4)).off + 3, none⟩ = some (.int .i64 x.f3) := (hB.out.cell (World.block_lt_of_cell? w _ h3)).trans h3
      have HR := Lib.hid hs
      have HN := Lib.hid (HI.out.2.1 x (List.mem_of_getElem? hs))
      clear hrd hs
      have HW1 := Lib.hid (Blk.alloc_new wr [.string x.f0, .int .i64 x.f1, .int .i64 x.f2, .int .i64 x.f3] 55)
      have HX1 := Lib.hid (Blk.alloc hX.out (.cells #[.string x.f0, .int .i64 x.f1, .int .i64 x.f2, .int .i64 x.f3] 55))
      have HB1 := Lib.hid (hB.out.alloc hB.out.size (.cells #[.string x.f0, .int .i64 x.f1, .int .i64 x.f2, .int .i64 x.f3] 55))
      have y0 : (wr.alloc (.cells #[.string x.f0, .int .i64 x.f1, .int .i64 x.f2, .int .i64 x.f3] 55)).cell? ⟨w.heap.size, 0, none⟩ = some (.slice (some ad) l0.length c0) := HX1.out.cell 0 rfl
      have y1 : wr.cell? ⟨w.heap.size, 0, none⟩ = some (.slice (some ad) l0.length c0) := hX.out.cell 0 rfl
      go_wp2_with fail
      refine (Pi.rIsName_calls x.f0 _).mono ?_
      rintro e w2 ⟨rfl, hc⟩
      have HW2 := Lib.hid (Blk.below HW1.out hc (Blk.lt HW1.out))
      have HX2 := Lib.hid (Blk.below HX1.out hc (Blk.lt HX1.out))
      have HB2 := Lib.hid (below_next HB1.out (by first | exact Nat.le_refl _ | exact HB1.out.size) hc)
      clear hc
      have m0 : w2.cell? ⟨wr.heap.size, 0, none⟩ = some (.string x.f0) := HW2.out.cell 0 rfl
      have m1 : w2.cell? ⟨wr.heap.size, 1, none⟩ = some (.int .i64 x.f1) := HW2.out.cell 1 rfl
      have m2 : w2.cell? ⟨wr.heap.size, 2, none⟩ = some (.int .i64 x.f2) := HW2.out.cell 2 rfl
      have m3 : w2.cell? ⟨wr.heap.size, 3, none⟩ = some (.int .i64 x.f3) := HW2.out.cell 3 rfl
      have hval : inB x = (Px.isName x.f0.data.toList && !decide (x.f1 < 1) && !decide (13 < x.f1) && !decide (x.f2 < 1) && !decide (16 < x.f2) && !decide (x.f3 < 0) && !decide (64 < x.f3)) := rfl
      have HV := Lib.hid hval
      clear hval
      cases q0 : Px.isName x.f0.data.toList with
      | false =>
        go_wp2_with fail
        go_ret
        exact ⟨by rw [validB_no0 (all_fail HR.out (by rw [HV.out, q0]; simp))]; rfl, HB2.out⟩
      | true =>
      cases q1 : decide (x.f1 < 1) with
      | true =>
        go_wp2_with fail
        go_ret
        exact ⟨by rw [validB_no0 (all_fail HR.out (by rw [HV.out, q0, q1]; simp))]; rfl, HB2.out⟩
      | false =>
      cases q2 : decide (13 < x.f1) with
      | true =>
        go_wp2_with fail
        go_ret
        exact ⟨by rw [validB_no0 (all_fail HR.out (by rw [HV.out, q0, q1, q2]; simp))]; rfl, HB2.out⟩
      | false =>
      cases q3 : decide (x.f2 < 1) with
      | true =>
        go_wp2_with fail
        go_ret
        exact ⟨by rw [validB_no0 (all_fail HR.out (by rw [HV.out, q0, q1, q2, q3]; simp))]; rfl, HB2.out⟩
      | false =>
      cases q4 : decide (16 < x.f2) with
      | true =>
        go_wp2_with fail
        go_ret
        exact ⟨by rw [validB_no0 (all_fail HR.out (by rw [HV.out, q0, q1, q2, q3, q4]; simp))]; rfl, HB2.out⟩
      | false =>
      cases q5 : decide (x.f3 < 0) with
      | true =>
        go_wp2_with fail
        go_ret
        exact ⟨by rw [validB_no0 (all_fail HR.out (by rw [HV.out, q0, q1, q2, q3, q4, q5]; simp))]; rfl, HB2.out⟩
      | false =>
      cases q6 : decide (64 < x.f3) with
      | true =>
        go_wp2_with fail
        go_ret
        exact ⟨by rw [validB_no0 (all_fail HR.out (by rw [HV.out, q0, q1, q2, q3, q4, q5, q6]; simp))]; rfl, HB2.out⟩
      | false =>
      have HP := Lib.hid (show inB x = true by rw [HV.out, q0, q1, q2, q3, q4, q5, q6]; rfl)
      go_wp2_with fail
      go_roundw
      case rel => exact ⟨k + 1, by omega, by go_num, Lib.hid (all_step hA.out HR.out HP.out), HB2, HX2⟩
      case measure => simp [intOf]; omega
    · have x0 : wr.cell? ⟨w.heap.size, 0, none⟩ = some (.slice A0 l0.length c0) := hX.out.cell 0 rfl
      have x1 : wr.cell? ⟨w.heap.size, 1, none⟩ = some (.slice A1 l1.length c1) := hX.out.cell 1 rfl
      have HA0 := Lib.hid (show l0.all inB = true by have := hA.out; rwa [List.take_of_length_le (by omega)] at this)
      go_wp2
      clear x0 x1
      go_loopw [5] (fun i wr2 => ∃ k2 : Nat, k2 ≤ l1.length ∧ i = .int .i64 k2 ∧ Hid ((l1.take k2).all arB = true) ∧ Hid (Below w.heap.size w wr2) ∧ Hid (Blk wr2 w.heap.size [.slice A0 l0.length c0, .slice A1 l1.length c1, .slice A2 l2.length c2] 26)) (fun i _ => l1.length - (intOf i).toNat)
      case atStart => exact ⟨0, by omega, rfl, by simp [Hid], hB, hX⟩
      case round =>
        obtain ⟨k, hk, rfl, hA, hB, hX⟩ := hrel
        by_cases hlt : k < l1.length
        ·
          obtain ⟨x, hs⟩ : ∃ x, l1[k]? = some x := ⟨_, List.getElem?_eq_getElem hlt⟩
          obtain ⟨ad, rfl, h0, h1⟩ := at_T58 HC.out.2.1 (k : Int) (by omega) (by omega)
          have hrd : rd_T58 l1 (k : Int) = x := by simp [rd_T58, List.getD_eq_getElem?_getD, hs]
          rw [hrd] at h0 h1
          have h0 : wr.cell? (ad.add (k * 2)) = some (.string x.f0) := (hB.out.cell (World.block_lt_of_cell? w _ h0)).trans h0
          have h1 : wr.cell? ⟨(ad.add (k * 2)).block, (ad.add (k * 2)).off + 1, none⟩ = some (.int .i64 x.f1) := (hB.out.cell (World.block_lt_of_cell? w _ h1)).trans h1
          have HR := Lib.hid hs
          have HN := Lib.hid (HI.out.2.2.1 x (List.mem_of_getElem? hs))
          clear hrd hs
          have HW1 := Lib.hid (Blk.alloc_new wr [.string x.f0, .int .i64 x.f1] 58)
          have HX1 := Lib.hid (Blk.alloc hX.out (.cells #[.string x.f0, .int .i64 x.f1] 58))
          have HB1 := Lib.hid (hB.out.alloc hB.out.size (.cells #[.string x.f0, .int .i64 x.f1] 58))
          have y0 : (wr.alloc (.cells #[.string x.f0, .int .i64 x.f1] 58)).cell? ⟨w.heap.size, 1, none⟩ = some (.slice (some ad) l1.length c1) := HX1.out.cell 1 rfl
          have y1 : wr.cell? ⟨w.heap.size, 1, none⟩ = some (.slice (some ad) l1.length c1) := hX.out.cell 1 rfl
          go_wp2_with fail
          refine (Pi.rIsName_calls x.f0 _).mono ?_
          rintro e w2 ⟨rfl, hc⟩
          have HW2 := Lib.hid (Blk.below HW1.out hc (Blk.lt HW1.out))
          have HX2 := Lib.hid (Blk.below HX1.out hc (Blk.lt HX1.out))
          have HB2 := Lib.hid (below_next HB1.out (by first | exact Nat.le_refl _ | exact HB1.out.size) hc)
          clear hc
          have m0 : w2.cell? ⟨wr.heap.size, 0, none⟩ = some (.string x.f0) := HW2.out.cell 0 rfl
          have m1 : w2.cell? ⟨wr.heap.size, 1, none⟩ = some (.int .i64 x.f1) := HW2.out.cell 1 rfl
          have hval : arB x = (Px.isName x.f0.data.toList && !decide (x.f1 < 1) && !decide (64 < x.f1)) := rfl
          have HV := Lib.hid hval
          clear hval
          cases q0 : Px.isName x.f0.data.toList with
          | false =>
            go_wp2_with fail
            go_ret
            exact ⟨by rw [validB_no1 (all_fail HR.out (by rw [HV.out, q0]; simp))]; rfl, HB2.out⟩
          | true =>
          cases q1 : decide (x.f1 < 1) with
          | true =>
            go_wp2_with fail
            go_ret
            exact ⟨by rw [validB_no1 (all_fail HR.out (by rw [HV.out, q0, q1]; simp))]; rfl, HB2.out⟩
          | false =>
          cases q2 : decide (64 < x.f1) with
          | true =>
            go_wp2_with fail
            go_ret
            exact ⟨by rw [validB_no1 (all_fail HR.out (by rw [HV.out, q0, q1, q2]; simp))]; rfl, HB2.out⟩
          | false =>
          have HP := Lib.hid (show arB x = true by rw [HV.out, q0, q1, q2]; rfl)
          go_wp2_with fail
          go_roundw
          case rel => exact ⟨k + 1, by omega, by go_num, Lib.hid (all_step hA.out HR.out HP.out), HB2, HX2⟩
          case measure => simp [intOf]; omega
        · have x0 : wr.cell? ⟨w.heap.size, 0, none⟩ = some (.slice A0 l0.length c0) := hX.out.cell 0 rfl
          have x1 : wr.cell? ⟨w.heap.size, 1, none⟩ = some (.slice A1 l1.length c1) := hX.out.cell 1 rfl
          have x2 : wr.cell? ⟨w.heap.size, 2, none⟩ = some (.slice A2 l2.length c2) := hX.out.cell 2 rfl
          have HA1 := Lib.hid (show l1.all arB = true by have := hA.out; rwa [List.take_of_length_le (by omega)] at this)
          go_wp2_with fail
          refine (rstmts_calls 24 l2 HI.out.2.2.2 n2 1 rfl (by omega) A2 c2 _ (Kd.C_below HC.out.2.2 hB.out) hc2).mono ?_
          rintro e w5 ⟨rfl, hc⟩
          have HX5 := Lib.hid (Blk.below hX.out hc hX.out.lt)
          have HB5 := Lib.hid (below_next hB.out (Nat.le_refl _) hc)
          clear hc x0 x1 x2
          have x0 : w5.cell? ⟨w.heap.size, 0, none⟩ = some (.slice A0 l0.length c0) := HX5.out.cell 0 rfl
          have x1 : w5.cell? ⟨w.heap.size, 1, none⟩ = some (.slice A1 l1.length c1) := HX5.out.cell 1 rfl
          have x2 : w5.cell? ⟨w.heap.size, 2, none⟩ = some (.slice A2 l2.length c2) := HX5.out.cell 2 rfl
          cases hb : l2.all (stmtB 24) with
          | false =>
            go_wp2_with fail
            go_ret
            exact ⟨by unfold validB; rw [hb]; simp, HB5.out⟩
          | true =>
            have HZ5 := Lib.hid (HZ.out HA0.out HA1.out hb)
            have HV := Lib.hid (show validB l0 l1 l2 = decide ((fmtB l0 l1 l2).length ≤ 20000) by unfold validB; rw [HA0.out, HA1.out, hb]; rfl)
            go_wp2_with fail
            refine (rformat_calls A0 c0 l0 A1 c1 l1 A2 c2 l2 _ (HI.out.1.below HB5.out) (Kd.C_below HC.out.1 HB5.out) (Kd.C_below HC.out.2.1 HB5.out) (Kd.C_below HC.out.2.2 HB5.out) hc2 n0 n1 n2 (fun x hx => inB_ok (List.all_eq_true.1 HA0.out x hx)) (fun x hx => arB_ok (List.all_eq_true.1 HA1.out x hx)) HI.out.2.1 HI.out.2.2.1 HI.out.2.2.2 hb HZ5.out).mono ?_
            rintro e w6 ⟨rfl, hc⟩
            have HB6 := Lib.hid (below_next HB5.out (Nat.le_refl _) hc)
            clear hc x0 x1 x2
            have hsz : (⟨(fmtB l0 l1 l2).toArray⟩ : ByteArray).size = (fmtB l0 l1 l2).length := by show (fmtB l0 l1 l2).toArray.size = _; simp
            generalize (⟨(fmtB l0 l1 l2).toArray⟩ : ByteArray) = tx at hsz
            cases hq : decide ((tx.size : Int) ≤ 20000) with
            | true =>
              have HQ := Lib.hid (show validB l0 l1 l2 = true by rw [HV.out]; have := of_decide_eq_true hq; exact decide_eq_true (by omega))
              clear hsz
              go_wp2_with fail
              go_ret
              exact ⟨by rw [HQ.out]; rfl, HB6.out⟩
            | false =>
              have HQ := Lib.hid (show validB l0 l1 l2 = false by rw [HV.out]; have := of_decide_eq_false hq; exact decide_eq_false (by omega))
              clear hsz
              go_wp2_with fail
              go_ret
              exact ⟨by rw [HQ.out]; rfl, HB6.out⟩
end Go.Proofs.YtlhnfgnihakcfaaDoor.Ax
