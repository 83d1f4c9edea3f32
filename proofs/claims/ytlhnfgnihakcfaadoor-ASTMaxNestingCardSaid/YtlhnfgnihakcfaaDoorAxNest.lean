import Derived.Test.YtlhnfgnihakcfaaDoorA5
import Derived.Test.YtlhnfgnihakcfaaDoorA6
import Derived.Test.YtlhnfgnihakcfaaDoorPnx1
set_option linter.unusedSimpArgs false
set_option linter.unusedVariables false
/- privitylaw27.ASTMaxNesting: it answers true. -/
namespace Go.Proofs.YtlhnfgnihakcfaaDoor.Ax
open Go.RowKit Hp Kn Lx
open Go.Proofs.YtlhnfgnihakcfaaDoorW.PrintWords Go.Proofs.YtlhnfgnihakcfaaDoorW.PrintLast Go.Proofs.YtlhnfgnihakcfaaDoorW.PrintMore
theorem eta_e (x : S40) : (⟨x.f0, x.f1, x.f2, x.f3, x.f4⟩ : S40) = x := by cases x; rfl
theorem nest_loop (k : Nat) (hk : k < 40) : ∀ (d i K : Nat), k - i = d → i ≤ k → d < K → Pn.privitylaw27_nested.l0 K (k : Int) (i : Int) (nestE i).f0 (nestE i).f1 (nestE i).f2 (nestE i).f3 (nestE i).f4 = some ([], [], [outS (nestE k)])
  | 0, i, K + 1, hd, hi, hK => by
    obtain rfl : i = k := by omega
    unfold Pn.privitylaw27_nested.l0
    rw [if_neg (by omega), eta_e]
    rfl
  | d + 1, i, K + 1, hd, hi, hK => by
    have hw : wrap64 ((i : Int) + 1) = ((i + 1 : Nat) : Int) := by unfold wrap64; omega
    have IH := nest_loop k hk d (i + 1) K (by omega) (by omega) (by omega)
    unfold Pn.privitylaw27_nested.l0
    rw [if_pos (by omega), hw, eta_e]
    exact IH
theorem nest_f (k : Nat) (hk : k < 40) : Pn.privitylaw27_nested.f 50 (k : Int) = some ([], [], [outS (nestE k)]) := nest_loop k hk k 0 50 (by omega) (by omega) (by omega)
theorem nested_calls (k : Nat) (hk : k < 40) (w : World) :
    Calls Tryd.prog 20 #[.int .i64 (k : Int)] w fun e w' => ∃ A0 c0 A1 c1 A c, e = .returned (.agg #[.slice A0 0 c0, .slice A1 0 c1, .slice A 1 c]) ∧ 1 ≤ c ∧ Kd.C k55 w' A0 0 [] ∧ Kd.C k58 w' A1 0 [] ∧ Kd.C k64 w' A 1 [outS (nestE k)] ∧ Below w.heap.size w w' := by
  refine (Pn.privitylaw27_nested.calls 50 (k : Int) _ _ _ w (nest_f k hk)).mono ?_
  rintro e w' ⟨v0, v1, v2, rfl, h0, h1, h2, hb⟩
  obtain ⟨A0, c0, rfl, _, g0⟩ := Kd.R_reads h0
  obtain ⟨A1, c1, rfl, _, g1⟩ := Kd.R_reads h1
  obtain ⟨A, c, rfl, hc, g2⟩ := Kd.N_V (base' := 0) h2
  exact ⟨A0, c0, A1, c1, A, c, rfl, hc, g0, g1, Kd.F_now g2, hb⟩
set_option maxRecDepth 100000 in
set_option maxHeartbeats 4000000 in
theorem nesting_calls (a0 a1 : Int) (h0 : 0 ≤ a0) (h1 : a0 < 256) (h2 : 0 ≤ a1) (h3 : a1 < 4294967296) (w : World) (hG : Gx w) :
    Calls Tryd.prog 7 #[.int .u8 a0, .int .u32 a1] w fun e w' => e = .returned (.bool true) ∧ Below w.heap.size w w' := by
  have HG := Lib.hid hG
  clear hG
  obtain ⟨k, hk, hk40⟩ : ∃ k : Nat, a0 % 40 = (k : Int) ∧ k < 40 := ⟨(a0 % 40).toNat, by omega, by omega⟩
  obtain ⟨b, hb⟩ : ∃ b, decide ((k : Int) + 2 ≤ 24) = b := ⟨_, rfl⟩
  have HN := Lib.hid (show (fmtB [] [] [outS (nestE k)]).length ≤ 20000 ∧ validB [] [] [outS (nestE k)] = b from by
    refine ⟨(nest_valid hk40).1, (nest_valid hk40).2.trans ?_⟩
    rw [← hb]
    by_cases h : k + 2 ≤ 24
    · rw [decide_eq_true h, decide_eq_true (by omega)]
    · rw [decide_eq_false h, decide_eq_false (by omega)])
  have HD := Lib.hid (show ∀ x, Deep k x → (fmtB [] [] [x]).length ≤ 20000 ∧ validB [] [] [x] = b from by
    intro x hx
    refine ⟨(deep_valid hx hk40).1, (deep_valid hx hk40).2.trans ?_⟩
    rw [← hb]
    by_cases h : k + 2 ≤ 24
    · rw [decide_eq_true h, decide_eq_true (by omega)]
    · rw [decide_eq_false h, decide_eq_false (by omega)])
  go_enter Tryd.func7, Tryd.ntmps7
  go_wp2_with fail
  refine (awake_calls _ HG.out).mono ?_
  rintro e w1 ⟨rfl, hb1⟩
  have HB1 := Lib.hid hb1
  clear hb1
  go_wp2_with fail
  refine (nested_calls k hk40 _).mono ?_
  rintro e w2 ⟨A0, c0, A1, c1, A, c, rfl, hc, g0, g1, g2, hb2⟩
  have HB2 := Lib.hid (below_next HB1.out (Nat.le_refl _) hb2)
  have HC2 := Lib.hid (And.intro g0 (And.intro g1 g2))
  clear hb2 g0 g1 g2
  go_wp2_with fail
  refine (valid_calls A0 c0 [] A1 c1 [] A c [outS (nestE k)] _ (HG.out.below HB2.out) HC2.out.1 HC2.out.2.1 HC2.out.2.2 hc (by decide) (by decide) (by show 1 ≤ _; decide) mem_nil mem_nil (mem_one (ok_out (nest_ok k))) (fun _ _ _ => by have := HN.out.1; omega)).mono ?_
  rintro e w3 ⟨rfl, hb3⟩
  rw [HN.out.2]
  have HB3 := Lib.hid (below_next HB2.out (Nat.le_refl _) hb3)
  clear hb3
  cases b with
  | true =>
    go_wp2_with fail
    refine (deep_calls k hk40 a1 h2 h3 _).mono ?_
    rintro e w4 ⟨x, A', c', hx, rfl, hc', g3, hb4⟩
    have HB4 := Lib.hid (below_next HB3.out (Nat.le_refl _) hb4)
    have HX := Lib.hid hx
    have HC4 := Lib.hid g3
    clear hb4 hx g3
    go_wp2_with fail
    refine (valid_calls none 0 [] none 0 [] A' c' [x] _ (HG.out.below HB4.out) (Kd.C_nil _ _) (Kd.C_nil _ _) HC4.out hc' (by decide) (by decide) (by show 1 ≤ _; decide) mem_nil mem_nil (mem_one HX.out.ok) (fun _ _ _ => by have := (HD.out x HX.out).1; omega)).mono ?_
    rintro e w5 ⟨rfl, hb5⟩
    rw [(HD.out x HX.out).2]
    have HB5 := Lib.hid (below_next HB4.out (Nat.le_refl _) hb5)
    clear hb5
    go_wp2_with fail
    go_ret
    exact ⟨rfl, HB5.out⟩
  | false =>
    go_wp2_with fail
    refine (deep_calls k hk40 a1 h2 h3 _).mono ?_
    rintro e w4 ⟨x, A', c', hx, rfl, hc', g3, hb4⟩
    have HB4 := Lib.hid (below_next HB3.out (Nat.le_refl _) hb4)
    have HX := Lib.hid hx
    have HC4 := Lib.hid g3
    clear hb4 hx g3
    go_wp2_with fail
    refine (valid_calls none 0 [] none 0 [] A' c' [x] _ (HG.out.below HB4.out) (Kd.C_nil _ _) (Kd.C_nil _ _) HC4.out hc' (by decide) (by decide) (by show 1 ≤ _; decide) mem_nil mem_nil (mem_one HX.out.ok) (fun _ _ _ => by have := (HD.out x HX.out).1; omega)).mono ?_
    rintro e w5 ⟨rfl, hb5⟩
    rw [(HD.out x HX.out).2]
    have HB5 := Lib.hid (below_next HB4.out (Nat.le_refl _) hb5)
    clear hb5
    go_wp2_with fail
    go_ret
    exact ⟨rfl, HB5.out⟩
end Go.Proofs.YtlhnfgnihakcfaaDoor.Ax
