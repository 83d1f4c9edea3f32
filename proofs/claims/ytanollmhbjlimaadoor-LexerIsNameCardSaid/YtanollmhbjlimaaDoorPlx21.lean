-- printed for this claim
import Derived.Test.YtanollmhbjlimaaDoorPlx0
import Derived.Test.YtanollmhbjlimaaDoorPlx14
import Derived.Test.YtanollmhbjlimaaDoorPlx20
import Derived.Test.YtanollmhbjlimaaDoorLxIsName
import Derived.Test.YtanollmhbjlimaaDoorLxSame
import Derived.Test.YtanollmhbjlimaaDoorRfLex
namespace Go.Proofs.YtanollmhbjlimaaDoor.Kn
end Go.Proofs.YtanollmhbjlimaaDoor.Kn
namespace Go.Proofs.YtanollmhbjlimaaDoor.Lx
end Go.Proofs.YtanollmhbjlimaaDoor.Lx
namespace Go.Proofs.YtanollmhbjlimaaDoor.Rf
end Go.Proofs.YtanollmhbjlimaaDoor.Rf
namespace Go.Proofs.YtanollmhbjlimaaDoor.Pl
open Go.RowKit Go.Proofs.YtanollmhbjlimaaDoorW.PrintWords Go.Proofs.YtanollmhbjlimaaDoorW.PrintLast Go.Proofs.YtanollmhbjlimaaDoorW.PrintMore
attribute [local go_sem] max2_int min2_int max_two min_two max_three min_three max_four min_four   -- for this text's walks alone
open Go.Proofs.YtanollmhbjlimaaDoor.Kn Go.Proofs.YtanollmhbjlimaaDoor.Lx Go.Proofs.YtanollmhbjlimaaDoor.Rf
set_option linter.unusedVariables false
set_option linter.unusedSimpArgs false

/-! ### privitylaw26_LexerIsName: function 4 -/
def privitylaw26_LexerIsName.j0 : Nat → ByteArray → Bool → Option (Bool)
  | 0, _, _ => none
  | k + 1, x0, x6 => (privitylaw26_awake.f).bind fun t154 => (if t154 = true then ((lexer_IsName.f x0).bind fun t155 => ((privityref26_IsName.f k x0).bind fun t156 => (if (t155 == t156) = true then ((lexer_IsName.f x0).bind fun t157 => (some (t157 == x6))) else (some false)))) else (some false))
def privitylaw26_LexerIsName.f (k : Nat) (a0 : ByteArray) : Option (Bool) := if (a0.size : Int) > 100 then ((privitylaw26_awake.f).bind fun t146 => (some t146)) else ((lexer_Lex.f a0).bind fun bt147 => (if bt147.2.2 = 0 then (if (bt147.1.length : Int) = 1 then (if 0 < (bt147.1.length : Int) then (if ((rd_T31 bt147.1 0).f0) = 1 then (privitylaw26_LexerIsName.j0 k a0 (((rd_T31 bt147.1 0).f1).toList == a0.toList)) else (privitylaw26_LexerIsName.j0 k a0 false)) else (none)) else (privitylaw26_LexerIsName.j0 k a0 false)) else (privitylaw26_LexerIsName.j0 k a0 false)))
theorem privitylaw26_LexerIsName.mono_l : ∀ k, (∀ y0 y1, LeO (privitylaw26_LexerIsName.j0 k y0 y1) (privitylaw26_LexerIsName.j0 (k + 1) y0 y1))
  | 0 => fun _ _ r h => by simp [privitylaw26_LexerIsName.j0] at h
  | k + 1 => by
    have ih0 := privitylaw26_LexerIsName.mono_l k
    · intro y0 y1
      unfold privitylaw26_LexerIsName.j0
      repeat' first
      | (with_reducible exact ih0 _ _)
      | (with_reducible exact privityref26_IsName.mono _ _)
      | (with_reducible exact LeO.refl _)
      | (with_reducible exact LeO.none _)
      | (with_reducible refine LeO.ite ?_ ?_)
      | (with_reducible refine LeO.bind ?_ (fun _ => ?_))
      | exact ih0 _ _
      | exact privityref26_IsName.mono _ _
      | exact LeO.none _
      | refine LeO.ite ?_ ?_
      | refine LeO.bind ?_ (fun _ => ?_)
theorem privitylaw26_LexerIsName.mono : ∀ a0 k, LeO (privitylaw26_LexerIsName.f k a0) (privitylaw26_LexerIsName.f (k + 1) a0) := by
  intro a0 k
  have ih0 := privitylaw26_LexerIsName.mono_l k
  unfold privitylaw26_LexerIsName.f
  repeat' first
      | (with_reducible exact ih0 _ _)
      | (with_reducible exact privityref26_IsName.mono _ _)
      | (with_reducible exact LeO.refl _)
      | (with_reducible exact LeO.none _)
      | (with_reducible refine LeO.ite ?_ ?_)
      | (with_reducible refine LeO.bind ?_ (fun _ => ?_))
      | exact ih0 _ _
      | exact privityref26_IsName.mono _ _
      | exact LeO.none _
      | refine LeO.ite ?_ ?_
      | refine LeO.bind ?_ (fun _ => ?_)
set_option maxHeartbeats 8000000 in
set_option maxRecDepth 100000 in
theorem privitylaw26_LexerIsName.calls (k : Nat) (a0 : ByteArray) (r : Bool) (w : World) (hG : Gl w) (h : privitylaw26_LexerIsName.f k a0 = some r) :
    Calls Tryd.prog 4 #[.string a0] w fun e w' => e = .returned (.bool r) ∧ Below w.heap.size w w' := by
  have HB := Aside0.mk (Below.refl w.heap.size w)
  have HG := Aside0.mk hG
  clear hG
  have H : (if (a0.size : Int) > 100 then ((privitylaw26_awake.f).bind fun t146 => (some t146)) else ((lexer_Lex.f a0).bind fun bt147 => (if bt147.2.2 = 0 then (if (bt147.1.length : Int) = 1 then (if 0 < (bt147.1.length : Int) then (if ((rd_T31 bt147.1 0).f0) = 1 then (privitylaw26_LexerIsName.j0 k a0 (((rd_T31 bt147.1 0).f1).toList == a0.toList)) else (privitylaw26_LexerIsName.j0 k a0 false)) else (none)) else (privitylaw26_LexerIsName.j0 k a0 false)) else (privitylaw26_LexerIsName.j0 k a0 false)))) = some r := h
  clear h
  by_cases c2 : (a0.size : Int) > 100
  · rw [if_pos c2] at H
    have c2b0 : decide (100 < (a0.size : Int)) = true := decide_eq_true c2
    have c2b1 : decide (100 < a0.size) = true := decide_eq_true (by omega)
    clear c2
    replace H := Option.bind_eq_some_iff.mp H
    obtain ⟨t146, A30, H⟩ := H
    replace H : (some t146) = some r := H
    have A3 := Aside0.mk A30
    clear A30
    obtain rfl := Option.some.inj H
    go_enter Tryd.func4, Tryd.ntmps4
    go_wp2_with (first | ((with_reducible refine gate_callee (f := 20) rfl ?_); refine goesL_ (some 10) rfl rfl Tryd.func20 (by kernel_rfl) rfl #[] rfl (by (try simp only [List.map_toArray, List.map_cons, List.map_nil]); first | done | rfl | (simp only [List.length_drop, List.length_take]; rfl)) ?_; (with_reducible refine (privitylaw26_awake.calls  t146 _ ?side1 A3.out).mono ?_); (case side1 => exact Gl.below HG.out (by repeat (first | (with_reducible first | exact HB.out | apply below_alloc | apply pw_below_drewN | apply below_drew1) | exact HB.out))); rintro e w4 ⟨rfl, hb⟩; refine ⟨_, rfl, ?_⟩; have n0_ := Aside0.mk (below_step (by repeat (first | (with_reducible first | exact HB.out | apply below_alloc | apply pw_below_drewN | apply below_drew1) | exact HB.out)) hb); clear HB; have HB := n0_; clear n0_; (try clear hb); (try clear hb2); (try clear hk); (try clear hi)))
    go_ret
    exact ⟨by first | rfl | (simp [errW_none, errW_some] <;> rfl) | (simp [*, errW_none, errW_some] <;> rfl), by repeat (first | (with_reducible first | exact HB.out | apply below_alloc | apply pw_below_drewN | apply below_drew1) | exact HB.out)⟩
  · rw [if_neg c2] at H
    have c2b0 : decide (100 < (a0.size : Int)) = false := decide_eq_false c2
    have c2b1 : decide (100 < a0.size) = false := decide_eq_false (by omega)
    clear c2
    replace H := Option.bind_eq_some_iff.mp H
    obtain ⟨⟨t147, t148, t149⟩, A50, H⟩ := H
    replace H : (if t149 = 0 then (if (t147.length : Int) = 1 then (if 0 < (t147.length : Int) then (if ((rd_T31 t147 0).f0) = 1 then (privitylaw26_LexerIsName.j0 k a0 (((rd_T31 t147 0).f1).toList == a0.toList)) else (privitylaw26_LexerIsName.j0 k a0 false)) else (none)) else (privitylaw26_LexerIsName.j0 k a0 false)) else (privitylaw26_LexerIsName.j0 k a0 false)) = some r := H
    have A5 := Aside0.mk A50
    clear A50
    have HC6 := Aside0.mk H
    clear H
    go_enter Tryd.func4, Tryd.ntmps4
    go_upto_region 4 with (first | ((with_reducible refine gate_callee (f := 21) rfl ?_); refine goesL_ (some 13) rfl rfl Tryd.func21 (by kernel_rfl) rfl #[.string a0] rfl (by (try simp only [List.map_toArray, List.map_cons, List.map_nil]); first | done | rfl | (simp only [List.length_drop, List.length_take]; rfl)) ?_; (with_reducible refine (lexer_Lex.calls a0 t147 t148 t149 _ ?side1 A5.out).mono ?_); (case side1 => exact Gl.below HG.out (by repeat (first | (with_reducible first | exact HB.out | apply below_alloc | apply pw_below_drewN | apply below_drew1) | exact HB.out))); rintro e w7 ⟨v150, rfl, ho0, hb⟩; refine ⟨_, rfl, ?_⟩; have n0_ := Aside0.mk (Kd.R_lower ho0 (below_size (by repeat (first | (with_reducible first | exact HB.out | apply below_alloc | apply pw_below_drewN | apply below_drew1) | exact HB.out)))); have n1_ := Aside0.mk (below_step (by repeat (first | (with_reducible first | exact HB.out | apply below_alloc | apply pw_below_drewN | apply below_drew1) | exact HB.out)) hb); clear HB; have HO151 := n0_; have HB := n1_; clear n0_ n1_; (try clear hb); (try clear hb2); (try clear hk); (try clear hi); (try clear ho0)))
    (try simp only [Act.put, List.setIfInBounds_toArray, List.set_cons_zero, List.set_cons_succ])
    go_cut [6] (fun v6 wc => ∃ (kq : Nat) (x6_5 : Bool), v6 = .bool x6_5 ∧ Aside0 (privitylaw26_LexerIsName.j0 kq a0 x6_5 = some r) ∧ Aside0 (kq ≤ k) ∧ Aside0 (Below w.heap.size w wc))
    case first =>
      have H := HC6.out
      clear HC6
      by_cases c8 : t149 = 0
      · rw [if_pos c8] at H
        have c8b0 : (t149 == 0) = true := beq_iff_eq.mpr c8
        have c8b1 : (t149 != 0) = false := bne_eq_false_iff_eq.mpr c8
        clear c8
        (first | rw [c8b0] | (simp only [i64_w, i32_w]; rw [c8b0]) | skip)
        by_cases c9 : (t147.length : Int) = 1
        · rw [if_pos c9] at H
          have c9b0 : ((t147.length : Int) == 1) = true := beq_iff_eq.mpr c9
          have c9b1 : ((t147.length : Int) != 1) = false := bne_eq_false_iff_eq.mpr c9
          clear c9
          by_cases c10 : 0 < (t147.length : Int)
          · rw [if_pos c10] at H
            have c10b0 : decide (0 < (t147.length : Int)) = true := decide_eq_true c10
            have c10b1 : decide (0 < t147.length) = true := decide_eq_true (by omega)
            clear c10
            by_cases c11 : ((rd_T31 t147 0).f0) = 1
            · rw [if_pos c11] at H
              have c11b0 : (((rd_T31 t147 0).f0) == 1) = true := beq_iff_eq.mpr c11
              have c11b1 : (((rd_T31 t147 0).f0) != 1) = false := bne_eq_false_iff_eq.mpr c11
              clear c11
              have H' := Aside0.mk H
              clear H
              obtain ⟨Ao12, co12, eo12⟩ := Kd.R_slice HO151.out
              subst eo12
              have p152 : 0 ≤ (0 : Int) := (by omega)
              have q152 : 0 < (t147.length : Int) := of_decide_eq_true (by first | (with_reducible assumption) | assumption)
              obtain ⟨ad152, e152, hx152_0, hx152_1, hx152_2, hx152_3⟩ := at_T31 (Kd.R_reads' HO151.out).2.2 0 p152 q152
              cases e152
              have qi152 : (0 < t147.length) = True := eq_true (by omega)
              (try rw [show ((0 : Int)).toNat = 0 from rfl] at hx152_0)
              (try rw [show 0 * 4 = 0 from rfl] at hx152_0)
              (try rw [Addr.add_zero'] at hx152_0)
              (try rw [show ((0 : Int)).toNat = 0 from rfl] at hx152_1)
              (try rw [show 0 * 4 = 0 from rfl] at hx152_1)
              (try rw [Addr.add_zero'] at hx152_1)
              (try rw [show ((0 : Int)).toNat = 0 from rfl] at hx152_2)
              (try rw [show 0 * 4 = 0 from rfl] at hx152_2)
              (try rw [Addr.add_zero'] at hx152_2)
              (try rw [show ((0 : Int)).toNat = 0 from rfl] at hx152_3)
              (try rw [show 0 * 4 = 0 from rfl] at hx152_3)
              (try rw [Addr.add_zero'] at hx152_3)
              replace p152 := eq_true p152
              replace q152 := eq_true q152
              have p153 : 0 ≤ (0 : Int) := (by omega)
              have q153 : 0 < (t147.length : Int) := of_decide_eq_true (by first | (with_reducible assumption) | assumption)
              obtain ⟨ad153, e153, hx153_0, hx153_1, hx153_2, hx153_3⟩ := at_T31 (Kd.R_reads' HO151.out).2.2 0 p153 q153
              obtain rfl : ad152 = ad153 := (by injection e153)
              have qi153 : (0 < t147.length) = True := eq_true (by omega)
              (try rw [show ((0 : Int)).toNat = 0 from rfl] at hx153_0)
              (try rw [show 0 * 4 = 0 from rfl] at hx153_0)
              (try rw [Addr.add_zero'] at hx153_0)
              (try rw [show ((0 : Int)).toNat = 0 from rfl] at hx153_1)
              (try rw [show 0 * 4 = 0 from rfl] at hx153_1)
              (try rw [Addr.add_zero'] at hx153_1)
              (try rw [show ((0 : Int)).toNat = 0 from rfl] at hx153_2)
              (try rw [show 0 * 4 = 0 from rfl] at hx153_2)
              (try rw [Addr.add_zero'] at hx153_2)
              (try rw [show ((0 : Int)).toNat = 0 from rfl] at hx153_3)
              (try rw [show 0 * 4 = 0 from rfl] at hx153_3)
              (try rw [Addr.add_zero'] at hx153_3)
              replace p153 := eq_true p153
              replace q153 := eq_true q153
              go_wp2
              go_meet
              case rel => exact ⟨_, ((((rd_T31 t147 0).f1).toList == a0.toList)), (by first | rfl | (simp; done) | (simp [*]; done)), H', ⟨by first | omega | exact Nat.le_refl _⟩, ⟨by repeat (first | (with_reducible first | exact HB.out | apply below_alloc | apply pw_below_drewN | apply below_drew1) | exact HB.out)⟩⟩
            · rw [if_neg c11] at H
              have c11b0 : (((rd_T31 t147 0).f0) == 1) = false := beq_eq_false_iff_ne.mpr c11
              have c11b1 : (((rd_T31 t147 0).f0) != 1) = true := bne_iff_ne.mpr c11
              have H' := Aside0.mk H
              clear H
              obtain ⟨Ao13, co13, eo13⟩ := Kd.R_slice HO151.out
              subst eo13
              have p152 : 0 ≤ (0 : Int) := (by omega)
              have q152 : 0 < (t147.length : Int) := of_decide_eq_true (by first | (with_reducible assumption) | assumption)
              obtain ⟨ad152, e152, hx152_0, hx152_1, hx152_2, hx152_3⟩ := at_T31 (Kd.R_reads' HO151.out).2.2 0 p152 q152
              cases e152
              have qi152 : (0 < t147.length) = True := eq_true (by omega)
              (try rw [show ((0 : Int)).toNat = 0 from rfl] at hx152_0)
              (try rw [show 0 * 4 = 0 from rfl] at hx152_0)
              (try rw [Addr.add_zero'] at hx152_0)
              (try rw [show ((0 : Int)).toNat = 0 from rfl] at hx152_1)
              (try rw [show 0 * 4 = 0 from rfl] at hx152_1)
              (try rw [Addr.add_zero'] at hx152_1)
              (try rw [show ((0 : Int)).toNat = 0 from rfl] at hx152_2)
              (try rw [show 0 * 4 = 0 from rfl] at hx152_2)
              (try rw [Addr.add_zero'] at hx152_2)
              (try rw [show ((0 : Int)).toNat = 0 from rfl] at hx152_3)
              (try rw [show 0 * 4 = 0 from rfl] at hx152_3)
              (try rw [Addr.add_zero'] at hx152_3)
              replace p152 := eq_true p152
              replace q152 := eq_true q152
              go_wp2
              go_meet
              case rel => exact ⟨_, (false), (by first | rfl | (simp; done) | (simp [*]; done)), H', ⟨by first | omega | exact Nat.le_refl _⟩, ⟨by repeat (first | (with_reducible first | exact HB.out | apply below_alloc | apply pw_below_drewN | apply below_drew1) | exact HB.out)⟩⟩
          · rw [if_neg c10] at H
            exact absurd H (by simp)
        · rw [if_neg c9] at H
          have c9b0 : ((t147.length : Int) == 1) = false := beq_eq_false_iff_ne.mpr c9
          have c9b1 : ((t147.length : Int) != 1) = true := bne_iff_ne.mpr c9
          have H' := Aside0.mk H
          clear H
          obtain ⟨Ao14, co14, eo14⟩ := Kd.R_slice HO151.out
          subst eo14
          go_wp2
          go_meet
          case rel => exact ⟨_, (false), (by first | rfl | (simp; done) | (simp [*]; done)), H', ⟨by first | omega | exact Nat.le_refl _⟩, ⟨by repeat (first | (with_reducible first | exact HB.out | apply below_alloc | apply pw_below_drewN | apply below_drew1) | exact HB.out)⟩⟩
      · rw [if_neg c8] at H
        have c8b0 : (t149 == 0) = false := beq_eq_false_iff_ne.mpr c8
        have c8b1 : (t149 != 0) = true := bne_iff_ne.mpr c8
        (first | rw [c8b0] | (simp only [i64_w, i32_w]; rw [c8b0]) | skip)
        have H' := Aside0.mk H
        clear H
        go_wp2
        go_meet
        case rel => exact ⟨_, (false), (by first | rfl | (simp; done) | (simp [*]; done)), H', ⟨by first | omega | exact Nat.le_refl _⟩, ⟨by repeat (first | (with_reducible first | exact HB.out | apply below_alloc | apply pw_below_drewN | apply below_drew1) | exact HB.out)⟩⟩
    case rest =>
      clear HC6
      try clear c1
      try clear p1
      try clear q1
      try clear hx1
      try clear qi1
      try clear c2
      try clear c2b0
      try clear c2b1
      try clear p2
      try clear c4
      try clear c8
      try clear c8b0
      try clear c8b1
      try clear c9
      try clear c9b0
      try clear c9b1
      try clear c10
      try clear c10b0
      try clear c10b1
      try clear c11
      try clear c11b0
      try clear c11b1
      try clear hx152_0
      try clear hx152_1
      try clear hx152_2
      try clear hx152_3
      try clear hx153_0
      try clear hx153_1
      try clear hx153_2
      try clear hx153_3
      try clear p152
      try clear p153
      try clear q152
      try clear q153
      obtain ⟨kq, x6_5, rfl, HA, HJ5, HB⟩ := hcut
      cases kq with
      | zero => exact absurd HA.out (by simp [privitylaw26_LexerIsName.j0])
      | succ kj5 =>
        have H := HA.out
        clear HA
        simp only [privitylaw26_LexerIsName.j0] at H
        replace H := Option.bind_eq_some_iff.mp H
        obtain ⟨t154, A150, H⟩ := H
        replace H : (if t154 = true then ((lexer_IsName.f a0).bind fun t155 => ((privityref26_IsName.f kj5 a0).bind fun t156 => (if (t155 == t156) = true then ((lexer_IsName.f a0).bind fun t157 => (some (t157 == x6_5))) else (some false)))) else (some false)) = some r := H
        have A15 := Aside0.mk A150
        clear A150
        by_cases c16 : t154 = true
        · subst c16
          have H1 : ((lexer_IsName.f a0).bind fun t155 => ((privityref26_IsName.f kj5 a0).bind fun t156 => (if (t155 == t156) = true then ((lexer_IsName.f a0).bind fun t157 => (some (t157 == x6_5))) else (some false)))) = some r := by rw [if_pos rfl] at H; exact H
          clear H
          have H := H1
          clear H1
          replace H := Option.bind_eq_some_iff.mp H
          obtain ⟨t155, A170, H⟩ := H
          replace H : ((privityref26_IsName.f kj5 a0).bind fun t156 => (if (t155 == t156) = true then ((lexer_IsName.f a0).bind fun t157 => (some (t157 == x6_5))) else (some false))) = some r := H
          have A17 := Aside0.mk A170
          clear A170
          replace H := Option.bind_eq_some_iff.mp H
          obtain ⟨t156, A180, H⟩ := H
          replace H : (if (t155 == t156) = true then ((lexer_IsName.f a0).bind fun t157 => (some (t157 == x6_5))) else (some false)) = some r := H
          have A18 := Aside0.mk A180
          clear A180
          by_cases c19 : (t155 == t156) = true
          · rw [if_pos c19] at H
            have c19b0 : (t155 == t156) = true := c19
            (try (have c19b1 : decide (t155 = t156) = true := by simpa using c19))
            (try (have c19b2 : (t155 == t156) = true := by simpa using c19))
            clear c19
            replace H := Option.bind_eq_some_iff.mp H
            obtain ⟨t157, A200, H⟩ := H
            replace H : (some (t157 == x6_5)) = some r := H
            have A20 := Aside0.mk A200
            clear A200
            obtain rfl := Option.some.inj H
            go_wp2_with (first | ((with_reducible refine gate_callee (f := 20) rfl ?_); refine goesL_ (some 39) rfl rfl Tryd.func20 (by kernel_rfl) rfl #[] rfl (by (try simp only [List.map_toArray, List.map_cons, List.map_nil]); first | done | rfl | (simp only [List.length_drop, List.length_take]; rfl)) ?_; (with_reducible refine (privitylaw26_awake.calls  true _ ?side1 A15.out).mono ?_); (case side1 => exact Gl.below HG.out (by repeat (first | (with_reducible first | exact HB.out | apply below_alloc | apply pw_below_drewN | apply below_drew1) | exact HB.out))); rintro e w21 ⟨rfl, hb⟩; refine ⟨_, rfl, ?_⟩; have n0_ := Aside0.mk (below_step (by repeat (first | (with_reducible first | exact HB.out | apply below_alloc | apply pw_below_drewN | apply below_drew1) | exact HB.out)) hb); clear HB; have HB := n0_; clear n0_; (try clear hb); (try clear hb2); (try clear hk); (try clear hi)) | (go_at_call 24; (with_reducible refine (lexer_IsName.calls a0 t155 _ ?side1 A17.out).mono ?_); (case side1 => exact Gl.below HG.out (by repeat (first | (with_reducible first | exact HB.out | apply below_alloc | apply pw_below_drewN | apply below_drew1) | exact HB.out))); rintro e w22 ⟨rfl, hb⟩; have n0_ := Aside0.mk (below_step (by repeat (first | (with_reducible first | exact HB.out | apply below_alloc | apply pw_below_drewN | apply below_drew1) | exact HB.out)) hb); clear HB; have HB := n0_; clear n0_; (try clear hb); (try clear hb2); (try clear hk); (try clear hi)) | (go_at_call 25; (with_reducible refine (privityref26_IsName.calls kj5 a0 t156 _ A18.out).mono ?_); rintro e w23 ⟨rfl, hb⟩; have n0_ := Aside0.mk (below_step (by repeat (first | (with_reducible first | exact HB.out | apply below_alloc | apply pw_below_drewN | apply below_drew1) | exact HB.out)) hb); clear HB; have HB := n0_; clear n0_; (try clear hb); (try clear hb2); (try clear hk); (try clear hi)) | (go_at_call 24; (with_reducible refine (lexer_IsName.calls a0 t157 _ ?side1 A20.out).mono ?_); (case side1 => exact Gl.below HG.out (by repeat (first | (with_reducible first | exact HB.out | apply below_alloc | apply pw_below_drewN | apply below_drew1) | exact HB.out))); rintro e w24 ⟨rfl, hb⟩; have n0_ := Aside0.mk (below_step (by repeat (first | (with_reducible first | exact HB.out | apply below_alloc | apply pw_below_drewN | apply below_drew1) | exact HB.out)) hb); clear HB; have HB := n0_; clear n0_; (try clear hb); (try clear hb2); (try clear hk); (try clear hi)))
            have e_ := Option.some.inj (A17.out.symm.trans A20.out)
            subst e_
            go_ret
            exact ⟨by first | rfl | (simp [errW_none, errW_some] <;> rfl) | (simp [*, errW_none, errW_some] <;> rfl), by repeat (first | (with_reducible first | exact HB.out | apply below_alloc | apply pw_below_drewN | apply below_drew1) | exact HB.out)⟩
          · rw [if_neg c19] at H
            have c19b0 : (t155 == t156) = false := by simpa using c19
            (try (have c19b1 : decide (t155 = t156) = false := by simpa using c19))
            (try (have c19b2 : (t155 == t156) = false := by simpa using c19))
            (try (have c19b3 : ¬ (t155 = t156) := by simpa using c19))
            clear c19
            obtain rfl := Option.some.inj H
            go_wp2_with (first | ((with_reducible refine gate_callee (f := 20) rfl ?_); refine goesL_ (some 39) rfl rfl Tryd.func20 (by kernel_rfl) rfl #[] rfl (by (try simp only [List.map_toArray, List.map_cons, List.map_nil]); first | done | rfl | (simp only [List.length_drop, List.length_take]; rfl)) ?_; (with_reducible refine (privitylaw26_awake.calls  true _ ?side1 A15.out).mono ?_); (case side1 => exact Gl.below HG.out (by repeat (first | (with_reducible first | exact HB.out | apply below_alloc | apply pw_below_drewN | apply below_drew1) | exact HB.out))); rintro e w25 ⟨rfl, hb⟩; refine ⟨_, rfl, ?_⟩; have n0_ := Aside0.mk (below_step (by repeat (first | (with_reducible first | exact HB.out | apply below_alloc | apply pw_below_drewN | apply below_drew1) | exact HB.out)) hb); clear HB; have HB := n0_; clear n0_; (try clear hb); (try clear hb2); (try clear hk); (try clear hi)) | (go_at_call 24; (with_reducible refine (lexer_IsName.calls a0 t155 _ ?side1 A17.out).mono ?_); (case side1 => exact Gl.below HG.out (by repeat (first | (with_reducible first | exact HB.out | apply below_alloc | apply pw_below_drewN | apply below_drew1) | exact HB.out))); rintro e w26 ⟨rfl, hb⟩; have n0_ := Aside0.mk (below_step (by repeat (first | (with_reducible first | exact HB.out | apply below_alloc | apply pw_below_drewN | apply below_drew1) | exact HB.out)) hb); clear HB; have HB := n0_; clear n0_; (try clear hb); (try clear hb2); (try clear hk); (try clear hi)) | (go_at_call 25; (with_reducible refine (privityref26_IsName.calls kj5 a0 t156 _ A18.out).mono ?_); rintro e w27 ⟨rfl, hb⟩; have n0_ := Aside0.mk (below_step (by repeat (first | (with_reducible first | exact HB.out | apply below_alloc | apply pw_below_drewN | apply below_drew1) | exact HB.out)) hb); clear HB; have HB := n0_; clear n0_; (try clear hb); (try clear hb2); (try clear hk); (try clear hi)))
            go_ret
            exact ⟨by first | rfl | (simp [errW_none, errW_some] <;> rfl) | (simp [*, errW_none, errW_some] <;> rfl), by repeat (first | (with_reducible first | exact HB.out | apply below_alloc | apply pw_below_drewN | apply below_drew1) | exact HB.out)⟩
        · replace c16 := Bool.eq_false_iff.mpr c16
          subst c16
          have H1 : (some false) = some r := by rw [if_neg (show ¬ (false = true) by decide)] at H; exact H
          clear H
          have H := H1
          clear H1
          obtain rfl := Option.some.inj H
          go_wp2_with (first | ((with_reducible refine gate_callee (f := 20) rfl ?_); refine goesL_ (some 39) rfl rfl Tryd.func20 (by kernel_rfl) rfl #[] rfl (by (try simp only [List.map_toArray, List.map_cons, List.map_nil]); first | done | rfl | (simp only [List.length_drop, List.length_take]; rfl)) ?_; (with_reducible refine (privitylaw26_awake.calls  false _ ?side1 A15.out).mono ?_); (case side1 => exact Gl.below HG.out (by repeat (first | (with_reducible first | exact HB.out | apply below_alloc | apply pw_below_drewN | apply below_drew1) | exact HB.out))); rintro e w28 ⟨rfl, hb⟩; refine ⟨_, rfl, ?_⟩; have n0_ := Aside0.mk (below_step (by repeat (first | (with_reducible first | exact HB.out | apply below_alloc | apply pw_below_drewN | apply below_drew1) | exact HB.out)) hb); clear HB; have HB := n0_; clear n0_; (try clear hb); (try clear hb2); (try clear hk); (try clear hi)))
          go_ret
          exact ⟨by first | rfl | (simp [errW_none, errW_some] <;> rfl) | (simp [*, errW_none, errW_some] <;> rfl), by repeat (first | (with_reducible first | exact HB.out | apply below_alloc | apply pw_below_drewN | apply below_drew1) | exact HB.out)⟩

/-- THE ONE PURE STATEMENT of privitylaw26_LexerIsName: yours. -/
def privitylaw26_LexerIsName.Pure : Prop := ∀ (a0 : ByteArray), a0.size ≤ 140737488351232 → ∃ k, privitylaw26_LexerIsName.f k a0 = some true
theorem privitylaw26_LexerIsName.walk (P : privitylaw26_LexerIsName.Pure) (a0 : ByteArray) (w : World) (w0 : a0.size ≤ 140737488351232) (hG : Gl w) :
    Calls Tryd.prog 4 #[.string a0] w fun e w' => e = .returned (.bool true) ∧ Below w.heap.size w w' := by
  obtain ⟨k, h⟩ := P a0 w0
  refine (privitylaw26_LexerIsName.calls k a0 true w hG h).mono ?_
  rintro e w' ⟨rfl, hd⟩
  exact ⟨rfl, hd⟩

end Go.Proofs.YtanollmhbjlimaaDoor.Pl
