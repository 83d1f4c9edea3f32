import Derived.Test.YtlhnfgnihakcfaaDoorA8
import Derived.Test.YtlhnfgnihakcfaaDoorA6
set_option linter.unusedSimpArgs false
set_option linter.unusedVariables false
/- privitylaw27.ASTEqual answers true. -/
namespace Go.Proofs.YtlhnfgnihakcfaaDoor.Ax
open Go.RowKit Hp Kn Lx
open Go.Proofs.YtlhnfgnihakcfaaDoorW.PrintWords Go.Proofs.YtlhnfgnihakcfaaDoorW.PrintLast Go.Proofs.YtlhnfgnihakcfaaDoorW.PrintMore
theorem PC.below {W W2 : World} {g : Nat} {A0 : Option Addr} {c0 : Nat} {l0 : List S55} {A1 : Option Addr} {c1 : Nat} {l1 : List S58} {A2 : Option Addr} {c2 : Nat} {l2 : List S64} (h : PC g A0 c0 l0 A1 c1 l1 A2 c2 l2 W) (hb : Below W.heap.size W W2) : PC g A0 c0 l0 A1 c1 l1 A2 c2 l2 W2 := by
  obtain ⟨s0, s1, s2⟩ := h
  have k : ∀ (a : Addr) v, W.cell? a = some v → W2.cell? a = some v := fun a v h => (hb.cell (World.block_lt_of_cell? W _ h)).trans h
  exact ⟨k _ _ s0, k _ _ s1, k _ _ s2⟩
theorem ProgAt.below {W W2 : World} {v : Value} {A0 : Option Addr} {c0 : Nat} {l0 : List S55} {A1 : Option Addr} {c1 : Nat} {l1 : List S58} {A2 : Option Addr} {c2 : Nat} {l2 : List S64} (h : ProgAt W v A0 c0 l0 A1 c1 l1 A2 c2 l2) (hb : Below W.heap.size W W2) : ProgAt W2 v A0 c0 l0 A1 c1 l1 A2 c2 l2 :=
  ⟨h.v, Kd.C_below h.h0 hb, h.g0, h.o0, h.n0, Kd.C_below h.h1 hb, h.g1, h.o1, h.n1, Kd.C_below h.h2 hb, h.g2, h.o2, h.n2⟩
set_option maxRecDepth 100000 in
set_option maxHeartbeats 2000000 in
theorem asteq_calls {A0 : Option Addr} {c0 : Nat} {l0 : List S55} {A1 : Option Addr} {c1 : Nat} {l1 : List S58} {A2 : Option Addr} {c2 : Nat} {l2 : List S64} {B0 : Option Addr} {d0 : Nat} {m0 : List S55} {B1 : Option Addr} {d1 : Nat} {m1 : List S58} {B2 : Option Addr} {d2 : Nat} {m2 : List S64} {va vb : Value} (w : World) (hG : Gx w) (ha : ProgAt w va A0 c0 l0 A1 c1 l1 A2 c2 l2) (hb : ProgAt w vb B0 d0 m0 B1 d1 m1 B2 d2 m2) :
    Calls Tryd.prog 4 #[va, vb] w fun e w' => e = .returned (.bool true) ∧ Below w.heap.size w w' := by
  obtain rfl := ha.v
  obtain rfl := hb.v
  have HA := Lib.hid ha
  have HB := Lib.hid hb
  have HG := Lib.hid hG
  clear ha hb hG
  have H1 := Lib.hid (((Below.refl w.heap.size w).alloc (Nat.le_refl _) (.cells #[.slice A0 l0.length c0, .slice A1 l1.length c1, .slice A2 l2.length c2] 26)).alloc (by simp) (.cells #[.slice B0 m0.length d0, .slice B1 m1.length d1, .slice B2 m2.length d2] 26))
  have HS := Lib.hid (And.intro (PC.of (Blk.alloc (Blk.alloc_new w [.slice A0 l0.length c0, .slice A1 l1.length c1, .slice A2 l2.length c2] 26) (.cells #[.slice B0 m0.length d0, .slice B1 m1.length d1, .slice B2 m2.length d2] 26))) (PC.of (second_new w (.cells #[.slice A0 l0.length c0, .slice A1 l1.length c1, .slice A2 l2.length c2] 26) [.slice B0 m0.length d0, .slice B1 m1.length d1, .slice B2 m2.length d2] 26)))
  go_enter Tryd.func4, Tryd.ntmps4
  go_wp2_with fail
  refine (few_calls A0 c0 l0 A1 c1 l1 A2 c2 l2 _ (Kd.C_below HA.out.h2 H1.out) HA.out.g2 HA.out.n2 HA.out.o2).mono ?_
  rintro e w2 ⟨b, rfl, _, hc⟩
  have H2 := Lib.hid (below_next H1.out (Nat.le_refl _) (hc.mono (by simp)))
  have HS2 := Lib.hid (And.intro (HS.out.1.below hc) (HS.out.2.below hc))
  clear hc
  obtain ⟨⟨x0, x1, x2⟩, ⟨y0, y1, y2⟩⟩ := HS2.out
  cases b with
  | false =>
    go_wp2_with fail
    refine (awake_calls _ (HG.out.below H2.out)).mono ?_
    rintro e v1 ⟨rfl, hc⟩
    have hz := Lib.hid (below_next H2.out (by simp) hc)
    clear hc
    go_wp2_with fail
    go_ret
    exact ⟨rfl, hz.out⟩
  | true =>
  go_wp2_with fail
  refine (few_calls B0 d0 m0 B1 d1 m1 B2 d2 m2 w2 (Kd.C_below HB.out.h2 H2.out) HB.out.g2 HB.out.n2 HB.out.o2).mono ?_
  rintro e w3 ⟨b, rfl, _, hc⟩
  have H3 := Lib.hid (below_next H2.out (Nat.le_refl _) hc)
  have HS3 := Lib.hid (And.intro (HS2.out.1.below hc) (HS2.out.2.below hc))
  clear hc
  cases b with
  | false =>
    go_wp2_with fail
    refine (awake_calls _ (HG.out.below H3.out)).mono ?_
    rintro e v1 ⟨rfl, hc⟩
    have hz := Lib.hid (below_next H3.out (by simp) hc)
    clear hc
    go_wp2_with fail
    go_ret
    exact ⟨rfl, hz.out⟩
  | true =>
  clear x0 x1 x2 y0 y1 y2
  go_wp2_with fail
  have hS : (fun W => PC w.heap.size A0 c0 l0 A1 c1 l1 A2 c2 l2 W ∧ PC (w.heap.size + 1) B0 d0 m0 B1 d1 m1 B2 d2 m2 W) w3.drew := HS3.out
  refine Rg.region_steps (S := (fun W => PC w.heap.size A0 c0 l0 A1 c1 l1 A2 c2 l2 W ∧ PC (w.heap.size + 1) B0 d0 m0 B1 d1 m1 B2 d2 m2 W)) [.one 0, .any 1, .take 2, .take 3, .take 5, .take 6, .one 4, .one 7, .any 8, .any 9, .any 10, .take 11, .take 12, .one 13, .any 14, .any 15] (by kernel_rfl) (by kernel_rfl) hS ?_
  have HSd := Lib.hid hS
  refine Rg.s_call (N := some 14) rfl rfl Tryd.func11 (by kernel_rfl) rfl #[] (by rfl) rfl (by (try simp only [List.map_toArray, List.map_cons, List.map_nil]); first | done | rfl) ?_
  refine (awake_calls _ ((HG.out.below H3.out).below (Below.refl w3.heap.size w3).drew)).mono ?_
  rintro e v1 ⟨rfl, hc⟩
  have H4 := Lib.hid (below_next H3.out (Nat.le_refl _) (below_next (Below.refl w3.heap.size w3).drew (Nat.le_refl _) hc))
  have HS4 := Lib.hid (show (fun W => PC w.heap.size A0 c0 l0 A1 c1 l1 A2 c2 l2 W ∧ PC (w.heap.size + 1) B0 d0 m0 B1 d1 m1 B2 d2 m2 W) v1 from ⟨HSd.out.1.below hc, HSd.out.2.below hc⟩)
  clear hc
  refine ⟨HS4.out, ?_⟩
  refine Rg.s_norm (a' := ?_) ?_ ?_; rotate_left; (simp only [Act.put, List.setIfInBounds_toArray, List.set_cons_zero, List.set_cons_succ]; rfl)
  refine Rg.p 15 ?_ ?_ rfl rfl (fun _ _ _ h => h) (by rfl) ?_ ?_ ?_; rotate_left 2; (intro w'; go_simp; with_reducible rfl); (simp only [Rg.pq, Rg.pz, Rg.ps]; rfl)
  refine Rg.t 16 ?_ ?_ rfl rfl (fun _ _ _ h => h) (by assumption) (by rfl) ?_ ?_ ?_; rotate_left 2; (rintro w' ⟨⟨x0, x1, x2⟩, ⟨y0, y1, y2⟩⟩; go_simp; with_reducible rfl); (simp only [Rg.pq, Rg.pz, Rg.ps]; rfl)
  refine Rg.t 17 ?_ ?_ rfl rfl (fun _ _ _ h => h) (by assumption) (by rfl) ?_ ?_ ?_; rotate_left 2; (rintro w' ⟨⟨x0, x1, x2⟩, ⟨y0, y1, y2⟩⟩; go_simp; with_reducible rfl); (simp only [Rg.pq, Rg.pz, Rg.ps]; rfl)
  refine Rg.t 19 ?_ ?_ rfl rfl (fun _ _ _ h => h) (by assumption) (by rfl) ?_ ?_ ?_; rotate_left 2; (rintro w' ⟨⟨x0, x1, x2⟩, ⟨y0, y1, y2⟩⟩; go_simp; with_reducible rfl); (simp only [Rg.pq, Rg.pz, Rg.ps]; rfl)
  refine Rg.t 20 ?_ ?_ rfl rfl (fun _ _ _ h => h) (by assumption) (by rfl) ?_ ?_ ?_; rotate_left 2; (rintro w' ⟨⟨x0, x1, x2⟩, ⟨y0, y1, y2⟩⟩; go_simp; with_reducible rfl); (simp only [Rg.pq, Rg.pz, Rg.ps]; rfl)
  refine Rg.s_call (N := some 18) rfl rfl Tryd.func14 (by kernel_rfl) rfl #[.agg #[.slice A0 l0.length c0, .slice A1 l1.length c1, .slice A2 l2.length c2], .agg #[.slice B0 m0.length d0, .slice B1 m1.length d1, .slice B2 m2.length d2]] (by rfl) rfl (by (try simp only [List.map_toArray, List.map_cons, List.map_nil]); first | done | rfl) ?_
  refine (equal_calls A0 c0 l0 A1 c1 l1 A2 c2 l2 B0 d0 m0 B1 d1 m1 B2 d2 m2 v1 (Kd.C_below HA.out.h0 H4.out) HA.out.g0 (Kd.C_below HA.out.h1 H4.out) HA.out.g1 (Kd.C_below HA.out.h2 H4.out) HA.out.g2 (Kd.C_below HB.out.h0 H4.out) HB.out.g0 (Kd.C_below HB.out.h1 H4.out) HB.out.g1 (Kd.C_below HB.out.h2 H4.out) HB.out.g2 HA.out.n0 HA.out.n1 HA.out.n2 HA.out.o2).mono ?_
  rintro e v2 ⟨rfl, hc⟩
  obtain ⟨r, hr⟩ : ∃ r, (eqP l0 m0 && eqP l1 m1 && eqP l2 m2) = r := ⟨_, rfl⟩
  rw [hr]
  have H5 := Lib.hid (below_next H4.out (Nat.le_refl _) hc)
  have HS5 := Lib.hid (show (fun W => PC w.heap.size A0 c0 l0 A1 c1 l1 A2 c2 l2 W ∧ PC (w.heap.size + 1) B0 d0 m0 B1 d1 m1 B2 d2 m2 W) v2 from ⟨HS4.out.1.below hc, HS4.out.2.below hc⟩)
  clear hc
  refine ⟨HS5.out, ?_⟩
  refine Rg.s_norm (a' := ?_) ?_ ?_; rotate_left; (simp only [Act.put, List.setIfInBounds_toArray, List.set_cons_zero, List.set_cons_succ]; rfl)
  refine Rg.s_call (N := some 21) rfl rfl Tryd.func15 (by kernel_rfl) rfl #[.agg #[.slice A0 l0.length c0, .slice A1 l1.length c1, .slice A2 l2.length c2], .agg #[.slice B0 m0.length d0, .slice B1 m1.length d1, .slice B2 m2.length d2]] (by rfl) rfl (by (try simp only [List.map_toArray, List.map_cons, List.map_nil]); first | done | rfl) ?_
  refine (requal_calls A0 c0 l0 A1 c1 l1 A2 c2 l2 B0 d0 m0 B1 d1 m1 B2 d2 m2 v2 (Kd.C_below HA.out.h0 H5.out) (Kd.C_below HA.out.h1 H5.out) (Kd.C_below HA.out.h2 H5.out) HA.out.g2 (Kd.C_below HB.out.h0 H5.out) (Kd.C_below HB.out.h1 H5.out) (Kd.C_below HB.out.h2 H5.out) HB.out.g2 HA.out.n0 HA.out.n1 HA.out.n2 HA.out.o2).mono ?_
  rintro e v3 ⟨rfl, hc⟩
  rw [hr]
  have H6 := Lib.hid (below_next H5.out (Nat.le_refl _) hc)
  have HS6 := Lib.hid (show (fun W => PC w.heap.size A0 c0 l0 A1 c1 l1 A2 c2 l2 W ∧ PC (w.heap.size + 1) B0 d0 m0 B1 d1 m1 B2 d2 m2 W) v3 from ⟨HS5.out.1.below hc, HS5.out.2.below hc⟩)
  clear hc
  refine ⟨HS6.out, ?_⟩
  refine Rg.s_norm (a' := ?_) ?_ ?_; rotate_left; (simp only [Act.put, List.setIfInBounds_toArray, List.set_cons_zero, List.set_cons_succ]; rfl)
  refine Rg.p 22 ?_ ?_ rfl rfl (fun _ _ _ h => h) (by rfl) ?_ ?_ ?_; rotate_left 2; (intro w'; go_simp; with_reducible rfl); (simp only [Rg.pq, Rg.pz, Rg.ps]; rfl)
  refine Rg.p 23 ?_ ?_ rfl rfl (fun _ _ _ h => h) (by rfl) ?_ ?_ ?_; rotate_left 2; (intro w'; go_simp; with_reducible rfl); (simp only [Rg.pq, Rg.pz, Rg.ps]; rfl)
  refine Rg.p 24 ?_ ?_ rfl rfl (fun _ _ _ h => h) (by rfl) ?_ ?_ ?_; rotate_left 2; (intro w'; go_simp; with_reducible rfl); (simp only [Rg.pq, Rg.pz, Rg.ps]; rfl)
  refine Rg.t 25 ?_ ?_ rfl rfl (fun _ _ _ h => h) (by assumption) (by rfl) ?_ ?_ ?_; rotate_left 2; (rintro w' ⟨⟨x0, x1, x2⟩, ⟨y0, y1, y2⟩⟩; go_simp; with_reducible rfl); (simp only [Rg.pq, Rg.pz, Rg.ps]; rfl)
  refine Rg.t 26 ?_ ?_ rfl rfl (fun _ _ _ h => h) (by assumption) (by rfl) ?_ ?_ ?_; rotate_left 2; (rintro w' ⟨⟨x0, x1, x2⟩, ⟨y0, y1, y2⟩⟩; go_simp; with_reducible rfl); (simp only [Rg.pq, Rg.pz, Rg.ps]; rfl)
  refine Rg.s_call (N := some 27) rfl rfl Tryd.func14 (by kernel_rfl) rfl #[.agg #[.slice A0 l0.length c0, .slice A1 l1.length c1, .slice A2 l2.length c2], .agg #[.slice A0 l0.length c0, .slice A1 l1.length c1, .slice A2 l2.length c2]] (by rfl) rfl (by (try simp only [List.map_toArray, List.map_cons, List.map_nil]); first | done | rfl) ?_
  refine (equal_calls A0 c0 l0 A1 c1 l1 A2 c2 l2 A0 c0 l0 A1 c1 l1 A2 c2 l2 v3 (Kd.C_below HA.out.h0 H6.out) HA.out.g0 (Kd.C_below HA.out.h1 H6.out) HA.out.g1 (Kd.C_below HA.out.h2 H6.out) HA.out.g2 (Kd.C_below HA.out.h0 H6.out) HA.out.g0 (Kd.C_below HA.out.h1 H6.out) HA.out.g1 (Kd.C_below HA.out.h2 H6.out) HA.out.g2 HA.out.n0 HA.out.n1 HA.out.n2 HA.out.o2).mono ?_
  rintro e v4 ⟨rfl, hc⟩
  rw [eqP_self, eqP_self, eqP_self]
  have H7 := Lib.hid (below_next H6.out (Nat.le_refl _) hc)
  have HS7 := Lib.hid (show (fun W => PC w.heap.size A0 c0 l0 A1 c1 l1 A2 c2 l2 W ∧ PC (w.heap.size + 1) B0 d0 m0 B1 d1 m1 B2 d2 m2 W) v4 from ⟨HS6.out.1.below hc, HS6.out.2.below hc⟩)
  clear hc
  refine ⟨HS7.out, ?_⟩
  refine Rg.s_norm (a' := ?_) ?_ ?_; rotate_left; (simp only [Act.put, List.setIfInBounds_toArray, List.set_cons_zero, List.set_cons_succ]; rfl)
  refine Rg.p 28 ?_ ?_ rfl rfl (fun _ _ _ h => h) (by rfl) ?_ ?_ ?_; rotate_left 2; (intro w'; go_simp; with_reducible rfl); (simp only [Rg.pq, Rg.pz, Rg.ps]; rfl)
  refine Rg.p 4 ?_ ?_ rfl rfl (fun _ _ _ h => h) (by rfl) ?_ ?_ ?_; rotate_left 2; (intro w'; go_simp; with_reducible rfl); (simp only [Rg.pq, Rg.pz, Rg.ps]; rfl)
  refine Rg.s_done ?_
  go_wp2_with fail
  go_ret
  exact ⟨rfl, H7.out⟩
end Go.Proofs.YtlhnfgnihakcfaaDoor.Ax
