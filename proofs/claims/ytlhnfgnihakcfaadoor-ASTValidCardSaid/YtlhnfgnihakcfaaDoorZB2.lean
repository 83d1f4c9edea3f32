import Derived.Test.YtlhnfgnihakcfaaDoorZA8
import Derived.Test.YtlhnfgnihakcfaaDoorZA6
import Derived.Test.YtlhnfgnihakcfaaDoorZB1
set_option linter.unusedSimpArgs false
set_option linter.unusedVariables false
/- privitylaw27.ASTEqual answers true. -/
namespace Go.Proofs.YtlhnfgnihakcfaaDoor.Ax
open Go.RowKit Hp Kn Lx
open Go.Proofs.YtlhnfgnihakcfaaDoorW.PrintWords Go.Proofs.YtlhnfgnihakcfaaDoorW.PrintLast Go.Proofs.YtlhnfgnihakcfaaDoorW.PrintMore
theorem PC.below {W W2 : World} {g : Nat} {A0 : Option Addr} {c0 : Nat} {l0 : List S55} {A1 : Option Addr} {c1 : Nat} {l1 : List S58} {A2 : Option Addr} {c2 : Nat} {l2 : List S64} (h : PC g A0 c0 l0 A1 c1 l1 A2 c2 l2 W) (hb : Below W.heap.size W W2) : PC g A0 c0 l0 A1 c1 l1 A2 c2 l2 W2 := by
  obtain ⟨s0, s1, s2⟩ := h
  have k : ∀ (a : Addr) v, W.cell? a = some v → W2.cell? a = some v := fun a v h => (hb.cell (World.block_lt_of_cell? W _ h)).trans h
  exact ⟨k _ _ s0, k _ _ s1, k _ _ s2⟩
theorem ProgAt.below {W W2 : World} {v : Value} {A0 : Option Addr} {c0 : Nat} {l0 : List S55} {A1 : Option Addr} {c1 : Nat} {l1 : List S58} {A2 : Option Addr} {c2 : Nat} {l2 : List S64} (h : ProgAt W v A0 c0 l0 A1 c1 l1 A2 c2 l2) (hb : Below W.heap.size W W2) : ProgAt W2 v A0 c0 l0 A1 c1 l1 A2 c2 l2 :=
  ⟨h.v, Kd.C_below h.h0 hb, h.g0, h.o0, h.n0, Kd.C_below h.h1 hb, h.g1, h.o1, h.n1, Kd.C_below h.h2 hb, h.g2, h.o2, h.n2⟩
end Go.Proofs.YtlhnfgnihakcfaaDoor.Ax
set_option linter.unusedSimpArgs false
set_option linter.unusedVariables false
/- privitylaw27.ASTValid answers true. -/
namespace Go.Proofs.YtlhnfgnihakcfaaDoor.Ax
open Go.RowKit Hp Kn Lx
open Go.Proofs.YtlhnfgnihakcfaaDoorW.PrintWords Go.Proofs.YtlhnfgnihakcfaaDoorW.PrintLast Go.Proofs.YtlhnfgnihakcfaaDoorW.PrintMore
set_option maxRecDepth 100000 in
set_option maxHeartbeats 2000000 in
theorem astvalid_calls {A0 : Option Addr} {c0 : Nat} {l0 : List S55} {A1 : Option Addr} {c1 : Nat} {l1 : List S58} {A2 : Option Addr} {c2 : Nat} {l2 : List S64} {va : Value} (w : World) (hG : Gx w) (ha : ProgAt w va A0 c0 l0 A1 c1 l1 A2 c2 l2) :
    Calls Tryd.prog 3 #[va] w fun e w' => e = .returned (.bool true) ∧ Below w.heap.size w w' := by
  obtain rfl := ha.v
  have HA := Lib.hid ha
  have HG := Lib.hid hG
  clear ha hG
  have H1 := Lib.hid ((Below.refl w.heap.size w).alloc (Nat.le_refl _) (.cells #[.slice A0 l0.length c0, .slice A1 l1.length c1, .slice A2 l2.length c2] 26))
  have HS := Lib.hid (PC.of (Blk.alloc_new w [.slice A0 l0.length c0, .slice A1 l1.length c1, .slice A2 l2.length c2] 26))
  go_enter Tryd.func3, Tryd.ntmps3
  go_wp2_with fail
  refine (few_calls A0 c0 l0 A1 c1 l1 A2 c2 l2 _ (Kd.C_below HA.out.h2 H1.out) HA.out.g2 HA.out.n2 HA.out.o2).mono ?_
  rintro e w2 ⟨b, rfl, hf, hc⟩
  have H2 := Lib.hid (below_next H1.out (Nat.le_refl _) (hc.mono (by simp)))
  have HS2 := Lib.hid (HS.out.below hc)
  have HF := Lib.hid hf
  clear hc hf
  obtain ⟨x0, x1, x2⟩ := HS2.out
  cases b with
  | false =>
    go_wp2_with fail
    refine (awake_calls _ (HG.out.below H2.out)).mono ?_
    rintro e v1 ⟨rfl, hc⟩
    have hz := Lib.hid (below_next H2.out (by simp) hc)
    clear hc
    go_wp2_with fail
    go_ret
    exact ⟨rfl, hz.out⟩
  | true =>
  clear x0 x1 x2
  have HZ := Lib.hid (show l0.all inB = true → l1.all arB = true → l2.all (stmtB 24) = true → (fmtB l0 l1 l2).length ≤ 140737488355328 from fun b0 b1 b2 => by
    have h := HF.out rfl
    have := fmtB_short h.1 h.2.1 h.2.2 b0 b1 b2
    omega)
  go_wp2_with fail
  have hS : (fun W => PC w.heap.size A0 c0 l0 A1 c1 l1 A2 c2 l2 W) w2.drew := HS2.out
  refine Rg.region_steps (S := (fun W => PC w.heap.size A0 c0 l0 A1 c1 l1 A2 c2 l2 W)) [.one 0, .any 1, .take 2, .take 4, .one 3, .one 5, .any 6, .any 7, .any 8] (by kernel_rfl) (by kernel_rfl) hS ?_
  have HSd := Lib.hid hS
  refine Rg.s_call (N := some 7) rfl rfl Tryd.func11 (by kernel_rfl) rfl #[] (by rfl) rfl (by (try simp only [List.map_toArray, List.map_cons, List.map_nil]); first | done | rfl) ?_
  refine (awake_calls _ ((HG.out.below H2.out).below (Below.refl w2.heap.size w2).drew)).mono ?_
  rintro e v1 ⟨rfl, hc⟩
  have H4 := Lib.hid (below_next H2.out (Nat.le_refl _) (below_next (Below.refl w2.heap.size w2).drew (Nat.le_refl _) hc))
  have HS4 := Lib.hid (show (fun W => PC w.heap.size A0 c0 l0 A1 c1 l1 A2 c2 l2 W) v1 from HSd.out.below hc)
  clear hc
  refine ⟨HS4.out, ?_⟩
  refine Rg.s_norm (a' := ?_) ?_ ?_; rotate_left; (simp only [Act.put, List.setIfInBounds_toArray, List.set_cons_zero, List.set_cons_succ]; rfl)
  refine Rg.p 8 ?_ ?_ rfl rfl (fun _ _ _ h => h) (by rfl) ?_ ?_ ?_; rotate_left 2; (intro w'; go_simp; with_reducible rfl); (simp only [Rg.pq, Rg.pz, Rg.ps]; rfl)
  refine Rg.t 9 ?_ ?_ rfl rfl (fun _ _ _ h => h) (by assumption) (by rfl) ?_ ?_ ?_; rotate_left 2; (rintro w' ⟨x0, x1, x2⟩; go_simp; with_reducible rfl); (simp only [Rg.pq, Rg.pz, Rg.ps]; rfl)
  refine Rg.t 11 ?_ ?_ rfl rfl (fun _ _ _ h => h) (by assumption) (by rfl) ?_ ?_ ?_; rotate_left 2; (rintro w' ⟨x0, x1, x2⟩; go_simp; with_reducible rfl); (simp only [Rg.pq, Rg.pz, Rg.ps]; rfl)
  refine Rg.s_call (N := some 10) rfl rfl Tryd.func12 (by kernel_rfl) rfl #[.agg #[.slice A0 l0.length c0, .slice A1 l1.length c1, .slice A2 l2.length c2]] (by rfl) rfl (by (try simp only [List.map_toArray, List.map_cons, List.map_nil]); first | done | rfl) ?_
  refine (valid_calls A0 c0 l0 A1 c1 l1 A2 c2 l2 v1 (HG.out.below H4.out) (Kd.C_below HA.out.h0 H4.out) (Kd.C_below HA.out.h1 H4.out) (Kd.C_below HA.out.h2 H4.out) HA.out.g2 HA.out.n0 HA.out.n1 HA.out.n2 (fun x hx => (HA.out.o0 x hx).1) (fun x hx => (HA.out.o1 x hx).1) HA.out.o2 HZ.out).mono ?_
  rintro e v2 ⟨rfl, hc⟩
  obtain ⟨r, hr⟩ : ∃ r, validB l0 l1 l2 = r := ⟨_, rfl⟩
  rw [hr]
  have H5 := Lib.hid (below_next H4.out (Nat.le_refl _) hc)
  have HS5 := Lib.hid (show (fun W => PC w.heap.size A0 c0 l0 A1 c1 l1 A2 c2 l2 W) v2 from HS4.out.below hc)
  clear hc
  refine ⟨HS5.out, ?_⟩
  refine Rg.s_norm (a' := ?_) ?_ ?_; rotate_left; (simp only [Act.put, List.setIfInBounds_toArray, List.set_cons_zero, List.set_cons_succ]; rfl)
  refine Rg.s_call (N := some 12) rfl rfl Tryd.func13 (by kernel_rfl) rfl #[.agg #[.slice A0 l0.length c0, .slice A1 l1.length c1, .slice A2 l2.length c2]] (by rfl) rfl (by (try simp only [List.map_toArray, List.map_cons, List.map_nil]); first | done | rfl) ?_
  refine (rvalid_calls A0 c0 l0 A1 c1 l1 A2 c2 l2 v2 (HG.out.below H5.out) (Kd.C_below HA.out.h0 H5.out) (Kd.C_below HA.out.h1 H5.out) (Kd.C_below HA.out.h2 H5.out) HA.out.g2 HA.out.n0 HA.out.n1 HA.out.n2 (fun x hx => (HA.out.o0 x hx).1) (fun x hx => (HA.out.o1 x hx).1) HA.out.o2 HZ.out).mono ?_
  rintro e v3 ⟨rfl, hc⟩
  rw [hr]
  have H6 := Lib.hid (below_next H5.out (Nat.le_refl _) hc)
  have HS6 := Lib.hid (show (fun W => PC w.heap.size A0 c0 l0 A1 c1 l1 A2 c2 l2 W) v3 from HS5.out.below hc)
  clear hc
  refine ⟨HS6.out, ?_⟩
  refine Rg.s_norm (a' := ?_) ?_ ?_; rotate_left; (simp only [Act.put, List.setIfInBounds_toArray, List.set_cons_zero, List.set_cons_succ]; rfl)
  refine Rg.p 13 ?_ ?_ rfl rfl (fun _ _ _ h => h) (by rfl) ?_ ?_ ?_; rotate_left 2; (intro w'; go_simp; with_reducible rfl); (simp only [Rg.pq, Rg.pz, Rg.ps]; rfl)
  refine Rg.p 14 ?_ ?_ rfl rfl (fun _ _ _ h => h) (by rfl) ?_ ?_ ?_; rotate_left 2; (intro w'; go_simp; with_reducible rfl); (simp only [Rg.pq, Rg.pz, Rg.ps]; rfl)
  refine Rg.p 2 ?_ ?_ rfl rfl (fun _ _ _ h => h) (by rfl) ?_ ?_ ?_; rotate_left 2; (intro w'; go_simp; with_reducible rfl); (simp only [Rg.pq, Rg.pz, Rg.ps]; rfl)
  refine Rg.s_done ?_
  go_wp2_with fail
  go_ret
  exact ⟨rfl, H6.out⟩
end Go.Proofs.YtlhnfgnihakcfaaDoor.Ax
