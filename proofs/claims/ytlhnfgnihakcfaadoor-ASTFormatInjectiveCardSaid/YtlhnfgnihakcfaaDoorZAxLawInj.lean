import Derived.Test.YtlhnfgnihakcfaaDoorZB2
import Derived.Test.YtlhnfgnihakcfaaDoorZB3
set_option linter.unusedSimpArgs false
set_option linter.unusedVariables false
/- privitylaw27.ASTFormatInjective answers true. -/
namespace Go.Proofs.YtlhnfgnihakcfaaDoor.Ax
open Go.RowKit Hp Kn Lx
open Go.Proofs.YtlhnfgnihakcfaaDoorW.PrintWords Go.Proofs.YtlhnfgnihakcfaaDoorW.PrintLast Go.Proofs.YtlhnfgnihakcfaaDoorW.PrintMore
theorem inj_eq {l0 m0 : List DI} {l1 m1 : List DA} {l2 m2 : List ST} (hO : ∀ x ∈ l2, OkS x) (hO' : ∀ x ∈ m2, OkS x) (hv : l0.all inB = true ∧ l1.all arB = true ∧ l2.all (stmtB 24) = true) (hv' : m0.all inB = true ∧ m1.all arB = true ∧ m2.all (stmtB 24) = true) {s t : ByteArray} (hs : ⟨(fmtB l0 l1 l2).toArray⟩ = s) (ht : ⟨(fmtB m0 m1 m2).toArray⟩ = t) {r : Bool} (hr : (eqP l0 m0 && eqP l1 m1 && eqP l2 m2) = r) : (s.toList == t.toList) = r := by
  subst hs; subst ht; subst hr
  by_cases h : l0 = m0 ∧ l1 = m1 ∧ l2 = m2
  · obtain ⟨rfl, rfl, rfl⟩ := h
    rw [eqP_self, eqP_self, eqP_self]
    exact (str_eq _ _).2 rfl
  · have e1 : (eqP l0 m0 && eqP l1 m1 && eqP l2 m2) = false := by
      cases q : (eqP l0 m0 && eqP l1 m1 && eqP l2 m2) with
      | false => rfl
      | true =>
        simp only [Bool.and_eq_true, eqP_true] at q
        exact absurd ⟨q.1.1, q.1.2, q.2⟩ h
    rw [e1]
    cases q : ((⟨(fmtB l0 l1 l2).toArray⟩ : ByteArray).toList == (⟨(fmtB m0 m1 m2).toArray⟩ : ByteArray).toList) with
    | false => rfl
    | true =>
      have := (str_eq _ _).1 q
      have e : fmtB l0 l1 l2 = fmtB m0 m1 m2 := by
        have := congrArg (fun s : ByteArray => s.data.toList) this
        simpa using this
      exact absurd (fmt_inj hO hv.1 hv.2.1 hv.2.2 hO' hv'.1 hv'.2.1 hv'.2.2 e) h
set_option maxRecDepth 100000 in
set_option maxHeartbeats 2000000 in
theorem astinj_calls {A0 : Option Addr} {c0 : Nat} {l0 : List S55} {A1 : Option Addr} {c1 : Nat} {l1 : List S58} {A2 : Option Addr} {c2 : Nat} {l2 : List S64} {B0 : Option Addr} {d0 : Nat} {m0 : List S55} {B1 : Option Addr} {d1 : Nat} {m1 : List S58} {B2 : Option Addr} {d2 : Nat} {m2 : List S64} {va vb : Value} (w : World) (hG : Gx w) (ha : ProgAt w va A0 c0 l0 A1 c1 l1 A2 c2 l2) (hb : ProgAt w vb B0 d0 m0 B1 d1 m1 B2 d2 m2) :
    Calls Tryd.prog 6 #[va, vb] w fun e w' => e = .returned (.bool true) ∧ Below w.heap.size w w' := by
  obtain rfl := ha.v
  obtain rfl := hb.v
  have HA := Lib.hid ha
  have HB := Lib.hid hb
  have HG := Lib.hid hG
  clear ha hb hG
  have H1 := Lib.hid (((Below.refl w.heap.size w).alloc (Nat.le_refl _) (.cells #[.slice A0 l0.length c0, .slice A1 l1.length c1, .slice A2 l2.length c2] 26)).alloc (by simp) (.cells #[.slice B0 m0.length d0, .slice B1 m1.length d1, .slice B2 m2.length d2] 26))
  have HS := Lib.hid (And.intro (PC.of (Blk.alloc (Blk.alloc_new w [.slice A0 l0.length c0, .slice A1 l1.length c1, .slice A2 l2.length c2] 26) (.cells #[.slice B0 m0.length d0, .slice B1 m1.length d1, .slice B2 m2.length d2] 26))) (PC.of (second_new w (.cells #[.slice A0 l0.length c0, .slice A1 l1.length c1, .slice A2 l2.length c2] 26) [.slice B0 m0.length d0, .slice B1 m1.length d1, .slice B2 m2.length d2] 26)))
  go_enter Tryd.func6, Tryd.ntmps6
  go_wp2_with fail
  refine (few_calls A0 c0 l0 A1 c1 l1 A2 c2 l2 _ (Kd.C_below HA.out.h2 H1.out) HA.out.g2 HA.out.n2 HA.out.o2).mono ?_
  rintro e w2 ⟨b, rfl, hf, hc⟩
  have H2 := Lib.hid (below_next H1.out (Nat.le_refl _) (hc.mono (by simp)))
  have HS2 := Lib.hid (And.intro (HS.out.1.below hc) (HS.out.2.below hc))
  have HF := Lib.hid hf
  clear hc hf
  obtain ⟨⟨x0, x1, x2⟩, ⟨y0, y1, y2⟩⟩ := HS2.out
  cases b with
  | false =>
    go_wp2_with fail
    refine (awake_calls _ (HG.out.below H2.out)).mono ?_
    rintro e v1 ⟨rfl, hc⟩
    have hz := Lib.hid (below_next H2.out (by simp) hc)
    clear hc
    go_wp2_with fail
    go_ret
    exact ⟨rfl, hz.out⟩
  | true =>
  have HFF := Lib.hid (HF.out rfl)
  go_wp2_with fail
  refine (few_calls B0 d0 m0 B1 d1 m1 B2 d2 m2 w2 (Kd.C_below HB.out.h2 H2.out) HB.out.g2 HB.out.n2 HB.out.o2).mono ?_
  rintro e w3 ⟨b, rfl, hf, hc⟩
  have H3 := Lib.hid (below_next H2.out (Nat.le_refl _) hc)
  have HS3 := Lib.hid (And.intro (HS2.out.1.below hc) (HS2.out.2.below hc))
  have HK := Lib.hid hf
  clear hc hf x0 x1 x2 y0 y1 y2
  obtain ⟨⟨x0, x1, x2⟩, ⟨y0, y1, y2⟩⟩ := HS3.out
  cases b with
  | false =>
    go_wp2_with fail
    refine (awake_calls _ (HG.out.below H3.out)).mono ?_
    rintro e v1 ⟨rfl, hc⟩
    have hz := Lib.hid (below_next H3.out (by simp) hc)
    clear hc
    go_wp2_with fail
    go_ret
    exact ⟨rfl, hz.out⟩
  | true =>
  have HKF := Lib.hid (HK.out rfl)
  have HZ := Lib.hid (show l0.all inB = true → l1.all arB = true → l2.all (stmtB 24) = true → (fmtB l0 l1 l2).length ≤ 140737488355328 from fun b0 b1 b2 => by
    have := fmtB_short HFF.out.1 HFF.out.2.1 HFF.out.2.2 b0 b1 b2
    omega)
  have HY := Lib.hid (show m0.all inB = true → m1.all arB = true → m2.all (stmtB 24) = true → (fmtB m0 m1 m2).length ≤ 140737488355328 from fun b0 b1 b2 => by
    have := fmtB_short HKF.out.1 HKF.out.2.1 HKF.out.2.2 b0 b1 b2
    omega)
  go_wp2_with fail
  refine (rvalid_calls A0 c0 l0 A1 c1 l1 A2 c2 l2 _ (HG.out.below H3.out) (Kd.C_below HA.out.h0 H3.out) (Kd.C_below HA.out.h1 H3.out) (Kd.C_below HA.out.h2 H3.out) HA.out.g2 HA.out.n0 HA.out.n1 HA.out.n2 (fun x hx => (HA.out.o0 x hx).1) (fun x hx => (HA.out.o1 x hx).1) HA.out.o2 HZ.out).mono ?_
  rintro e w4 ⟨rfl, hc⟩
  have H4 := Lib.hid (below_next H3.out (Nat.le_refl _) hc)
  have HS4 := Lib.hid (And.intro (HS3.out.1.below hc) (HS3.out.2.below hc))
  clear hc x0 x1 x2 y0 y1 y2
  obtain ⟨⟨x0, x1, x2⟩, ⟨y0, y1, y2⟩⟩ := HS4.out
  cases hv : validB l0 l1 l2 with
  | false =>
    go_wp2_with fail
    refine (awake_calls _ (HG.out.below H4.out)).mono ?_
    rintro e v1 ⟨rfl, hc⟩
    have hz := Lib.hid (below_next H4.out (by simp) hc)
    clear hc
    go_wp2_with fail
    go_ret
    exact ⟨rfl, hz.out⟩
  | true =>
  have HV := Lib.hid (valid_parts hv)
  clear hv
  go_wp2_with fail
  refine (rvalid_calls B0 d0 m0 B1 d1 m1 B2 d2 m2 _ (HG.out.below H4.out) (Kd.C_below HB.out.h0 H4.out) (Kd.C_below HB.out.h1 H4.out) (Kd.C_below HB.out.h2 H4.out) HB.out.g2 HB.out.n0 HB.out.n1 HB.out.n2 (fun x hx => (HB.out.o0 x hx).1) (fun x hx => (HB.out.o1 x hx).1) HB.out.o2 HY.out).mono ?_
  rintro e w5 ⟨rfl, hc⟩
  have H5 := Lib.hid (below_next H4.out (Nat.le_refl _) hc)
  have HS5 := Lib.hid (And.intro (HS4.out.1.below hc) (HS4.out.2.below hc))
  clear hc x0 x1 x2 y0 y1 y2
  obtain ⟨⟨x0, x1, x2⟩, ⟨y0, y1, y2⟩⟩ := HS5.out
  cases hv : validB m0 m1 m2 with
  | false =>
    go_wp2_with fail
    refine (awake_calls _ (HG.out.below H5.out)).mono ?_
    rintro e v1 ⟨rfl, hc⟩
    have hz := Lib.hid (below_next H5.out (by simp) hc)
    clear hc
    go_wp2_with fail
    go_ret
    exact ⟨rfl, hz.out⟩
  | true =>
  have HU := Lib.hid (valid_parts hv)
  clear hv
  obtain ⟨s, hs⟩ : ∃ s : ByteArray, ⟨(fmtB l0 l1 l2).toArray⟩ = s := ⟨_, rfl⟩
  obtain ⟨t, ht⟩ : ∃ t : ByteArray, ⟨(fmtB m0 m1 m2).toArray⟩ = t := ⟨_, rfl⟩
  obtain ⟨r, hr⟩ : ∃ r, (eqP l0 m0 && eqP l1 m1 && eqP l2 m2) = r := ⟨_, rfl⟩
  have HQ := Lib.hid (inj_eq HA.out.o2 HB.out.o2 ⟨HV.out.2.2.1, HV.out.2.2.2.1, HV.out.2.2.2.2.1⟩ ⟨HU.out.2.2.1, HU.out.2.2.2.1, HU.out.2.2.2.2.1⟩ hs ht hr)
  have Hs := Lib.hid hs
  have Ht := Lib.hid ht
  have Hr := Lib.hid hr
  clear hs ht hr
  go_wp2_with fail
  clear x0 x1 x2 y0 y1 y2
  have hq := HQ.out
  have hS : (fun W => PC w.heap.size A0 c0 l0 A1 c1 l1 A2 c2 l2 W ∧ PC (w.heap.size + 1) B0 d0 m0 B1 d1 m1 B2 d2 m2 W) w5.drew := HS5.out
  refine Rg.region_steps (S := (fun W => PC w.heap.size A0 c0 l0 A1 c1 l1 A2 c2 l2 W ∧ PC (w.heap.size + 1) B0 d0 m0 B1 d1 m1 B2 d2 m2 W)) [.one 0, .any 1, .take 2, .take 4, .take 7, .take 8, .one 3, .one 5, .any 6, .one 9, .any 10, .any 11, .any 12] (by kernel_rfl) (by kernel_rfl) hS ?_
  have HSd := Lib.hid hS
  refine Rg.s_call (N := some 24) rfl rfl Tryd.func11 (by kernel_rfl) rfl #[] (by rfl) rfl (by (try simp only [List.map_toArray, List.map_cons, List.map_nil]); first | done | rfl) ?_
  refine (awake_calls _ ((HG.out.below H5.out).below (Below.refl w5.heap.size w5).drew)).mono ?_
  rintro e v1 ⟨rfl, hc⟩
  have H6 := Lib.hid (below_next H5.out (Nat.le_refl _) (below_next (Below.refl w5.heap.size w5).drew (Nat.le_refl _) hc))
  have HS6 := Lib.hid (show (fun W => PC w.heap.size A0 c0 l0 A1 c1 l1 A2 c2 l2 W ∧ PC (w.heap.size + 1) B0 d0 m0 B1 d1 m1 B2 d2 m2 W) v1 from ⟨HSd.out.1.below hc, HSd.out.2.below hc⟩)
  clear hc
  refine ⟨HS6.out, ?_⟩
  refine Rg.s_norm (a' := ?_) ?_ ?_; rotate_left; (simp only [Act.put, List.setIfInBounds_toArray, List.set_cons_zero, List.set_cons_succ]; rfl)
  refine Rg.p 25 ?_ ?_ rfl rfl (fun _ _ _ h => h) (by rfl) ?_ ?_ ?_; rotate_left 2; (intro w'; go_simp; with_reducible rfl); (simp only [Rg.pq, Rg.pz, Rg.ps]; rfl)
  refine Rg.t 26 ?_ ?_ rfl rfl (fun _ _ _ h => h) (by assumption) (by rfl) ?_ ?_ ?_; rotate_left 2; (rintro w' ⟨⟨x0, x1, x2⟩, ⟨y0, y1, y2⟩⟩; go_simp; with_reducible rfl); (simp only [Rg.pq, Rg.pz, Rg.ps]; rfl)
  refine Rg.t 28 ?_ ?_ rfl rfl (fun _ _ _ h => h) (by assumption) (by rfl) ?_ ?_ ?_; rotate_left 2; (rintro w' ⟨⟨x0, x1, x2⟩, ⟨y0, y1, y2⟩⟩; go_simp; with_reducible rfl); (simp only [Rg.pq, Rg.pz, Rg.ps]; rfl)
  refine Rg.t 31 ?_ ?_ rfl rfl (fun _ _ _ h => h) (by assumption) (by rfl) ?_ ?_ ?_; rotate_left 2; (rintro w' ⟨⟨x0, x1, x2⟩, ⟨y0, y1, y2⟩⟩; go_simp; with_reducible rfl); (simp only [Rg.pq, Rg.pz, Rg.ps]; rfl)
  refine Rg.t 32 ?_ ?_ rfl rfl (fun _ _ _ h => h) (by assumption) (by rfl) ?_ ?_ ?_; rotate_left 2; (rintro w' ⟨⟨x0, x1, x2⟩, ⟨y0, y1, y2⟩⟩; go_simp; with_reducible rfl); (simp only [Rg.pq, Rg.pz, Rg.ps]; rfl)
  refine Rg.s_call (N := some 27) rfl rfl Tryd.func16 (by kernel_rfl) rfl #[.agg #[.slice A0 l0.length c0, .slice A1 l1.length c1, .slice A2 l2.length c2]] (by rfl) rfl (by (try simp only [List.map_toArray, List.map_cons, List.map_nil]); first | done | rfl) ?_
  refine (format_calls A0 c0 l0 A1 c1 l1 A2 c2 l2 v1 (HG.out.below H6.out) (Kd.C_below HA.out.h0 H6.out) (Kd.C_below HA.out.h1 H6.out) (Kd.C_below HA.out.h2 H6.out) HA.out.g2 HA.out.n0 HA.out.n1 HA.out.n2 HV.out.1 HV.out.2.1 HA.out.o2 HV.out.2.2.2.2.1 (HZ.out HV.out.2.2.1 HV.out.2.2.2.1 HV.out.2.2.2.2.1)).mono ?_
  rintro e v2 ⟨rfl, hc⟩
  rw [Hs.out]
  have H7 := Lib.hid (below_next H6.out (Nat.le_refl _) hc)
  have HS7 := Lib.hid (show (fun W => PC w.heap.size A0 c0 l0 A1 c1 l1 A2 c2 l2 W ∧ PC (w.heap.size + 1) B0 d0 m0 B1 d1 m1 B2 d2 m2 W) v2 from ⟨HS6.out.1.below hc, HS6.out.2.below hc⟩)
  clear hc
  refine ⟨HS7.out, ?_⟩
  refine Rg.s_norm (a' := ?_) ?_ ?_; rotate_left; (simp only [Act.put, List.setIfInBounds_toArray, List.set_cons_zero, List.set_cons_succ]; rfl)
  refine Rg.s_call (N := some 29) rfl rfl Tryd.func16 (by kernel_rfl) rfl #[.agg #[.slice B0 m0.length d0, .slice B1 m1.length d1, .slice B2 m2.length d2]] (by rfl) rfl (by (try simp only [List.map_toArray, List.map_cons, List.map_nil]); first | done | rfl) ?_
  refine (format_calls B0 d0 m0 B1 d1 m1 B2 d2 m2 v2 (HG.out.below H7.out) (Kd.C_below HB.out.h0 H7.out) (Kd.C_below HB.out.h1 H7.out) (Kd.C_below HB.out.h2 H7.out) HB.out.g2 HB.out.n0 HB.out.n1 HB.out.n2 HU.out.1 HU.out.2.1 HB.out.o2 HU.out.2.2.2.2.1 (HY.out HU.out.2.2.1 HU.out.2.2.2.1 HU.out.2.2.2.2.1)).mono ?_
  rintro e v3 ⟨rfl, hc⟩
  rw [Ht.out]
  have H8 := Lib.hid (below_next H7.out (Nat.le_refl _) hc)
  have HS8 := Lib.hid (show (fun W => PC w.heap.size A0 c0 l0 A1 c1 l1 A2 c2 l2 W ∧ PC (w.heap.size + 1) B0 d0 m0 B1 d1 m1 B2 d2 m2 W) v3 from ⟨HS7.out.1.below hc, HS7.out.2.below hc⟩)
  clear hc
  refine ⟨HS8.out, ?_⟩
  refine Rg.s_norm (a' := ?_) ?_ ?_; rotate_left; (simp only [Act.put, List.setIfInBounds_toArray, List.set_cons_zero, List.set_cons_succ]; rfl)
  refine Rg.p 30 ?_ ?_ rfl rfl (fun _ _ _ h => h) (by rfl) ?_ ?_ ?_; rotate_left 2; (intro w'; go_simp; with_reducible rfl); (simp only [Rg.pq, Rg.pz, Rg.ps]; rfl)
  refine Rg.s_call (N := some 33) rfl rfl Tryd.func14 (by kernel_rfl) rfl #[.agg #[.slice A0 l0.length c0, .slice A1 l1.length c1, .slice A2 l2.length c2], .agg #[.slice B0 m0.length d0, .slice B1 m1.length d1, .slice B2 m2.length d2]] (by rfl) rfl (by (try simp only [List.map_toArray, List.map_cons, List.map_nil]); first | done | rfl) ?_
  refine (equal_calls A0 c0 l0 A1 c1 l1 A2 c2 l2 B0 d0 m0 B1 d1 m1 B2 d2 m2 v3 (Kd.C_below HA.out.h0 H8.out) HA.out.g0 (Kd.C_below HA.out.h1 H8.out) HA.out.g1 (Kd.C_below HA.out.h2 H8.out) HA.out.g2 (Kd.C_below HB.out.h0 H8.out) HB.out.g0 (Kd.C_below HB.out.h1 H8.out) HB.out.g1 (Kd.C_below HB.out.h2 H8.out) HB.out.g2 HA.out.n0 HA.out.n1 HA.out.n2 HA.out.o2).mono ?_
  rintro e v4 ⟨rfl, hc⟩
  rw [Hr.out]
  have H9 := Lib.hid (below_next H8.out (Nat.le_refl _) hc)
  have HS9 := Lib.hid (show (fun W => PC w.heap.size A0 c0 l0 A1 c1 l1 A2 c2 l2 W ∧ PC (w.heap.size + 1) B0 d0 m0 B1 d1 m1 B2 d2 m2 W) v4 from ⟨HS8.out.1.below hc, HS8.out.2.below hc⟩)
  clear hc
  refine ⟨HS9.out, ?_⟩
  refine Rg.s_norm (a' := ?_) ?_ ?_; rotate_left; (simp only [Act.put, List.setIfInBounds_toArray, List.set_cons_zero, List.set_cons_succ]; rfl)
  refine Rg.p 34 ?_ ?_ rfl rfl (fun _ _ _ h => h) (by rfl) ?_ ?_ ?_; rotate_left 2; (intro w'; go_simp; with_reducible rfl); (simp only [Rg.pq, Rg.pz, Rg.ps]; rfl)
  refine Rg.p 35 ?_ ?_ rfl rfl (fun _ _ _ h => h) (by rfl) ?_ ?_ ?_; rotate_left 2; (intro w'; go_simp; with_reducible rfl); (simp only [Rg.pq, Rg.pz, Rg.ps]; rfl)
  refine Rg.p 4 ?_ ?_ rfl rfl (fun _ _ _ h => h) (by rfl) ?_ ?_ ?_; rotate_left 2; (intro w'; go_simp; with_reducible rfl); (simp only [Rg.pq, Rg.pz, Rg.ps]; rfl)
  refine Rg.s_done ?_
  go_wp2_with fail
  go_ret
  exact ⟨rfl, H9.out⟩
end Go.Proofs.YtlhnfgnihakcfaaDoor.Ax
