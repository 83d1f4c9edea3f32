import Derived.Test.YtlhnfgnihakcfaaDoorZB2
import Derived.Test.YtlhnfgnihakcfaaDoorZPuWords
set_option linter.unusedSimpArgs false
set_option linter.unusedVariables false
namespace Go.Proofs.YtlhnfgnihakcfaaDoor.Ax
open Go.RowKit Hp Kn Lx
open Go.Proofs.YtlhnfgnihakcfaaDoorW.PrintWords Go.Proofs.YtlhnfgnihakcfaaDoorW.PrintLast Go.Proofs.YtlhnfgnihakcfaaDoorW.PrintMore
def isWt (t : Px.Tok) : Bool := t.kind == 1 || t.kind == 2
theorem fmt_lex {l0 : List S55} {l1 : List S58} {l2 : List ST} (hO : ∀ x ∈ l2, OkS x) (h0 : l0.all inB = true) (h1 : l1.all arB = true) (h2 : l2.all (stmtB 24) = true) :
    ∃ ts, Px.lexA 0 (fmtB l0 l1 l2) = .ok ts ∧ (ts.filter isWt).map (·.text) = (wP l0 l1 l2).map bts := by
  have h := toks_fmt hO h0 h1 h2
  unfold Px.toks at h
  split at h
  · rename_i ts e
    refine ⟨ts, e, ?_⟩
    injection h with h
    have n := nw_P (l0 := l0) (l1 := l1) hO h2
    rw [← h] at n
    rw [← n]
    unfold nw
    rw [List.filter_map, List.map_map]
    rfl
  · cases h
theorem filter_take {α : Type} {p : α → Bool} {l : List α} {k : Nat} {x : α} (h : l[k]? = some x) : (l.take (k + 1)).filter p = (l.take k).filter p ++ (if p x then [x] else []) := by
  rw [List.take_add_one, h, List.filter_append]
  simp only [Option.toList_some, List.filter_cons, List.filter_nil]
theorem word_at {ts : List Px.Tok} {ws : List ByteArray} (h : (ts.filter isWt).map (·.text) = ws.map bts) {k : Nat} {t : Px.Tok} (hk : ts[k]? = some t) (ht : isWt t = true) : ((ts.take k).filter isWt).length < ws.length ∧ rdOf ByteArray.empty ws ((((ts.take k).filter isWt).length : Nat) : Int) = ⟨t.text.toArray⟩ := by
  have e : ts.filter isWt = (ts.take k).filter isWt ++ (t :: (ts.drop (k + 1)).filter isWt) := by
    conv => lhs; rw [← List.take_append_drop (k + 1) ts, List.filter_append, filter_take hk, ht]
    simp
  have hlen := congrArg List.length h
  rw [List.length_map, List.length_map, e, List.length_append, List.length_cons] at hlen
  refine ⟨by omega, ?_⟩
  have hg : (ws.map bts)[((ts.take k).filter isWt).length]? = some t.text := by
    rw [← h, e, List.map_append, List.map_cons, List.getElem?_append_right (by simp), List.length_map]
    simp
  rw [List.getElem?_map] at hg
  have hlt : ((ts.take k).filter isWt).length < ws.length := by omega
  rw [List.getElem?_eq_getElem hlt] at hg
  simp only [Option.map_some, Option.some.injEq] at hg
  have e2 : rdOf ByteArray.empty ws ((((ts.take k).filter isWt).length : Nat) : Int) = ws[((ts.take k).filter isWt).length] := by
    simp [rdOf, List.getD_eq_getElem?_getD, hlt]
  rw [e2]
  have : (⟨(bts ws[((ts.take k).filter isWt).length]).toArray⟩ : ByteArray) = ws[((ts.take k).filter isWt).length] := by unfold bts; simp
  rw [← this, hg]
theorem words_count {ts : List Px.Tok} {ws : List ByteArray} (h : (ts.filter isWt).map (·.text) = ws.map bts) {k : Nat} (hk : ts.length ≤ k) : ((ts.take k).filter isWt).length = ws.length := by
  rw [List.take_of_length_le hk]
  have := congrArg List.length h
  simpa using this
theorem lex_len {ts : List Px.Tok} {s : Px.Bs} (h : Px.lexA 0 s = .ok ts) : ts.length ≤ s.length := by
  have := Px.lexA_placed s 0 s rfl (by omega)
  rw [h] at this
  have key : ∀ (ts : List Px.Tok) (a : Nat), a ≤ s.length → Px.Placed s a ts → a + ts.length ≤ s.length := by
    intro ts
    induction ts with
    | nil => intro a ha _; simpa using ha
    | cons t ts ih =>
      intro a ha hp
      obtain ⟨p1, p2, p3, _, _, _, _, p8⟩ := hp
      have := ih (t.at_ + t.text.length) p3 p8
      rw [List.length_cons]; omega
  simpa using key ts 0 (by omega) this
set_option maxRecDepth 100000 in
set_option maxHeartbeats 2000000 in
theorem asttok_calls {A0 : Option Addr} {c0 : Nat} {l0 : List S55} {A1 : Option Addr} {c1 : Nat} {l1 : List S58} {A2 : Option Addr} {c2 : Nat} {l2 : List S64} {va : Value} (w : World) (hG : Gx w) (ha : ProgAt w va A0 c0 l0 A1 c1 l1 A2 c2 l2) :
    Calls Tryd.prog 9 #[va] w fun e w' => e = .returned (.bool true) ∧ Below w.heap.size w w' := by
  obtain rfl := ha.v
  have HA := Lib.hid ha
  have HG := Lib.hid hG
  clear ha hG
  have H1 := Lib.hid ((Below.refl w.heap.size w).alloc (Nat.le_refl _) (.cells #[.slice A0 l0.length c0, .slice A1 l1.length c1, .slice A2 l2.length c2] 26))
  have HS := Lib.hid (PC.of (Blk.alloc_new w [.slice A0 l0.length c0, .slice A1 l1.length c1, .slice A2 l2.length c2] 26))
  go_enter Tryd.func9, Tryd.ntmps9
  go_wp2_with fail
  refine (few_calls A0 c0 l0 A1 c1 l1 A2 c2 l2 _ (Kd.C_below HA.out.h2 H1.out) HA.out.g2 HA.out.n2 HA.out.o2).mono ?_
  rintro e w2 ⟨b, rfl, hf, hc⟩
  have H2 := Lib.hid (below_next H1.out (Nat.le_refl _) (hc.mono (by simp)))
  have HS2 := Lib.hid (HS.out.below hc)
  have HF := Lib.hid hf
  clear hc hf
  obtain ⟨x0, x1, x2⟩ := HS2.out
  cases b with
  | false =>
    go_wp2_with fail
    refine (awake_calls _ (HG.out.below H2.out)).mono ?_
    rintro e v1 ⟨rfl, hc⟩
    have hz := Lib.hid (below_next H2.out (by simp) hc)
    clear hc
    go_wp2_with fail
    go_ret
    exact ⟨rfl, hz.out⟩
  | true =>
  clear x0 x1 x2
  have HZ := Lib.hid (show l0.all inB = true → l1.all arB = true → l2.all (stmtB 24) = true → (fmtB l0 l1 l2).length ≤ 140737488355328 from fun b0 b1 b2 => by
    have h := HF.out rfl
    have := fmtB_short h.1 h.2.1 h.2.2 b0 b1 b2
    omega)
  have HFF := Lib.hid (HF.out rfl)
  obtain ⟨x0, x1, x2⟩ := HS2.out
  go_wp2_with fail
  refine (rvalid_calls A0 c0 l0 A1 c1 l1 A2 c2 l2 _ (HG.out.below H2.out) (Kd.C_below HA.out.h0 H2.out) (Kd.C_below HA.out.h1 H2.out) (Kd.C_below HA.out.h2 H2.out) HA.out.g2 HA.out.n0 HA.out.n1 HA.out.n2 (fun x hx => (HA.out.o0 x hx).1) (fun x hx => (HA.out.o1 x hx).1) HA.out.o2 HZ.out).mono ?_
  rintro e w3 ⟨rfl, hc⟩
  have H3 := Lib.hid (below_next H2.out (Nat.le_refl _) hc)
  have HS3 := Lib.hid (HS2.out.below hc)
  clear hc x0 x1 x2
  obtain ⟨x0, x1, x2⟩ := HS3.out
  cases hv : validB l0 l1 l2 with
  | false =>
    go_wp2_with fail
    refine (awake_calls _ (HG.out.below H3.out)).mono ?_
    rintro e v1 ⟨rfl, hc⟩
    have hz := Lib.hid (below_next H3.out (by simp) hc)
    clear hc
    go_wp2_with fail
    go_ret
    exact ⟨rfl, hz.out⟩
  | true =>
  have HV := Lib.hid (valid_parts hv)
  clear hv
  go_wp2_with fail
  refine (format_calls A0 c0 l0 A1 c1 l1 A2 c2 l2 _ (HG.out.below H3.out) (Kd.C_below HA.out.h0 H3.out) (Kd.C_below HA.out.h1 H3.out) (Kd.C_below HA.out.h2 H3.out) HA.out.g2 HA.out.n0 HA.out.n1 HA.out.n2 HV.out.1 HV.out.2.1 HA.out.o2 HV.out.2.2.2.2.1 (HZ.out HV.out.2.2.1 HV.out.2.2.2.1 HV.out.2.2.2.2.1)).mono ?_
  rintro e w4 ⟨rfl, hc⟩
  have H4 := Lib.hid (below_next H3.out (Nat.le_refl _) hc)
  have HS4 := Lib.hid (HS3.out.below hc)
  clear hc x0 x1 x2
  obtain ⟨ts, hts, hws⟩ := fmt_lex HA.out.o2 HV.out.2.2.1 HV.out.2.2.2.1 HV.out.2.2.2.2.1
  have hlen := lex_len hts
  have hsz := HV.out.2.2.2.2.2
  have HL := Lib.hid (show ts.length ≤ 20000 by omega)
  have HW := Lib.hid hws
  have hlx : lexer_Lex.f ⟨(fmtB l0 l1 l2).toArray⟩ = some (ts.map tokS, 0, 0) := by
    unfold lexer_Lex.f
    have e1 : (⟨(fmtB l0 l1 l2).toArray⟩ : ByteArray).size = (fmtB l0 l1 l2).length := by show (fmtB l0 l1 l2).toArray.size = _; simp
    have e2 : (⟨(fmtB l0 l1 l2).toArray⟩ : ByteArray).data.toList = fmtB l0 l1 l2 := by simp
    rw [e1, e2, if_pos (by omega), if_neg (by omega), hts]
    rfl
  have HX := Lib.hid hlx
  obtain ⟨kw, hkw⟩ := Words_ex HA.out.o2 HV.out.1 HV.out.2.1 HV.out.2.2.2.2.1 HFF.out.1 HFF.out.2.1 (HFF.out.2.2 24)
  have HK := Lib.hid hkw
  have HN := Lib.hid (wP_len (l0 := l0) (l1 := l1) (l2 := l2) HFF.out.1 HFF.out.2.1 (HFF.out.2.2 24))
  clear hts hws hlen hsz hlx hkw
  generalize wP l0 l1 l2 = ws at HW HK HN
  generalize (⟨(fmtB l0 l1 l2).toArray⟩ : ByteArray) = s at HX ⊢
  obtain ⟨x0, x1, x2⟩ := HS4.out
  go_wp2_with fail
  refine (lexer_Lex.calls s (ts.map tokS) 0 0 _ (HG.out.below H4.out).1 HX.out).mono ?_
  rintro e w5 ⟨vl, rfl, hR, hc⟩
  have H5 := Lib.hid (below_next H4.out (Nat.le_refl _) hc)
  have HS5 := Lib.hid (HS4.out.below hc)
  obtain ⟨LA, lc, rfl, lcap, hC⟩ := Kd.R_reads hR
  have HT := Lib.hid hC
  clear hc hR hC x0 x1 x2
  obtain ⟨x0, x1, x2⟩ := HS5.out
  go_wp2_with fail
  refine (Pw.privityref27_Words.calls kw A0 c0 l0 A1 c1 l1 A2 c2 l2 ws _ (Kd.C_below HA.out.h0 H5.out) HA.out.g0 (Kd.C_below HA.out.h1 H5.out) HA.out.g1 (Kd.C_below HA.out.h2 H5.out) HA.out.g2 HK.out).mono ?_
  rintro e w6 ⟨vw, rfl, hR, hc⟩
  have H6 := Lib.hid (below_next H5.out (Nat.le_refl _) hc)
  have HT6 := Lib.hid (Kd.C_below HT.out hc)
  obtain ⟨WA, wc, rfl, wcap, hC⟩ := Kd.R_reads hR
  have HU := Lib.hid hC
  clear hc hR hC x0 x1 x2 HT
  rw [List.length_map] at *
  go_wp2
  go_loopw [7, 8] (fun vn vi wr => ∃ k : Nat, k ≤ ts.length ∧ vi = .int .i64 k ∧ vn = .int .i64 (((ts.take k).filter isWt).length : Nat) ∧ Hid (Below w6.heap.size w6 wr)) (fun _ i _ => ts.length - (intOf i).toNat)
  case atStart => exact ⟨0, by omega, rfl, rfl, Lib.hid (Below.refl _ _)⟩
  case round =>
    obtain ⟨k, hk, rfl, rfl, hb⟩ := hrel
    have hl2 := HL.out
    have hn2 := HN.out
    by_cases hlt : k < ts.length
    · have hi1 : (k : Int) < (ts.length : Int) := by omega
      obtain ⟨t, ht⟩ : ∃ t, ts[k]? = some t := ⟨_, List.getElem?_eq_getElem hlt⟩
      have HTk := Lib.hid ht
      obtain ⟨ad, rfl, c0', c1', c2', c3'⟩ := at_T51 (Kd.C_below HT6.out hb.out) (k : Int) (by omega) (by first | omega | (rw [List.length_map]; omega))
      have hrd : rd_T51 (ts.map tokS) (k : Int) = tokS t := by simp [rd_T51, List.getD_eq_getElem?_getD, ht]
      rw [hrd] at c0' c1' c2' c3'
      have k0 : wr.cell? (ad.add (k * 4)) = some (.int .i64 (t.kind : Int)) := c0'
      have k1 : wr.cell? ⟨(ad.add (k * 4)).block, (ad.add (k * 4)).off + 1, none⟩ = some (.string ⟨t.text.toArray⟩) := c1'
      clear hrd ht c0' c1' c2' c3'
      by_cases hw : isWt t = true
      · obtain ⟨hn, hx⟩ := word_at HW.out HTk.out hw
        have HE := Lib.hid (filter_take (p := isWt) HTk.out)
        generalize hm : ((ts.take k).filter isWt).length = m at *
        obtain ⟨wd, rfl, d0⟩ := Kd.at_string (Kd.C_below HU.out hb.out) (m : Int) (by omega) (by omega)
        rw [hx] at d0
        have d0 : wr.cell? (wd.add m) = some (.string ⟨t.text.toArray⟩) := d0
        have hi2 : (m : Int) < (ws.length : Int) := by omega
        have hi3 : decide ((ws.length : Int) ≤ (m : Int)) = false := by simp; omega
        have HM := Lib.hid (show ((ts.take (k + 1)).filter isWt).length = m + 1 by rw [HE.out, hw, List.length_append, hm]; rfl)
        have HWt := Lib.hid hw
        clear hx hw hm
        generalize (⟨t.text.toArray⟩ : ByteArray) = tx at k1 d0
        cases q1 : ((t.kind : Int) == 1) with
        | true =>
          go_wp2
          repeat (go_quiet (fail); try go_wp2)
          go_roundw
          case rel => exact ⟨k + 1, by omega, by go_num, by rw [HM.out]; go_num, Lib.hid (by first | exact pw_below_drewN hb.out _ | exact hb.out)⟩
          case measure => simp [intOf]; omega
        | false =>
          have q2 : ((t.kind : Int) == 2) = true := by
            have h := HWt.out
            have h1 : ¬ t.kind = 1 := by intro e; rw [e] at q1; cases q1
            simp only [isWt, Bool.or_eq_true, beq_iff_eq] at h
            have : t.kind = 2 := by omega
            rw [this]; rfl
          go_wp2
          repeat (go_quiet (fail); try go_wp2)
          go_roundw
          case rel => exact ⟨k + 1, by omega, by go_num, by rw [HM.out]; go_num, Lib.hid (by first | exact pw_below_drewN hb.out _ | exact hb.out)⟩
          case measure => simp [intOf]; omega
      · have HE := Lib.hid (filter_take (p := isWt) HTk.out)
        have hw2 : isWt t = false := by simpa using hw
        have HM := Lib.hid (show ((ts.take (k + 1)).filter isWt).length = ((ts.take k).filter isWt).length by rw [HE.out, hw2, List.length_append]; rfl)
        have q1 : ((t.kind : Int) == 1) = false := by
          simp only [isWt, Bool.or_eq_false_iff, beq_eq_false_iff_ne] at hw2
          simp; omega
        have q2 : ((t.kind : Int) == 2) = false := by
          simp only [isWt, Bool.or_eq_false_iff, beq_eq_false_iff_ne] at hw2
          simp; omega
        clear hw hw2
        generalize (⟨t.text.toArray⟩ : ByteArray) = tx at k1
        go_wp2
        go_roundw
        case rel => exact ⟨k + 1, by omega, by go_num, by rw [HM.out], hb⟩
        case measure => simp [intOf]; omega
    · have HC := Lib.hid (words_count HW.out (k := k) (by omega))
      generalize ((ts.take k).filter isWt).length = m at HC ⊢
      have hm : ((m : Int) == (ws.length : Int)) = true := by have := HC.out; simp; omega
      have H7 := Lib.hid (below_next H6.out (Nat.le_refl _) hb.out)
      go_wp2_with fail
      refine (awake_calls _ (HG.out.below H7.out)).mono ?_
      rintro e v1 ⟨rfl, hc⟩
      have hz := Lib.hid (below_next H7.out (Nat.le_refl _) hc)
      clear hc
      go_wp2_with fail
      go_ret
      exact ⟨rfl, hz.out⟩
end Go.Proofs.YtlhnfgnihakcfaaDoor.Ax
