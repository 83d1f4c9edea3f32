import Derived.Test.YtlhnfgnihakcfaaDoorLxTake
import Derived.Test.YtlhnfgnihakcfaaDoorKn0
import Derived.Deep.DeepMust
set_option linter.unusedSimpArgs false
set_option linter.unusedVariables false
namespace Go.Proofs.YtlhnfgnihakcfaaDoor.Lx
open Go.RowKit Hp Kn
open Go.Proofs.YtlhnfgnihakcfaaDoorW.PrintWords
/-- what is still to be lexed at a token's beginning -/
def lexB (a : Nat) (r : Px.Bs) : Except (Nat × Nat) (List Px.Tok) :=
  if r = [] then .ok [] else match Px.take r with
    | .error e => .error (a, e)
    | .ok t => match Px.lexA (a + t.text.length) (r.drop t.text.length) with
      | .error e => .error e
      | .ok ts => .ok ({ t with at_ := a } :: ts)
theorem lexA_B (a : Nat) (l : Px.Bs) : Px.lexA a l = lexB (a + Px.ws false l) (l.drop (Px.ws false l)) := by
  rw [Px.lexA_eq]
  unfold lexB
  by_cases h : l.drop (Px.ws false l) = []
  · rw [Px.lexStep_nil h, if_pos h]
  · rw [if_neg h]
    cases ht : Px.take (l.drop (Px.ws false l)) with
    | error e => rw [Px.lexStep_err h ht]
    | ok t => rw [Px.lexStep_tok ht]; rfl
def cat (ts : List Px.Tok) : Except (Nat × Nat) (List Px.Tok) → Except (Nat × Nat) (List Px.Tok)
  | .error e => .error e
  | .ok us => .ok (ts ++ us)
theorem lexB_err {a : Nat} {r : Px.Bs} {e : Nat} (h : r ≠ []) (ht : Px.take r = .error e) : lexB a r = .error (a, e) := by
  unfold lexB; rw [if_neg h, ht]
theorem cat_tok {a : Nat} {r : Px.Bs} {t : Px.Tok} (ts : List Px.Tok) (ht : Px.take r = .ok t) : cat ts (lexB a r) = cat (ts ++ [{ t with at_ := a }]) (lexB (a + t.text.length + Px.ws false (r.drop t.text.length)) ((r.drop t.text.length).drop (Px.ws false (r.drop t.text.length)))) := by
  have h : r ≠ [] := by rintro rfl; simp [Px.take] at ht
  rw [← lexA_B]
  conv => lhs; unfold lexB
  rw [if_neg h, ht]
  dsimp only
  cases Px.lexA (a + t.text.length) (r.drop t.text.length) with
  | error e => rfl
  | ok us => simp [cat]
theorem take_err {l : Px.Bs} {e : Nat} (h : Px.take l = .error e) : e = 2 ∨ e = 3 := by
  unfold Px.take at h
  split at h
  · injection h with h; exact .inr h.symm
  · split at h
    · split at h
      · cases h
      · injection h with h; exact .inl h.symm
    · split at h
      · split at h
        · injection h with h; exact .inl h.symm
        · cases h
      · split at h
        · cases h
        · injection h with h; exact .inr h.symm
theorem infoTok : (Tryd.prog.info? 51).map (fun i => (i.zero, i.size, i.bytes)) = some (some (.agg #[(.int .i64 0), (.string ⟨#[]⟩), (.int .u64 0), (.int .i64 0)]), 4, 40) := by kernel_rfl
def tokS (t : Px.Tok) : S51 := ⟨t.kind, ⟨t.text.toArray⟩, t.num, t.at_⟩
def lexR : Except (Nat × Nat) (List Px.Tok) → List S51 × Int × Int
  | .ok ts => (ts.map tokS, 0, 0)
  | .error e => ([], e.1, e.2)
def lexer_Lex.f (a0 : ByteArray) : Option (List S51 × Int × Int) :=
  if a0.size ≤ 140737488351232 then some (if a0.size > 20000 then ([], 0, 2) else lexR (Px.lexA 0 a0.data.toList)) else none
theorem tok_stays {w0 w2 w3 : World} {u : Value} {xs : List S51} {cs : List Value} {e : Nat} (hR : Kd.R k51 51 w2 w0.heap.size (fun _ => True) u xs) (hg : (w2.alloc (.cells cs.toArray e)).grownBy w3 u.ownBlock) : Blk w3 w2.heap.size cs e := by
  have h := hg.block w2.heap.size (by simp) (fun he => by
    have := ((Kd.R_bound hR).1 w2.heap.size he.symm).2.2.1
    omega)
  exact h.trans (heap_alloc_new _ _)
set_option maxRecDepth 100000 in
theorem lex_walk (s : ByteArray) (w : World) (hG : Gl w) (hs : s.size ≤ 20000) :
    Calls Tryd.prog 24 #[.string s] w fun e w' => ∃ v0_ : Value, e = .returned (.tuple #[v0_, .int .i64 (lexR (Px.lexA 0 s.data.toList)).2.1, .int .i64 (lexR (Px.lexA 0 s.data.toList)).2.2]) ∧ Kd.R k51 51 w' w.heap.size (fun _ => True) v0_ (lexR (Px.lexA 0 s.data.toList)).1 ∧ Below w.heap.size w w' := by
  have hs2 : decide ((20000 : Int) < (s.size : Int)) = false := decide_eq_false (by omega)
  have HG := Lib.hid hG
  have HS := Lib.hid hs
  have hsb : s.size ≤ 140737488351232 := by omega
  clear hG hs
  go_enter Tryd.func24, Tryd.ntmps24
  go_wp2_with fail
  refine (pass_any s _ (by omega)).mono ?_
  rintro e w1 ⟨rfl, hb1⟩
  obtain ⟨k0, hk0⟩ : ∃ k, Px.ws false s.data.toList = k := ⟨_, rfl⟩
  have hk0l : k0 ≤ s.size := by have := Px.ws_le false s.data.toList; simp at this; omega
  have hst := lexA_B 0 s.data.toList
  rw [hk0] at hst
  rw [hk0]
  have HK0 := Lib.hid hk0
  have HST := Lib.hid hst
  clear hk0 hst
  go_wp2_with fail
  clear hs2
  go_loopw [5, 6] (fun v at_ wr => ∃ (ts : List Px.Tok) (k : Nat), k ≤ s.size ∧ at_ = .int .i64 k ∧ ts.length ≤ k ∧ Hid (Px.lexA 0 s.data.toList = cat ts (lexB k (s.data.toList.drop k))) ∧ Hid (Kd.R k51 51 wr w.heap.size (fun _ => True) v (ts.map tokS)) ∧ Below w.heap.size w wr) (fun _ at_ _ => s.size - (intOf at_).toNat)
  case atStart => exact ⟨[], k0, hk0l, rfl, by simp, Lib.hid (by rw [HST.out]; simp [cat]; cases lexB k0 (List.drop k0 s.data.toList) <;> rfl), Lib.hid (Kd.R_nil _ _ _ _ _), hb1⟩
  case round =>
    clear HST
    obtain ⟨ts, k, hk, rfl, htl, hst, hR, hb⟩ := hrel
    by_cases hlt : k < s.size
    · go_wp2_with fail
      have hrl : (s.extract k s.size).data.toList = s.data.toList.drop k := Lib.extract_to_end s k
      refine (take_any (s.extract k s.size) _ (HG.out.below hb) (by simp; omega) (by simp; omega)).mono ?_
      rintro e w2 ⟨rfl, hb2⟩
      rw [hrl]
      have hb3 : Below w.heap.size w w2 := below_next hb (Nat.le_refl _) hb2
      have hR3 := Lib.hid (Kd.R_below hR.out hb2)
      clear hb2 hR hrl
      cases ht : Px.take (s.data.toList.drop k) with
      | error e =>
        have hfin := Lib.hid (show Px.lexA 0 s.data.toList = .error (k, e) by rw [hst.out, lexB_err (by simp; omega) ht]; rfl)
        have he : ((e : Int) != 0) = true := by rw [bne_iff_ne]; rcases take_err ht with rfl | rfl <;> decide
        clear hst ht
        simp only [takeV, tok0]
        go_wp2_with fail
        go_ret3
        exact ⟨.slice none 0 0, by rw [hfin.out]; rfl, by rw [hfin.out]; exact Kd.R_nil _ _ _ _ _, hb3.alloc hb3.size _⟩
      | ok t =>
        obtain ⟨_, hpre⟩ := Px.take_kinded ht
        have hpos := Px.take_ne ht
        have hlen : k + t.text.length ≤ s.size := by
          have := congrArg List.length hpre
          simp at this; omega
        have hst2 := Lib.hid (hst.out.trans (cat_tok ts ht))
        have hat := (Px.take_range ht).2.2.2
        have HL : Hid (ts.length ≤ 20000) := Nat.le_trans (Nat.le_trans htl hk) HS.out
        obtain ⟨n, hn⟩ : ∃ n, t.text.length = n := ⟨_, rfl⟩
        obtain ⟨m, hm⟩ : ∃ m, Px.ws false ((s.data.toList.drop k).drop n) = m := ⟨_, rfl⟩
        have hsz : (⟨t.text.toArray⟩ : ByteArray).size = n := by rw [← hn]; simp [ByteArray.size]
        rw [hn] at hlen hpos
        have HN := Lib.hid hn
        have hm2 : k + n + m ≤ s.size := by
          have := Px.ws_le false ((s.data.toList.drop k).drop n)
          rw [hm] at this
          simp at this; omega
        have HM := Lib.hid hm
        clear hst ht hpre hn hm
        simp only [takeV, tokV, hat]
        clear hat
        go_wp2_with (at_builtin; go_must (refine Kd.R_append k51 (w0 := w) w.heap.size rfl (.tmp 37) (.tmp 39) 44 51 _ 40 rfl Tryd.underlying44 infoTok rfl (by decide) (by omega) u5 (ts.map tokS) (tokS { t with at_ := k }) _ (fun _ => True) (fun _ => False) rfl (by first | (go_simp; done) | (go_simp; rfl)) (k51_mkM _ _ _ (tokS { t with at_ := k })) (fun _ hk => hk.elim) (fun _ _ => trivial) ?aO ?aB ?aS ?aL ?_); (case aO => exact Kd.R_alloc hR3.out _); (case aB => exact hb3.alloc hb3.size _); (case aS => exact Nat.le_trans hb3.size (by simp)); (case aL => have := HL.out; simp; omega); intro v1 w3 hR4 hb4 hgr _; have hcl := (tok_stays hR3.out hgr).cell 1 rfl; have HR4 := Lib.hid hR4; clear hgr hR4)
        refine (pass_any (s.extract (k + n) s.size) _ (by simp; omega)).mono ?_
        rintro e w4 ⟨rfl, hb5⟩
        rw [show Px.ws false (s.extract (k + n) s.size).data.toList = m from by rw [Lib.extract_to_end, ← List.drop_drop]; exact HM.out]
        have hb6 := below_next hb4 (Nat.le_refl _) hb5
        have hR5 := Lib.hid (Kd.R_below HR4.out hb5)
        have hst3 := Lib.hid (show Px.lexA 0 s.data.toList = cat (ts ++ [{ t with at_ := k }]) (lexB (k + n + m) (s.data.toList.drop (k + n + m))) by
          rw [hst2.out, HN.out, HM.out, List.drop_drop, List.drop_drop, show k + (n + m) = k + n + m by omega])
        clear hcl HR4 hb5 hst2 hsz
        go_wp2
        go_roundw
        case rel => exact ⟨ts ++ [{ t with at_ := k }], k + n + m, by omega, by go_num, by simp; omega, hst3, by rw [List.map_append]; exact hR5, hb6⟩
        case measure => simp [intOf]; omega
    · have hfin := Lib.hid (show Px.lexA 0 s.data.toList = .ok ts by
        rw [hst.out, List.drop_of_length_le (by simp; omega)]; simp [lexB, cat])
      go_wp2_with fail
      go_ret3
      exact ⟨u5, by rw [hfin.out]; rfl, by rw [hfin.out]; exact hR.out, hb⟩
theorem lex_long (s : ByteArray) (w : World) (hs : s.size > 20000) (hsb : s.size ≤ 140737488351232) :
    Calls Tryd.prog 24 #[.string s] w fun e w' => e = .returned (.tuple #[.slice none 0 0, .int .i64 0, .int .i64 2]) ∧ w = w' := by
  have hs2 : decide ((20000 : Int) < (s.size : Int)) = true := decide_eq_true (by omega)
  clear hs
  go_enter Tryd.func24, Tryd.ntmps24
  go_wp2_with fail
  go_ret3
  exact ⟨rfl, rfl⟩
theorem lexer_Lex.calls (a0 : ByteArray) (r1 : List S51) (r2 : Int) (r3 : Int) (w : World) (hG : Gl w) (h : lexer_Lex.f a0 = some (r1, r2, r3)) :
    Calls Tryd.prog 24 #[.string a0] w fun e w' => ∃ v0_ : Value, e = .returned (.tuple #[v0_, .int .i64 r2, .int .i64 r3]) ∧ Kd.R k51 51 w' w.heap.size (fun _ => True) v0_ r1 ∧ Below w.heap.size w w' := by
  unfold lexer_Lex.f at h
  split at h
  · rename_i hsb
    by_cases h2 : a0.size > 20000
    · rw [if_pos h2] at h
      simp only [Option.some.injEq, Prod.mk.injEq] at h
      obtain ⟨rfl, rfl, rfl⟩ := h
      refine (lex_long a0 w h2 hsb).mono ?_
      rintro e w' ⟨rfl, rfl⟩
      exact ⟨_, rfl, Kd.R_nil _ _ _ _ _, Below.refl _ _⟩
    · rw [if_neg h2] at h
      have h3 := Option.some.inj h
      refine (lex_walk a0 w hG (by omega)).mono ?_
      rw [h3]
      exact fun _ _ hh => hh
  · cases h
end Go.Proofs.YtlhnfgnihakcfaaDoor.Lx
