import Derived.Test.YtlhnfgnihakcfaaDoorLxRun
import Derived.Test.YtlhnfgnihakcfaaDoorPxAll
import Derived.Test.YtlhnfgnihakcfaaDoorShelf
import Derived.Lib.Strings
import Derived.Lib.IndexBytes
set_option linter.unusedSimpArgs false
set_option linter.unusedVariables false
namespace Go.Proofs.YtlhnfgnihakcfaaDoor.Lx
open Go.RowKit
theorem has_blank (c : UInt8) : has 16 c = Px.blankc c := by
  have h : ∀ c : Fin 256, ((cls c.val).toNat &&& 16 != 0) = Px.blankc (UInt8.ofNat c.val) := by unfold cls; decide +kernel
  have := h ⟨c.toNat, c.toNat_lt⟩
  simpa [has] using this
theorem idx_eq (l : List UInt8) (c : UInt8) : Lib.indexByte l c = match l.idxOf? c with | none => -1 | some e => (e : Int) := by
  induction l with
  | nil => rfl
  | cons d l ih =>
    rw [List.idxOf?_cons]
    simp only [Lib.indexByte]
    by_cases h : (d == c) = true
    · simp [h]
    · simp only [h, ih]
      cases l.idxOf? c with
      | none => rfl
      | some e =>
        simp only [Option.map_some, Bool.false_eq_true, if_false]
        rw [if_neg (by simp)]
        simp
theorem runN_blank (r : ByteArray) : runN 16 r = (r.data.toList.takeWhile Px.blankc).length := by
  unfold runN
  rw [show has 16 = Px.blankc from funext has_blank]
/-- what one round of 'pass' finds behind the blanks -/
theorem pass_round (s : ByteArray) (k : Nat) (hk : k ≤ s.size) :
    ∃ b, runN 16 (s.extract k s.size) = b ∧ k + b ≤ s.size ∧ Px.ws false (s.data.toList.drop k) = b + Px.ws false (s.data.toList.drop (k + b)) ∧
      (Lib.hasPrefix (s.extract (k + b) s.size).data.toList [47, 47] = false → Px.ws false (s.data.toList.drop (k + b)) = 0) ∧
      (Lib.hasPrefix (s.extract (k + b) s.size).data.toList [47, 47] = true → Lib.indexByte (s.extract (k + b) s.size).data.toList 10 < 0 → Px.ws false (s.data.toList.drop (k + b)) = s.size - (k + b)) ∧
      (Lib.hasPrefix (s.extract (k + b) s.size).data.toList [47, 47] = true → 0 ≤ Lib.indexByte (s.extract (k + b) s.size).data.toList 10 → ∃ e : Nat, Lib.indexByte (s.extract (k + b) s.size).data.toList 10 = e ∧ 0 < e ∧ k + b + e < s.size ∧
        Px.ws false (s.data.toList.drop (k + b)) = e + Px.ws false (s.data.toList.drop (k + b + e))) := by
  have hsz : s.data.toList.length = s.size := by simp
  have e1 : runN 16 (s.extract k s.size) = ((s.data.toList.drop k).takeWhile Px.blankc).length := by rw [runN_blank, Lib.extract_to_end]
  have hle := run_le 16 (s.extract k s.size)
  have hle2 : (s.extract k s.size).size = s.size - k := by simp
  have hd : (s.data.toList.drop k).drop (runN 16 (s.extract k s.size)) = s.data.toList.drop (k + runN 16 (s.extract k s.size)) := List.drop_drop
  refine ⟨_, rfl, by omega, ?_, ?_, ?_, ?_⟩
  · have := Px.ws_blanks (s.data.toList.drop k)
    rw [← e1, hd] at this; exact this
  · intro h
    rw [Lib.extract_to_end] at h
    refine Px.ws_stop _ ?_ h
    intro c r hc
    rw [← hd, e1] at hc
    exact Px.tw_drop_head _ _ c r hc
  · intro h hi
    rw [Lib.extract_to_end] at h hi
    rw [idx_eq] at hi
    have : List.idxOf? 10 (s.data.toList.drop (k + runN 16 (s.extract k s.size))) = none := by
      cases hq : List.idxOf? 10 (s.data.toList.drop (k + runN 16 (s.extract k s.size))) with
      | none => rfl
      | some e => rw [hq] at hi; simp at hi; omega
    rw [Px.ws_note_end _ h this, List.length_drop, hsz]
  · intro h hi
    rw [Lib.extract_to_end] at h hi ⊢
    rw [idx_eq] at hi ⊢
    cases hq : List.idxOf? 10 (s.data.toList.drop (k + runN 16 (s.extract k s.size))) with
    | none => rw [hq] at hi; simp at hi
    | some e =>
      have hlt := (Px.idx_le hq).1
      rw [List.length_drop, hsz] at hlt
      have hpos : 0 < e := by
        rcases Nat.eq_zero_or_pos e with rfl | h0
        · obtain ⟨r, hr, _⟩ := Px.ws_slash _ h
          rw [hr] at hq; simp [List.idxOf?_cons] at hq
        · exact h0
      exact ⟨e, rfl, hpos, by omega, by rw [Px.ws_note_idx _ h e hq, List.drop_drop]⟩
attribute [local irreducible] runN has
theorem pass_any (s : ByteArray) (w : World) (hs : s.size ≤ 140737488351232) :
    Calls Tryd.prog 46 #[.string s] w fun e w' => e = .returned (.int .i64 (Px.ws false s.data.toList : Nat)) ∧ Below w.heap.size w w' := by
  go_enter Tryd.func46, Tryd.ntmps46
  go_wp2
  go_loopw [3] (fun n wr => ∃ k : Nat, k ≤ s.size ∧ n = .int .i64 k ∧ Hid (Px.ws false s.data.toList = k + Px.ws false (s.data.toList.drop k)) ∧ Below w.heap.size w wr) (fun n _ => s.size - (intOf n).toNat)
  case atStart => exact ⟨0, by omega, rfl, Lib.hid (by simp), Below.refl _ _⟩
  case round =>
    obtain ⟨k, hk, rfl, hle, hb⟩ := hrel
    obtain ⟨b, hbk, hk1s, hw, hA, hB, hC⟩ := pass_round s k hk
    have HBK := Lib.hid hbk
    have HW := Lib.hid hw
    have HA := Lib.hid hA
    have HB := Lib.hid hB
    have HC := Lib.hid hC
    clear hbk hw hA hB hC
    go_wp2_with fail
    refine (run_any (s.extract k s.size) 16 _ (by simp; omega) (.inl rfl)).mono ?_
    rintro e w1 ⟨rfl, hb1⟩
    have hb2 : Below w.heap.size w w1 := hb.trans (hb1.mono hb.size)
    clear hb1
    rw [show runN (Int.toNat 16) (s.extract k s.size) = b from HBK.out]
    go_wp2_with fail
    refine (Tryd.strings_HasPrefix _ _ _).mono ?_
    rintro e w2 ⟨rfl, rfl⟩
    cases hp : Lib.hasPrefix (s.extract (k + b) s.size).data.toList [47, 47] with
    | false =>
      have h0 := Lib.hid (HA.out hp)
      clear HA HB HC
      have HP := Lib.hid hp
      clear hp
      go_wp2
      go_ret
      exact ⟨ret_int (by rw [hle.out, HW.out, h0.out]; omega), hb2⟩
    | true =>
      have HB1 := Lib.hid (HB.out hp)
      have HC1 := Lib.hid (HC.out hp)
      clear HA HB HC hp
      go_wp2_with fail
      refine (Tryd.strings_IndexByte _ _ _).mono ?_
      rintro e w3 ⟨rfl, rfl⟩
      rw [show (Int.toNat 10).toUInt8 = (10 : UInt8) from rfl]
      by_cases hi : Lib.indexByte (s.extract (k + b) s.size).data.toList 10 < 0
      · have h0 := Lib.hid (HB1.out hi)
        clear HB1 HC1
        generalize Lib.indexByte (s.extract (k + b) s.size).data.toList 10 = ix at hi ⊢
        go_wp2
        go_ret
        exact ⟨ret_int (by rw [hle.out, HW.out, h0.out]; omega), hb2⟩
      · obtain ⟨e, he, hpos, hlt, hw⟩ := HC1.out (by omega)
        have HE := Lib.hid he
        have HW2 := Lib.hid hw
        clear HB1 HC1 hi he hw
        rw [show Lib.indexByte (s.extract (k + b) s.size).data.toList 10 = e from HE.out]
        go_wp2
        go_roundw
        case rel => exact ⟨k + b + e, by omega, by go_num, Lib.hid (by rw [hle.out, HW.out, HW2.out]; omega), hb2⟩
        case measure => simp [intOf]; omega
end Go.Proofs.YtlhnfgnihakcfaaDoor.Lx
